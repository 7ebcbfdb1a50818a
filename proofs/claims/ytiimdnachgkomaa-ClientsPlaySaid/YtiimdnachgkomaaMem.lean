/- Words for memory: a slice that reads as a list, a block known whole, a row of the call's own, frames; append and cuts over them. -/
import Derived.Test.YtiimdnachgkomaaProg
import Derived.WalkKit
import Derived.WalkLawsBesides
import Derived.WalkSpells
import Derived.KernelRfl
import Derived.Deep.Draws
import Derived.Deep.MidRow
import Derived.Great.BuildSlice
import Derived.Lib.Hide
namespace Go.Proofs.Ytiimdnachgkomaa
open Go Go.RowKit

/-- Block g of w is just the cells cs of element type t, none frozen. -/
def Blk (w : World) (g : Nat) (t : TypeId) (cs : Array Value) : Prop := w.heap[g]? = some (.cells cs t (0, 0))

/-- '.slice A n c' has n elements of 'size' cells that read as xs. -/
structure Rd (w : World) (size : Nat) (A : Option Addr) (n c : Nat) (xs : List Value) : Prop where
  len : xs.length = n * size
  cap : n ≤ c
  max : c ≤ maxLen
  at_ : 0 < n → ∃ ad, A = some ad ∧ ∀ j u, xs[j]? = some u → w.cell? (ad.add j) = some u

/-- '.slice A n c' is nil, or lies at the head of a block from base on, all of whose cells up to c elements are its own. -/
structure Own (w : World) (base : Nat) (t : TypeId) (size : Nat) (A : Option Addr) (n c : Nat) (xs : List Value) : Prop where
  len : xs.length = n * size
  cap : n ≤ c
  max : c ≤ maxLen
  at_ : (A = none ∧ c = 0) ∨ ∃ g cur, A = some ⟨g, 0, none⟩ ∧ base ≤ g ∧ Blk w g t cur ∧ c * size ≤ cur.size ∧ cur.toList.take (n * size) = xs

/-- The blocks that S does not name are as they were. -/
structure Kp (S : Nat → Prop) (w w' : World) : Prop where
  os : w'.os = w.os
  tape : w'.tape = w.tape
  output : w'.output = w.output
  size : w.heap.size ≤ w'.heap.size
  block : ∀ k, k < w.heap.size → ¬ S k → w'.heap[k]? = w.heap[k]?

/-- Nothing that was there has turned. -/
abbrev Nw (w w' : World) : Prop := Kp (fun _ => False) w w'

def blkOf (A : Option Addr) : Option Nat := A.map (·.block)

theorem block_add (a : Addr) (n : Nat) : (a.add n).block = a.block := by unfold Addr.add; split <;> rfl
theorem add_add_ (a : Addr) (i j : Nat) : (a.add i).add j = a.add (i + j) := by
  unfold Addr.add
  by_cases hi : i = 0 <;> by_cases hj : j = 0 <;> simp [hi, hj, Nat.add_assoc]
theorem add_zero_ (a : Addr) : a.add 0 = a := by simp [Addr.add]
theorem add_lit_ (g i : Nat) : (⟨g, 0, none⟩ : Addr).add i = ⟨g, i, none⟩ := by unfold Addr.add; split <;> simp_all

section
variable {w w' w'' : World} {g : Nat} {t : TypeId} {cs : Array Value}
theorem Blk.lt (h : Blk w g t cs) : g < w.heap.size := by
  rcases Nat.lt_or_ge g w.heap.size with hlt | hge
  · exact hlt
  · unfold Blk at h; rw [Array.getElem?_eq_none hge] at h; cases h
theorem Blk.cell (h : Blk w g t cs) (i : Nat) : w.cell? ⟨g, i, none⟩ = cs[i]? := cell_of_row w g i cs t (0, 0) h
theorem Blk.free (h : Blk w g t cs) (i : Nat) : w.frozen? ⟨g, i, none⟩ = false := by
  unfold Blk at h
  simp [World.frozen?, h]
theorem Blk.new (w : World) (t : TypeId) (cs : Array Value) : Blk (w.alloc (.cells cs t)) w.heap.size t cs := heap_alloc_new w _
theorem Blk.newAt {W : World} {N : Nat} (hN : W.heap.size = N) (t : TypeId) (cs : Array Value) : Blk (W.alloc (.cells cs t)) N t cs := by subst hN; exact Blk.new W t cs
theorem Blk.drew (h : Blk w g t cs) : Blk w.drew g t cs := h
theorem Blk.drewN (h : Blk w g t cs) (n : Nat) : Blk (w.drewN n) g t cs := h
theorem Blk.alloc (h : Blk w g t cs) (o : Obj) : Blk (w.alloc o) g t cs := (Below.heap_alloc w o g h.lt).trans h
theorem Blk.set_ (h : Blk w g t cs) (i : Nat) (u : Value) : Blk (w.setCell ⟨g, i, none⟩ u) g t (cs.setIfInBounds i u) := by
  unfold Blk at h ⊢
  simp [World.setCell, Array.getElem?_modify, h]
theorem Blk.far (h : Blk w g t cs) {p : Addr} (hp : g ≠ p.block) (u : Value) : Blk (w.setCell p u) g t cs := (Below.heap_setCell w p u g hp).trans h
theorem Blk.kp {S : Nat → Prop} (h : Blk w g t cs) (hk : Kp S w w') (hg : ¬ S g) : Blk w' g t cs := (hk.block g h.lt hg).trans h
theorem Blk.nw (h : Blk w g t cs) (hk : Nw w w') : Blk w' g t cs := h.kp hk id
theorem Blk.uniq {t' : TypeId} {cs' : Array Value} (h : Blk w g t cs) (h' : Blk w g t' cs') : t = t' ∧ cs = cs' := by
  unfold Blk at h h'
  rw [h] at h'
  injection h' with h'
  injection h' with h1 h2
  exact ⟨h2, h1⟩

variable {S S' : Nat → Prop}
theorem Kp.refl (S : Nat → Prop) (w : World) : Kp S w w := ⟨rfl, rfl, rfl, Nat.le_refl _, fun _ _ _ => rfl⟩
theorem Kp.trans (h : Kp S w w') (k : Kp S' w' w'') (hs : ∀ i, i < w.heap.size → S' i → S i) : Kp S w w'' :=
  ⟨k.os.trans h.os, k.tape.trans h.tape, k.output.trans h.output, Nat.le_trans h.size k.size,
    fun i hi hn => (k.block i (Nat.lt_of_lt_of_le hi h.size) (fun e => hn (hs i hi e))).trans (h.block i hi hn)⟩
theorem Kp.more (h : Kp S w w') (hs : ∀ i, i < w.heap.size → S i → S' i) : Kp S' w w' := ⟨h.os, h.tape, h.output, h.size, fun i hi hn => h.block i hi (fun e => hn (hs i hi e))⟩
theorem Kp.nw (h : Kp S w w') (k : Nw w' w'') : Kp S w w'' := h.trans k (fun _ _ e => e.elim)
theorem Nw.kp (h : Nw w w') : Kp S w w' := h.more (fun _ _ e => e.elim)
theorem Kp.drew (h : Kp S w w') : Kp S w w'.drew := ⟨h.os, h.tape, h.output, h.size, h.block⟩
theorem Kp.drewN (h : Kp S w w') (n : Nat) : Kp S w (w'.drewN n) := ⟨h.os, h.tape, h.output, h.size, h.block⟩
theorem Kp.alloc (h : Kp S w w') (o : Obj) : Kp S w (w'.alloc o) :=
  h.trans (S' := fun _ => False) ⟨rfl, rfl, rfl, by simp, fun k hk _ => Below.heap_alloc _ _ _ hk⟩ (fun _ _ e => e.elim)
theorem Kp.setCell (h : Kp S w w') {p : Addr} (hp : p.block < w.heap.size → S p.block) (u : Value) : Kp S w (w'.setCell p u) :=
  ⟨h.os, h.tape, h.output, by simpa [World.setCell] using h.size, fun k hk hn =>
    (Below.heap_setCell w' p u k (fun e => by subst e; exact hn (hp hk))).trans (h.block k hk hn)⟩
theorem Kp.setNew (h : Kp S w w') {p : Addr} (hp : w.heap.size ≤ p.block) (u : Value) : Kp S w (w'.setCell p u) := h.setCell (fun e => by omega) u
theorem Kp.below {B : Nat} (h : Kp S w w') (hB : ∀ k, k < B → k < w.heap.size ∧ ¬ S k) : Below B w w' :=
  ⟨h.os, h.tape, h.output, h.size, fun k hk => h.block k (hB k hk).1 (hB k hk).2⟩
theorem Nw.below (h : Nw w w') : Below w.heap.size w w' := Kp.below h (fun _ hk => ⟨hk, id⟩)
theorem Kp.of_below (h : Below w.heap.size w w') : Kp S w w' := ⟨h.os, h.tape, h.output, h.size, fun k hk _ => h.block k hk⟩
theorem Kp.cell (h : Kp S w w') {a : Addr} {v : Value} (hv : w.cell? a = some v) (hn : ¬ S a.block) : w'.cell? a = some v :=
  (World.cell?_of_block (h.block a.block (World.block_lt_of_cell? w a hv) hn)).trans hv
theorem Nw.cell (h : Nw w w') {a : Addr} {v : Value} (hv : w.cell? a = some v) : w'.cell? a = some v := Kp.cell h hv id
end

section
variable {w w' : World} {S : Nat → Prop} {base size n c : Nat} {t : TypeId} {A : Option Addr} {xs : List Value}
theorem Rd.nil (w : World) (size : Nat) : Rd w size none 0 0 [] := ⟨by simp, Nat.le_refl _, by simp [maxLen], fun h => absurd h (by omega)⟩
theorem Rd.kp (h : Rd w size A n c xs) (hk : Kp S w w') (hs : 0 < n → ∀ k, blkOf A = some k → ¬ S k) : Rd w' size A n c xs :=
  ⟨h.len, h.cap, h.max, fun hn => by
    obtain ⟨ad, rfl, hc⟩ := h.at_ hn
    refine ⟨ad, rfl, fun j u hu => hk.cell (hc j u hu) ?_⟩
    rw [block_add]
    exact hs hn _ rfl⟩
theorem Rd.nw (h : Rd w size A n c xs) (hk : Nw w w') : Rd w' size A n c xs := h.kp hk (fun _ _ _ => id)
theorem Rd.alloc (h : Rd w size A n c xs) (o : Obj) : Rd (w.alloc o) size A n c xs := h.nw ((Kp.refl _ w).alloc o)
theorem Rd.drew (h : Rd w size A n c xs) : Rd w.drew size A n c xs := ⟨h.len, h.cap, h.max, h.at_⟩
theorem Rd.drewN (h : Rd w size A n c xs) (k : Nat) : Rd (w.drewN k) size A n c xs := ⟨h.len, h.cap, h.max, h.at_⟩
theorem Rd.setCell (h : Rd w size A n c xs) {p : Addr} (hp : 0 < n → blkOf A ≠ some p.block) (u : Value) : Rd (w.setCell p u) size A n c xs :=
  h.kp (S := fun k => k = p.block) (Kp.setCell (S := fun k => k = p.block) (p := p) (Kp.refl _ w) (fun _ => rfl) u) (fun hn k hk e => hp hn (by rw [hk, e]))
theorem Rd.empty (h : Rd w size A n c xs) (hn : n = 0) : xs = [] := List.eq_nil_of_length_eq_zero (by rw [h.len, hn, Nat.zero_mul])
theorem Rd.cut (h : Rd w size A n c xs) {k : Nat} (hk : k ≤ n) :
    Rd w size (if c = k then A else A.map (·.add (k * size))) (n - k) (c - k) (xs.drop (k * size)) := by
  refine ⟨by rw [List.length_drop, h.len, Nat.sub_mul], Nat.sub_le_sub_right h.cap k, Nat.le_trans (Nat.sub_le _ _) h.max, fun hn => ?_⟩
  obtain ⟨ad, rfl, hc⟩ := h.at_ (by omega)
  rw [if_neg (by have := h.cap; omega)]
  refine ⟨ad.add (k * size), rfl, fun j u hu => ?_⟩
  rw [add_add_]
  exact hc _ u (by rw [← hu, List.getElem?_drop])
theorem Rd.take (h : Rd w size A n c xs) {k : Nat} (hk : k ≤ n) : Rd w size A k c (xs.take (k * size)) := by
  refine ⟨by rw [List.length_take, h.len, Nat.min_eq_left (Nat.mul_le_mul_right _ hk)], Nat.le_trans hk h.cap, h.max, fun hn => ?_⟩
  obtain ⟨ad, rfl, hc⟩ := h.at_ (by omega)
  refine ⟨ad, rfl, fun j u hu => hc j u ?_⟩
  rw [List.getElem?_take] at hu
  split at hu
  · exact hu
  · cases hu
theorem Rd.clip (h : Rd w size A n c xs) : Rd w size A n n xs := ⟨h.len, Nat.le_refl _, Nat.le_trans h.cap h.max, h.at_⟩
theorem Rd.blk_lt (h : Rd w size A n c xs) (hn : 0 < n) (hs : 0 < size) : ∃ g, blkOf A = some g ∧ g < w.heap.size := by
  obtain ⟨ad, rfl, hc⟩ := h.at_ hn
  have hl : 0 < xs.length := by rw [h.len]; exact Nat.mul_pos hn hs
  have := World.block_lt_of_cell? w _ (hc 0 xs[0] (by simp [hl]))
  rw [block_add] at this
  exact ⟨_, rfl, this⟩

theorem Rd.apart (h : Rd w size A n c xs) (hs : 0 < size) {g : Nat} (hg : w.heap.size ≤ g) : 0 < n → blkOf A ≠ some g := fun hn e => by
  obtain ⟨k, hk, hlt⟩ := h.blk_lt hn hs
  rw [hk] at e; injection e; omega

theorem Own.nil (w : World) (base : Nat) (t : TypeId) (size : Nat) : Own w base t size none 0 0 [] := ⟨by simp, Nat.le_refl _, by simp [maxLen], .inl ⟨rfl, rfl⟩⟩
theorem Own.rd (h : Own w base t size A n c xs) : Rd w size A n c xs := by
  refine ⟨h.len, h.cap, h.max, fun hn => ?_⟩
  rcases h.at_ with ⟨rfl, hc⟩ | ⟨g, cur, rfl, _, hb, _, ht⟩
  · have := h.cap; omega
  · refine ⟨_, rfl, fun j u hu => ?_⟩
    rw [add_lit_, hb.cell]
    rw [← ht, List.getElem?_take] at hu
    split at hu
    · simpa using hu
    · cases hu
theorem Own.lt (h : Own w base t size A n c xs) : ∀ k, blkOf A = some k → base ≤ k ∧ k < w.heap.size := by
  intro k hk
  rcases h.at_ with ⟨rfl, _⟩ | ⟨g, cur, rfl, hb, hg, _⟩
  · simp [blkOf] at hk
  · simp [blkOf] at hk
    subst hk
    exact ⟨hb, hg.lt⟩
theorem Own.kp (h : Own w base t size A n c xs) (hk : Kp S w w') (hs : ∀ k, blkOf A = some k → ¬ S k) : Own w' base t size A n c xs := by
  refine ⟨h.len, h.cap, h.max, ?_⟩
  rcases h.at_ with h' | ⟨g, cur, rfl, hb, hg, hr⟩
  · exact .inl h'
  · exact .inr ⟨g, cur, rfl, hb, hg.kp hk (hs g rfl), hr⟩
theorem Own.nw (h : Own w base t size A n c xs) (hk : Nw w w') : Own w' base t size A n c xs := h.kp hk (fun _ _ => id)
theorem Own.alloc (h : Own w base t size A n c xs) (o : Obj) : Own (w.alloc o) base t size A n c xs := h.nw ((Kp.refl _ w).alloc o)
theorem Own.drew (h : Own w base t size A n c xs) : Own w.drew base t size A n c xs := ⟨h.len, h.cap, h.max, h.at_⟩
theorem Own.drewN (h : Own w base t size A n c xs) (k : Nat) : Own (w.drewN k) base t size A n c xs := ⟨h.len, h.cap, h.max, h.at_⟩
theorem Own.setCell (h : Own w base t size A n c xs) {p : Addr} (hp : blkOf A ≠ some p.block) (u : Value) : Own (w.setCell p u) base t size A n c xs :=
  h.kp (S := fun k => k = p.block) (Kp.setCell (S := fun k => k = p.block) (p := p) (Kp.refl _ w) (fun _ => rfl) u) (fun k hk e => hp (by rw [hk, e]))
theorem Own.low {base' : Nat} (h : Own w base t size A n c xs) (hb : base' ≤ base) : Own w base' t size A n c xs := by
  refine ⟨h.len, h.cap, h.max, ?_⟩
  rcases h.at_ with h' | ⟨g, cur, rfl, hg, hr⟩
  · exact .inl h'
  · exact .inr ⟨g, cur, rfl, Nat.le_trans hb hg, hr⟩
theorem Own.clip (h : Own w base t size A n c xs) : Own w base t size A n n xs := by
  refine ⟨h.len, Nat.le_refl _, Nat.le_trans h.cap h.max, ?_⟩
  rcases h.at_ with ⟨rfl, hc⟩ | ⟨g, cur, rfl, hb, hg, hsz, ht⟩
  · exact .inl ⟨rfl, by have := h.cap; omega⟩
  · exact .inr ⟨g, cur, rfl, hb, hg, Nat.le_trans (Nat.mul_le_mul_right _ h.cap) hsz, ht⟩
theorem Own.of_new (w : World) (t : TypeId) (size n : Nat) (cs : Array Value) (hs : cs.size = n * size) (hm : n ≤ maxLen) :
    Own (w.alloc (.cells cs t)) w.heap.size t size (some ⟨w.heap.size, 0, none⟩) n n cs.toList :=
  ⟨by simpa using hs, Nat.le_refl _, hm, .inr ⟨_, cs, rfl, Nat.le_refl _, Blk.new w t cs, by rw [hs]; exact Nat.le_refl _, by rw [← hs]; exact List.take_of_length_le (by simp)⟩⟩
theorem Own.of_newAt {W : World} {N : Nat} (hN : W.heap.size = N) (t : TypeId) (size n : Nat) (cs : Array Value) (hs : cs.size = n * size) (hm : n ≤ maxLen) :
    Own (W.alloc (.cells cs t)) N t size (some ⟨N, 0, none⟩) n n cs.toList := by
  subst hN
  exact ⟨by simpa using hs, Nat.le_refl _, hm, .inr ⟨_, cs, rfl, Nat.le_refl _, Blk.new W t cs, by rw [hs]; exact Nat.le_refl _, by rw [← hs]; exact List.take_of_length_le (by simp)⟩⟩
theorem Own.fresh (h : Own w base t size A n c xs) {k : Nat} (hk : k < base) : blkOf A ≠ some k := fun e => by have := (h.lt k e).1; omega
end

/-- A bound for whatever these laws make. -/
def big : Nat := 1000000000
/-- So many elements of so many bytes may be appended to. -/
def Fits (n bytes : Nat) : Prop := n ≤ maxLen ∧ n * bytes ≤ 140737488355328
theorem Fits.of {n bytes : Nat} (h : n ≤ big) (hb : bytes ≤ 1000) : Fits n bytes := by
  unfold big at h
  refine ⟨by simp only [maxLen]; omega, Nat.le_trans (Nat.mul_le_mul h hb) (by omega)⟩

section
variable {P : Program} (w : World)

theorem run_append_nothing (base : Nat) (t ty e : TypeId) (i : TypeInfo) (size : Nat) (ht : P.underlying t = some (.slice e)) (hi : P.info? e = some i)
    (A : Option Addr) (n c : Nat) (xs : List Value) (hown : Own w base e size A n c xs) (d : Nat) : (Builtin.append_ #[t, t] ty #[.slice A n c, .slice none 0 d]).run P w = .ok (.slice A n c) w := by
  have hc := hown.cap
  rcases A with _ | a <;> simp [Builtin.append_, run_underlying ht, sizeOf, typeInfo, hi, Builtin.lenOf, Builtin.firstCells, hc, storeCells]

/-- append onto a row of the call's own, the source whatever reads. -/
theorem run_append_ (base : Nat) (t ty e : TypeId) (i : TypeInfo) (z : Value) (size bytes : Nat) (ht : P.underlying t = some (.slice e)) (hi : P.info? e = some i) (hz : i.zero = some z)
    (hsize : i.size = size) (hby : i.bytes = bytes) (hzs : z.cells.size = size)
    (A : Option Addr) (n c : Nat) (xs : List Value) (hown : Own w base e size A n c xs)
    (A' : Option Addr) (m d : Nat) (news : List Value) (hr : Rd w size A' m d news) (h1 : ∀ u ∈ news, u.oneCell' = true)
    (hfit : Fits (n + m) bytes) (hbase : base ≤ w.heap.size) :
    ∃ A2 c2 w2, (Builtin.append_ #[t, t] ty #[.slice A n c, .slice A' m d]).run P w = .ok (.slice A2 (n + m) c2) w2 ∧ Own w2 base e size A2 (n + m) c2 (xs ++ news) ∧
      Kp (fun k => blkOf A = some k) w w2 ∧ (blkOf A2 = blkOf A ∨ blkOf A2 = some w.heap.size) := by
  obtain ⟨h63, hbytes⟩ := hfit
  subst hsize
  subst hby
  have hlen : (xs ++ news).length = (n + m) * i.size := by rw [List.length_append, hown.len, hr.len, Nat.add_mul]
  rcases Nat.eq_zero_or_pos m with hm | hm
  · subst hm
    have hn : news = [] := hr.empty rfl
    subst hn
    rw [List.append_nil, Nat.add_zero]
    refine ⟨A, c, w, ?_, hown, Kp.refl _ _, .inl rfl⟩
    rcases A' with _ | a
    · exact run_append_nothing w base t ty e i i.size ht hi A n c xs hown d
    · have hc := hown.cap
      rcases A with _ | a <;> simp [Builtin.append_, run_underlying ht, sizeOf, typeInfo, hi, Builtin.lenOf, Builtin.firstCells, loadCells, loadCellsFrom, hc, storeCells]
  · obtain ⟨ad, rfl, hnews⟩ := hr.at_ hm
    have hsmall : n + m ≤ 9223372036854775807 := by simp only [maxLen] at h63; omega
    have grown : ∀ (old : Nat), old < n + m →
        Own (w.drew.alloc (.cells (xs.toArray ++ news.toArray ++ Builtin.zeroCells z.cells (grownCap w (n + m) old e - (n + m))) e)) base e i.size
          (some ⟨w.heap.size, 0, none⟩) (n + m) (grownCap w (n + m) old e) (xs ++ news) ∧
        Kp (fun k => blkOf A = some k) w (w.drew.alloc (.cells (xs.toArray ++ news.toArray ++ Builtin.zeroCells z.cells (grownCap w (n + m) old e - (n + m))) e)) := by
      intro old ho
      have hge := grownCap_ge w (n + m) old e
      have hcm : grownCap w (n + m) old e ≤ maxLen := grownCap_le_maxLen w (n + m) old e h63
      refine ⟨⟨hlen, hge, hcm, .inr ⟨w.heap.size, _, rfl, hbase, heap_alloc_new w.drew _, ?_, ?_⟩⟩, (Kp.refl _ w).drew.alloc _⟩
      · simp only [Array.size_append, List.size_toArray, size_zeroCells, hzs, hown.len, hr.len, ← Nat.add_mul]
        apply Nat.mul_le_mul_right
        omega
      · simp only [Array.toList_append, List.append_assoc]
        rw [← List.append_assoc, ← hlen]
        exact List.take_left
    rcases hown.at_ with ⟨rfl, rfl⟩ | ⟨g, cur, rfl, hbg, hg, hcs, htake⟩
    · have hn0 : n = 0 := by have := hown.cap; omega
      subst hn0
      have hx : xs = [] := List.eq_nil_of_length_eq_zero (by simpa using hown.len)
      subst hx
      have hrun := run_append_nil (P := P) w t ty e i z ht hi hz ad m d news hr.len hnews (by omega) (by omega) (by have hb := hbytes; simp only [Nat.zero_add] at hb; omega)
      have hgr := grown 0 (by omega)
      simp only [Nat.zero_add, List.nil_append, Array.empty_append] at hgr ⊢
      exact ⟨_, _, _, hrun, hgr.1, hgr.2, .inr rfl⟩
    · by_cases hroom : n + m ≤ c
      · have hfit : n * i.size + news.length ≤ cur.size := by
          rw [hr.len, ← Nat.add_mul]
          exact Nat.le_trans (Nat.mul_le_mul_right _ hroom) hcs
        have hrun := run_append_room (P := P) w t ty e i ht hi g n c cur hg ad m d news hr.len hnews h1 hroom hfit
        refine ⟨_, _, _, hrun, ⟨hlen, hroom, hown.max, .inr ⟨g, _, rfl, hbg, setRow_heap w g cur _ e _ hg, ?_, ?_⟩⟩, ⟨rfl, rfl, rfl, by simp, fun k _ hk => setRow_other w g k _ (fun e => hk (by simp [blkOf, e]))⟩, .inl rfl⟩
        · simp only [List.size_toArray, List.length_append, List.length_take, List.length_drop, Array.length_toList]
          omega
        · rw [htake, ← hlen]
          exact List.take_left
      · obtain ⟨ad', hA', hold⟩ : ∃ ad', (some ⟨g, 0, none⟩ : Option Addr) = some ad' ∧ ∀ j u, xs[j]? = some u → w.cell? (ad'.add j) = some u := by
          refine ⟨_, rfl, fun j u hu => ?_⟩
          rw [add_lit_, Blk.cell hg]
          rw [← htake, List.getElem?_take] at hu
          split at hu
          · simpa using hu
          · cases hu
        injection hA' with hA'
        subst hA'
        have hrun := run_append_grow (P := P) w t ty e i z ht hi hz ⟨g, 0, none⟩ n c xs hown.len hold ad m d news hr.len hnews (by omega) (by omega) (growslice_fits (by omega) hbytes)
        have hgr := grown c (by omega)
        exact ⟨_, _, _, hrun, hgr.1, hgr.2, .inr rfl⟩

theorem wp_append_ {o : Oper} {a : Act} {K : Act → World → Prop} {Q : Exit → Act → World → Prop} (s x : Operand) (t : TypeId)
    (ho : o.op = .call { callee := .builtin .append, args := #[s, x], argTypes := #[t, t] })
    (base : Nat) (e : TypeId) (i : TypeInfo) (z : Value) (size bytes : Nat) (ht : P.underlying t = some (.slice e)) (hi : P.info? e = some i) (hz : i.zero = some z)
    (hsize : i.size = size) (hby : i.bytes = bytes) (hzs : z.cells.size = size)
    (A : Option Addr) (n c : Nat) (xs : List Value) (hs : a.eval s = .slice A n c) (hown : Own w base e size A n c xs)
    (A' : Option Addr) (m d : Nat) (news : List Value) (hx : a.eval x = .slice A' m d) (hr : Rd w size A' m d news) (h1 : ∀ u ∈ news, u.oneCell' = true)
    (hfit : Fits (n + m) bytes) (hbase : base ≤ w.heap.size)
    (h : ∀ A2 c2 w2, Own w2 base e size A2 (n + m) c2 (xs ++ news) → Kp (fun k => blkOf A = some k) w w2 → (blkOf A2 = blkOf A ∨ blkOf A2 = some w.heap.size) → K (a.put o.dst (.slice A2 (n + m) c2)) w2) : o.wp P a w K Q := by
  obtain ⟨A2, c2, w2, hrun, h2, h3, h4⟩ := run_append_ (P := P) w base t o.type e i z size bytes ht hi hz hsize hby hzs A n c xs hown A' m d news hr h1 hfit hbase
  unfold Oper.wp execOp
  simp only [ho, resolve, invoke, builtin, Sem.run_bind, Sem.run_pure, Result.andThen_ok, List.map_toArray, List.map_cons, List.map_nil, hs, hx, hrun]
  exact h A2 c2 w2 h2 h3 h4

theorem wpList_append_ {ops : Array Oper} {rest : List Oper} {o : Oper} {a : Act} {Q : Exit → Act → World → Prop} (hgd : o.guard = none) (s x : Operand) (t : TypeId)
    (ho : o.op = .call { callee := .builtin .append, args := #[s, x], argTypes := #[t, t] })
    (base : Nat) (e : TypeId) (i : TypeInfo) (z : Value) (size bytes : Nat) (ht : P.underlying t = some (.slice e)) (hi : P.info? e = some i) (hz : i.zero = some z)
    (hsize : i.size = size) (hby : i.bytes = bytes) (hzs : z.cells.size = size)
    (A : Option Addr) (n c : Nat) (xs : List Value) (hs : a.eval s = .slice A n c) (hown : Own w base e size A n c xs)
    (A' : Option Addr) (m d : Nat) (news : List Value) (hx : a.eval x = .slice A' m d) (hr : Rd w size A' m d news) (h1 : ∀ u ∈ news, u.oneCell' = true)
    (hfit : Fits (n + m) bytes) (hbase : base ≤ w.heap.size)
    (h : ∀ A2 c2 w2, Own w2 base e size A2 (n + m) c2 (xs ++ news) → Kp (fun k => blkOf A = some k) w w2 → (blkOf A2 = blkOf A ∨ blkOf A2 = some w.heap.size) → wpList P ops Q rest (a.put o.dst (.slice A2 (n + m) c2)) w2) : wpList P ops Q (o :: rest) a w :=
  wpList_plain hgd fun _ hK => wp_append_ w s x t ho base e i z size bytes ht hi hz hsize hby hzs A n c xs hs hown A' m d news hx hr h1 hfit hbase fun A2 c2 w2 h2 h3 h4 => hK _ _ (h A2 c2 w2 h2 h3 h4)

theorem step_append_ {ops : Array Oper} {o : Oper} {a : Act} {K : Act → World → Prop} {Q : Exit → Act → World → Prop} {E : Prop} (hgd : o.guard = none) (s x : Operand) (t : TypeId)
    (ho : o.op = .call { callee := .builtin .append, args := #[s, x], argTypes := #[t, t] })
    (base : Nat) (e : TypeId) (i : TypeInfo) (z : Value) (size bytes : Nat) (ht : P.underlying t = some (.slice e)) (hi : P.info? e = some i) (hz : i.zero = some z)
    (hsize : i.size = size) (hby : i.bytes = bytes) (hzs : z.cells.size = size)
    (A : Option Addr) (n c : Nat) (xs : List Value) (hs : a.eval s = .slice A n c) (hown : Own w base e size A n c xs)
    (A' : Option Addr) (m d : Nat) (news : List Value) (hx : a.eval x = .slice A' m d) (hr : Rd w size A' m d news) (h1 : ∀ u ∈ news, u.oneCell' = true)
    (hfit : Fits (n + m) bytes) (hbase : base ≤ w.heap.size)
    (h : ∀ A2 c2 w2, Own w2 base e size A2 (n + m) c2 (xs ++ news) → Kp (fun k => blkOf A = some k) w w2 → (blkOf A2 = blkOf A ∨ blkOf A2 = some w.heap.size) → K (a.put o.dst (.slice A2 (n + m) c2)) w2) :
    if Region.wanted o (yielded ops a.tmps) = true then Oper.wp P o a w K Q else E := by
  have hw : Region.wanted o (yielded ops a.tmps) = true := by simp [Region.wanted, hgd]
  rw [if_pos hw]
  exact wp_append_ w s x t ho base e i z size bytes ht hi hz hsize hby hzs A n c xs hs hown A' m d news hx hr h1 hfit hbase h
end

/-! Structs: read from, and laid into, a block that is known whole. -/
/-- Type ty is a struct (or an array) of k cells. -/
structure IsS (P : Program) (ty : TypeId) (k : Nat) : Prop where
  row : ∃ d, P.underlying ty = some d ∧ d.isRow = true
  size : (P.info? ty).map (·.size) = some k

/-- The k cells from o on. -/
def subc (cs : Array Value) (o k : Nat) : List Value := (cs.toList.drop o).take k
/-- These cells from o on laid over. -/
def lay (cs : Array Value) (o : Nat) (vs : List Value) : List Value := cs.toList.take o ++ vs ++ cs.toList.drop (o + vs.length)

section
variable {P : Program} {w : World}
theorem lay_cons {cs : Array Value} {o : Nat} {v : Value} {vs : List Value} (hl : o + (vs.length + 1) ≤ cs.size) : lay (cs.setIfInBounds o v) (o + 1) vs = lay cs o (v :: vs) := by
  unfold lay
  rw [Array.toList_setIfInBounds, List.take_set, List.drop_set_of_lt (by omega), List.take_succ_eq_append_getElem (by simp; omega), List.set_append_right _ _ (by simp; omega)]
  simp [Nat.min_eq_left (show o ≤ cs.size by omega), Nat.add_comm, Nat.add_left_comm]
theorem setCells_heap (b : Nat) : ∀ (vs : List Value) (o : Nat) (w : World) (t : TypeId) (cs : Array Value), Blk w b t cs → o + vs.length ≤ cs.size → Blk (w.setCells b o vs) b t (lay cs o vs).toArray
  | [], o, w, t, cs, h, _ => by
    have : (lay cs o []).toArray = cs := by apply Array.ext'; simp [lay]
    rw [this]; exact h
  | v :: vs, o, w, t, cs, h, hl => by
    simp only [List.length_cons] at hl
    have := setCells_heap b vs (o + 1) _ t _ (h.set_ o v) (by simp; omega)
    rw [World.setCells]
    rw [lay_cons hl] at this
    exact this
theorem setCells_kp (b : Nat) : ∀ (vs : List Value) (o : Nat) (w : World), Kp (fun k => k = b) w (w.setCells b o vs)
  | [], _, w => Kp.refl _ w
  | v :: vs, o, w => by
    rw [World.setCells]
    exact (Kp.setCell (S := fun k => k = b) (p := ⟨b, o, none⟩) (Kp.refl _ w) (fun _ => rfl) v).trans (setCells_kp b vs (o + 1) _) (fun _ _ e => e)

theorem setCells_last (W : World) (t : TypeId) : ∀ (vs : List Value) (o : Nat) (cs : Array Value), o + vs.length ≤ cs.size → (W.alloc (.cells cs t)).setCells W.heap.size o vs = W.alloc (.cells (lay cs o vs).toArray t)
  | [], o, cs, _ => by
    have : (lay cs o []).toArray = cs := by apply Array.ext'; simp [lay]
    rw [this]; rfl
  | v :: vs, o, cs, hl => by
    simp only [List.length_cons] at hl
    rw [World.setCells, World.setCell_alloc_at _ _ _ _ _ rfl, setCells_last W t vs (o + 1) _ (by simp; omega), lay_cons hl]

theorem run_ldS {ty k : Nat} (hs : IsS P ty k) {g o : Nat} {t : TypeId} {cs : Array Value} (hb : Blk w g t cs) (arr : List Value) (ha : subc cs o k = arr) (hk : arr.length = k) :
    (loadVar ty ⟨g, o, none⟩).run P w = .ok (.agg arr.toArray) w := by
  obtain ⟨⟨d, hu, hd⟩, hi⟩ := hs
  refine run_loadVar_mid w g o ty arr d ?_ hu hd (by rw [hi, hk])
  intro j v hv
  rw [hb.cell]
  subst ha
  unfold subc at hv
  rw [List.getElem?_take] at hv
  split at hv
  · rw [List.getElem?_drop] at hv; simpa using hv
  · cases hv
theorem run_stS {ty : TypeId} {vs : List Value} (hs : IsS P ty vs.length) {g o : Nat} {t : TypeId} {cs : Array Value} (hb : Blk w g t cs) (hl : o + vs.length ≤ cs.size) (h1 : ∀ u ∈ vs, u.oneCell' = true) :
    (storeVar ty ⟨g, o, none⟩ (.agg vs.toArray)).run P w = .ok () (w.setCells g o vs) := by
  refine run_storeVar_mid w g o ty vs.toArray ?_ (by rw [hs.size]; simp) (all_oneCell_toArray h1)
  intro j hj
  simp only [List.size_toArray] at hj
  exact ⟨by rw [hb.cell, Array.getElem?_eq_getElem (by omega)]; rfl, hb.free _⟩

variable {ops : Array Oper} {rest : List Oper} {op : Oper} {a : Act} {Q : Exit → Act → World → Prop}
/-- A walk is halted at an operation: 'unStop' goes on. -/
def Stop (p : Prop) : Prop := p
theorem unStop {p : Prop} (h : p) : Stop p := h
theorem stopAt (y : Op) (_ho : op.op = y) (h : Stop (wpList P ops Q (op :: rest) a w)) : wpList P ops Q (op :: rest) a w := h
/-- A struct is read out of a block known whole. -/
theorem wpList_ldS (hgd : op.guard = none) (ty : TypeId) (x : Operand) (ho : op.op = .load ty x) {k : Nat} (hs : IsS P ty k) (g o : Nat) (hx : a.eval x = .pointer (some ⟨g, o, none⟩))
    {t : TypeId} {cs : Array Value} (hb : Blk w g t cs) (arr : List Value) (ha : subc cs o k = arr) (hk : arr.length = k) (h : wpList P ops Q rest (a.put op.dst (.agg arr.toArray)) w) : wpList P ops Q (op :: rest) a w :=
  wpList_plain hgd fun _ hK => by
    unfold Oper.wp execOp
    simp only [ho, hx, Instr.loadAt, Instr.sureAddr, Sem.run_bind, Sem.run_pure, Result.andThen_ok, run_ldS hs hb arr ha hk]
    exact hK _ _ h
/-- A struct is laid into a block known whole: the world behind is a letter. -/
theorem wpList_stS (hgd : op.guard = none) (ty : TypeId) (x y : Operand) (ho : op.op = .store ty x y) (vs : List Value) {k : Nat} (hs : IsS P ty k) (g o : Nat) (hx : a.eval x = .pointer (some ⟨g, o, none⟩)) (hy : a.eval y = .agg vs.toArray) (hk : vs.length = k)
    {t : TypeId} {cs : Array Value} (hb : Blk w g t cs) (cs2 : List Value) (hl : o + vs.length ≤ cs.size) (h1 : ∀ u ∈ vs, u.oneCell' = true) (hcs : lay cs o vs = cs2)
    (h : ∀ w2, Blk w2 g t cs2.toArray → Kp (· = g) w w2 → wpList P ops Q rest (a.put op.dst undef) w2) : wpList P ops Q (op :: rest) a w :=
  wpList_plain hgd fun _ hK => by
    subst hk
    unfold Oper.wp execOp
    simp only [ho, hx, hy, Instr.storeAt, Instr.sureAddr, Sem.run_bind, Sem.run_pure, Result.andThen_ok, run_stS hs hb hl h1]
    exact hK _ _ (h _ (by rw [← hcs]; exact setCells_heap g vs o w t cs hb hl) (setCells_kp g vs o w))
/-- A struct is laid over the whole of the block that was made last. -/
theorem wpList_stN {W : World} {zs : Array Value} {t : TypeId} (hgd : op.guard = none) (ty : TypeId) (x y : Operand) (ho : op.op = .store ty x y) (vs : List Value) {k : Nat} (hs : IsS P ty k) {N : Nat} (hx : a.eval x = .pointer (some ⟨N, 0, none⟩)) (hy : a.eval y = .agg vs.toArray) (hk : vs.length = k) (hN : W.heap.size = N)
    (hl : vs.length = zs.size) (h1 : ∀ u ∈ vs, u.oneCell' = true)
    (h : wpList P ops Q rest (a.put op.dst undef) (W.alloc (.cells vs.toArray t))) : wpList P ops Q (op :: rest) a (W.alloc (.cells zs t)) :=
  wpList_plain hgd fun _ hK => by
    subst hk
    subst hN
    have e := setCells_last W t vs 0 zs (by omega)
    rw [show lay zs 0 vs = vs by simp [lay, hl]] at e
    have hrun := run_stS (P := P) hs (Blk.new W t zs) (by omega : 0 + vs.length ≤ zs.size) h1
    rw [e] at hrun
    unfold Oper.wp execOp
    simp only [ho, hx, hy, Instr.storeAt, Instr.sureAddr, Sem.run_bind, Sem.run_pure, Result.andThen_ok, hrun]
    exact hK _ _ h

theorem fold_lay : ∀ (vs : List Value) (k o : Nat) (cs : Array Value), o + k + vs.length ≤ cs.size → (vs.zipIdx k).foldl (fun (cs : Array Value) (x : Value × Nat) => cs.setIfInBounds (o + x.2) x.1) cs = (lay cs (o + k) vs).toArray
  | [], k, o, cs, _ => by apply Array.ext'; simp [lay]
  | v :: vs, k, o, cs, h => by
    simp only [List.length_cons] at h
    rw [List.zipIdx_cons, List.foldl_cons, fold_lay vs (k + 1) o _ (by simp; omega)]
    rw [show o + (k + 1) = o + k + 1 by omega, lay_cons (by omega)]
theorem fill_one (vs : List Value) (k : Nat) (hk : vs.length = k) (zs : Array Value) (hz : zs.size = k) :
    Instr.fill (fun i => some (i * k, k)) zs [(0, .agg vs.toArray)] = some vs.toArray := by
  have e := fold_lay vs 0 0 zs (by omega)
  rw [show lay zs (0 + 0) vs = vs by simp [lay]; omega] at e
  have e2 : Array.foldl (fun (cs : Array Value) (x : Value × Nat) => cs.setIfInBounds (0 + x.2) x.1) zs vs.toArray.zipIdx = vs.toArray := by
    rw [← Array.foldl_toList, Array.toList_zipIdx]; exact e
  simp only [Instr.fill, Value.cells, Nat.zero_mul]
  rw [if_neg (by simp; omega)]
  exact congrArg some e2
/-- A slice literal of one struct. -/
theorem wpList_bs1 (hgd : op.guard = none) (t e : TypeId) (x : Operand) (ho : op.op = .buildSlice t 1 #[(0, x)]) (vs : List Value) {z : Value} {k bytes : Nat}
    (hu : P.underlying t = some (.slice e)) (hinf : (P.info? e).map (fun i => (i.zero, i.size, i.bytes)) = some (some z, k, bytes)) (hx : a.eval x = .agg vs.toArray) (hk : vs.length = k) (h0 : 0 < k) (hb : k ≤ 1000)
    (h : wpList P ops Q rest (a.put op.dst (.slice (some ⟨w.heap.size, 0, none⟩) 1 1)) (w.alloc (.cells vs.toArray e))) : wpList P ops Q (op :: rest) a w := by
  obtain ⟨i, hi, hz, hs, _⟩ := info_parts hinf
  refine wpList_buildSlice hgd t e 1 _ ho vs.toArray i z hu hi hz (by omega) (by omega) ?_ h
  simp only [List.map_toArray, List.map_cons, List.map_nil, hx, hs]
  exact fill_one vs k hk _ (by simp)

/-! Results that lie in memory. -/
section
variable {fn : Func} {p : Tmp} {ty : TypeId} {k g o : Nat} {t : TypeId} {cs : Array Value}
theorem res_c (h : fn.results = #[.cell p ty]) (hs : IsS P ty k) (tmps : Array Value) (hp : tmps.getD p undef = .pointer (some ⟨g, o, none⟩)) (hb : Blk w g t cs) (arr : List Value) (ha : subc cs o k = arr) (hk : arr.length = k) :
    (results fn tmps).run P w = .ok (.agg arr.toArray) w := by
  have hl := run_ldS hs hb arr ha hk
  have hp' : tmps[p]?.getD undef = .pointer (some ⟨g, o, none⟩) := by simpa using hp
  simp [results, h, hp', asAddr, hl]
theorem res_ct {q : Tmp} (h : fn.results = #[.cell p ty, .tmp q]) (hs : IsS P ty k) (tmps : Array Value) (hp : tmps.getD p undef = .pointer (some ⟨g, o, none⟩)) (hb : Blk w g t cs) (arr : List Value) (ha : subc cs o k = arr) (hk : arr.length = k) :
    (results fn tmps).run P w = .ok (.tuple #[.agg arr.toArray, tmps.getD q undef]) w := by
  have hl := run_ldS hs hb arr ha hk
  have hp' : tmps[p]?.getD undef = .pointer (some ⟨g, o, none⟩) := by simpa using hp
  simp [results, h, hp', asAddr, hl]
theorem res_ctt {q r : Tmp} (h : fn.results = #[.cell p ty, .tmp q, .tmp r]) (hs : IsS P ty k) (tmps : Array Value) (hp : tmps.getD p undef = .pointer (some ⟨g, o, none⟩)) (hb : Blk w g t cs) (arr : List Value) (ha : subc cs o k = arr) (hk : arr.length = k) :
    (results fn tmps).run P w = .ok (.tuple #[.agg arr.toArray, tmps.getD q undef, tmps.getD r undef]) w := by
  have hl := run_ldS hs hb arr ha hk
  have hp' : tmps[p]?.getD undef = .pointer (some ⟨g, o, none⟩) := by simpa using hp
  simp [results, h, hp', asAddr, hl]
theorem res_cc {q : Tmp} {ty2 : TypeId} {a2 : Addr} {v2 : Value} (h : fn.results = #[.cell p ty, .cell q ty2]) (hs : IsS P ty k) (tmps : Array Value) (hp : tmps.getD p undef = .pointer (some ⟨g, o, none⟩)) (hb : Blk w g t cs) (arr : List Value) (ha : subc cs o k = arr) (hk : arr.length = k)
    (hq : tmps.getD q undef = .pointer (some a2)) (hv : (loadVar ty2 a2).run P w = .ok v2 w) :
    (results fn tmps).run P w = .ok (.tuple #[.agg arr.toArray, v2]) w := by
  have hl := run_ldS hs hb arr ha hk
  have hp' : tmps[p]?.getD undef = .pointer (some ⟨g, o, none⟩) := by simpa using hp
  have hq' : tmps[q]?.getD undef = .pointer (some a2) := by simpa using hq
  simp [results, h, hp', hq', asAddr, hl, hv]
end
end
end Go.Proofs.Ytiimdnachgkomaa
