/- SessionsRise: the walk. -/
import Derived.Test.YtiimdnachgkomaaSof
import Derived.Test.YtiimdnachgkomaaGreat25
import Derived.Test.YtiimdnachgkomaaLives25
import Derived.Test.YtiimdnachgkomaaSames
import Derived.Test.YtiimdnachgkomaaStill
namespace Go.Proofs.Ytiimdnachgkomaa
open Go Go.RowKit
/-- The cells of the last numbers. -/
def lastCells (pls : List PgP) : Array Value := (Value.int .u64 0 :: pls.map fun p => .int .u64 p.num.toNat).toArray
def RepV.rep (r : RepV) : RepP := ⟨r.e, r.at_, r.got.l⟩
def repCells (rs : List RepV) : Array Value := (rs.flatMap RepV.cells).toArray
/-- The pages' lists lie elsewhere. -/
def Aw (ps : List Pg) (n m : Nat) : Prop := ∀ (i : Nat) (p : Pg), ps[i]? = some p → 0 < p.got.l.length → blkOf p.got.A ≠ some n ∧ blkOf p.got.A ≠ some m
theorem Aw.set {ps : List Pg} {n m : Nat} (h : Aw ps n m) (i : Nat) {p : Pg} (hp : 0 < p.got.l.length → blkOf p.got.A ≠ some n ∧ blkOf p.got.A ≠ some m) : Aw (ps.set i p) n m := fun j q hq hl => by
  rw [List.getElem?_set] at hq
  split at hq
  · split at hq
    · injection hq with hq; subst hq; exact hp hl
    · cases hq
  · exact h j q hq hl
theorem Bk.kp2 {S : Nat → Prop} {w w' : World} {g : Nat} {ps : List Pg} (h : Bk w g ps) (hk : Kp S w w') (hg : ¬ S g) (hs : ∀ (i : Nat) (p : Pg), ps[i]? = some p → 0 < p.got.l.length → ∀ k, blkOf p.got.A = some k → ¬ S k) : Bk w' g ps :=
  ⟨h.blk.kp hk hg, h.len, fun i p hp => ⟨(h.each i p hp).1.kp hk (fun hn k hk' => hs i p hp hn k hk'), (h.each i p hp).2⟩⟩
/-- What stands at the head of a round: the book in block g, the last numbers in block n, the replies in block m. -/
structure Ris (w : World) (g n m : Nat) (pls : List PgP) : Prop where
  book : ∃ ps, Bk w g ps ∧ ps.map Pg.pl = pls ∧ Aw ps n m
  nums : Blk w n 85 (lastCells pls)
  reps : ∃ rs : List RepV, rs.length = 9 ∧ Blk w m 86 (repCells rs) ∧ ∀ (i : Nat) (p : PgP), pls[i]? = some p → p.num ≠ 0 → ∃ r, rs[i + 1]? = some r ∧ r.rep = p.rep ∧ RdG w r.got.A r.got.c r.got.l ∧ (0 < r.got.l.length → blkOf r.got.A ≠ some g ∧ blkOf r.got.A ≠ some n ∧ blkOf r.got.A ≠ some m)
  len : pls.length = 8
  ok : ∀ q ∈ pls, okReply q.rep ∧ (q.num = 0 → q = PgP.none)
  ne : g ≠ n ∧ g ≠ m ∧ n ≠ m
theorem Ris.nw {w w' : World} {g n m : Nat} {pls : List PgP} (h : Ris w g n m pls) (hk : Nw w w') : Ris w' g n m pls := by
  obtain ⟨ps, hb, hp, haw⟩ := h.book
  obtain ⟨rs, h1, h2, h3⟩ := h.reps
  exact ⟨⟨ps, hb.nw hk, hp, haw⟩, h.nums.nw hk, ⟨rs, h1, h2.nw hk, fun i p hp hn => by
    obtain ⟨r, r1, r2, r3, r4⟩ := h3 i p hp hn
    exact ⟨r, r1, r2, r3.nw hk, r4⟩⟩, h.len, h.ok, h.ne⟩
theorem Ris.num {w : World} {g n m : Nat} {pls : List PgP} (h : Ris w g n m pls) {i : Nat} {p : PgP} (hp : pls[i]? = some p) : w.cell? ⟨n, i + 1, none⟩ = some (.int .u64 p.num.toNat) := by
  rw [h.nums.cell]
  unfold lastCells
  simp [hp]
/-- Note, of what stands at the head of a round. -/
def NoteG (g n m : Nat) (pls : List PgP) (ok : Bool) (w : World) (e : Ending) (w' : World) : Prop :=
  ∃ k : Nat, e = .returned (.int .i64 k) ∧ Kp (fun j => j = g) w w' ∧ (∃ ps, Bk w' g ps ∧ ps.map Pg.pl = pls ∧ Aw ps n m) ∧ ((k : Int) == 0) = ok
theorem Note_G {w : World} {g n m : Nat} {ps : List Pg} (hb : Bk w g ps) (haw : Aw ps n m) (hnl : n < w.heap.size) (hml : m < w.heap.size) {i : Nat} (hi : i < 8) {p : Pg} (hp : ps[i]? = some p) (num : UInt64) (r : RepV) (hr : RdG w r.got.A r.got.c r.got.l) (ok : Bool) (hok : ok = decide (p.num.toNat < num.toNat ∧ r.got.l.length ≤ 8)) (pls2 : List PgP)
    (h2 : pls2 = if ok then (ps.map Pg.pl).set i ⟨num, r.rep⟩ else ps.map Pg.pl) :
    Calls Try.prog 39 #[.pointer (some ⟨g, 0, none⟩), .int .u8 ((i + 1 : Nat) : Int), .int .u64 num.toNat, .agg #[.int .i64 r.e.toInt, .int .i64 r.at_.toInt, .slice r.got.A r.got.l.length r.got.c]] w (NoteG g n m pls2 ok w) := by
  by_cases h8 : r.got.l.length ≤ 8
  · by_cases hn : p.num.toNat < num.toNat
    · have e : ok = true := by rw [hok]; exact decide_eq_true ⟨hn, h8⟩
      rw [e] at h2 ⊢
      refine (Note_ok g ps i p hp num r.e r.at_ r.got.A r.got.c r.got.l w hb hr h8 hn).mono ?_
      rintro e w' ⟨A2, rfl, hb2, ho2, hk⟩
      refine ⟨0, rfl, hk, ⟨_, hb2, ?_, haw.set i (fun _ => ⟨ho2.fresh hnl, ho2.fresh hml⟩)⟩, rfl⟩
      rw [h2, List.map_set]
      rfl
    · have e : ok = false := by rw [hok]; exact decide_eq_false (fun h => hn h.1)
      rw [e] at h2 ⊢
      refine (Note_old g ps i p hp num _ _ _ _ _ w hb h8 (by omega)).mono ?_
      rintro e w' ⟨rfl, hk⟩
      exact ⟨18, rfl, hk.kp, ⟨ps, hb.nw hk, by rw [h2]; rfl, haw⟩, rfl⟩
  · have e : ok = false := by rw [hok]; exact decide_eq_false (fun h => h8 h.2)
    rw [e] at h2 ⊢
    refine (Note_arg g ps i hi _ _ _ _ _ _ w hb (by omega)).mono ?_
    rintro e w' ⟨rfl, hk⟩
    exact ⟨1, rfl, hk.kp, ⟨ps, hb.nw hk, by rw [h2]; rfl, haw⟩, rfl⟩
theorem Sl_cells {α : Type} {f : α → List Value} {k c : Nat} {ad : Addr} {l : List α} {w : World} (h : Rd w k (some ad) l.length c (l.flatMap f)) (hf : ∀ x, (f x).length = k) {i : Nat} {x : α} (hx : l[i]? = some x) :
    ∀ j v, (f x)[j]? = some v → w.cell? ((ad.add (i * k)).add j) = some v := by
  obtain ⟨hi, rfl⟩ := List.getElem?_eq_some_iff.1 hx
  obtain ⟨ad', hA, hc⟩ := h.elem hf hi (by omega)
  cases hA
  exact hc
theorem flat_lay {α : Type} (f : α → List Value) (k : Nat) (hf : ∀ x, (f x).length = k) (xs : List α) (i : Nat) (x : α) (hi : i < xs.length) : lay (xs.flatMap f).toArray (i * k) (f x) = (xs.set i x).flatMap f := by
  have hs : xs.set i x = xs.take i ++ x :: xs.drop (i + 1) := List.set_eq_take_append_cons_drop.trans (if_pos hi)
  have hp : xs = xs.take i ++ xs[i] :: xs.drop (i + 1) := by simp
  have l1 : ((xs.take i).flatMap f).length = i * k := by rw [flat_len f k hf, List.length_take, Nat.min_eq_left (by omega)]
  have e : xs.flatMap f = (xs.take i).flatMap f ++ (f xs[i] ++ (xs.drop (i + 1)).flatMap f) := by
    conv => lhs; rw [hp]
    rw [List.flatMap_append, List.flatMap_cons]
  unfold lay
  rw [hs, List.flatMap_append, List.flatMap_cons]
  simp only []
  rw [e, List.take_left' l1, List.append_assoc]
  congr 2
  rw [← List.append_assoc, show i * k + (f x).length = ((xs.take i).flatMap f ++ f xs[i]).length by rw [List.length_append, l1, hf, hf], List.drop_left' rfl]
theorem lastCells_set (pls : List PgP) (i : Nat) (q : PgP) : (lastCells pls).setIfInBounds (1 + i) (.int .u64 q.num.toNat) = lastCells (pls.set i q) := by
  unfold lastCells
  rw [List.setIfInBounds_toArray, Nat.add_comm, List.set_cons_succ, List.map_set]
theorem Ris.kept {w w' : World} {g n m : Nat} {pls : List PgP} (h : Ris w g n m pls) (hk : Kp (fun j => j = g) w w') (hb : ∃ ps, Bk w' g ps ∧ ps.map Pg.pl = pls ∧ Aw ps n m) : Ris w' g n m pls := by
  obtain ⟨rs, h1, h2, h3⟩ := h.reps
  have hne := h.ne
  refine ⟨hb, h.nums.kp hk (by omega), ⟨rs, h1, h2.kp hk (by omega), fun i p hp hn => ?_⟩, h.len, h.ok, h.ne⟩
  obtain ⟨r, r1, r2, r3, r4⟩ := h3 i p hp hn
  exact ⟨r, r1, r2, r3.kp hk (fun hl k hk' e => (r4 hl).1 (by rw [hk', e])), r4⟩
theorem Ris.noted {w w3 w4 w6 : World} {g n m i : Nat} {pls pls2 : List PgP} {num : UInt64} {r : RepV} {rs : List RepV} (h : Ris w g n m pls) (hrl : rs.length = 9) (hb2 : Blk w m 86 (repCells rs))
    (h3 : ∀ (i : Nat) (p : PgP), pls[i]? = some p → p.num ≠ 0 → ∃ r, rs[i + 1]? = some r ∧ r.rep = p.rep ∧ RdG w r.got.A r.got.c r.got.l ∧ (0 < r.got.l.length → blkOf r.got.A ≠ some g ∧ blkOf r.got.A ≠ some n ∧ blkOf r.got.A ≠ some m))
    (hk3 : Kp (fun j => j = g) w w3) (hb3 : ∃ ps, Bk w3 g ps ∧ ps.map Pg.pl = pls2 ∧ Aw ps n m) (hp2 : pls2 = pls.set i ⟨num, r.rep⟩) (hi : i < 8) (hnum : num ≠ 0) (hl8 : r.got.l.length ≤ 8)
    (hr : RdG w r.got.A r.got.c r.got.l) (hra : 0 < r.got.l.length → blkOf r.got.A ≠ some g ∧ blkOf r.got.A ≠ some n ∧ blkOf r.got.A ≠ some m) (hk4 : Nw w3 w4)
    (hb6 : Blk w6 m 86 (repCells (rs.set (i + 1) r))) (hk6 : Kp (fun j => j = m) (w4.setCell ⟨n, 1 + i, none⟩ (.int .u64 num.toNat)) w6) : Ris w6 g n m pls2 := by
  have hne := h.ne
  have hkn : Kp (fun j => j = n) w4 (w4.setCell ⟨n, 1 + i, none⟩ (.int .u64 num.toNat)) := Kp.setCell (S := fun j => j = n) (Kp.refl _ _) (fun _ => rfl) _
  have hall : Kp (fun j => j = n ∨ j = m) w3 w6 := ((hk4.kp (S := fun j => j = n ∨ j = m)).trans hkn (fun _ _ e => .inl e)).trans hk6 (fun _ _ e => .inr e)
  have hall2 : Kp (fun j => j = g ∨ j = n ∨ j = m) w w6 := (hk3.more (fun _ _ e => .inl e)).trans hall (fun _ _ e => .inr e)
  obtain ⟨ps, q1, q2, q3⟩ := hb3
  refine ⟨⟨ps, q1.kp2 hall (by omega) (fun j p hp hl k hk e => ?_), q2, q3⟩, ?_, ⟨rs.set (i + 1) r, by rw [List.length_set, hrl], hb6, fun j p hp hn => ?_⟩, by rw [hp2, List.length_set, h.len], fun q hq => ?_, hne⟩
  · obtain ⟨a1, a2⟩ := q3 j p hp hl
    rcases e with rfl | rfl
    · exact a1 hk
    · exact a2 hk
  · have b1 : Blk w4 n 85 (lastCells pls) := ((h.nums.kp hk3 (by omega)).nw hk4)
    have b2 := (b1.set_ (1 + i) (.int .u64 num.toNat)).kp hk6 (by omega)
    rw [hp2]
    rw [show (Value.int .u64 num.toNat) = .int .u64 ((⟨num, r.rep⟩ : PgP).num.toNat) from rfl, lastCells_set] at b2
    exact b2
  · rw [hp2, List.getElem?_set] at hp
    split at hp
    · next hij =>
      subst hij
      split at hp
      · injection hp with hp
        subst hp
        refine ⟨r, by rw [List.getElem?_set]; simp [hrl]; omega, rfl, hr.kp hall2 (fun hl k hk e => ?_), hra⟩
        obtain ⟨a1, a2, a3⟩ := hra hl
        rcases e with rfl | rfl | rfl
        · exact a1 hk
        · exact a2 hk
        · exact a3 hk
      · cases hp
    · next hij =>
      obtain ⟨r1, e1, e2, e3, e4⟩ := h3 j p hp hn
      refine ⟨r1, by rw [List.getElem?_set, if_neg (by omega)]; exact e1, e2, e3.kp hall2 (fun hl k hk e => ?_), e4⟩
      obtain ⟨a1, a2, a3⟩ := e4 hl
      rcases e with rfl | rfl | rfl
      · exact a1 hk
      · exact a2 hk
      · exact a3 hk
  · rw [hp2] at hq
    rcases List.mem_or_eq_of_mem_set hq with hq | rfl
    · exact h.ok q hq
    · exact ⟨hl8, fun e => absurd e hnum⟩
theorem encBook_len {ps : List PgP} (h : ps.length = 8) (hq : ∀ q ∈ ps, okReply q.rep ∧ (q.num = 0 → q = PgP.none)) : (encBook ps).length ≤ 10000 := by
  unfold encBook
  have h1 := encPages_len ps 0 (fun q hq' => (hq q hq').1)
  rw [h] at h1
  simp only [List.length_cons]
  omega
theorem isS_act25 : IsS Try.prog 90 6 := ⟨⟨_, Try.underlying90, rfl⟩, by kernel_rfl⟩
def noReps : List RepV := List.replicate 9 ⟨0, 0, ⟨[], none, 0⟩⟩
set_option maxRecDepth 20000 in
set_option maxHeartbeats 8000000 in
theorem rise_some (ad : Addr) (c : Nat) (l : List A25) (w : World) (h : Acts25 w ⟨l, some ad, c⟩) :
    Calls Try.prog 16 #[.slice (some ad) l.length c] w fun e w' => e = .returned (.bool true) ∧ Nw w w' := by
  have HA := Lib.hid h
  clear h
  go_enter Try.func16, Try.ntmps16
  go_wp2_with fail
  go_must (refine (great25_calls ⟨l, some ad, c⟩ w HA.out).mono ?_)
  rintro e w1 ⟨b, rfl, rfl, hb⟩
  cases b
  rotate_left
  focus
    go_wp2_with fail
    go_must (refine (lives25 _).mono ?_)
    rintro e w2 ⟨rfl, hk⟩
    go_wp2_with fail
    go_ret
    exact ⟨rfl, hk⟩
  focus
    have HSm := Lib.hid (hb rfl)
    clear hb
    go_wp2_with fail
    go_must (refine (SNew _).mono ?_)
    rintro e w2 ⟨g, rfl, hg, hb2, hk2⟩
    have HB2 := Lib.hid hb2
    have HK2 := Lib.hid hk2
    clear hb2 hk2
    go_wp2_with fail
    have HRis : Hid (Ris ((w2.alloc (.cells (lastCells noPls) 85)).alloc (.cells (repCells noReps) 86)) g w2.heap.size (w2.heap.size + 1) noPls) := Lib.hid (by
      have hgl := HB2.out.blk.lt
      refine ⟨⟨noPages, HB2.out.nw (((Kp.refl _ w2).alloc _).alloc _), rfl, fun i p hp hl => by obtain rfl : p = Pg.none := List.eq_of_mem_replicate (List.mem_of_getElem? hp); exact absurd hl (by simp [Pg.none])⟩, (Blk.new _ _ _).alloc _, ⟨noReps, rfl, Blk.newAt (by simp) _ _, ?_⟩, rfl, ?_, ⟨by omega, by omega, by omega⟩⟩
      · intro i p hp hn
        obtain rfl : p = PgP.none := List.eq_of_mem_replicate (List.mem_of_getElem? hp)
        exact absurd rfl hn
      · intro q hq
        obtain rfl : q = PgP.none := List.eq_of_mem_replicate hq
        exact ⟨Nat.zero_le _, fun _ => rfl⟩)
    have HN0 : Hid (Nw w1 ((w2.alloc (.cells (lastCells noPls) 85)).alloc (.cells (repCells noReps) 86))) := Lib.hid ((HK2.out.alloc _).alloc _)
    have hsz2 := HK2.out.size
    generalize hn2 : w2.heap.size = n at *
    have HHn := Lib.hid hn2
    clear hn2
    go_loopw [6] (fun i wr => ∃ (q : Nat) (pls : List PgP), i = .int .i64 q ∧ q ≤ l.length ∧ Ris wr g n (n + 1) pls ∧ Nw w1 wr) (fun i _ => l.length - (intOf i).toNat)
    case atStart => exact ⟨0, noPls, rfl, by omega, HRis.out, HN0.out⟩
    case round =>
      obtain ⟨q, pls, rfl, hq, hris, hnw⟩ := hrel
      have HR := Lib.hid hris
      have HN := Lib.hid hnw
      clear hris hnw HRis HN0
      by_cases hlt : q < l.length
      · obtain ⟨x, hx⟩ : ∃ x, l[q]? = some x := ⟨_, List.getElem?_eq_getElem hlt⟩
        have HX := Lib.hid hx
        have HLt := Lib.hid hlt
        have HC : Hid (∀ j v, x.cells[j]? = some v → wr.cell? ((ad.add (q * 6)).add j) = some v) := Lib.hid (fun j v hv => HN.out.cell (Sl_cells (f := A25.cells) HA.out.rd (fun _ => rfl) hx j v hv))
        have hd1 : decide ((q : Int) < (l.length : Int)) = true := decide_eq_true (by omega)
        obtain ⟨i0, hi0⟩ : ∃ i0, x.cl.toNat % 8 = i0 := ⟨_, rfl⟩
        have hi08 : i0 < 8 := by omega
        have hi1 : (x.cl.toNat : Int) % 8 = (i0 : Int) := by omega
        have hi2 : (i0 : Int) ≤ 7 := by omega
        have hlen : pls.length = 8 := HR.out.len
        obtain ⟨p, hp⟩ : ∃ p, pls[i0]? = some p := ⟨_, List.getElem?_eq_getElem (by omega)⟩
        have HP := Lib.hid hp
        have HI8 := Lib.hid hi08
        have hn0 : (wr.alloc (.cells x.cells.toArray 90)).cell? ⟨n, i0 + 1, none⟩ = some (.int .u64 p.num.toNat) := (HR.out.nw ((Kp.refl _ wr).alloc _)).num hp
        have hbN : Blk (wr.alloc (.cells x.cells.toArray 90)) wr.heap.size 90 x.cells.toArray := Blk.new _ _ _
        have x1 : (wr.alloc (.cells x.cells.toArray 90)).cell? ⟨wr.heap.size, 1, none⟩ = some (.int .u8 x.cl.toNat) := hbN.cell 1
        have x2 : (wr.alloc (.cells x.cells.toArray 90)).cell? ⟨wr.heap.size, 2, none⟩ = some (.int .u64 x.num.toNat) := hbN.cell 2
        have HBN := Lib.hid hbN
        have HR1 := Lib.hid (HR.out.nw ((Kp.refl _ wr).alloc (.cells x.cells.toArray 90)))
        have HN1 : Hid (Nw w1 (wr.alloc (.cells x.cells.toArray 90))) := Lib.hid (HN.out.alloc _)
        have HOkr : Hid (RdG (wr.alloc (.cells x.cells.toArray 90)) x.r.got.A x.r.got.c x.r.got.l) := Lib.hid ((HA.out.each q x hx).rd.nw HN1.out)
        clear hx hp hbN hlen hi08
        go_wp2_with (first
          | ((with_reducible refine stopAt (.load 90 (.tmp 28)) rfl ?_); go_must (refine unStop (wpList_ldP rfl 90 (.tmp 28) rfl isS_act25 _ rfl x.cells HC.out rfl ?_)))
          | ((with_reducible refine stopAt (.store 90 (.tmp 7) (.tmp 29)) rfl ?_); go_must (refine unStop (wpList_stN rfl 90 (.tmp 7) (.tmp 29) rfl x.cells isS_act25 rfl rfl rfl rfl rfl (by simp [A25.cells, Value.oneCell']) ?_)))
          | ((with_reducible refine stopAt (.load 34 (.tmp 38)) rfl ?_); go_must (refine unStop (wpList_ldS rfl 34 (.tmp 38) rfl sS_reply wr.heap.size 3 rfl HBN.out [.int .i64 x.r.e.toInt, .int .i64 x.r.at_.toInt, .slice x.r.got.A x.r.got.l.length x.r.got.c] rfl rfl ?_))))
        obtain ⟨ps, hbk, hpl, haw⟩ := HR1.out.book
        obtain ⟨pg, hpg⟩ : ∃ pg, ps[i0]? = some pg := ⟨_, List.getElem?_eq_getElem (by rw [hbk.len]; exact HI8.out)⟩
        have hpp : pg.num = p.num := by
          have h1 := HP.out
          rw [← hpl, List.getElem?_map, hpg] at h1
          injection h1 with h1
          rw [← h1]; rfl
        have hgl : g < wr.heap.size := by
          obtain ⟨ps', hb', _, _⟩ := HR.out.book
          exact hb'.blk.lt
        have hgn := HR.out.ne
        have hln : n < (wr.alloc (.cells x.cells.toArray 90)).heap.size := HR1.out.nums.lt
        have hlm : n + 1 < (wr.alloc (.cells x.cells.toArray 90)).heap.size := by obtain ⟨rs, _, h2, _⟩ := HR1.out.reps; exact h2.lt
        rcases (show (p.num.toNat < x.num.toNat ∧ x.r.got.l.length ≤ 8) ∨ (p.num.toNat < x.num.toNat ∧ ¬ x.r.got.l.length ≤ 8) ∨ ¬ p.num.toNat < x.num.toNat by omega) with hcs | hcs | hcs
        focus
          obtain ⟨pls2, hp2⟩ : ∃ pls2, pls2 = pls.set i0 ⟨x.num, x.r.rep⟩ := ⟨_, rfl⟩
          have HNote := Note_G hbk haw hln hlm HI8.out hpg x.num x.r HOkr.out true (by rw [hpp]; exact (decide_eq_true hcs).symm) pls2 (by rw [hp2, hpl]; rfl)
          rw [show ((i0 + 1 : Nat) : Int) = 1 + (i0 : Int) by omega] at HNote
          have HP2 := Lib.hid hp2
          have t1 : decide ((p.num.toNat : Int) < (x.num.toNat : Int)) = true := decide_eq_true (by omega)
          have t2 : decide (p.num.toNat < x.num.toNat) = true := decide_eq_true hcs.1
          have t3 : decide ((x.r.got.l.length : Int) ≤ 8) = true := decide_eq_true (by omega)
          have HCs := Lib.hid hcs
          clear hbk hpl hpg hpp hp2 hcs
          go_must (refine HNote.mono ?_)
          rintro e w3 ⟨kk, rfl, hk3, hb3, hkk⟩
          have HB3 := Lib.hid hb3
          have y2 : w3.cell? ⟨wr.heap.size, 2, none⟩ = some (.int .u64 x.num.toNat) := hk3.cell x2 (by show ¬ wr.heap.size = g; omega)
          have y5 : w3.cell? ⟨wr.heap.size, 5, none⟩ = some (.slice x.r.got.A x.r.got.l.length x.r.got.c) := hk3.cell (HBN.out.cell 5) (by show ¬ wr.heap.size = g; omega)
          have z0 : w3.cell? ⟨n, 1 + i0, none⟩ = some (.int .u64 p.num.toNat) := by rw [Nat.add_comm]; exact hk3.cell hn0 (by show ¬ n = g; omega)
          have HK3 := Lib.hid hk3
          clear HNote hb3 hk3 hn0 x1 x2
          go_wp2_with fail
          go_quiet (fail)
          obtain ⟨rs, hrl, hrb, hrr⟩ := HR1.out.reps
          have hg34 : Nw w3 (w3.drewN nq) := (Kp.refl _ w3).drewN nq
          have y2' := hg34.cell y2
          generalize w3.drewN nq = w4 at *
          have HG34 := Lib.hid hg34
          have hf4 : w4.frozen? ⟨n, 1 + i0, none⟩ = false := ((HR1.out.nums.kp HK3.out (by omega)).nw hg34).free (1 + i0)
          have hc4 : w4.cell? ⟨n, 1 + i0, none⟩ = some (.int .u64 p.num.toNat) := hg34.cell z0
          have HB5 : Hid (Blk (w4.setCell ⟨n, 1 + i0, none⟩ (.int .u64 x.num.toNat)) wr.heap.size 90 x.cells.toArray) := Lib.hid (((HBN.out.kp HK3.out (by omega)).nw hg34).far (p := ⟨n, 1 + i0, none⟩) (by show wr.heap.size ≠ n; have := HR.out.nums.lt; omega) _)
          have HRb5 : Hid (Blk (w4.setCell ⟨n, 1 + i0, none⟩ (.int .u64 x.num.toNat)) (n + 1) 86 (repCells rs)) := Lib.hid (((hrb.kp HK3.out (by omega)).nw hg34).far (p := ⟨n, 1 + i0, none⟩) (by show n + 1 ≠ n; omega) _)
          have HRl := Lib.hid hrl
          have HRr := Lib.hid hrr
          have HRb := Lib.hid hrb
          have HSz : Hid ((1 + i0) * 3 + 3 ≤ (repCells rs).size) := Lib.hid (by unfold repCells; rw [List.size_toArray, flat_len RepV.cells 3 (fun _ => rfl), hrl]; have := HI8.out; omega)
          clear hrl hrb hrr hg34 y2 y5 z0
          go_wp2_with (first
            | ((with_reducible refine stopAt (.load 34 (.tmp 64)) rfl ?_); go_must (refine unStop (wpList_ldS rfl 34 (.tmp 64) rfl sS_reply wr.heap.size 3 rfl HB5.out x.r.cells rfl rfl ?_)))
            | ((with_reducible refine stopAt (.store 34 (.tmp 66) (.tmp 65)) rfl ?_); go_must (refine unStop (wpList_stS rfl 34 (.tmp 66) (.tmp 65) rfl x.r.cells sS_reply (n + 1) ((1 + i0) * 3) rfl rfl rfl HRb5.out ((rs.set (1 + i0) x.r).flatMap RepV.cells) HSz.out (by simp [RepV.cells, Value.oneCell']) (flat_lay RepV.cells 3 (fun _ => rfl) rs (1 + i0) x.r (by have := HI8.out; have := HRl.out; omega)) ?_)); intro w6 hb6 hk6; have HB6 := Lib.hid hb6; have HK6 := Lib.hid hk6; clear hb6 hk6))
          have hra : 0 < x.r.got.l.length → blkOf x.r.got.A ≠ some g ∧ blkOf x.r.got.A ≠ some n ∧ blkOf x.r.got.A ≠ some (n + 1) := fun hl => by
            obtain ⟨k, hk, hlt⟩ := (HA.out.each q x HX.out).rd.blk_lt hl (by decide)
            rw [hk]
            refine ⟨fun e => ?_, fun e => ?_, fun e => ?_⟩ <;> injection e with e <;> omega
          have hb6' : Blk w6 (n + 1) 86 (repCells (rs.set (i0 + 1) x.r)) := by rw [Nat.add_comm i0 1]; exact HB6.out
          have HT : Hid (Ris w6 g n (n + 1) pls2) := Lib.hid (Ris.noted HR1.out HRl.out HRb.out HRr.out HK3.out HB3.out HP2.out HI8.out (fun e => by have := HCs.out.1; rw [e] at this; simp at this) HCs.out.2 HOkr.out hra HG34.out hb6' HK6.out)
          have HTn : Hid (Nw w1 w6) := Lib.hid ((((HN1.out.trans HK3.out (fun k hk e => by omega)).nw HG34.out).setNew (p := ⟨n, 1 + i0, none⟩) hsz2 _).trans HK6.out (fun k hk e => by omega))
          clear hra hb6' y2' hf4 hc4
        rotate_left
        focus
          obtain ⟨pls2, hp2⟩ : ∃ pls2, pls2 = pls := ⟨_, rfl⟩
          have HNote := Note_G hbk haw hln hlm HI8.out hpg x.num x.r HOkr.out false (by rw [hpp]; exact (decide_eq_false (by omega)).symm) pls2 (by rw [hp2, hpl]; rfl)
          rw [show ((i0 + 1 : Nat) : Int) = 1 + (i0 : Int) by omega] at HNote
          have HP2 := Lib.hid hp2
          have t1 : decide ((p.num.toNat : Int) < (x.num.toNat : Int)) = true := decide_eq_true (by omega)
          have t2 : decide (p.num.toNat < x.num.toNat) = true := decide_eq_true (by omega)
          have t3 : decide ((x.r.got.l.length : Int) ≤ 8) = false := decide_eq_false (by omega)
          clear hbk hpl hpg hpp hp2 hcs
          go_must (refine HNote.mono ?_)
          rintro e w3 ⟨kk, rfl, hk3, hb3, hkk⟩
          have y2 : w3.cell? ⟨wr.heap.size, 2, none⟩ = some (.int .u64 x.num.toNat) := hk3.cell x2 (by show ¬ wr.heap.size = g; omega)
          have y5 : w3.cell? ⟨wr.heap.size, 5, none⟩ = some (.slice x.r.got.A x.r.got.l.length x.r.got.c) := hk3.cell (HBN.out.cell 5) (by show ¬ wr.heap.size = g; omega)
          have z0 : w3.cell? ⟨n, 1 + i0, none⟩ = some (.int .u64 p.num.toNat) := by rw [Nat.add_comm]; exact hk3.cell hn0 (by show ¬ n = g; omega)
          have hris3 := HR1.out.kept hk3 (HP2.out ▸ hb3)
          have HTb := Lib.hid (HP2.out.symm ▸ hris3)
          have HTc : Hid (Nw w1 w3) := Lib.hid (HN1.out.trans hk3 (fun k hk e => by omega))
          clear HNote hb3 hk3 hn0 x1 x2 hris3
          go_wp2_with fail
          go_quiet (fail)
          have hg34 : Nw w3 (w3.drewN nq) := (Kp.refl _ w3).drewN nq
          generalize w3.drewN nq = w6 at *
          have HT : Hid (Ris w6 g n (n + 1) pls2) := Lib.hid (HTb.out.nw hg34)
          have HTn : Hid (Nw w1 w6) := Lib.hid (HTc.out.nw hg34)
          clear hg34 y2 y5 z0
          go_wp2_with fail
        rotate_left
        focus
          obtain ⟨pls2, hp2⟩ : ∃ pls2, pls2 = pls := ⟨_, rfl⟩
          have HNote := Note_G hbk haw hln hlm HI8.out hpg x.num x.r HOkr.out false (by rw [hpp]; exact (decide_eq_false (by omega)).symm) pls2 (by rw [hp2, hpl]; rfl)
          rw [show ((i0 + 1 : Nat) : Int) = 1 + (i0 : Int) by omega] at HNote
          have HP2 := Lib.hid hp2
          have t1 : decide ((p.num.toNat : Int) < (x.num.toNat : Int)) = false := decide_eq_false (by omega)
          have t2 : decide (p.num.toNat < x.num.toNat) = false := decide_eq_false (by omega)
          clear hbk hpl hpg hpp hp2 hcs
          go_must (refine HNote.mono ?_)
          rintro e w3 ⟨kk, rfl, hk3, hb3, hkk⟩
          have y2 : w3.cell? ⟨wr.heap.size, 2, none⟩ = some (.int .u64 x.num.toNat) := hk3.cell x2 (by show ¬ wr.heap.size = g; omega)
          have y5 : w3.cell? ⟨wr.heap.size, 5, none⟩ = some (.slice x.r.got.A x.r.got.l.length x.r.got.c) := hk3.cell (HBN.out.cell 5) (by show ¬ wr.heap.size = g; omega)
          have z0 : w3.cell? ⟨n, 1 + i0, none⟩ = some (.int .u64 p.num.toNat) := by rw [Nat.add_comm]; exact hk3.cell hn0 (by show ¬ n = g; omega)
          have hris3 := HR1.out.kept hk3 (HP2.out ▸ hb3)
          have HTb := Lib.hid (HP2.out.symm ▸ hris3)
          have HTc : Hid (Nw w1 w3) := Lib.hid (HN1.out.trans hk3 (fun k hk e => by omega))
          clear HNote hb3 hk3 hn0 x1 x2 hris3
          go_wp2_with fail
          go_quiet (fail)
          have hg34 : Nw w3 (w3.drewN nq) := (Kp.refl _ w3).drewN nq
          generalize w3.drewN nq = w6 at *
          have HT : Hid (Ris w6 g n (n + 1) pls2) := Lib.hid (HTb.out.nw hg34)
          have HTn : Hid (Nw w1 w6) := Lib.hid (HTc.out.nw hg34)
          clear hg34 y2 y5 z0
          go_wp2_with fail
        rotate_left
        rotate_left
        all_goals
          obtain ⟨ps3, hb3, hpl3, haw3⟩ := HT.out.book
          obtain ⟨bl, hbl⟩ : ∃ bl, bl = encBook pls2 := ⟨_, rfl⟩
          have HPutc := SPut g ps3 w6 hb3
          rw [hpl3, ← hbl] at HPutc
          have hbl1 : bl.length ≤ 10000 := by rw [hbl]; exact encBook_len HT.out.len HT.out.ok
          have hpb : pBook bl = some pls2 := by rw [hbl]; exact pBook_back pls2 HT.out.len HT.out.ok
          have HPb := Lib.hid hpb
          have HBl1 := Lib.hid hbl1
          replace hbl := Lib.hid hbl
          clear hb3 hpl3 haw3 hpb hbl1
          go_must (refine HPutc.mono ?_)
          rintro e w7 ⟨A7, rfl, ho7, hk7⟩
          have HO7 := Lib.hid ho7
          have HK7 := Lib.hid hk7
          clear HPutc ho7 hk7
          go_wp2_with fail
          go_must (refine (Of_ A7 bl.length bl w7 HO7.out.rd HBl1.out).mono ?_)
          rintro e w8 (⟨hn, _, _⟩ | ⟨g8, ps8, hpb8, rfl, hg8, hb8, hk8⟩)
          · rw [HPb.out] at hn; cases hn
          rw [HPb.out] at hpb8
          injection hpb8 with hpb8
          have HT8 : Hid (Ris w8 g n (n + 1) pls2) := Lib.hid ((HT.out.nw HK7.out).nw hk8)
          have HN8 : Hid (Nw w1 w8) := Lib.hid ((HTn.out.nw HK7.out).nw hk8)
          have HB8 := Lib.hid hb8
          have HPl8 := Lib.hid hpb8
          clear hb8 hpb8 hk8
          go_wp2_with fail
          go_loopw [12] (fun kv wr2 => ∃ i : Nat, kv = .int .u8 ((i : Int) + 1) ∧ i ≤ 8 ∧ Ris wr2 g n (n + 1) pls2 ∧ Bk wr2 g8 ps8 ∧ Nw w1 wr2) (fun kv _ => 9 - (intOf kv).toNat)
          case atStart => exact ⟨0, rfl, by omega, HT8.out, HB8.out, HN8.out⟩
          case round =>
            obtain ⟨i, rfl, hi8, hr9, hb9, hn9⟩ := hrel
            have HR9 := Lib.hid hr9
            have HB9 := Lib.hid hb9
            have HN9 := Lib.hid hn9
            have HI9 := Lib.hid hi8
            clear hr9 hb9 hn9 HT8 HB8 HN8
            by_cases hi : i < 8
            · have hd9 : decide ((i : Int) + 1 ≤ 8) = true := decide_eq_true (by omega)
              have hi9 : (i : Int) ≤ 7 := by omega
              obtain ⟨r, hr⟩ : ∃ r, pls2[i]? = some r := ⟨_, List.getElem?_eq_getElem (by rw [HR9.out.len]; exact hi)⟩
              have HRp := Lib.hid hr
              have HI := Lib.hid hi
              have z9 := HR9.out.num hr
              obtain ⟨pg8, hpg8⟩ : ∃ pg, ps8[i]? = some pg := ⟨_, List.getElem?_eq_getElem (by rw [HB9.out.len]; exact hi)⟩
              obtain ⟨ps9, hb10, hpl10, _⟩ := HR9.out.book
              obtain ⟨pg9, hpg9⟩ : ∃ pg, ps9[i]? = some pg := ⟨_, List.getElem?_eq_getElem (by rw [hb10.len]; exact hi)⟩
              have e8 : pg8.pl = r := by
                have h1 := hr
                rw [HPl8.out, List.getElem?_map, hpg8] at h1
                injection h1
              have e9 : pg9.pl = r := by
                have h1 := hr
                rw [← hpl10, List.getElem?_map, hpg9] at h1
                injection h1
              have e8n : pg8.num = r.num := by rw [← e8]; rfl
              have e9n : pg9.num = r.num := by rw [← e9]; rfl
              have ecast : ((i + 1 : Nat) : Int) = (i : Int) + 1 := by omega
              obtain ⟨un, hun⟩ : ∃ un : UInt64, un = r.num + 1 := ⟨_, rfl⟩
              have hunt : un.toNat = (r.num.toNat + 1) % 18446744073709551616 := by rw [hun, UInt64.toNat_add]; rfl
              have hunw : IntKind.u64.wrap ((r.num.toNat : Int) + 1) = (un.toNat : Int) := by rw [hunt]; simp [IntKind.wrap, IntKind.bits, IntKind.signed]
              have HAsk2 : Hid (∀ w', Nw wr w' → ∃ k2 : Nat, Calls Try.prog 43 #[.pointer (some ⟨g, 0, none⟩), .int .u8 ((i : Int) + 1), .int .u64 un.toNat] w' (AskSmall w' k2) ∧ (0 < un.toNat → k2 = 0)) := Lib.hid (fun w' h => by
                rw [← ecast]
                by_cases h0 : un.toNat = 0
                · exact ⟨18, Ask_old g ps9 i pg9 hpg9 un w' (hb10.nw h) (.inr h0), fun h => by omega⟩
                · have h64 := r.num.toNat_lt
                  exact ⟨0, Ask_new g ps9 i pg9 hpg9 un w' (hb10.nw h) (by rw [e9n]; omega), fun _ => rfl⟩)
              have hn0' : n < wr.heap.size := HR9.out.nums.lt
              replace hun := Lib.hid hun
              replace hunt := Lib.hid hunt
              clear hi hi8 hb10 hpl10 hpg9 e9n
              go_wp2_with fail
              by_cases hz : r.num = 0
              focus
                have hz0 : r.num.toNat = 0 := by rw [hz]; rfl
                have HAsk := Ask_old g8 ps8 i pg8 hpg8 r.num wr HB9.out (.inr hz0)
                rw [ecast] at HAsk
                have hz1 : ((r.num.toNat : Int) == 0) = true := by rw [hz0]; rfl
                have hz2 : decide ((0 : Int) < (r.num.toNat : Int)) = false := decide_eq_false (by omega)
                have hz3 : decide (0 < r.num.toNat) = false := decide_eq_false (by omega)
                replace hz := Lib.hid hz
                replace hz0 := Lib.hid hz0
                clear hpg8 ecast e8 e9 e8n hr
                go_must (refine HAsk.mono ?_)
                rintro e wA ⟨rfl, hkA⟩
                have zA : (wA.alloc (.cells #[.int .i64 0, .int .i64 0, .slice none 0 0] 34)).cell? ⟨n, i + 1, none⟩ = some (.int .u64 r.num.toNat) := Nw.cell (hkA.alloc _) z9
                have hkB : Nw wr (wA.alloc (.cells #[.int .i64 0, .int .i64 0, .slice none 0 0] 34)) := hkA.alloc _
                clear HAsk hkA z9
                go_wp2_with fail
                generalize (wA.alloc (.cells #[.int .i64 0, .int .i64 0, .slice none 0 0] 34)) = wB at *
                go_quiet (fail)
                have zC : (wB.drewN nq).cell? ⟨n, i + 1, none⟩ = some (.int .u64 r.num.toNat) := zA
                have hkC : Nw wr (wB.drewN nq) := hkB.drewN nq
                generalize wB.drewN nq = wC at *
                clear zA hkB
                go_wp2_with fail
              rotate_left
              focus
                have hz0 : r.num.toNat ≠ 0 := fun e => hz (UInt64.toNat_inj.1 (by simpa using e))
                have HAsk := Ask_is g8 ps8 i pg8 hpg8 r.num wr HB9.out e8n.symm hz0
                rw [ecast] at HAsk
                have hz1 : ((r.num.toNat : Int) == 0) = false := beq_eq_false_iff_ne.2 (by omega)
                have hz2 : decide ((0 : Int) < (r.num.toNat : Int)) = true := decide_eq_true (by omega)
                have hz3 : decide (0 < r.num.toNat) = true := decide_eq_true (by omega)
                obtain ⟨rs9, hl9, hbR, h39⟩ := HR9.out.reps
                obtain ⟨rr, hrr1, hrr2, hrr3, _⟩ := h39 i r hr hz
                have g1 : rr.e = pg8.e := by rw [← e8] at hrr2; exact congrArg RepP.e hrr2
                have g2 : rr.at_ = pg8.at_ := by rw [← e8] at hrr2; exact congrArg RepP.at_ hrr2
                have g3 : rr.got.l = pg8.got.l := by rw [← e8] at hrr2; exact congrArg RepP.got hrr2
                have hcR : ∀ j, j < 3 → wr.cell? ⟨n + 1, (i + 1) * 3 + j, none⟩ = rr.cells[j]? := fun j hj => by
                  rw [hbR.cell, ← flat_at RepV.cells 3 (fun _ => rfl) rs9 (i + 1) j rr hrr1 hj]
                  unfold repCells
                  simp
                have c0 : wr.cell? ⟨n + 1, (i + 1) * 3, none⟩ = some (.int .i64 pg8.e.toInt) := by rw [← g1]; exact hcR 0 (by omega)
                have c1 : wr.cell? ⟨n + 1, (i + 1) * 3 + 1, none⟩ = some (.int .i64 pg8.at_.toInt) := by rw [← g2]; exact hcR 1 (by omega)
                have c2 : wr.cell? ⟨n + 1, (i + 1) * 3 + 2, none⟩ = some (.slice rr.got.A pg8.got.l.length rr.got.c) := by rw [← g3]; exact hcR 2 (by omega)
                have HRr : Hid (RdG wr rr.got.A rr.got.c pg8.got.l) := Lib.hid (by rw [← g3]; exact hrr3)
                replace hz := Lib.hid hz
                replace hz0 := Lib.hid hz0
                clear hpg8 ecast e8 e8n hr hl9 hbR h39 hrr1 hrr2 hrr3 g1 g2 g3 hcR e9
                go_must (refine HAsk.mono ?_)
                rintro e wA ⟨A2, rfl, hoA, hkA⟩
                have hkB : Nw wr (wA.alloc (.cells #[.int .i64 pg8.e.toInt, .int .i64 pg8.at_.toInt, .slice A2 pg8.got.l.length pg8.got.l.length] 34)) := hkA.alloc _
                have hbB : Blk (wA.alloc (.cells #[.int .i64 pg8.e.toInt, .int .i64 pg8.at_.toInt, .slice A2 pg8.got.l.length pg8.got.l.length] 34)) wA.heap.size 34 #[.int .i64 pg8.e.toInt, .int .i64 pg8.at_.toInt, .slice A2 pg8.got.l.length pg8.got.l.length] := Blk.new _ _ _
                have HOB : Hid (RdG (wA.alloc (.cells #[.int .i64 pg8.e.toInt, .int .i64 pg8.at_.toInt, .slice A2 pg8.got.l.length pg8.got.l.length] 34)) A2 pg8.got.l.length pg8.got.l) := Lib.hid (hoA.rd.alloc _)
                clear HAsk hkA hoA
                go_wp2_with fail
                generalize (wA.alloc (.cells #[.int .i64 pg8.e.toInt, .int .i64 pg8.at_.toInt, .slice A2 pg8.got.l.length pg8.got.l.length] 34)) = wB at *
                generalize wA.heap.size = nA at *
                have HS : Hid (∀ w', Nw wB w' → (Nw wB w' ∧ w'.cell? ⟨n, i + 1, none⟩ = some (.int .u64 r.num.toNat) ∧ w'.cell? ⟨nA, 0, none⟩ = some (.int .i64 pg8.e.toInt) ∧ w'.cell? ⟨nA, 1, none⟩ = some (.int .i64 pg8.at_.toInt) ∧ w'.cell? ⟨nA, 2, none⟩ = some (.slice A2 pg8.got.l.length pg8.got.l.length) ∧ w'.cell? ⟨n + 1, (i + 1) * 3, none⟩ = some (.int .i64 pg8.e.toInt) ∧ w'.cell? ⟨n + 1, (i + 1) * 3 + 1, none⟩ = some (.int .i64 pg8.at_.toInt) ∧ w'.cell? ⟨n + 1, (i + 1) * 3 + 2, none⟩ = some (.slice rr.got.A pg8.got.l.length rr.got.c))) := Lib.hid (fun w' h => ⟨h, Nw.cell (hkB.nw h) z9, Nw.cell h (hbB.cell 0), Nw.cell h (hbB.cell 1), Nw.cell h (hbB.cell 2), Nw.cell (hkB.nw h) c0, Nw.cell (hkB.nw h) c1, Nw.cell (hkB.nw h) c2⟩)
                have HSR : Hid (∀ w', Nw wB w' → Calls Try.prog 35 #[.agg #[.int .i64 pg8.e.toInt, .int .i64 pg8.at_.toInt, .slice A2 pg8.got.l.length pg8.got.l.length], .agg #[.int .i64 pg8.e.toInt, .int .i64 pg8.at_.toInt, .slice rr.got.A pg8.got.l.length rr.got.c]] w' (fun e w2 => e = .returned (.bool true) ∧ Nw w' w2)) := Lib.hid (fun w' h => SameReply_ _ _ A2 rr.got.A _ _ pg8.got.l w' (HOB.out.nw h) ((HRr.out.nw hkB).nw h))
                have d9 := Nw.cell hkB z9
                have d0 := Nw.cell hkB c0
                have d1 := Nw.cell hkB c1
                have d2 := Nw.cell hkB c2
                have b0 : wB.cell? ⟨nA, 0, none⟩ = some (.int .i64 pg8.e.toInt) := hbB.cell 0
                have b1 : wB.cell? ⟨nA, 1, none⟩ = some (.int .i64 pg8.at_.toInt) := hbB.cell 1
                have b2 : wB.cell? ⟨nA, 2, none⟩ = some (.slice A2 pg8.got.l.length pg8.got.l.length) := hbB.cell 2
                clear c0 c1 c2 hbB HS z9
                have hq0 : (0 : Int) ≤ (i : Int) + 1 := by omega
                have hq1 : (i : Int) + 1 < 9 := by omega
                refine wp_region_still_tail 25 (by kernel_rfl) (by kernel_rfl) ?_
                simp only [List.take_succ_cons, List.take_zero, List.drop_succ_cons, List.drop_zero]
                iterate 5 still_step
                iterate 2 ((with_reducible refine wpStill_skip ?_ ?_); focus kernel_rfl)
                iterate 18 still_step
                with_reducible refine wpStill_nil ?_
                refine wpList_ug (by kernel_rfl) ?_
                go_wp2_with fail
                go_must (refine (HSR.out wB.drew (Kp.drew (Kp.refl _ _))).mono ?_)
                rintro e wC ⟨rfl, hkC0⟩
                have zC : wC.cell? ⟨n, i + 1, none⟩ = some (.int .u64 r.num.toNat) := Nw.cell hkC0 d9
                have hkC : Nw wr wC := hkB.drew.nw hkC0
                clear d9 d0 d1 d2 b0 b1 b2 hkB hkC0
                go_wp2_with fail
              rotate_left
              all_goals
                obtain ⟨k2, HA2, hk2⟩ := HAsk2.out wC hkC
                go_must (refine HA2.mono ?_)
                rintro e wD ⟨rfl, hkD⟩
                have zD : wD.cell? ⟨n, i + 1, none⟩ = some (.int .u64 r.num.toNat) := Nw.cell hkD zC
                have HkD := Lib.hid (hkC.nw hkD)
                clear HA2 hkC hkD zC
                by_cases h0 : 0 < un.toNat
                · obtain rfl := hk2 h0
                  have hy1 : decide ((0 : Int) < (un.toNat : Int)) = true := decide_eq_true (by omega)
                  have hy2 : decide (0 < un.toNat) = true := decide_eq_true h0
                  clear h0 hk2
                  go_wp2_with fail
                  exact ⟨⟨i + 1, rfl, HI.out, HR9.out.nw HkD.out, HB9.out.nw HkD.out, HN9.out.nw HkD.out⟩, by simp [intOf]; have := HI.out; omega⟩
                · have hy1 : decide ((0 : Int) < (un.toNat : Int)) = false := decide_eq_false (by omega)
                  have hy2 : decide (0 < un.toNat) = false := decide_eq_false h0
                  clear h0 hk2
                  go_wp2_with fail
                  exact ⟨⟨i + 1, rfl, HI.out, HR9.out.nw HkD.out, HB9.out.nw HkD.out, HN9.out.nw HkD.out⟩, by simp [intOf]; have := HI.out; omega⟩
            · obtain rfl : i = 8 := by omega
              go_wp2_with fail
              rw [wrapS q (by have := HSm.out.1; have := HLt.out; omega)]
              exact ⟨⟨q + 1, pls2, rfl, HLt.out, HR9.out, HN9.out⟩, by show l.length - (((q + 1 : Nat) : Int)).toNat < l.length - ((q : Int)).toNat; have := HLt.out; omega⟩
      · obtain rfl : q = l.length := by omega
        have hd1 : decide ((l.length : Int) < (l.length : Int)) = false := decide_eq_false (by omega)
        go_wp2_with fail
        go_must (refine (lives25 _).mono ?_)
        rintro e w3 ⟨rfl, hk3⟩
        have HK3 := Lib.hid hk3
        clear hk3
        go_wp2_with fail
        go_ret
        exact ⟨rfl, HN.out.nw HK3.out⟩
set_option maxRecDepth 20000 in
theorem rise_nil (A : Option Addr) (c : Nat) (w : World) (h : Acts25 w ⟨[], A, c⟩) :
    Calls Try.prog 16 #[.slice A 0 c] w fun e w' => e = .returned (.bool true) ∧ Nw w w' := by
  have HA := Lib.hid h
  clear h
  go_enter Try.func16, Try.ntmps16
  go_wp2_with fail
  go_must (refine (great25_calls ⟨[], A, c⟩ w HA.out).mono ?_)
  rintro e w1 ⟨b, rfl, rfl, hb⟩
  clear hb
  cases b
  rotate_left
  focus
    go_wp2_with fail
    go_must (refine (lives25 _).mono ?_)
    rintro e w2 ⟨rfl, hk⟩
    go_wp2_with fail
    go_ret
    exact ⟨rfl, hk⟩
  focus
    go_wp2_with fail
    go_must (refine (SNew _).mono ?_)
    rintro e w2 ⟨g, rfl, hg, hb2, hk2⟩
    have HN0 : Hid (Nw w1 ((w2.alloc (.cells (lastCells noPls) 85)).alloc (.cells (repCells noReps) 86))) := Lib.hid ((hk2.alloc _).alloc _)
    clear hb2 hk2
    go_wp2_with fail
    go_loopw [6] (fun i wr => i = .int .i64 0 ∧ Nw w1 wr) (fun _ _ => 0)
    case atStart => exact ⟨rfl, HN0.out⟩
    case round =>
      obtain ⟨rfl, hnw⟩ := hrel
      have HN := Lib.hid hnw
      clear hnw
      go_wp2_with fail
      go_must (refine (lives25 _).mono ?_)
      rintro e w3 ⟨rfl, hk3⟩
      have HK3 := Lib.hid hk3
      clear hk3
      go_wp2_with fail
      go_ret
      exact ⟨rfl, HN.out.nw HK3.out⟩
theorem rise_calls (s : Sl A25) (w : World) (h : Acts25 w s) :
    Calls Try.prog 16 #[.slice s.A s.l.length s.c] w fun e w' => e = .returned (.bool true) ∧ Nw w w' := by
  obtain ⟨l, A, c⟩ := s
  rcases Nat.eq_zero_or_pos l.length with h0 | h0
  · have := List.eq_nil_of_length_eq_zero h0
    subst this
    exact rise_nil A c w h
  · obtain ⟨ad, hA, _⟩ := h.rd.at_ h0
    cases hA
    exact rise_some ad c l w h
end Go.Proofs.Ytiimdnachgkomaa
