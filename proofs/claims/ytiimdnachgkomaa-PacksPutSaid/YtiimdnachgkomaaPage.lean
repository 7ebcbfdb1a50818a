/- law01's book: a row that is written over, and what stands in it. -/
import Derived.Test.YtiimdnachgkomaaMem4
namespace Go.Proofs.Ytiimdnachgkomaa
open Go Go.RowKit
/-- From place lo on, up to hi, each element's cells are m. -/
def Std (cs : Array Value) (k lo hi : Nat) (m : List Value) : Prop := ∀ i, lo ≤ i → i < hi → ∀ j u, m[j]? = some u → cs[i * k + j]? = some u
/-- A row that lies at the head of a block, or is nil; of the block's cells holds p. -/
def Row (w : World) (t : TypeId) (k : Nat) (A : Option Addr) (n c : Nat) (p : Array Value → Prop) : Prop :=
  n ≤ c ∧ c ≤ maxLen ∧ ((A = none ∧ c = 0) ∨ ∃ g cur, A = some ⟨g, 0, none⟩ ∧ Blk w g t cur ∧ c * k ≤ cur.size ∧ p cur)
theorem Own.row {w : World} {base : Nat} {t : TypeId} {k : Nat} {A : Option Addr} {n c : Nat} {xs : List Value} (h : Own w base t k A n c xs) : Row w t k A n c (fun _ => True) := by
  refine ⟨h.cap, h.max, ?_⟩
  rcases h.at_ with h' | ⟨g, cur, h1, _, h2, h3, _⟩
  · exact .inl h'
  · exact .inr ⟨g, cur, h1, h2, h3, trivial⟩
theorem Row.kp {S : Nat → Prop} {w w' : World} {t : TypeId} {k : Nat} {A : Option Addr} {n c : Nat} {p : Array Value → Prop} (h : Row w t k A n c p) (hk : Kp S w w') (hs : ∀ g, blkOf A = some g → ¬ S g) : Row w' t k A n c p := by
  obtain ⟨h1, h2, h3⟩ := h
  refine ⟨h1, h2, ?_⟩
  rcases h3 with h3 | ⟨g, cur, rfl, hb, hc, hp⟩
  · exact .inl h3
  · exact .inr ⟨g, cur, rfl, hb.kp hk (hs g rfl), hc, hp⟩
theorem Row.nw {w w' : World} {t : TypeId} {k : Nat} {A : Option Addr} {n c : Nat} {p : Array Value → Prop} (h : Row w t k A n c p) (hk : Nw w w') : Row w' t k A n c p := h.kp hk (fun _ _ => id)
theorem Row.lt {w : World} {t : TypeId} {k : Nat} {A : Option Addr} {n c : Nat} {p : Array Value → Prop} (h : Row w t k A n c p) {g : Nat} (hg : blkOf A = some g) : g < w.heap.size := by
  rcases h.2.2 with ⟨rfl, _⟩ | ⟨g', cur, rfl, hb, _⟩
  · cases hg
  · cases hg; exact hb.lt
theorem lay_at (cs : Array Value) (o : Nat) (vs : List Value) (h : o + vs.length ≤ cs.size) (i : Nat) : (lay cs o vs)[i]? = if o ≤ i ∧ i < o + vs.length then vs[i - o]? else cs[i]? := by
  unfold lay
  have h1 : (cs.toList.take o).length = o := by rw [List.length_take]; simp; omega
  split
  · next hi =>
    rw [List.getElem?_append_left (by rw [List.length_append, h1]; omega), List.getElem?_append_right (by omega), h1]
  · next hi =>
    by_cases hlt : i < o
    · rw [List.append_assoc, List.getElem?_append_left (by omega), List.getElem?_take, if_pos hlt, Array.getElem?_toList]
    · rw [List.getElem?_append_right (by rw [List.length_append, h1]; omega), List.length_append, h1, List.getElem?_drop, Array.getElem?_toList]
      congr 1; omega
theorem lay_size (cs : Array Value) (o : Nat) (vs : List Value) (h : o + vs.length ≤ cs.size) : (lay cs o vs).toArray.size = cs.size := by
  unfold lay
  simp; omega
theorem Std.none (cs : Array Value) (k lo : Nat) (m : List Value) : Std cs k lo lo m := fun i h1 h2 => by omega
theorem Std.more {cs : Array Value} {k lo q : Nat} {m : List Value} (h : Std cs k lo q m) (hm : m.length = k) (hl : q * k + k ≤ cs.size) : Std (lay cs (q * k) m).toArray k lo (q + 1) m := by
  intro i h1 h2 j u hu
  have hj : j < k := by have := (List.getElem?_eq_some_iff.1 hu).1; omega
  rw [List.getElem?_toArray, lay_at _ _ _ (by omega)]
  by_cases hi : i = q
  · subst hi
    rw [if_pos ⟨by omega, by omega⟩, Nat.add_sub_cancel_left]
    exact hu
  · have : (i + 1) * k ≤ q * k := Nat.mul_le_mul_right _ (by omega)
    rw [Nat.add_mul] at this
    rw [if_neg (by omega)]
    exact h i h1 (by omega) j u hu
theorem Std.keep {cs : Array Value} {k lo hi q : Nat} {m m' : List Value} (h : Std cs k lo hi m') (hq : hi ≤ q) (hm : m.length = k) (hm' : m'.length = k) (hl : q * k + k ≤ cs.size) : Std (lay cs (q * k) m).toArray k lo hi m' := by
  intro i h1 h2 j u hu
  have hj : j < k := by have := (List.getElem?_eq_some_iff.1 hu).1; omega
  rw [List.getElem?_toArray, lay_at _ _ _ (by omega)]
  have : (i + 1) * k ≤ q * k := Nat.mul_le_mul_right _ (by omega)
  rw [Nat.add_mul] at this
  rw [if_neg (by omega)]
  exact h i h1 h2 j u hu
theorem lay_one (cs : Array Value) (o : Nat) (v : Value) (h : o < cs.size) : (lay cs o [v]).toArray = cs.setIfInBounds o v := by
  rw [← lay_cons (by simp; omega)]
  apply Array.ext'
  simp [lay]
/-- A row's list was written over. -/
def WroteR (w : World) (t : TypeId) (k : Nat) (A : Option Addr) (n c : Nat) (p : Array Value → Prop) (e : Ending) (w' : World) : Prop :=
  e = .returned (.tuple #[]) ∧ Row w' t k A n c p ∧ Kp (fun j => blkOf A = some j) w w'
end Go.Proofs.Ytiimdnachgkomaa
