/- How the arguments read: from the model's reader to plain structures. -/
import Derived.Test.YtiimdnachgkomaaTypes
import Derived.OpenShut
import Derived.Deep.Slices
import Derived.SizedLaws
import Derived.ProofKit
namespace Go.Proofs.Ytiimdnachgkomaa
open Go Go.RowKit Go.Deep

/-- These cells read as a datum of type t, each of whose slices is within the form's reach. -/
def RV (P : Program) (w : World) (t : TypeId) (cs : List Value) : Prop :=
  ∃ (H : Type) (enc : TypeId × Value → H) (base : Nat) (spare : Nat → Bool) (held : Bool) (fuel : Nat) (x : DataW H × List MemPlace), DataW.trod enc P w base spare held fuel t cs = some x ∧ ∀ n ∈ x.1.weights P t, n ≤ reachBytes

theorem mem_weightsAll {H : Type} {P : Program} {e : TypeId} : ∀ {ds : List (DataW H)} {j : Nat} {d : DataW H}, ds[j]? = some d → ∀ n ∈ d.weights P e, n ∈ DataW.weightsAll P e ds
  | d0 :: ds, 0, d, hd, n, hn => by
    simp only [List.getElem?_cons_zero, Option.some.injEq] at hd
    subst hd
    simp only [DataW.weightsAll, List.mem_append]
    exact Or.inl hn
  | d0 :: ds, j + 1, d, hd, n, hn => by
    simp only [List.getElem?_cons_succ] at hd
    simp only [DataW.weightsAll, List.mem_append]
    exact Or.inr (mem_weightsAll hd n hn)
  | [], _, _, hd, _, _ => by simp at hd

section
variable {P : Program} {w : World} {t : TypeId} {cs : List Value}
theorem RV.int_ {k : IntKind} (ht : P.underlying t = some (.int k)) (h : RV P w t cs) : ∃ n, cs = [.int k n] ∧ (Lit.int k n).wf = true := by
  obtain ⟨H, enc, base, spare, held, fuel, x, h, _⟩ := h
  obtain ⟨n, h1, _, h2⟩ := DataW.trod_int ht h
  exact ⟨n, h1, h2⟩
theorem RV.u8 (ht : P.underlying t = some (.int .u8)) (h : RV P w t cs) : ∃ b : UInt8, cs = [.int .u8 b.toNat] := by
  obtain ⟨n, rfl, hw⟩ := h.int_ ht
  have := bounds_u8 hw
  refine ⟨UInt8.ofNat n.toNat, ?_⟩
  rw [UInt8.toNat_ofNat', Nat.mod_eq_of_lt (by omega), Int.toNat_of_nonneg (by omega)]
theorem RV.u16 (ht : P.underlying t = some (.int .u16)) (h : RV P w t cs) : ∃ b : UInt16, cs = [.int .u16 b.toNat] := by
  obtain ⟨n, rfl, hw⟩ := h.int_ ht
  have hb : 0 ≤ n ∧ n ≤ 65535 := by simpa [Lit.wf, IntKind.min, IntKind.max, IntKind.bits, IntKind.signed] using hw
  refine ⟨UInt16.ofNat n.toNat, ?_⟩
  rw [UInt16.toNat_ofNat', Nat.mod_eq_of_lt (by omega), Int.toNat_of_nonneg (by omega)]
theorem RV.u64 (ht : P.underlying t = some (.int .u64)) (h : RV P w t cs) : ∃ b : UInt64, cs = [.int .u64 b.toNat] := by
  obtain ⟨n, rfl, hw⟩ := h.int_ ht
  have hb : 0 ≤ n ∧ n ≤ 18446744073709551615 := by simpa [Lit.wf, IntKind.min, IntKind.max, IntKind.bits, IntKind.signed] using hw
  refine ⟨UInt64.ofNat n.toNat, ?_⟩
  rw [UInt64.toNat_ofNat', Nat.mod_eq_of_lt (by omega), Int.toNat_of_nonneg (by omega)]
theorem RV.i64 (ht : P.underlying t = some (.int .i64)) (h : RV P w t cs) : ∃ b : Int64, cs = [.int .i64 b.toInt] := by
  obtain ⟨n, rfl, hw⟩ := h.int_ ht
  have hb : -9223372036854775808 ≤ n ∧ n ≤ 9223372036854775807 := by simpa [Lit.wf, IntKind.min, IntKind.max, IntKind.bits, IntKind.signed] using hw
  refine ⟨Int64.ofInt n, ?_⟩
  rw [Int64.toInt_ofInt_of_le (by omega) (by omega)]
theorem RV.bool (ht : P.underlying t = some .bool) (h : RV P w t cs) : ∃ b : Bool, cs = [.bool b] := by
  obtain ⟨H, enc, base, spare, held, fuel, x, h, _⟩ := h
  obtain ⟨n, h1, _⟩ := DataW.trod_bool ht h
  exact ⟨n, h1⟩
theorem RV.struct {fs : Array Field} (ht : P.underlying t = some (.struct fs)) (h : RV P w t cs) :
    cs.length = P.cellsOf t ∧ ∀ (i : Nat) (f : Field), fs[i]? = some f → RV P w f.type ((cs.drop f.offset).take (P.cellsOf f.type)) := by
  obtain ⟨H, enc, base, spare, held, fuel, x, h, hw⟩ := h
  obtain ⟨xs, n, _, hx, hl, hxl, hf⟩ := DataW.trod_struct ht h
  refine ⟨hl, fun i f hi => ?_⟩
  have hlt : i < fs.size := (Array.getElem?_eq_some_iff.1 hi).1
  refine ⟨H, enc, base, spare, held, n, _, (hf i f hi).trans (List.getElem?_eq_getElem (by omega)), fun k hk => hw k ?_⟩
  rw [hx]
  simp only [DataW.weights, ht]
  exact DataW.weights_mem_each (j := i) (t := f.type) (d := (xs[i]'(by omega)).1) (by simp [hi]) (by simp [List.getElem?_eq_getElem (show i < xs.length by omega)]) k hk
theorem RV.array {n : Nat} {e : TypeId} (ht : P.underlying t = some (.array n e)) (h : RV P w t cs) :
    cs.length = P.cellsOf t ∧ ∀ (i : Nat), i < n → RV P w e ((cs.drop (i * P.cellsOf e)).take (P.cellsOf e)) := by
  obtain ⟨H, enc, base, spare, held, fuel, x, h, hw⟩ := h
  obtain ⟨xs, m, _, hx, hl, hxl, hf⟩ := DataW.trod_array ht h
  refine ⟨hl, fun i hi => ⟨H, enc, base, spare, held, m, _, (hf i hi).trans (List.getElem?_eq_getElem (by omega)), fun k hk => hw k ?_⟩⟩
  rw [hx]
  simp only [DataW.weights, ht]
  exact mem_weightsAll (j := i) (d := (xs[i]'(by omega)).1) (by simp [List.getElem?_eq_getElem (show i < xs.length by omega)]) k hk
theorem RV.slice {e : TypeId} (ht : P.underlying t = some (.slice e)) (h : RV P w t cs) :
    ∃ (A : Option Addr) (n c : Nat), cs = [.slice A n c] ∧ n ≤ c ∧ c ≤ maxLen ∧ n * P.bytesOf e ≤ reachBytes ∧
      ∀ i, i < n → ∃ ad cs', A = some ad ∧ cs'.length = P.cellsOf e ∧ (∀ j u, cs'[j]? = some u → w.cell? (ad.add (i * P.cellsOf e + j)) = some u) ∧ RV P w e cs' := by
  obtain ⟨H, enc, base, spare, held, fuel, x, h, hw⟩ := h
  rcases open_slice ht h with ⟨rfl, _⟩ | ⟨a, len, cap, m, n, D, Pl, rfl, _, hl, hm, hmm, hx, hi⟩
  · exact ⟨none, 0, 0, rfl, Nat.le_refl _, by simp [maxLen], by simp, fun i hi => by omega⟩
  · have hxw : x.1.weights P t = (((List.range len).map D).length + ((List.range (m - len)).map fun j => D (len + j)).length) * P.bytesOf e :: (DataW.weightsAll P e ((List.range len).map D) ++ DataW.weightsAll P e ((List.range (m - len)).map fun j => D (len + j))) := by
      rw [hx]
      simp only [DataW.weights, ht]
    have hlm : len ≤ m := by rw [hmm]; split <;> omega
    refine ⟨some a, len, cap, rfl, hl, hm, ?_, fun i hlt => ?_⟩
    · have h0 := hw _ (by rw [hxw]; exact List.mem_cons_self ..)
      simp only [List.length_map, List.length_range] at h0
      refine Nat.le_trans (Nat.mul_le_mul_right _ ?_) h0
      omega
    · obtain ⟨cs', hc, hx'⟩ := hi i (by omega)
      obtain ⟨_, hcl, hat⟩ := World.cells?_some hc
      refine ⟨a, cs', rfl, hcl, fun j u hu => ?_, ⟨H, enc, base, spare, held, n, _, hx', fun k hk => hw k ?_⟩⟩
      · have hj : j < cs'.length := (List.getElem?_eq_some_iff.1 hu).1
        have hat' := hat (i := j) (by omega)
        rw [← add_add_]
        exact hat'.trans hu
      · rw [hxw]
        refine List.mem_cons_of_mem _ (List.mem_append_left _ (mem_weightsAll (j := i) (d := D i) (by simp [hlt]) k hk))
end

/-- Of each place a thing: then a list of them. -/
theorem list_of {α : Type} (Q : Nat → α → Prop) : ∀ n : Nat, (∀ i, i < n → ∃ x, Q i x) → ∃ l : List α, l.length = n ∧ ∀ i x, l[i]? = some x → Q i x
  | 0, _ => ⟨[], rfl, fun i x h => by simp at h⟩
  | n + 1, h => by
    obtain ⟨l, hl, hq⟩ := list_of Q n (fun i hi => h i (by omega))
    obtain ⟨x, hx⟩ := h n (by omega)
    refine ⟨l ++ [x], by simp [hl], fun i y hy => ?_⟩
    rcases Nat.lt_or_ge i l.length with hi | hi
    · rw [List.getElem?_append_left hi] at hy
      exact hq i y hy
    · rw [List.getElem?_append_right hi] at hy
      have : i - l.length = 0 := by
        rcases Nat.eq_zero_or_pos (i - l.length) with h0 | h0
        · exact h0
        · rw [List.getElem?_eq_none (by simp; omega)] at hy; cases hy
      rw [this] at hy
      simp at hy
      subst hy
      rw [show i = n by omega]
      exact hx
/-- Cells, element by element, are the cells of the whole list. -/
theorem flat_cells {α : Type} {w : World} {ad : Addr} (f : α → List Value) (k : Nat) (hf : ∀ x, (f x).length = k) (l : List α)
    (h : ∀ i x, l[i]? = some x → ∀ j u, (f x)[j]? = some u → w.cell? (ad.add (i * k + j)) = some u) : ∀ j u, (l.flatMap f)[j]? = some u → w.cell? (ad.add j) = some u := by
  intro j u hu
  have hlt : j < (l.flatMap f).length := (List.getElem?_eq_some_iff.1 hu).1
  rw [flat_len f k hf] at hlt
  have hk : 0 < k := by
    rcases Nat.eq_zero_or_pos k with h0 | h0
    · rw [h0, Nat.mul_zero] at hlt; omega
    · exact h0
  have hi : j / k < l.length := by rw [Nat.div_lt_iff_lt_mul hk]; exact hlt
  have hx := flat_at f k hf l (j / k) (j % k) l[j / k] (List.getElem?_eq_getElem hi) (Nat.mod_lt _ hk)
  rw [Nat.div_add_mod'] at hx
  rw [hx] at hu
  have := h (j / k) l[j / k] (List.getElem?_eq_getElem hi) (j % k) u hu
  rwa [Nat.div_add_mod'] at this
/-- A slice of things that are read cell by cell. -/
theorem RV.list {P : Program} {w : World} {t e : TypeId} {cs : List Value} {α : Type} (f : α → List Value) (k b : Nat) (ht : P.underlying t = some (.slice e)) (hk : P.cellsOf e = k) (hb : P.bytesOf e = b) (hf : ∀ x, (f x).length = k)
    (he : ∀ cs', RV P w e cs' → ∃ x, cs' = f x) (h : RV P w t cs) : ∃ (A : Option Addr) (c : Nat) (l : List α), cs = [.slice A l.length c] ∧ Rd w k A l.length c (l.flatMap f) ∧ l.length * b ≤ reachBytes := by
  obtain ⟨A, n, c, rfl, h1, h2, h3, hi⟩ := h.slice ht
  rw [hk] at hi
  rw [hb] at h3
  obtain ⟨l, rfl, hq⟩ := list_of (fun i x => ∃ ad, A = some ad ∧ ∀ j u, (f x)[j]? = some u → w.cell? (ad.add (i * k + j)) = some u) n (fun i hlt => by
    obtain ⟨ad, cs', hA, _, hc, hr⟩ := hi i hlt
    obtain ⟨x, rfl⟩ := he cs' hr
    exact ⟨x, ad, hA, hc⟩)
  refine ⟨A, c, l, rfl, ⟨flat_len f k hf l, h1, h2, fun h0 => ?_⟩, h3⟩
  obtain ⟨ad, hA, _⟩ := hq 0 l[0] (List.getElem?_eq_getElem h0)
  refine ⟨ad, hA, flat_cells f k hf l (fun i x hx => ?_)⟩
  obtain ⟨ad', hA', hc⟩ := hq i x hx
  rw [hA] at hA'
  injection hA' with hA'
  subst hA'
  exact hc

/-- An argument: of its type's shape, and it reads. -/
structure Arg (P : Program) (W : World) (t : TypeId) (v : Value) : Prop where
  ok : ∃ r b0, Value.okWide P W r b0 t v
  rv : RV P W t v.cells.toList

section
variable {P : Program} {W : World} {H : Type} {enc : TypeId × Value → H} {base b0 : Nat} {spare : Nat → Bool} {held : Bool} {r : Reach} {t : TypeId} {v : Value} {d : DataW H} {p : List MemPlace}
theorem Arg.of (hv : Value.okWide P W r b0 t v) (h : DataW.Trod enc P W base spare held t v d p) (hw : ∀ n ∈ d.weights P t, n ≤ reachBytes) : Arg P W t v := by
  obtain ⟨fuel, h⟩ := h
  exact ⟨⟨r, b0, hv⟩, ⟨H, enc, base, spare, held, fuel, _, h, hw⟩⟩
theorem Arg.int_ {k : IntKind} (ht : P.underlying t = some (.int k)) (h : Arg P W t v) : ∃ n, v = .int k n := by
  obtain ⟨⟨r, b0, hv⟩, hr⟩ := h
  obtain ⟨n, hn, _⟩ := hr.int_ ht
  unfold Value.okWide at hv
  rw [ht] at hv
  cases v <;> simp [Value.cells] at hn
  · exact ⟨n, by rw [hn.1, hn.2]⟩
  · simp [Cell.okWide, Cell.ok, ht] at hv
theorem Arg.u8 (ht : P.underlying t = some (.int .u8)) (h : Arg P W t v) : ∃ b : UInt8, v = .int .u8 b.toNat := by
  obtain ⟨n, rfl⟩ := h.int_ ht
  obtain ⟨b, hb⟩ := h.rv.u8 ht
  exact ⟨b, by simpa [Value.cells] using hb⟩
theorem Arg.u16 (ht : P.underlying t = some (.int .u16)) (h : Arg P W t v) : ∃ b : UInt16, v = .int .u16 b.toNat := by
  obtain ⟨n, rfl⟩ := h.int_ ht
  obtain ⟨b, hb⟩ := h.rv.u16 ht
  exact ⟨b, by simpa [Value.cells] using hb⟩
theorem Arg.u64 (ht : P.underlying t = some (.int .u64)) (h : Arg P W t v) : ∃ b : UInt64, v = .int .u64 b.toNat := by
  obtain ⟨n, rfl⟩ := h.int_ ht
  obtain ⟨b, hb⟩ := h.rv.u64 ht
  exact ⟨b, by simpa [Value.cells] using hb⟩
theorem Arg.agg (ht : (∃ fs, P.underlying t = some (.struct fs)) ∨ ∃ n e, P.underlying t = some (.array n e)) (h : Arg P W t v) : ∃ cs : List Value, v = .agg cs.toArray ∧ RV P W t cs := by
  obtain ⟨⟨r, b0, hv⟩, hr⟩ := h
  unfold Value.okWide at hv
  rcases ht with ⟨fs, ht⟩ | ⟨n, e, ht⟩ <;>
  · rw [ht] at hv
    obtain ⟨cs, rfl, _⟩ := hv
    exact ⟨cs.toList, by simp, hr⟩
theorem Arg.slice {e : TypeId} (ht : P.underlying t = some (.slice e)) (h : Arg P W t v) : ∃ (A : Option Addr) (n c : Nat), v = .slice A n c ∧ RV P W t [.slice A n c] := by
  obtain ⟨⟨r, b0, hv⟩, hr⟩ := h
  obtain ⟨a, n, c, rfl⟩ := Go.WideShapes.okWide_slice ht hv
  exact ⟨a, n, c, rfl, hr⟩
end
end Go.Proofs.Ytiimdnachgkomaa
