/- Memory: a struct read at whatever address; an element of a row. -/
import Derived.Test.YtiimdnachgkomaaMem2
import Derived.Test.YtiimdnachgkomaaTypes
namespace Go.Proofs.Ytiimdnachgkomaa
open Go Go.RowKit
section
variable {P : Program} {w : World}
theorem run_ldP {ty k : Nat} (hs : IsS P ty k) {p : Addr} (arr : List Value) (hc : ∀ j v, arr[j]? = some v → w.cell? (p.add j) = some v) (hk : arr.length = k) :
    (loadVar ty p).run P w = .ok (.agg arr.toArray) w := by
  obtain ⟨⟨d, hu, hd⟩, hi⟩ := hs
  have hl : (loadCells p arr.length).run P w = .ok arr.toArray w := run_loadCells_list (P := P) w p arr hc
  cases hq : P.info? ty with
  | none => simp [hq] at hi
  | some i =>
    have hs : i.size = arr.length := by rw [hk]; simpa [hq] using hi
    have hagg : (isAgg ty).run P w = .ok true w := by
      unfold isAgg
      rw [Sem.run_bind, run_underlying hu w]
      cases d <;> simp_all
    simp [loadVar, Sem.run_bind, hagg, sizeOf, typeInfo, hq, hs, hl]
variable {ops : Array Oper} {rest : List Oper} {op : Oper} {a : Act} {Q : Exit → Act → World → Prop}
theorem wpList_ldP (hgd : op.guard = none) (ty : TypeId) (x : Operand) (ho : op.op = .load ty x) {k : Nat} (hs : IsS P ty k) (p : Addr) (hx : a.eval x = .pointer (some p))
    (arr : List Value) (hc : ∀ j v, arr[j]? = some v → w.cell? (p.add j) = some v) (hk : arr.length = k) (h : wpList P ops Q rest (a.put op.dst (.agg arr.toArray)) w) : wpList P ops Q (op :: rest) a w :=
  wpList_plain hgd fun _ hK => by
    unfold Oper.wp execOp
    simp only [ho, hx, Instr.loadAt, Instr.sureAddr, Sem.run_bind, Sem.run_pure, Result.andThen_ok, run_ldP hs arr hc hk]
    exact hK _ _ h
theorem wpStill_ldP {Q : Act → Prop} (hgd : op.guard = none) (ty : TypeId) (x : Operand) (ho : op.op = .load ty x) {k : Nat} (hs : IsS P ty k) (p : Addr) (hx : a.eval x = .pointer (some p))
    (arr : List Value) (hc : ∀ j v, arr[j]? = some v → w.cell? (p.add j) = some v) (hk : arr.length = k) (h : wpStill P ops w Q rest (a.put op.dst (.agg arr.toArray))) : wpStill P ops w Q (op :: rest) a :=
  wpStill_step fun K hK => by
    simp only [Region.wanted, hgd, if_true]
    unfold Oper.still execOp
    simp only [ho, hx, Instr.loadAt, Instr.sureAddr, Sem.run_bind, Sem.run_pure, Result.andThen_ok, run_ldP hs arr hc hk, Oper.stillUpon_value]
    exact hK _ h
/-- An element of a row that reads. -/
theorem Rd.elem {α : Type} {f : α → List Value} {k n c : Nat} {A : Option Addr} {xs : List α} (h : Rd w k A n c (xs.flatMap f)) (hf : ∀ x, (f x).length = k) {i : Nat} (hi : i < xs.length) (hn : 0 < n) :
    ∃ ad, A = some ad ∧ ∀ j v, (f xs[i])[j]? = some v → w.cell? ((ad.add (i * k)).add j) = some v := by
  obtain ⟨ad, hA, hc⟩ := h.at_ hn
  refine ⟨ad, hA, fun j v hv => ?_⟩
  have hj : j < k := by have := (List.getElem?_eq_some_iff.1 hv).1; rwa [hf] at this
  rw [add_add_]
  refine hc _ v ?_
  rw [flat_at f k hf xs i j xs[i] (List.getElem?_eq_getElem hi) hj]
  exact hv
end
section
variable {P : Program} {w : World} {ops : Array Oper} {rest : List Oper} {op : Oper} {a : Act} {Q : Exit → Act → World → Prop}
/-- 's[k:]' of a slice that reads. -/
theorem wpList_from (hgd : op.guard = none) (t e : TypeId) (x lo : Operand) (ho : op.op = .slice t x (some lo) none none) {i : TypeInfo} (hu : P.underlying t = some (.slice e)) (hi : P.info? e = some i) {size : Nat} (hs : i.size = size)
    {A : Option Addr} {n c : Nat} {xs : List Value} (hx : a.eval x = .slice A n c) (hr : Rd w size A n c xs) {kd : IntKind} {k : Nat} (hlo : a.eval lo = .int kd k) (hk : k ≤ n)
    (h : ∀ A2, Rd w size A2 (n - k) (c - k) (xs.drop (k * size)) → blkOf A2 = blkOf A → wpList P ops Q rest (a.put op.dst (.slice A2 (n - k) (c - k))) w) : wpList P ops Q (op :: rest) a w :=
  wpList_plain hgd fun _ hK => by
    have he : P.elem t = e := by unfold Program.elem; rw [hu]
    have hsz : (sizeOf e).run P w = .ok size w := by simp [sizeOf, typeInfo, hi, hs]
    have hrun := run_slice_l (P := P) w t A n c (by rw [he]; exact hu) kd k (by omega) (by omega)
    rw [he, hsz] at hrun
    simp only [Result.andThen, sliced, Int.toNat_natCast] at hrun
    have hat : (Instr.sliceAt t (.slice A n c) (some (.int kd k)) none none).run P w = .ok (.slice (if c = k then A else A.map (·.add (k * size))) (n - k) (c - k)) w := by
      rw [run_sliceAt_slice w t _ _ _ _ (by rw [he]; exact hu)]; exact hrun
    unfold Oper.wp execOp
    simp only [ho, hx, hlo, Option.map, Sem.run_bind, hat, Result.andThen_ok, Sem.run_pure]
    refine hK _ _ (h _ (hr.cut hk) ?_)
    split
    · rfl
    · rcases A with _ | ad
      · rfl
      · simp [blkOf, block_add]
end
end Go.Proofs.Ytiimdnachgkomaa
