/- Memory: structs read out of a row of structs; fields of an element. -/
import Derived.Test.YtiimdnachgkomaaMem
namespace Go.Proofs.Ytiimdnachgkomaa
open Go Go.RowKit
theorem fld_ (a : Addr) (i j : Nat) (hj : j ≠ 0) : (⟨(a.add i).block, (a.add i).off + j, none⟩ : Addr) = a.add (i + j) := by
  unfold Addr.add
  split
  · next h => subst h; simp [hj]
  · rw [if_neg (by omega)]; simp; omega
theorem wrapS (q : Nat) (h : q ≤ 1000000000000000) : wrap64 ((q : Int) + 1) = ((q + 1 : Nat) : Int) := by unfold wrap64; omega
section
variable {P : Program} {w : World}
theorem run_ldA {ty k : Nat} (hs : IsS P ty k) {g o : Nat} (arr : List Value) (hc : ∀ j v, arr[j]? = some v → w.cell? ⟨g, o + j, none⟩ = some v) (hk : arr.length = k) :
    (loadVar ty ⟨g, o, none⟩).run P w = .ok (.agg arr.toArray) w := by
  obtain ⟨⟨d, hu, hd⟩, hi⟩ := hs
  exact run_loadVar_mid w g o ty arr d hc hu hd (by rw [hi, hk])
variable {ops : Array Oper} {rest : List Oper} {op : Oper} {a : Act} {Q : Exit → Act → World → Prop}
/-- A struct is read, of which each cell is known. -/
theorem wpList_ldA (hgd : op.guard = none) (ty : TypeId) (x : Operand) (ho : op.op = .load ty x) {k : Nat} (hs : IsS P ty k) (g o : Nat) (hx : a.eval x = .pointer (some ⟨g, o, none⟩))
    (arr : List Value) (hc : ∀ j v, arr[j]? = some v → w.cell? ⟨g, o + j, none⟩ = some v) (hk : arr.length = k) (h : wpList P ops Q rest (a.put op.dst (.agg arr.toArray)) w) : wpList P ops Q (op :: rest) a w :=
  wpList_plain hgd fun _ hK => by
    unfold Oper.wp execOp
    simp only [ho, hx, Instr.loadAt, Instr.sureAddr, Sem.run_bind, Sem.run_pure, Result.andThen_ok, run_ldA hs arr hc hk]
    exact hK _ _ h
end
end Go.Proofs.Ytiimdnachgkomaa
