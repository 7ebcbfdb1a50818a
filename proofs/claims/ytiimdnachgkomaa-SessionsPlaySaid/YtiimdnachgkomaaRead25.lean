/- How the acts on a book of sessions read. -/
import Derived.Test.YtiimdnachgkomaaActRead
namespace Go.Proofs.Ytiimdnachgkomaa
open Go Go.RowKit
structure A25 where
  note : Bool
  cl : UInt8
  num : UInt64
  r : RepV
def A25.cells (x : A25) : List Value := [.bool x.note, .int .u8 x.cl.toNat, .int .u64 x.num.toNat, .int .i64 x.r.e.toInt, .int .i64 x.r.at_.toInt, .slice x.r.got.A x.r.got.l.length x.r.got.c]
theorem cn_act25 : Try.prog.cellsOf 90 = 6 := by kernel_rfl
theorem bn_act25 : Try.prog.bytesOf 90 = 56 := by kernel_rfl
theorem cn_bool : Try.prog.cellsOf 4 = 1 := by kernel_rfl
theorem cn_u8 : Try.prog.cellsOf 5 = 1 := by kernel_rfl
theorem cn_u64 : Try.prog.cellsOf 26 = 1 := by kernel_rfl
theorem cn_rep : Try.prog.cellsOf 34 = 3 := by kernel_rfl
set_option maxRecDepth 100000 in
theorem rv_act25 {W : World} {cs : List Value} (h : RV Try.prog W 90 cs) : ∃ x : A25, cs = x.cells ∧ x.r.Ok W := by
  have hl := (h.struct Try.underlying90).1
  rw [cn_act25] at hl
  obtain ⟨x0, e0⟩ := RV.bool Try.underlying4 (h.at_ Try.underlying90 0 0 1 4 rfl cn_bool)
  obtain ⟨x1, e1⟩ := RV.u8 Try.underlying5 (h.at_ Try.underlying90 1 1 1 5 rfl cn_u8)
  obtain ⟨x2, e2⟩ := RV.u64 Try.underlying26 (h.at_ Try.underlying90 2 2 1 26 rfl cn_u64)
  obtain ⟨x3, e3, k3⟩ := rv_rep (h.at_ Try.underlying90 3 3 3 34 rfl cn_rep)
  have z := cut_next 1 e0 rfl
  rw [cut_next 2 e1 rfl, cut_next 3 e2 rfl, cut_next 6 e3 rfl, List.drop_eq_nil_of_le (show cs.length ≤ 6 by omega)] at z
  exact ⟨⟨x0, x1, x2, x3⟩, z, k3⟩
theorem arg_act25 {W : World} {v : Value} (h : Arg Try.prog W 90 v) : ∃ x : A25, v = .agg x.cells.toArray ∧ x.r.Ok W := by
  obtain ⟨cs, rfl, hr⟩ := h.agg (.inl ⟨_, Try.underlying90⟩)
  obtain ⟨x, rfl, hx⟩ := rv_act25 hr
  exact ⟨x, rfl, hx⟩
/-- Acts, as they lie. -/
structure Acts25 (w : World) (s : Sl A25) : Prop where
  rd : Rd w 6 s.A s.l.length s.c (s.l.flatMap A25.cells)
  each : ∀ (i : Nat) (x : A25), s.l[i]? = some x → x.r.Ok w
  len : Reach s.l.length
theorem arg_acts25 {W : World} {v : Value} (h : Arg Try.prog W 80 v) : ∃ s : Sl A25, v = .slice s.A s.l.length s.c ∧ Acts25 W s := by
  obtain ⟨A, n, c, rfl, hr⟩ := h.slice Try.underlying80
  obtain ⟨B, d, l, hs, h1, h2, h3⟩ := hr.listQ A25.cells (fun x => x.r.Ok W) 6 56 Try.underlying80 cn_act25 bn_act25 (fun _ => rfl) (fun cs' hc => rv_act25 hc)
  injection hs with hs
  exact ⟨⟨l, B, d⟩, hs, ⟨h1, h3, by show l.length ≤ 140737488351232; have : reachBytes = 140737488351232 := rfl; omega⟩⟩
end Go.Proofs.Ytiimdnachgkomaa
