/- ClientsPlay, of arguments that read. -/
import Derived.Test.YtiimdnachgkomaaPlay27c
import Derived.Test.YtiimdnachgkomaaActRead
namespace Go.Proofs.Ytiimdnachgkomaa
open Go Go.RowKit
theorem cells_2int : Try.prog.cellsOf 60 = 2 := by kernel_rfl
theorem cells_int : Try.prog.cellsOf 3 = 1 := by kernel_rfl
theorem bn_act27 : Try.prog.bytesOf 38 = 224 := by kernel_rfl
theorem cn_act27 : Try.prog.cellsOf 38 = 20 := by kernel_rfl
theorem pair_of27 {cs : List Value} (h : cs.length = 2) : ∃ x y, cs = [x, y] := by
  match cs, h with
  | [x, y], _ => exact ⟨x, y, rfl⟩
set_option maxRecDepth 100000 in
theorem arg_2int {W : World} {v : Value} (h : Arg Try.prog W 60 v) : ∃ b c : Int, v = .agg #[.int .i64 b, .int .i64 c] := by
  obtain ⟨cs, rfl, hr⟩ := h.agg (.inr ⟨2, 3, Try.underlying60⟩)
  obtain ⟨hl, hi⟩ := hr.array Try.underlying60
  rw [cells_2int] at hl
  rw [cells_int] at hi
  obtain ⟨a, ha⟩ := (hi 0 (by omega)).i64 Try.underlying3
  obtain ⟨b, hb⟩ := (hi 1 (by omega)).i64 Try.underlying3
  obtain ⟨x, y, rfl⟩ := pair_of27 hl
  simp at ha hb
  subst ha hb
  exact ⟨a.toInt, b.toInt, rfl⟩
theorem arg_acts27 {W : World} {v : Value} (h : Arg Try.prog W 40 v) : ∃ s : Sl ActV, v = .slice s.A s.l.length s.c ∧ ActsOk W s := by
  obtain ⟨A, n, c, rfl, hr⟩ := h.slice Try.underlying40
  obtain ⟨B, d, l, hs, h1, h2, h3⟩ := hr.listQ ActV.cells (fun x => x.Ok W) 20 224 Try.underlying40 cn_act27 bn_act27 (fun _ => rfl) (fun cs' hc => rv_act27 hc)
  injection hs with hs
  exact ⟨⟨l, B, d⟩, hs, ⟨h1, h3, by show l.length ≤ 140737488351232; have : reachBytes = 140737488351232 := rfl; omega⟩⟩
theorem args_ClientsPlay (W : World) (v0 v1 v2 : Value) (a0 : Arg Try.prog W 60 v0) (a1 : Arg Try.prog W 26 v1) (a2 : Arg Try.prog W 40 v2) :
    Calls Try.prog 5 #[v0, v1, v2] W fun e w' => e = .returned (.bool true) ∧ Nw W w' := by
  obtain ⟨a, b, rfl⟩ := arg_2int a0
  obtain ⟨num, rfl⟩ := a1.u64 Try.underlying26
  obtain ⟨s, rfl, hs⟩ := arg_acts27 a2
  exact play27_calls a b num s W hs
end Go.Proofs.Ytiimdnachgkomaa
