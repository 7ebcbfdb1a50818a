/- PacksBack, of arguments that read. -/
import Derived.Test.YtiimdnachgkomaaBack16
import Derived.Test.YtiimdnachgkomaaActRead
namespace Go.Proofs.Ytiimdnachgkomaa
open Go Go.RowKit
theorem cells_2u16 : Try.prog.cellsOf 132 = 2 := by kernel_rfl
theorem cells_u16 : Try.prog.cellsOf 104 = 1 := by kernel_rfl
theorem pair_of {cs : List Value} (h : cs.length = 2) : ∃ x y, cs = [x, y] := by
  match cs, h with
  | [x, y], _ => exact ⟨x, y, rfl⟩
set_option maxRecDepth 100000 in
theorem arg_2u16 {W : World} {v : Value} (h : Arg Try.prog W 132 v) : ∃ b c : UInt16, v = .agg #[.int .u16 b.toNat, .int .u16 c.toNat] := by
  obtain ⟨cs, rfl, hr⟩ := h.agg (.inr ⟨2, 104, Try.underlying132⟩)
  obtain ⟨hl, hi⟩ := hr.array Try.underlying132
  rw [cells_2u16] at hl
  rw [cells_u16] at hi
  obtain ⟨a, ha⟩ := (hi 0 (by omega)).u16 Try.underlying104
  obtain ⟨b, hb⟩ := (hi 1 (by omega)).u16 Try.underlying104
  obtain ⟨x, y, rfl⟩ := pair_of hl
  simp at ha hb
  subst ha hb
  exact ⟨a, b, rfl⟩
theorem arg_ent {W : World} {v : Value} (h : Arg Try.prog W 124 v) : ∃ x : EntV, v = .agg x.cells.toArray ∧ x.Ok W := by
  obtain ⟨cs, rfl, hr⟩ := h.agg (.inl ⟨_, Try.underlying124⟩)
  obtain ⟨x, rfl, hx⟩ := rv_ent hr
  exact ⟨x, rfl, hx⟩
theorem arg_rep {W : World} {v : Value} (h : Arg Try.prog W 34 v) : ∃ x : RepV, v = .agg x.cells.toArray ∧ x.Ok W := by
  obtain ⟨cs, rfl, hr⟩ := h.agg (.inl ⟨_, Try.underlying34⟩)
  obtain ⟨x, rfl, hx⟩ := rv_rep hr
  exact ⟨x, rfl, hx⟩
theorem args_PacksBack (W : World) (v0 v1 v2 : Value) (a0 : Arg Try.prog W 124 v0) (a1 : Arg Try.prog W 34 v1) (a2 : Arg Try.prog W 132 v2) :
    Calls Try.prog 12 #[v0, v1, v2] W fun e w' => e = .returned (.bool true) ∧ Nw W w' := by
  obtain ⟨x, rfl, hx⟩ := arg_ent a0
  obtain ⟨r, rfl, hr⟩ := arg_rep a1
  obtain ⟨b, c, rfl⟩ := arg_2u16 a2
  exact back16_calls x r b c W hx hr
end Go.Proofs.Ytiimdnachgkomaa
