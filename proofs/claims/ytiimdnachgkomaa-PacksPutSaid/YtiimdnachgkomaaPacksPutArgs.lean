/- PacksPut, of arguments that read. -/
import Derived.Test.YtiimdnachgkomaaPut16
namespace Go.Proofs.Ytiimdnachgkomaa
open Go Go.RowKit
theorem arg_ent' {W : World} {v : Value} (h : Arg Try.prog W 124 v) : ∃ x : EntV, v = .agg x.cells.toArray ∧ x.Ok W := by
  obtain ⟨cs, rfl, hr⟩ := h.agg (.inl ⟨_, Try.underlying124⟩)
  obtain ⟨x, rfl, hx⟩ := rv_ent hr
  exact ⟨x, rfl, hx⟩
theorem arg_rep' {W : World} {v : Value} (h : Arg Try.prog W 34 v) : ∃ x : RepV, v = .agg x.cells.toArray ∧ x.Ok W := by
  obtain ⟨cs, rfl, hr⟩ := h.agg (.inl ⟨_, Try.underlying34⟩)
  obtain ⟨x, rfl, hx⟩ := rv_rep hr
  exact ⟨x, rfl, hx⟩
theorem args_PacksPut (W : World) (v0 v1 : Value) (a0 : Arg Try.prog W 124 v0) (a1 : Arg Try.prog W 34 v1) :
    Calls Try.prog 11 #[v0, v1] W fun e w' => e = .returned (.bool true) ∧ Nw W w' := by
  obtain ⟨x, rfl, hx⟩ := arg_ent' a0
  obtain ⟨r, rfl, hr⟩ := arg_rep' a1
  exact put16_calls x r W hx hr
end Go.Proofs.Ytiimdnachgkomaa
