/- SessionsPlay, of arguments that read. -/
import Derived.Test.YtiimdnachgkomaaPlay
namespace Go.Proofs.Ytiimdnachgkomaa
open Go Go.RowKit
theorem args_SessionsPlay (W : World) (v0 : Value) (a0 : Arg Try.prog W 80 v0) :
    Calls Try.prog 6 #[v0] W fun e w' => e = .returned (.bool true) ∧ Nw W w' := by
  obtain ⟨s, rfl, hs⟩ := arg_acts25 a0
  exact play_calls s W hs
end Go.Proofs.Ytiimdnachgkomaa
