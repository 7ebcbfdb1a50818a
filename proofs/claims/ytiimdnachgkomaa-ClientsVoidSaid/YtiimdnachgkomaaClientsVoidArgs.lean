/- ClientsVoid, of arguments that read. -/
import Derived.Test.YtiimdnachgkomaaVoid
import Derived.Test.YtiimdnachgkomaaActRead
namespace Go.Proofs.Ytiimdnachgkomaa
open Go Go.RowKit
theorem args_ClientsVoid (W : World) (v0 : Value) (a0 : Arg Try.prog W 38 v0) :
    Calls Try.prog 3 #[v0] W fun e w' => e = .returned (.bool true) ∧ Nw W w' := by
  obtain ⟨x, rfl, hx⟩ := arg_act27 a0
  exact void_calls x W hx
end Go.Proofs.Ytiimdnachgkomaa
