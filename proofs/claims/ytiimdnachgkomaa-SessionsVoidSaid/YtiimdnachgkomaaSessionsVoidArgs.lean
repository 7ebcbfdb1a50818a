/- SessionsVoid, of arguments that read. -/
import Derived.Test.YtiimdnachgkomaaVoid25
import Derived.Test.YtiimdnachgkomaaRead25
namespace Go.Proofs.Ytiimdnachgkomaa
open Go Go.RowKit
theorem args_SessionsVoid (W : World) (v0 : Value) (a0 : Arg Try.prog W 90 v0) :
    Calls Try.prog 8 #[v0] W fun e w' => e = .returned (.bool true) ∧ Nw W w' := by
  obtain ⟨x, rfl, hx⟩ := arg_act25 a0
  exact void25_calls x.note x.cl x.num x.r.e x.r.at_ x.r.got W
end Go.Proofs.Ytiimdnachgkomaa
