/- PacksOne, of arguments that read. -/
import Derived.Test.YtiimdnachgkomaaOne16
import Derived.Test.YtiimdnachgkomaaActRead
import Derived.Test.YtiimdnachgkomaaArgBytes
namespace Go.Proofs.Ytiimdnachgkomaa
open Go Go.RowKit
theorem args_PacksOne (W : World) (v0 : Value) (a0 : Arg Try.prog W 28 v0) :
    Calls Try.prog 14 #[v0] W fun e w' => e = .returned (.bool true) ∧ Nw W w' := by
  obtain ⟨s, rfl, h1, h2⟩ := arg_bytes a0
  exact one16_calls s.A s.c s.l W h1
end Go.Proofs.Ytiimdnachgkomaa
