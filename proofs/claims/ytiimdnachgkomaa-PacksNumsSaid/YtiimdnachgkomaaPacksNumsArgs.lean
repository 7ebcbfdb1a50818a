/- PacksNums, of arguments that read. -/
import Derived.Test.YtiimdnachgkomaaNums16
import Derived.Test.YtiimdnachgkomaaActRead
import Derived.Test.YtiimdnachgkomaaArgBytes
namespace Go.Proofs.Ytiimdnachgkomaa
open Go Go.RowKit
theorem args_PacksNums (W : World) (v0 v1 v2 : Value) (a0 : Arg Try.prog W 26 v0) (a1 : Arg Try.prog W 26 v1) (a2 : Arg Try.prog W 28 v2) :
    Calls Try.prog 10 #[v0, v1, v2] W fun e w' => e = .returned (.bool true) ∧ Nw W w' := by
  obtain ⟨a, rfl⟩ := a0.u64 Try.underlying26
  obtain ⟨b, rfl⟩ := a1.u64 Try.underlying26
  obtain ⟨s, rfl, h1, h2⟩ := arg_bytes a2
  exact nums_calls a b s.A s.c s.l W h1 h2
end Go.Proofs.Ytiimdnachgkomaa
