/- Closed facts of the seat's program (part A). -/
import Derived.Test.YtiimdnachgkomaaRows
import Derived.JoinedOf
import Derived.KernelRfl
namespace Go.Proofs.Ytiimdnachgkomaa
open Go
theorem factP_25 : (fun (P : Program) (_f : FuncId) (_fn : Func) (_s : ChangeSpec) (_c : OpenClaim) => (P.mayEnter : Bool)) Try.prog 4 Try.f4 Rows.clientsAroundSpec Rows.clientsAroundRow = true := by kernel_rfl
end Go.Proofs.Ytiimdnachgkomaa
