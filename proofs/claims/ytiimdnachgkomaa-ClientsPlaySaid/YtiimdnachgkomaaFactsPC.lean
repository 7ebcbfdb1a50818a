/- Closed facts of the seat's program (part C). -/
import Derived.Test.YtiimdnachgkomaaRows
import Derived.JoinedOf
import Derived.KernelRfl
namespace Go.Proofs.Ytiimdnachgkomaa
open Go
theorem factP_27 : (fun (P : Program) (_f : FuncId) (_fn : Func) (_s : ChangeSpec) (c : OpenClaim) => ((P.make == some c.make) : Bool)) Try.prog 4 Try.f4 Rows.clientsAroundSpec Rows.clientsAroundRow = true := by kernel_rfl
theorem factP_1 : (fun (P : Program) (_f : FuncId) (_fn : Func) (_s : ChangeSpec) (_c : OpenClaim) => (laidOutB P : Bool)) Try.prog 4 Try.f4 Rows.clientsAroundSpec Rows.clientsAroundRow = true := by kernel_rfl
theorem factP_2 : (fun (P : Program) (_f : FuncId) (_fn : Func) (_s : ChangeSpec) (_c : OpenClaim) => (mapsRowed P : Bool)) Try.prog 4 Try.f4 Rows.clientsAroundSpec Rows.clientsAroundRow = true := by kernel_rfl
theorem factP_6 : (fun (P : Program) (_f : FuncId) (_fn : Func) (_s : ChangeSpec) (_c : OpenClaim) => ((P.stops == []) : Bool)) Try.prog 4 Try.f4 Rows.clientsAroundSpec Rows.clientsAroundRow = true := by kernel_rfl
theorem factP_8 : (fun (P : Program) (_f : FuncId) (_fn : Func) (_s : ChangeSpec) (_c : OpenClaim) => ((P.stopKnobs == []) : Bool)) Try.prog 4 Try.f4 Rows.clientsAroundSpec Rows.clientsAroundRow = true := by kernel_rfl
theorem factP_22 : (fun (P : Program) (_f : FuncId) (_fn : Func) (_s : ChangeSpec) (c : OpenClaim) => ((c.plainKeys == P.plainKeys) : Bool)) Try.prog 4 Try.f4 Rows.clientsAroundSpec Rows.clientsAroundRow = true := by kernel_rfl
theorem factP_24 : (fun (P : Program) (_f : FuncId) (_fn : Func) (_s : ChangeSpec) (_c : OpenClaim) => (P.stopsHeard : Bool)) Try.prog 4 Try.f4 Rows.clientsAroundSpec Rows.clientsAroundRow = true := by kernel_rfl
end Go.Proofs.Ytiimdnachgkomaa
