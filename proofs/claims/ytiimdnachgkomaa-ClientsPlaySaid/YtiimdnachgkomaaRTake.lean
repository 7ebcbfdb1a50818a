/- The document's client takes a letter. -/
import Derived.Test.YtiimdnachgkomaaRef27b
import Derived.Test.YtiimdnachgkomaaSameL
namespace Go.Proofs.Ytiimdnachgkomaa
open Go Go.RowKit
set_option maxRecDepth 20000 in
set_option maxHeartbeats 1000000 in
theorem RTake_shut (g : Nat) (s : RC) (A : Option Addr) (k c : Nat) (L : Array Value) (w : World) (hb : Blk w g 72 (s.cells false A k c)) :
    Calls Try.prog 33 #[.pointer (some ⟨g, 0, none⟩), .agg L] w fun e w' => e = .returned (.tuple #[.agg #[.int .i64 0, .int .i64 0, .slice none 0 0], .bool false, .slice none 0 0]) ∧ Nw w w' := by
  have c4 : w.cell? ⟨g, 4, none⟩ = some (.bool false) := hb.cell 4
  have hg := hb.lt
  have hg1 : g < w.heap.size + 1 := by omega
  have hg2 : g < w.heap.size + 1 + 1 := by omega
  go_enter Try.func33, Try.ntmps33
  go_wp2_with fail
  go_quiet (fail)
  go_wp2_with fail
  exact bodyPost_ret (res_ctt rfl ⟨⟨_, Try.underlying34, rfl⟩, by kernel_rfl⟩ _ rfl (((((Blk.newAt (by simp) 34 _).drewN nq).set_ 0 _).set_ 1 _).set_ 2 _) [.int .i64 0, .int .i64 0, .slice none 0 0] rfl rfl) rfl
    ⟨rfl, (((((((Kp.refl _ w).alloc _).alloc _).drewN nq).setNew (by simp) _).setNew (by simp) _).setNew (by simp) _)⟩
end Go.Proofs.Ytiimdnachgkomaa
