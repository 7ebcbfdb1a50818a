/- Resume, of both clients. -/
import Derived.Test.YtiimdnachgkomaaClients2
import Derived.Test.YtiimdnachgkomaaRefCalls
namespace Go.Proofs.Ytiimdnachgkomaa
open Go Go.RowKit
set_option maxRecDepth 20000 in
theorem RResume (id : UInt8) (n : Nat) (num : UInt64) (w : World) (h2 : id.toNat ≤ 8) :
    Calls Try.prog 27 #[.int .i64 (id.toNat : Int), .int .i64 (n : Int), .int .u64 (num.toNat : Int)] w fun e w' =>
      e = .returned (.pointer (some ⟨w.heap.size, 0, none⟩)) ∧ w' = w.alloc (.cells (RC.cells ⟨id, n, 1, num, 0⟩ false none 0 0) 72) := by
  have hb : (id.toNat : Int) ≤ 8 := by omega
  go_enter Try.func27, Try.ntmps27
  go_wp2_with fail
  go_ret
  exact ⟨rfl, rfl⟩
set_option maxRecDepth 20000 in
theorem Resume_ok (id : UInt8) (n : Nat) (num : UInt64) (w : World) (h1 : 1 ≤ id.toNat) (h2 : id.toNat ≤ 8) (h3 : 1 ≤ n) (h4 : n ≤ 7) :
    Calls Try.prog 26 #[.int .i64 (id.toNat : Int), .int .i64 (n : Int), .int .u64 (num.toNat : Int)] w fun e w' =>
      e = .returned (.pointer (some ⟨w.heap.size, 0, none⟩)) ∧ Blk w' w.heap.size 45 (Cl.shut ⟨id, n, 1, 0, num⟩) ∧ Nw w w' := by
  go_enter Try.func26, Try.ntmps26
  go_wp2_with (go_at_call 24; go_must (refine (New_ok id n w h1 h2 h3 h4).mono ?_); rintro e w1 ⟨rfl, hw1⟩; have hb : Blk w1 w.heap.size 45 (Cl.shut ⟨id, n, 1, 0, 0⟩) := (by rw [hw1]; exact (Blk.new _ _ _)); have hk : Nw w w1 := (by rw [hw1]; exact (Kp.refl _ w).alloc _); have c3 : w1.cell? ⟨w.heap.size, 3, none⟩ = some (.int .u64 0) := hb.cell 3; have f3 : w1.frozen? ⟨w.heap.size, 3, none⟩ = false := hb.free 3; clear hw1)
  go_ret
  exact ⟨rfl, hb.set_ 3 _, hk.setNew (p := ⟨w.heap.size, 3, none⟩) (Nat.le_refl _) _⟩
end Go.Proofs.Ytiimdnachgkomaa
