/- Chapter 27's example. -/
import Derived.Test.YtiimdnachgkomaaClients3
import Derived.Deep.LoopGhost
namespace Go.Proofs.Ytiimdnachgkomaa
open Go Go.RowKit

theorem isS_command : IsS Try.prog 24 1 := ⟨⟨_, Try.underlying24, rfl⟩, by kernel_rfl⟩
/-- The example's step. -/
def cmdStep : Step := ⟨10, 0, 0, 1, 0, 0, 0, 0, 0, 0⟩

set_option maxRecDepth 20000 in
set_option maxHeartbeats 400000 in
theorem command_calls (w : World) : Calls Try.prog 25 #[] w fun e w' => ∃ A, e = .returned (.agg #[.slice A [cmdStep].length 1]) ∧ OwnSt w' w.heap.size A 1 [cmdStep] ∧ Nw w w' := by
  go_enter Try.func25, Try.ntmps25
  go_wp2
  exact bodyPost_ret (res_c rfl isS_command _ rfl ((Blk.newAt (by simp) _ _).alloc _) [.slice (some ⟨w.heap.size + 1, 0, none⟩) 1 1] rfl rfl) rfl
    ⟨some ⟨w.heap.size + 1, 0, none⟩, rfl, (Own.of_newAt (by simp) _ 10 1 _ rfl (by simp [maxLen])).low (by simp), ((Kp.refl _ w).alloc _).alloc _⟩

set_option maxRecDepth 20000 in
set_option maxHeartbeats 400000 in
theorem lives27 (w : World) : Calls Try.prog 18 #[] w fun e w' => e = .returned (.bool true) ∧ Nw w w' := by
  go_enter Try.func18, Try.ntmps18
  go_wp2_with (first
    | (go_at_call 24; go_must (refine (New_ok 1 3 w (by decide) (by decide) (by decide) (by decide)).mono ?_); rintro e w1 ⟨rfl, hw1⟩; have hb1 : Blk w1 w.heap.size 45 (Cl.shut ⟨1, 3, 1, 0, 0⟩) := by rw [hw1]; exact Blk.new _ _ _
       have hk1 : Nw w w1 := by rw [hw1]; exact (Kp.refl _ w).alloc _
       have hs1 : w.heap.size < w1.heap.size := hb1.lt
       clear hw1)
    | (go_at_call 25; go_must (refine (command_calls _).mono ?_); rintro e w2 ⟨A, rfl, ho2, hk2⟩)
    | (go_at_call 19; go_must (refine (Call_ok w.heap.size ⟨1, 3, 1, 0, 0⟩ A 1 [cmdStep] w2 (hb1.nw hk2) ho2.rd (by decide) (by decide) (by decide) (by decide) (by decide) (fun _ => ho2.fresh hs1)).mono ?_); rintro e w3 ⟨b3, A3, c3, rfl, hs3, hi3, hk3⟩))
  have hk03 : Nw w w3 := ((hk1.nw hk2).trans hk3 (fun i hi e => by omega))
  obtain ⟨A4, hb3, hL3, ho4⟩ := hs3
  have hs3 := hk2
  clear hk3 hk2 hk1 ho2 hb1
  go_loopw [4] (fun i wr => ∃ k : Nat, k ≤ 4 ∧ i = .int .i64 k ∧ IsO wr w.heap.size ⟨1, 3, 1, k, 1⟩ A3 c3 [cmdStep] ∧ Kp (fun j => j = w.heap.size) w3 wr) (fun i _ => 4 - (intOf i).toNat)
  case atStart => exact ⟨0, by omega, rfl, hi3, Kp.refl _ _⟩
  case round =>
    obtain ⟨k, hk4, rfl, hik, hkk⟩ := hrel
    by_cases hlt : k < 4
    · go_wp2_with (go_at_call 21; go_must (refine (Tick_wait w.heap.size ⟨1, 3, 1, k, 1⟩ A3 c3 [cmdStep] wr hik (show 0 < 3 by omega) hlt).mono ?_); rintro e w4 ⟨rfl, hi4, hk4⟩)
      go_roundw
      case rel => exact ⟨k + 1, by omega, by go_num, hi4, hkk.trans hk4 (fun _ _ e => e)⟩
      case measure => simp [intOf]; omega
    · obtain rfl : k = 4 := by omega
      go_wp2_with (go_at_call 21; go_must (refine (Tick_call w.heap.size ⟨1, 3, 1, 4, 1⟩ A3 c3 [cmdStep] wr hik (by decide) (by decide) rfl).mono ?_); rintro e w4 ⟨b5, rfl, ⟨A5, hb5, hL5, ho5⟩, hi4, hk4⟩; have hL3' := (hL3.kp hkk (fun e => by have := hs3.size; omega)).kp hk4 (fun e => by have := hs3.size; omega); have p0 : w4.cell? ⟨b3, 0, none⟩ = some (.int .u8 6) := hL3'.cell 0; have p1 : w4.cell? ⟨b3, 1, none⟩ = some (.int .u8 101) := hL3'.cell 1; have p2 : w4.cell? ⟨b3, 2, none⟩ = some (.int .u8 1) := hL3'.cell 2; have p3 : w4.cell? ⟨b3, 11, none⟩ = some (.int .u64 1) := hL3'.cell 11; have q2 : w4.cell? ⟨b5, 2, none⟩ = some (.int .u8 2) := hL5.cell 2; have q3 : w4.cell? ⟨b5, 11, none⟩ = some (.int .u64 1) := hL5.cell 11)
      go_ret
      exact ⟨rfl, (hk03.trans hkk (fun i hi e => by omega)).trans hk4 (fun i hi e => by omega)⟩
end Go.Proofs.Ytiimdnachgkomaa
