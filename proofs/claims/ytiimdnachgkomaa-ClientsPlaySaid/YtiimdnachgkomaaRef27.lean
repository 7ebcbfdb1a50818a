/- The document's client: Tick, Call, Take. -/
import Derived.Test.YtiimdnachgkomaaRefCalls
namespace Go.Proofs.Ytiimdnachgkomaa
open Go Go.RowKit

set_option maxRecDepth 20000 in
theorem RTick_shut (g : Nat) (s : RC) (A : Option Addr) (k c : Nat) (w : World) (hb : Blk w g 72 (s.cells false A k c)) :
    Calls Try.prog 32 #[.pointer (some ⟨g, 0, none⟩)] w fun e w' => e = .returned (.slice none 0 0) ∧ w' = w := by
  have c4 : w.cell? ⟨g, 4, none⟩ = some (.bool false) := hb.cell 4
  go_enter Try.func32, Try.ntmps32
  go_wp2_with fail
  go_ret
  exact ⟨rfl, rfl⟩
set_option maxRecDepth 20000 in
theorem RTick_wait (g : Nat) (s : RC) (A : Option Addr) (k c : Nat) (w : World) (hb : Blk w g 72 (s.cells true A k c)) (hw : s.waits < 4) :
    Calls Try.prog 32 #[.pointer (some ⟨g, 0, none⟩)] w fun e w' => e = .returned (.slice none 0 0) ∧ Blk w' g 72 (RC.cells { s with waits := s.waits + 1 } true A k c) ∧ Kp (fun k => k = g) w w' := by
  have c4 : w.cell? ⟨g, 4, none⟩ = some (.bool true) := hb.cell 4
  have c6 : w.cell? ⟨g, 6, none⟩ = some (.int .i64 s.waits) := hb.cell 6
  have f6 : w.frozen? ⟨g, 6, none⟩ = false := hb.free 6
  have hd : decide ((s.waits : Int) + 1 < 5) = true := decide_eq_true (by omega)
  go_enter Try.func32, Try.ntmps32
  go_wp2_with fail
  go_ret
  exact ⟨rfl, hb.set_ 6 _, Kp.setCell (p := ⟨g, 6, none⟩) (Kp.refl (fun k => k = g) w) (fun _ => rfl) _⟩
set_option maxRecDepth 20000 in
set_option maxHeartbeats 400000 in
theorem RTick_call (g : Nat) (s : RC) (A : Option Addr) (k c : Nat) (w : World) (hb : Blk w g 72 (s.cells true A k c)) (hn : 0 < s.n) (hn7 : s.n ≤ 7) (h1 : 1 ≤ s.to) (hto : s.to ≤ s.n) (hid : s.id.toNat ≤ 8) (hw : s.waits = 4) :
    Calls Try.prog 32 #[.pointer (some ⟨g, 0, none⟩)] w fun e w' =>
      ∃ b, e = .returned (.slice (some ⟨b, 0, none⟩) 1 1) ∧ w.heap.size ≤ b ∧ Blk w' b 76 (RC.ltr { s with to := s.to % s.n + 1 } A k c).toArray ∧ Blk w' g 72 (RC.cells { s with to := s.to % s.n + 1, waits := 0 } true A k c) ∧ Kp (fun k => k = g) w w' := by
  have c4 : w.cell? ⟨g, 4, none⟩ = some (.bool true) := hb.cell 4
  have c6 : w.cell? ⟨g, 6, none⟩ = some (.int .i64 4) := (hb.cell 6).trans (by show some (Value.int .i64 (s.waits : Int)) = _; rw [hw]; rfl)
  have f6 : w.frozen? ⟨g, 6, none⟩ = false := hb.free 6
  have c2 : w.cell? ⟨g, 2, none⟩ = some (.int .i64 s.to) := hb.cell 2
  have c1 : w.cell? ⟨g, 1, none⟩ = some (.int .i64 s.n) := hb.cell 1
  have f2 : w.frozen? ⟨g, 2, none⟩ = false := hb.free 2
  have hb2 := (hb.set_ 6 (.int .i64 5)).set_ 2 (.int .i64 ((s.to : Int) + 1))
  have hk2 := Kp.setCell (p := ⟨g, 2, none⟩) (Kp.setCell (p := ⟨g, 6, none⟩) (Kp.refl (fun k => k = g) w) (fun _ => rfl) (.int .i64 5)) (fun _ => rfl) (.int .i64 ((s.to : Int) + 1))
  by_cases hlt : s.to < s.n
  · have hd : decide ((s.n : Int) < (s.to : Int) + 1) = false := decide_eq_false (by omega)
    go_enter Try.func32, Try.ntmps32
    go_wp2_with fail
    go_quiet (fail)
    go_wp2_with (go_at_call 92; go_must (refine (rcalls g ⟨s.id, s.n, s.to + 1, s.num, 5⟩ true A k c _ (hb2.drewN _) (by simp only []; omega) hid).mono ?_); rintro e w3 ⟨b, rfl, h1, h2, h3, h4⟩)
    go_ret
    have e : s.to % s.n + 1 = s.to + 1 := by rw [Nat.mod_eq_of_lt hlt]
    simp only [e]
    exact ⟨b, rfl, Nat.le_trans hk2.size (by simpa using h1), h2, h3, (hk2.drewN _).trans h4 (fun _ _ e => e)⟩
  · have hd : decide ((s.n : Int) < (s.to : Int) + 1) = true := decide_eq_true (by omega)
    go_enter Try.func32, Try.ntmps32
    go_wp2_with fail
    go_quiet (fail)
    go_wp2_with (go_at_call 92; go_must (refine (rcalls g ⟨s.id, s.n, 1, s.num, 5⟩ true A k c _ ((hb2.drewN _).set_ 2 (.int .i64 1)) (by simp only []; omega) hid).mono ?_); rintro e w3 ⟨b, rfl, h1, h2, h3, h4⟩)
    go_ret
    have e : s.to % s.n + 1 = 1 := by rw [show s.to = s.n by omega, Nat.mod_self]
    simp only [e]
    exact ⟨b, rfl, Nat.le_trans hk2.size (by simpa using h1), h2, h3, ((hk2.drewN _).setCell (p := ⟨g, 2, none⟩) (fun _ => rfl) _).trans h4 (fun _ _ e => e)⟩

set_option maxRecDepth 20000 in
theorem RCall_open (g : Nat) (s : RC) (A : Option Addr) (k c : Nat) (B : Option Addr) (n d : Nat) (w : World) (hb : Blk w g 72 (s.cells true A k c)) :
    Calls Try.prog 29 #[.pointer (some ⟨g, 0, none⟩), .agg #[.slice B n d]] w fun e w' => e = .returned (.tuple #[.slice none 0 0, .int .i64 17]) ∧ Nw w w' := by
  have c4 : w.cell? ⟨g, 4, none⟩ = some (.bool true) := hb.cell 4
  have hg := hb.lt
  go_enter Try.func29, Try.ntmps29
  go_wp2_with fail
  go_ret2
  exact ⟨rfl, (Kp.refl _ w).alloc _⟩
set_option maxRecDepth 20000 in
theorem RCall_arg (g : Nat) (s : RC) (A : Option Addr) (k c : Nat) (B : Option Addr) (n d : Nat) (w : World) (hb : Blk w g 72 (s.cells false A k c)) (hn : n = 0 ∨ 8 < n) :
    Calls Try.prog 29 #[.pointer (some ⟨g, 0, none⟩), .agg #[.slice B n d]] w fun e w' => e = .returned (.tuple #[.slice none 0 0, .int .i64 1]) ∧ Nw w w' := by
  have c4 : w.cell? ⟨g, 4, none⟩ = some (.bool false) := hb.cell 4
  have hg := hb.lt
  rcases hn with rfl | hn
  · go_enter Try.func29, Try.ntmps29
    go_wp2_with fail
    go_ret2
    exact ⟨rfl, (Kp.refl _ w).alloc _⟩
  · have h1 : decide ((n : Int) < 1) = false := decide_eq_false (by omega)
    have h2 : decide (8 < (n : Int)) = true := decide_eq_true (by omega)
    go_enter Try.func29, Try.ntmps29
    go_wp2_with fail
    go_ret2
    exact ⟨rfl, (Kp.refl _ w).alloc _⟩
end Go.Proofs.Ytiimdnachgkomaa
