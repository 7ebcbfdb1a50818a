/- Facts on element types; slices.Clone and slices.Clip at each of them. -/
import Derived.Test.YtiimdnachgkomaaMem
namespace Go.Proofs.Ytiimdnachgkomaa
open Go Go.RowKit
theorem info_byte : (Try.prog.info? 5).map (fun i => (i.zero, i.size, i.bytes)) = some (some (.int .u8 0), 1, 1) := by kernel_rfl
theorem info_step : (Try.prog.info? 169).map (fun i => (i.zero, i.size, i.bytes)) = some (some (.agg #[.int .u8 0, .int .u8 0, .int .u8 0, .int .u8 0, .int .u8 0, .int .i64 0, .int .i64 0, .int .i64 0, .int .i64 0, .int .u64 0]), 10, 48) := by kernel_rfl
theorem info_got : (Try.prog.info? 93).map (fun i => (i.zero, i.size, i.bytes)) = some (some (.agg #[.int .i64 0, .int .i64 0]), 2, 16) := by kernel_rfl
theorem info_party : (Try.prog.info? 164).map (fun i => (i.zero, i.size, i.bytes)) = some (some (.int .u8 0), 1, 1) := by kernel_rfl
theorem info_line : (Try.prog.info? 213).map (fun i => (i.zero, i.size, i.bytes)) = some (some (.agg #[.int .u8 0, .int .u8 0, .int .u8 0, .int .i64 0, .int .i64 0]), 5, 24) := by kernel_rfl
theorem info_offer : (Try.prog.info? 216).map (fun i => (i.zero, i.size, i.bytes)) = some (some (.agg #[.int .u64 0, .int .u8 0, .int .u8 0, .int .u8 0, .int .i64 0, .int .i64 0, .int .i64 0]), 7, 40) := by kernel_rfl
theorem info_entry : (Try.prog.info? 124).map (fun i => (i.zero, i.size, i.bytes)) = some (some (.agg #[.int .u64 0, .int .u64 0, .int .u8 0, .int .u64 0, .slice none 0 0]), 5, 56) := by kernel_rfl

set_option maxHeartbeats 400000 in
theorem clone_byte (A : Option Addr) (n c : Nat) (xs : List Value) (w : World) (hr : Rd w 1 A n c xs) (h1 : ∀ u ∈ xs, u.oneCell' = true) (hn : n ≤ big) :
    Calls Try.prog 103 #[.slice A n c] w fun e w' => ∃ A2 c2, e = .returned (.slice A2 n c2) ∧ Own w' w.heap.size 5 1 A2 n c2 xs ∧ Nw w w' := by
  obtain ⟨i0, hi0, hz0, hz1, hz2⟩ := info_parts info_byte
  have q0 : ∀ (w : World) (a : Option Addr) (n c n' c' : Nat), (binOp .eql 28 (.slice a n c) (.slice none n' c')).run Try.prog w = .ok (.bool a.isNone) w := fun w a n c n' c' => Lib.run_eql_slice_nil w _ _ a n c n' c' Try.underlying28
  have hfit : Fits (0 + n) 1 := Fits.of (by omega) (by omega)
  rcases A with _ | a
  · have h0 : n = 0 := by
      rcases Nat.eq_zero_or_pos n with h | h
      · exact h
      · obtain ⟨_, h, _⟩ := hr.at_ h; cases h
    subst h0
    have hx := hr.empty rfl
    subst hx
    go_enter Try.func103, Try.ntmps103
    go_wp2
    go_ret
    exact ⟨_, _, rfl, Own.nil _ _ _ _, Kp.refl _ _⟩
  · go_enter Try.func103, Try.ntmps103
    go_wp2_with (at_builtin; go_must (refine wpList_append_ _ rfl (.tmp 5) (.tmp 6) 28 rfl w.heap.size 5 i0 _ 1 1 Try.underlying28 hi0 hz0 hz1 hz2 rfl (some ⟨w.heap.size, 0, none⟩) 0 0 [] rfl (Own.of_new w _ 1 0 #[] rfl (by simp [maxLen])) (some a) n c xs rfl (hr.alloc _) h1 hfit (by simp) ?_); intro A2 c2 w2 ho hk hb)
    go_ret
    exact ⟨A2, c2, rfl, by simpa using ho, ((Kp.refl _ w).alloc _).trans hk (fun i hi e => by simp [blkOf] at e; omega)⟩

set_option maxHeartbeats 400000 in
theorem clone_step (A : Option Addr) (n c : Nat) (xs : List Value) (w : World) (hr : Rd w 10 A n c xs) (h1 : ∀ u ∈ xs, u.oneCell' = true) (hn : n ≤ big) :
    Calls Try.prog 86 #[.slice A n c] w fun e w' => ∃ A2 c2, e = .returned (.slice A2 n c2) ∧ Own w' w.heap.size 169 10 A2 n c2 xs ∧ Nw w w' := by
  obtain ⟨i0, hi0, hz0, hz1, hz2⟩ := info_parts info_step
  have q0 : ∀ (w : World) (a : Option Addr) (n c n' c' : Nat), (binOp .eql 22 (.slice a n c) (.slice none n' c')).run Try.prog w = .ok (.bool a.isNone) w := fun w a n c n' c' => Lib.run_eql_slice_nil w _ _ a n c n' c' Try.underlying22
  have hfit : Fits (0 + n) 48 := Fits.of (by omega) (by omega)
  rcases A with _ | a
  · have h0 : n = 0 := by
      rcases Nat.eq_zero_or_pos n with h | h
      · exact h
      · obtain ⟨_, h, _⟩ := hr.at_ h; cases h
    subst h0
    have hx := hr.empty rfl
    subst hx
    go_enter Try.func86, Try.ntmps86
    go_wp2
    go_ret
    exact ⟨_, _, rfl, Own.nil _ _ _ _, Kp.refl _ _⟩
  · go_enter Try.func86, Try.ntmps86
    go_wp2_with (at_builtin; go_must (refine wpList_append_ _ rfl (.tmp 5) (.tmp 6) 22 rfl w.heap.size 169 i0 _ 10 48 Try.underlying22 hi0 hz0 hz1 hz2 rfl (some ⟨w.heap.size, 0, none⟩) 0 0 [] rfl (Own.of_new w _ 10 0 #[] rfl (by simp [maxLen])) (some a) n c xs rfl (hr.alloc _) h1 hfit (by simp) ?_); intro A2 c2 w2 ho hk hb)
    go_ret
    exact ⟨A2, c2, rfl, by simpa using ho, ((Kp.refl _ w).alloc _).trans hk (fun i hi e => by simp [blkOf] at e; omega)⟩

set_option maxHeartbeats 400000 in
theorem clone_got (A : Option Addr) (n c : Nat) (xs : List Value) (w : World) (hr : Rd w 2 A n c xs) (h1 : ∀ u ∈ xs, u.oneCell' = true) (hn : n ≤ big) :
    Calls Try.prog 90 #[.slice A n c] w fun e w' => ∃ A2 c2, e = .returned (.slice A2 n c2) ∧ Own w' w.heap.size 93 2 A2 n c2 xs ∧ Nw w w' := by
  obtain ⟨i0, hi0, hz0, hz1, hz2⟩ := info_parts info_got
  have q0 : ∀ (w : World) (a : Option Addr) (n c n' c' : Nat), (binOp .eql 32 (.slice a n c) (.slice none n' c')).run Try.prog w = .ok (.bool a.isNone) w := fun w a n c n' c' => Lib.run_eql_slice_nil w _ _ a n c n' c' Try.underlying32
  have hfit : Fits (0 + n) 16 := Fits.of (by omega) (by omega)
  rcases A with _ | a
  · have h0 : n = 0 := by
      rcases Nat.eq_zero_or_pos n with h | h
      · exact h
      · obtain ⟨_, h, _⟩ := hr.at_ h; cases h
    subst h0
    have hx := hr.empty rfl
    subst hx
    go_enter Try.func90, Try.ntmps90
    go_wp2
    go_ret
    exact ⟨_, _, rfl, Own.nil _ _ _ _, Kp.refl _ _⟩
  · go_enter Try.func90, Try.ntmps90
    go_wp2_with (at_builtin; go_must (refine wpList_append_ _ rfl (.tmp 5) (.tmp 6) 32 rfl w.heap.size 93 i0 _ 2 16 Try.underlying32 hi0 hz0 hz1 hz2 rfl (some ⟨w.heap.size, 0, none⟩) 0 0 [] rfl (Own.of_new w _ 2 0 #[] rfl (by simp [maxLen])) (some a) n c xs rfl (hr.alloc _) h1 hfit (by simp) ?_); intro A2 c2 w2 ho hk hb)
    go_ret
    exact ⟨A2, c2, rfl, by simpa using ho, ((Kp.refl _ w).alloc _).trans hk (fun i hi e => by simp [blkOf] at e; omega)⟩

set_option maxHeartbeats 400000 in
theorem clip_byte (A : Option Addr) (n c : Nat) (w : World) (h1 : n ≤ c) :
    Calls Try.prog 100 #[.slice A n c] w fun e w' => e = .returned (.slice A n n) ∧ w' = w := by
  go_enter Try.func100, Try.ntmps100
  go_wp2
  go_ret
  exact ⟨rfl, rfl⟩

set_option maxHeartbeats 400000 in
theorem clip_step (A : Option Addr) (n c : Nat) (w : World) (h1 : n ≤ c) :
    Calls Try.prog 140 #[.slice A n c] w fun e w' => e = .returned (.slice A n n) ∧ w' = w := by
  go_enter Try.func140, Try.ntmps140
  go_wp2
  go_ret
  exact ⟨rfl, rfl⟩

set_option maxHeartbeats 400000 in
theorem clip_got (A : Option Addr) (n c : Nat) (w : World) (h1 : n ≤ c) :
    Calls Try.prog 89 #[.slice A n c] w fun e w' => e = .returned (.slice A n n) ∧ w' = w := by
  go_enter Try.func89, Try.ntmps89
  go_wp2
  go_ret
  exact ⟨rfl, rfl⟩

set_option maxHeartbeats 400000 in
theorem clip_party (A : Option Addr) (n c : Nat) (w : World) (h1 : n ≤ c) :
    Calls Try.prog 190 #[.slice A n c] w fun e w' => e = .returned (.slice A n n) ∧ w' = w := by
  go_enter Try.func190, Try.ntmps190
  go_wp2
  go_ret
  exact ⟨rfl, rfl⟩

set_option maxHeartbeats 400000 in
theorem clip_line (A : Option Addr) (n c : Nat) (w : World) (h1 : n ≤ c) :
    Calls Try.prog 191 #[.slice A n c] w fun e w' => e = .returned (.slice A n n) ∧ w' = w := by
  go_enter Try.func191, Try.ntmps191
  go_wp2
  go_ret
  exact ⟨rfl, rfl⟩

set_option maxHeartbeats 400000 in
theorem clip_offer (A : Option Addr) (n c : Nat) (w : World) (h1 : n ≤ c) :
    Calls Try.prog 192 #[.slice A n c] w fun e w' => e = .returned (.slice A n n) ∧ w' = w := by
  go_enter Try.func192, Try.ntmps192
  go_wp2
  go_ret
  exact ⟨rfl, rfl⟩

set_option maxHeartbeats 400000 in
theorem clip_entry (A : Option Addr) (n c : Nat) (w : World) (h1 : n ≤ c) :
    Calls Try.prog 231 #[.slice A n c] w fun e w' => e = .returned (.slice A n n) ∧ w' = w := by
  go_enter Try.func231, Try.ntmps231
  go_wp2
  go_ret
  exact ⟨rfl, rfl⟩
end Go.Proofs.Ytiimdnachgkomaa
