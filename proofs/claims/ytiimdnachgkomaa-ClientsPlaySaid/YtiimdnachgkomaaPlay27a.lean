/- ClientsPlay: the walk of numbers that may not be. -/
import Derived.Test.YtiimdnachgkomaaPlayC
import Derived.Test.YtiimdnachgkomaaGreat
import Derived.Test.YtiimdnachgkomaaLives27
import Derived.Test.YtiimdnachgkomaaLeft
import Derived.Test.YtiimdnachgkomaaMem3
import Derived.Deep.RegionHeld3
import Derived.Deep.DeepCutAuto
import Derived.Deep.CutBlock
namespace Go.Proofs.Ytiimdnachgkomaa
open Go Go.RowKit
set_option maxRecDepth 20000 in
theorem Resume_bad (id n : Int) (num : UInt64) (w : World) (h : id < 1 ∨ 8 < id ∨ n < 1 ∨ 7 < n) : Calls Try.prog 26 #[.int .i64 id, .int .i64 n, .int .u64 num.toNat] w fun e w' => e = .returned (.pointer none) ∧ w' = w := by
  have HN := Lib.hid (New_bad id n w h)
  clear h
  go_enter Try.func26, Try.ntmps26
  go_wp2_with (go_at_call 24; go_must (refine HN.out.mono ?_); rintro e w1 ⟨rfl, hw1⟩; subst hw1)
  go_ret
  exact ⟨rfl, rfl⟩
theorem isS_act27 : IsS Try.prog 38 20 := ⟨⟨_, Try.underlying38, rfl⟩, by kernel_rfl⟩
set_option maxRecDepth 20000 in
set_option maxHeartbeats 1000000 in
theorem play27_bad (a b : Int) (num : UInt64) (s : Sl ActV) (w : World) (h : ActsOk w s) (hbad : a < 1 ∨ 8 < a ∨ b < 1 ∨ 7 < b) :
    Calls Try.prog 5 #[.agg #[.int .i64 a, .int .i64 b], .int .u64 num.toNat, .slice s.A s.l.length s.c] w fun e w' => e = .returned (.bool true) ∧ Nw w w' := by
  have HG := Lib.hid (great27_calls s (w.alloc (.cells #[.int .i64 a, .int .i64 b] 60)) (h.nw ((Kp.refl _ w).alloc _)))
  have HB := Lib.hid hbad
  clear h hbad
  go_enter Try.func5, Try.ntmps5
  go_wp2_with fail
  go_must (refine HG.out.mono ?_)
  rintro e w1 ⟨rfl, hk1⟩
  have hb1 : Blk w1 w.heap.size 60 #[.int .i64 a, .int .i64 b] := (Blk.new _ _ _).nw hk1
  have a0 : w1.cell? ⟨w.heap.size, 0, none⟩ = some (.int .i64 a) := hb1.cell 0
  have a1 : w1.cell? ⟨w.heap.size, 1, none⟩ = some (.int .i64 b) := hb1.cell 1
  have HK1 : Hid (Nw w w1) := Lib.hid (((Kp.refl _ w).alloc _).nw hk1)
  clear hk1 hb1
  cases hac : acts27 s.l
  rotate_left
  focus
    go_wp2_with fail
    go_must (refine (lives27 _).mono ?_)
    rintro e w2 ⟨rfl, hk2⟩
    go_wp2_with fail
    go_ret
    exact ⟨rfl, HK1.out.nw hk2⟩
  have HNew : Hid (∀ w', Calls Try.prog 24 #[.int .i64 a, .int .i64 b] w' fun e w'' => e = .returned (.pointer none) ∧ w'' = w') := Lib.hid (fun w' => New_bad a b w' HB.out)
  have HRes : Hid (∀ w', Calls Try.prog 26 #[.int .i64 a, .int .i64 b, .int .u64 num.toNat] w' fun e w'' => e = .returned (.pointer none) ∧ w'' = w') := Lib.hid (fun w' => Resume_bad a b num w' HB.out)
  go_upto_if 36 with (go_at_call 24; go_must (refine (HNew.out _).mono ?_); rintro e w2 ⟨rfl, hw2⟩; subst hw2)
  go_cut [9] (fun s9 wx => s9 = .pointer none ∧ wx = w2)
  case first =>
    cases htb : decide (0 < num.toNat)
    · clear htb
      go_wp2_with fail
      go_meet
      exact ⟨rfl, rfl⟩
    · clear htb
      go_wp2_with (go_at_call 26; go_must (refine (HRes.out _).mono ?_); rintro e w3 ⟨rfl, hw3⟩; subst hw3)
      go_meet
      exact ⟨rfl, rfl⟩
  case rest =>
  obtain ⟨rfl, hwc⟩ := hcut
  subst hwc
  have hways : (decide (a < 1) = true) ∨ (decide (a < 1) = false ∧ decide (8 < a) = true) ∨ (decide (a < 1) = false ∧ decide (8 < a) = false ∧ decide (b < 1) = true) ∨ (decide (a < 1) = false ∧ decide (8 < a) = false ∧ decide (b < 1) = false ∧ decide (7 < b) = true) := by
    have := HB.out
    by_cases h1 : a < 1
    · exact .inl (decide_eq_true h1)
    · by_cases h2 : 8 < a
      · exact .inr (.inl ⟨decide_eq_false h1, decide_eq_true h2⟩)
      · by_cases h3 : b < 1
        · exact .inr (.inr (.inl ⟨decide_eq_false h1, decide_eq_false h2, decide_eq_true h3⟩))
        · exact .inr (.inr (.inr ⟨decide_eq_false h1, decide_eq_false h2, decide_eq_false h3, decide_eq_true (by omega)⟩))
  rcases hways with d1 | ⟨d1, d2⟩ | ⟨d1, d2, d3⟩ | ⟨d1, d2, d3, d4⟩
  all_goals
    go_wp2_with fail
    go_must (refine (lives27 _).mono ?_)
    rintro e w4 ⟨rfl, hk4⟩
    go_wp2_with fail
    go_ret
    exact ⟨rfl, HK1.out.nw hk4⟩
end Go.Proofs.Ytiimdnachgkomaa
