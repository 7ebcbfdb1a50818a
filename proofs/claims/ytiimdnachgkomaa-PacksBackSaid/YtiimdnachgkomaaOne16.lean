/- PacksOne: the walk. -/
import Derived.Test.YtiimdnachgkomaaLives16
import Derived.Test.YtiimdnachgkomaaSames
import Derived.Deep.RegionHeld3
import Derived.Test.YtiimdnachgkomaaStill
namespace Go.Proofs.Ytiimdnachgkomaa
open Go Go.RowKit
theorem PutEntry_back {l : Bytes} {x : EntP} (h : pAll pEntry l = .ok x) (A : Option Addr) (w : World) (hr : RdSt w A x.steps.length x.steps) :
    Calls Try.prog 58 #[.agg #[uv x.index, uv x.term, bv x.cl, uv x.num, .slice A x.steps.length x.steps.length]] w (Puts l w) := by
  obtain ⟨hv, hl⟩ := codec_entry.all_inv l x h
  rw [hl]
  exact PutEntry_ok x.index x.term x.cl x.num A x.steps.length x.steps w hr hv
theorem PutState_back {l : Bytes} {x : StaP} (h : pAll pState l = .ok x) (A1 A2 A3 : Option Addr) (w : World) (h1 : RdB w A1 x.parties.length x.parties) (h2 : RdL w A2 x.lines.length x.lines) (h3 : RdO w A3 x.offers.length x.offers) :
    Calls Try.prog 73 #[.agg #[.slice A1 x.parties.length x.parties.length, .slice A2 x.lines.length x.lines.length, .slice A3 x.offers.length x.offers.length, uv x.next]] w (Puts l w) := by
  obtain ⟨hv, hl⟩ := codec_state.all_inv l x h
  rw [hl]
  exact PutState_ok A1 x.parties.length x.parties A2 x.lines.length x.lines A3 x.offers.length x.offers x.next w h1 h2 h3 hv.1 hv.2.1 hv.2.2
set_option maxRecDepth 20000 in
theorem slice_to (A : Option Addr) (n c q : Nat) (hq : q ≤ c) (w : World) : (Instr.sliceAt 28 (.slice A n c) none (some (.int .i64 q)) none).run Try.prog w = .ok (.slice A q c) w := by
  obtain ⟨i0, hi0, hz0, hz1, hz2⟩ := info_parts info_byte
  have hu : Try.prog.underlying 28 = some (.slice (Try.prog.elem 28)) := Try.underlying28
  rw [run_sliceAt_slice w _ _ _ _ _ hu, run_slice_h w _ A n c hu .i64 q (by omega) (by omega)]
  have e : (sizeOf (Try.prog.elem 28)).run Try.prog w = .ok 1 w := by
    have : Try.prog.elem 28 = 5 := by kernel_rfl
    rw [this]; simp [sizeOf, typeInfo, hi0, hz1]
  rw [e]
  simp only [Result.andThen, sliced, Int.toNat_natCast, Nat.zero_mul, Nat.sub_zero]
  congr 2
  split
  · rfl
  · cases A <;> simp [add_zero_]
set_option maxRecDepth 100000 in
set_option maxHeartbeats 4000000 in
theorem one16_calls (A : Option Addr) (c : Nat) (l : Bytes) (w : World) (hr : RdB w A c l) :
    Calls Try.prog 14 #[.slice A l.length c] w fun e w' => e = .returned (.bool true) ∧ Nw w w' := by
  have HR := Lib.hid hr
  clear hr
  by_cases hg : 3000 < l.length
  · have hd : decide ((3000 : Int) < (l.length : Int)) = true := decide_eq_true (by omega)
    go_enter Try.func14, Try.ntmps14
    go_wp2_with fail
    go_must (refine (lives16 _).mono ?_)
    rintro e w1 ⟨rfl, hk⟩
    go_wp2_with fail
    go_ret
    exact ⟨rfl, hk⟩
  have hd : decide ((3000 : Int) < (l.length : Int)) = false := decide_eq_false (by omega)
  have HL : Hid (l.length ≤ 3000) := Lib.hid (by omega)
  clear hg
  go_enter Try.func14, Try.ntmps14
  go_wp2_with fail
  go_must (refine (GetEntry_ A c l _ HR.out).mono ?_)
  rintro e w1 h
  rcases h.ways with ⟨x, v, hp, rfl, ⟨A1, rfl, ho1⟩, hk1⟩ | ⟨k, hp, rfl, hk1⟩
  focus
    have HP := Lib.hid hp
    have HO1 := Lib.hid ho1
    have HK1 := Lib.hid hk1
    clear hp ho1 hk1 h
    go_wp2_with (first
      | ((with_reducible refine stopAt (.store 124 (.tmp 3) (.tmp 19)) rfl ?_); go_must (refine unStop (wpList_stN rfl 124 (.tmp 3) (.tmp 19) rfl [uv x.index, uv x.term, bv x.cl, uv x.num, .slice A1 x.steps.length x.steps.length] sS_entry rfl rfl rfl rfl rfl (by simp [uv, bv, Value.oneCell']) ?_)))
      | ((with_reducible refine stopAt (.load 124 (.tmp 3)) rfl ?_); go_must (refine unStop (wpList_ldS rfl 124 (.tmp 3) rfl sS_entry _ 0 rfl (Blk.new _ _ _) [uv x.index, uv x.term, bv x.cl, uv x.num, .slice A1 x.steps.length x.steps.length] rfl rfl ?_)))
      | (go_at_call 58; go_must (refine (PutEntry_back HP.out A1 _ (HO1.out.rd.alloc _)).mono ?_); rintro e w2 ⟨A2, rfl, ho2, hk2⟩; have HO2 := Lib.hid ho2; have HK2 := Lib.hid ((HK1.out.alloc _).nw hk2); clear ho2 hk2)
      | (go_at_call 46; go_must (refine (SameBytes_ A2 A l.length c l _ HO2.out.rd (HR.out.nw HK2.out)).mono ?_); rintro e w3 ⟨rfl, m, hw3⟩; have HK3 := Lib.hid (show Nw w w3 by rw [hw3]; exact HK2.out.drewN m); clear hw3))
    clear HP HO1 HK1 HO2 HK2
  rotate_left
  focus
    have hk0 : ((k : Int) == 0) = false := beq_eq_false_iff_ne.2 (by have := errs_all errs_entry l k hp; omega)
    have HK3 := Lib.hid (hk1.alloc (.cells #[.int .u64 0, .int .u64 0, .int .u8 0, .int .u64 0, .slice none 0 0] 124))
    clear hp hk1 h
    go_wp2_with fail
    generalize w1.alloc (.cells #[.int .u64 0, .int .u64 0, .int .u8 0, .int .u64 0, .slice none 0 0] 124) = w3 at HK3 ⊢
    clear hk0
  all_goals
    have HR3 := Lib.hid (HR.out.nw HK3.out)
    go_must (refine (GetState_ A c l _ HR3.out).mono ?_)
    rintro e w4 h
    rcases h.ways with ⟨y, v, hp, rfl, ⟨B1, B2, B3, rfl, ho1, ho2, ho3⟩, hk4⟩ | ⟨k, hp, rfl, hk4⟩
    focus
      have HP := Lib.hid hp
      have HO1 := Lib.hid ho1
      have HO2 := Lib.hid ho2
      have HO3 := Lib.hid ho3
      have HK4 := Lib.hid (HK3.out.nw hk4)
      clear hp ho1 ho2 ho3 hk4 h
      go_wp2_with (first
        | ((with_reducible refine stopAt (.store 143 (.tmp 7) (.tmp 39)) rfl ?_); go_must (refine unStop (wpList_stN rfl 143 (.tmp 7) (.tmp 39) rfl [.slice B1 y.parties.length y.parties.length, .slice B2 y.lines.length y.lines.length, .slice B3 y.offers.length y.offers.length, uv y.next] sS_state rfl rfl rfl rfl rfl (by simp [uv, Value.oneCell']) ?_)))
        | ((with_reducible refine stopAt (.load 143 (.tmp 7)) rfl ?_); go_must (refine unStop (wpList_ldS rfl 143 (.tmp 7) rfl sS_state _ 0 rfl (Blk.new _ _ _) [.slice B1 y.parties.length y.parties.length, .slice B2 y.lines.length y.lines.length, .slice B3 y.offers.length y.offers.length, uv y.next] rfl rfl ?_)))
        | (go_at_call 73; go_must (refine (PutState_back HP.out B1 B2 B3 _ (HO1.out.rd.alloc _) (HO2.out.rd.alloc _) (HO3.out.rd.alloc _)).mono ?_); rintro e w5 ⟨B4, rfl, ho4, hk5⟩; have HO4 := Lib.hid ho4; have HK5 := Lib.hid ((HK4.out.alloc _).nw hk5); clear ho4 hk5)
        | (go_at_call 46; go_must (refine (SameBytes_ B4 A l.length c l _ HO4.out.rd (HR.out.nw HK5.out)).mono ?_); rintro e w6 ⟨rfl, m2, hw6⟩; have HK6 := Lib.hid (show Nw w w6 by rw [hw6]; exact HK5.out.drewN m2); clear hw6))
      clear HP HO1 HO2 HO3 HK4 HO4 HK5
    rotate_left
    focus
      have hk0 : ((k : Int) == 0) = false := beq_eq_false_iff_ne.2 (by have := errs_all errs_state l k hp; omega)
      have HK6 := Lib.hid ((HK3.out.nw hk4).alloc (.cells #[.slice none 0 0, .slice none 0 0, .slice none 0 0, .int .u64 0] 143))
      clear hp hk4 h
      go_wp2_with fail
      generalize w4.alloc (.cells #[.slice none 0 0, .slice none 0 0, .slice none 0 0, .int .u64 0] 143) = w6 at HK6 ⊢
      clear hk0
    all_goals
      have HR6 := Lib.hid (HR.out.nw HK6.out)
      go_must (refine (Take_ A c l _ HR6.out).mono ?_)
      rintro e w7 ⟨he, rfl⟩
      have HK7 := Lib.hid HK6.out
      rcases he.ways with ⟨n, r, hp, rfl⟩ | ⟨k7, hp, rfl⟩
      rotate_left
      · clear he HK6 HR6
        go_wp2_with fail
        refine wp_region_still_tail 11 (by kernel_rfl) (by kernel_rfl) ?_
        simp only [List.take_succ_cons, List.take_zero, List.drop_succ_cons, List.drop_zero]
        iterate 3 still_step
        iterate 6 ((with_reducible refine wpStill_skip ?_ ?_); focus kernel_rfl)
        iterate 2 ((with_reducible refine wpStill_run (.bool true) ?_ ?_ ?_); (focus kernel_rfl); (focus kernel_rfl))
        with_reducible refine wpStill_nil ?_
        simp only [Act.put]
        go_wp2_with (go_at_call 54; go_must (refine (lives16 _).mono ?_); rintro e w8 ⟨rfl, hk8⟩)
        go_ret
        exact ⟨rfl, HK7.out.drew.trans hk8 (fun _ _ e => e)⟩
      · have hsz : l.length - r.length ≤ l.length := Nat.sub_le _ _
        obtain ⟨hn, hl⟩ := codec_num.inv l n r hp
        have HT : Hid (l.take (l.length - r.length) = encNum n) := Lib.hid (by rw [hl, List.length_append, Nat.add_sub_cancel]; exact List.take_left' rfl)
        have HE : Hid (l.length - r.length = (encNum n).length) := Lib.hid (by rw [hl, List.length_append]; omega)
        have hpos : 0 < l.length - r.length := by rw [HE.out]; exact encNum_pos n
        have hcap := Lib.hid HR6.out.cap
        have HU := Lib.hid hn
        clear he hp hl hn HK6
        generalize l.length - r.length = q at *
        have i3 : ((q : Int) == 0) = false := beq_eq_false_iff_ne.2 (by omega)
        have hsl := slice_to A l.length c q (Nat.le_trans hsz hcap.out)
        have HQ : Hid (∀ w', Nw w7 w' → RdB w' A c (encNum n)) := Lib.hid (fun w' h => by
          have := (HR6.out.nw h).take hsz
          rw [Nat.mul_one, ← List.map_take, HT.out, HE.out] at this
          exact this)
        have HNum : Hid (∀ w', Calls Try.prog 55 #[.slice none 0 0, .int .u64 n] w' (fun e w2 => ∃ A2 c2, e = .returned (.slice A2 q c2) ∧ OwnB w2 w'.heap.size A2 c2 (encNum n) ∧ Nw w' w2)) := Lib.hid (fun w' => (num_calls none 0 [] n w' (Rd.nil _ 1) (by simp) HU.out).mono (fun e w2 h => by
          obtain ⟨A2, c2, rfl, ho, hk⟩ := h
          rw [List.nil_append] at ho
          exact ⟨A2, c2, by rw [List.nil_append, HE.out], ho, hk⟩))
        have HSame : Hid (∀ (A2 : Option Addr) (c2 : Nat) w', Nw w7 w' → RdB w' A2 c2 (encNum n) → Calls Try.prog 46 #[.slice A2 q c2, .slice A q c] w' (fun e w2 => e = .returned (.bool true) ∧ Nw w' w2)) := Lib.hid (fun A2 c2 w' h1 h2 => by
          rw [HE.out]
          refine (SameBytes_ A2 A c2 c (encNum n) w' h2 (HQ.out w' h1)).mono ?_
          rintro e w2 ⟨rfl, m, rfl⟩
          exact ⟨rfl, (Kp.refl _ w').drewN m⟩)
        clear hsz hpos
        go_wp2_with fail
        go_region_held3 (fun w' => Nw w7 w') (first | exact Kp.drew (Kp.refl _ _) | exact Kp.nw ‹Nw w7 _› hk8)
          ((first | (go_at_call 55; refine (HNum.out _).mono ?_; rintro e w8 ⟨A8, c8, rfl, ho8, hk8⟩) | (go_at_call 46; refine (HSame.out A8 c8 _ ‹Nw w7 _› ho8.rd).mono ?_; rintro e w9 ⟨rfl, hk8⟩) | (go_at_call 54; refine (lives16 _).mono ?_; rintro e w10 ⟨rfl, hk8⟩)))
        have hn7 := ‹Nw w7 _›
        go_wp2_with fail
        go_ret
        exact ⟨rfl, HK7.out.trans hn7 (fun _ _ e => e)⟩
end Go.Proofs.Ytiimdnachgkomaa
