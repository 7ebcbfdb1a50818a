import Derived.Test.YtiimdnachgkomaaLives27
import Derived.Deep.RegionHeld3
namespace Go.Proofs.Ytiimdnachgkomaa
open Go Go.RowKit

set_option maxRecDepth 100000 in
set_option maxHeartbeats 2000000 in
theorem around_calls (id n tk who : UInt8) (w : World) :
    Calls Try.prog 4 #[.int .u8 id.toNat, .int .u8 n.toNat, .agg #[.int .u8 tk.toNat, .int .u8 who.toNat]] w fun e w' => e = .returned (.bool true) ∧ Nw w w' := by
  have b1 : (id.toNat : Int) ≤ 255 := by have := id.toNat_lt; omega
  have b2 : (n.toNat : Int) ≤ 255 := by have := n.toNat_lt; omega
  have b3 : (tk.toNat : Int) ≤ 255 := by have := tk.toNat_lt; omega
  have b4 : (who.toNat : Int) ≤ 255 := by have := who.toNat_lt; omega
  have Hid' : ∃ x : UInt8, Hid ((x.toNat : Int) = 1 + (id.toNat : Int) % 8) := ⟨UInt8.ofNat (1 + id.toNat % 8), by show ((UInt8.ofNat (1 + id.toNat % 8)).toNat : Int) = _; rw [UInt8.toNat_ofNat', Nat.mod_eq_of_lt (by omega)]; omega⟩
  have Hk' : ∃ k : Nat, Hid ((k : Int) = 1 + (n.toNat : Int) % 7) := ⟨1 + n.toNat % 7, by show ((1 + n.toNat % 7 : Nat) : Int) = _; omega⟩
  obtain ⟨i', HI⟩ := Hid'
  obtain ⟨k, HK⟩ := Hk'
  have hi1 : 1 ≤ i'.toNat := by have := HI.out; omega
  have hi8 : i'.toNat ≤ 8 := by have := HI.out; omega
  have hk1 : 1 ≤ k := by have := HK.out; omega
  have hk7 : k ≤ 7 := by have := HK.out; omega
  go_enter Try.func4, Try.ntmps4
  go_wp2_with fail
  rw [← HI.out, ← HK.out]
  refine (New_ok i' k _ hi1 hi8 hk1 hk7).mono ?_
  rintro e w1 ⟨rfl, hw1⟩
  have hb1 : Blk w1 (w.heap.size + 1) 45 (Cl.shut ⟨i', k, 1, 0, 0⟩) := by rw [hw1]; exact Blk.newAt (by simp) _ _
  have hn1 : Nw w w1 := by rw [hw1]; exact ((Kp.refl _ w).alloc _).alloc _
  have hs1 : w.heap.size + 1 < w1.heap.size := hb1.lt
  have HG : ((w.alloc (Obj.cells #[Value.int IntKind.u8 ↑tk.toNat, Value.int IntKind.u8 ↑who.toNat] 56)).heap.size) = w.heap.size + 1 := by simp
  rw [HG]
  clear hw1 HG
  go_wp2_with fail
  go_loopw [11] (fun m wr => ∃ (u : UInt64) (to wt : Nat), 1 ≤ u.toNat ∧ u.toNat ≤ 4 ∧ m = .int .u64 (u.toNat : Int) ∧ to ≤ k ∧ 1 ≤ to ∧ Blk wr (w.heap.size + 1) 45 (Cl.shut ⟨i', k, to, wt, u - 1⟩) ∧ Nw w wr) (fun m _ => 4 - (intOf m).toNat)
  case atStart => exact ⟨1, 1, 0, by decide, by decide, rfl, by omega, by omega, hb1, hn1⟩
  case round =>
    obtain ⟨u, to, wt, hj1, hj4, rfl, hto, hto1, hbr, hnr⟩ := hrel
    by_cases hlt : u.toNat ≤ 3
    · have HJU := Lib.hid (show u - 1 + 1 = u from UInt64.sub_add_cancel u 1)
      have HJS := Lib.hid (show ((u - 1).toNat : Int) = (u.toNat : Int) - 1 by
        have := UInt64.toNat_sub_of_le u 1 (by rw [UInt64.le_iff_toNat_le]; exact hj1)
        rw [this]; simp; omega)
      go_wp2_with fail
      refine (command_calls _).mono ?_
      rintro e w2 ⟨A, rfl, ho2, hk2⟩
      go_wp2_with fail
      refine (Call_ok (w.heap.size + 1) ⟨i', k, to, wt, u - 1⟩ A 1 [cmdStep] w2 (hbr.nw hk2) ho2.rd (by decide) (by decide) (by simp only []; omega) (by simp only []; omega) hi8 (fun _ => ho2.fresh hbr.lt)).mono ?_
      simp only [HJU.out]
      rintro e w3 ⟨b3, A3, c3, rfl, ⟨A4, hb3, hL3, ho4⟩, hi3, hk3⟩
      have hn3 : Nw w w3 := (hnr.nw hk2).trans hk3 (fun i hi e => by omega)
      have hg3 : w.heap.size + 1 < b3 := by have := hk2.size; have := hbr.lt; omega
      clear ho2 hk3 ho4 hb3 hbr
      go_wp2_with fail
      refine (command_calls _).mono ?_
      rintro e w4 ⟨A5, rfl, ho5, hk5⟩
      go_wp2_with fail
      refine (Call_open (w.heap.size + 1) ⟨i', k, to, 0, u⟩ to A3 c3 1 A5 1 1 w4 (hi3.blk.nw hk5) (by simp only []; omega)).mono ?_
      rintro e w6 ⟨rfl, hk6⟩
      have hn6 : Nw w w6 := (hn3.nw hk5).nw hk6
      have hi6 : IsO w6 (w.heap.size + 1) ⟨i', k, to, 0, u⟩ A3 c3 [cmdStep] := ⟨(hi3.blk.nw hk5).nw hk6, (hi3.rd.nw hk5).nw hk6, hi3.len, hi3.off⟩
      have hL6 := (hL3.nw hk5).nw hk6
      clear hi3 hL3 hk2 hk5 hk6 ho5 hn3
      have p11 : w6.cell? ⟨b3, 11, none⟩ = some (.int .u64 (u.toNat : Int)) := hL6.cell 11
      have p2 : w6.cell? ⟨b3, 2, none⟩ = some (.int .u8 (to : Int)) := hL6.cell 2
      have hjj : ((u.toNat : Int) != (u.toNat : Int)) = false := by simp
      go_wp2_with fail
      go_loopw [16, 17] (fun la ii wx => ∃ (q to2 : Nat), 1 ≤ q ∧ q ≤ tk.toNat + 1 ∧ ii = .int .i64 (q : Int) ∧ la = .int .i64 (to2 : Int) ∧ 1 ≤ to2 ∧ to2 ≤ k ∧ IsO wx (w.heap.size + 1) ⟨i', k, to2, (q - 1) % 5, u⟩ A3 c3 [cmdStep] ∧ Kp (fun x => x = w.heap.size + 1) w6 wx) (fun _ ii _ => 256 - (intOf ii).toNat)
      case atStart => exact ⟨1, to, by omega, by omega, rfl, rfl, hto1, hto, hi6, Kp.refl _ _⟩
      case round =>
        obtain ⟨q, to2, hq1, hqt, rfl, rfl, ht1, htk, hi7, hk8'⟩ := hrel
        by_cases hqk : q ≤ tk.toNat
        · by_cases h5 : (q - 1) % 5 < 4
          · have hq5 : ((q : Int) % 5 == 0) = false := beq_eq_false_iff_ne.2 (by omega)
            go_wp2_with (go_at_call 21; go_must (refine (Tick_wait _ _ _ _ _ _ hi7 (by simp only []; omega) h5).mono ?_); rintro e w8 ⟨rfl, hi8, hk8⟩)
            refine ⟨⟨q + 1, to2, by omega, by omega, by go_num, rfl, ht1, htk, ?_, hk8'.trans hk8 (fun _ _ e => e)⟩, by simp [intOf]; omega⟩
            rw [show (q + 1 - 1) % 5 = (q - 1) % 5 + 1 by omega]
            exact hi8
          · have hq5 : ((q : Int) % 5 == 0) = true := beq_iff_eq.2 (by omega)
            go_wp2_with (go_at_call 21; go_must (refine (Tick_call _ _ _ _ _ _ hi7 (by simp only []; omega) hk7 (by simp only []; omega)).mono ?_); rintro e w8 ⟨b5, rfl, ⟨A5, hb5, hL5, ho5⟩, hi8, hk8⟩)
            have q2 : w8.cell? ⟨b5, 2, none⟩ = some (.int .u8 ((to2 : Int) % (k : Int) + 1)) := hL5.cell 2
            have q11 : w8.cell? ⟨b5, 11, none⟩ = some (.int .u64 (u.toNat : Int)) := hL5.cell 11
            have q12 : w8.cell? ⟨b5, 12, none⟩ = some (.slice A5 1 1) := hL5.cell 12
            have hne : ((to2 : Int) % (k : Int) + 1 != (to2 : Int) % (k : Int) + 1) = false := by simp
            have hk0 : ¬ k = 0 := by omega
            have hmo : (to2 : Int) % (k : Int) < (k : Int) := Int.emod_lt_of_pos _ (by omega)
            have hmn : 0 ≤ (to2 : Int) % (k : Int) := Int.emod_nonneg _ (by omega)
            go_quiet (fail)
            go_wp2_with fail
            refine ⟨⟨q + 1, to2 % k + 1, by omega, by omega, by go_num, by simp, by omega, by have := Nat.mod_lt to2 (show 0 < k by omega); omega, ?_, (hk8'.trans hk8 (fun _ _ e => e)).drewN nq⟩, by simp [intOf]; omega⟩
            rw [show (q + 1 - 1) % 5 = 0 by omega]
            exact ⟨hi8.blk, hi8.rd.drewN nq, hi8.len, hi8.off⟩
        · have hk0 : ¬ k = 0 := by omega
          have hmo : (who.toNat : Int) % (k : Int) < (k : Int) := Int.emod_lt_of_pos _ (by omega)
          have hmn : 0 ≤ (who.toNat : Int) % (k : Int) := Int.emod_nonneg _ (by omega)
          have hkw : IntKind.u8.wrap (k : Int) = (k : Int) := by rw [IntKind.wrap_u8]; omega
          have hkw2 : (k : Int) % 256 = (k : Int) := by omega
          have hrem : (who.toNat : Int).tmod (k : Int) = (who.toNat : Int) % (k : Int) := Int.tmod_eq_emod_of_nonneg (by omega)
          have Hf : ∃ x : UInt8, Hid ((x.toNat : Int) = 1 + (who.toNat : Int) % (k : Int)) := ⟨UInt8.ofNat (1 + who.toNat % k), by
            have hm := Nat.mod_lt who.toNat (show 0 < k by omega)
            show ((UInt8.ofNat (1 + who.toNat % k)).toNat : Int) = _
            rw [UInt8.toNat_ofNat', Nat.mod_eq_of_lt (by omega)]; simp⟩
          obtain ⟨f, HF⟩ := Hf
          have hadd : IntKind.u8.wrap (1 + (who.toNat : Int) % (k : Int)) = (f.toNat : Int) := by rw [IntKind.wrap_u8, HF.out]; omega
          have hf1 : 1 ≤ f.toNat := by have := HF.out; omega
          have hfk : f.toNat ≤ k := by have := HF.out; omega
          have hLr := hL6.kp hk8' (show ¬ b3 = w.heap.size + 1 by omega)
          have hT : ∃ x : UInt8, Hid ((x.toNat : Int) = 100 + (i'.toNat : Int)) := ⟨UInt8.ofNat (100 + i'.toNat), by
            show ((UInt8.ofNat (100 + i'.toNat)).toNat : Int) = _
            rw [UInt8.toNat_ofNat', Nat.mod_eq_of_lt (by omega)]; simp⟩
          obtain ⟨T, HT⟩ := hT
          have hkw3 : IntKind.i64.wrap (who.toNat : Int) = (who.toNat : Int) := by rw [IntKind.wrap_i64]; omega
          have r1 : wr.cell? ⟨b3, 1, none⟩ = some (.int .u8 (T.toNat : Int)) := (hLr.cell 1).trans (by rw [HT.out]; rfl)
          have r10 : wr.cell? ⟨b3, 10, none⟩ = some (.int .u8 (i'.toNat : Int)) := hLr.cell 10
          go_wp2_with fail
          go_region_held3 (fun w' => w'.cell? ⟨b3, 1, none⟩ = some (.int .u8 (T.toNat : Int)) ∧ w'.cell? ⟨b3, 10, none⟩ = some (.int .u8 (i'.toNat : Int))) (go_keep) (fail)
          have hb9 : Blk (wr.alloc (.cells #[.int .u8 7, .int .u8 f.toNat, .int .u8 T.toNat, .int .u64 0, .int .u64 0, .int .u64 0, .int .u64 0, .bool false, .slice none 0 0, .slice none 0 0, .int .u8 i'.toNat, .int .u64 u.toNat, .slice none 0 0, .int .i64 0, .int .i64 0, .int .i64 who.toNat, .slice none 0 0] 36)).drew wr.heap.size 36 _ := Blk.new _ _ _
          have hn9 : Nw wr (wr.alloc (.cells #[.int .u8 7, .int .u8 f.toNat, .int .u8 T.toNat, .int .u64 0, .int .u64 0, .int .u64 0, .int .u64 0, .bool false, .slice none 0 0, .slice none 0 0, .int .u8 i'.toNat, .int .u64 u.toNat, .slice none 0 0, .int .i64 0, .int .i64 0, .int .i64 who.toNat, .slice none 0 0] 36)).drew := ((Kp.refl _ wr).alloc _).drew
          generalize World.drew _ = w9 at hb9 hn9 ⊢
          have hi9 : IsO w9 (w.heap.size + 1) ⟨i', k, to2, (q - 1) % 5, u⟩ A3 c3 [cmdStep] := ⟨hi7.blk.nw hn9, hi7.rd.nw hn9, hi7.len, hi7.off⟩
          have hk9 : Kp (fun x => x = w.heap.size + 1) w6 w9 := hk8'.nw hn9
          have hwr : w.heap.size + 1 < wr.heap.size := hi7.blk.lt
          clear hadd hrem hkw hkw2 hkw3 r1 r10 hLr hmo hmn hi7 hk8' hi6 hL6 p11 p2 hn9
          go_wp2_with (first
            | ((with_reducible refine stopAt (.load 36 (.tmp 19)) rfl ?_); go_must (refine unStop (wpList_ldS rfl 36 (.tmp 19) rfl isS_letter _ 0 rfl hb9 [.int .u8 7, .int .u8 f.toNat, .int .u8 T.toNat, .int .u64 0, .int .u64 0, .int .u64 0, .int .u64 0, .bool false, .slice none 0 0, .slice none 0 0, .int .u8 i'.toNat, .int .u64 u.toNat, .slice none 0 0, .int .i64 0, .int .i64 0, .int .i64 who.toNat, .slice none 0 0] rfl rfl ?_)))
            | ((with_reducible refine stopAt (.store 36 (.tmp 20) (.tmp 157)) rfl ?_); go_must (refine unStop (wpList_stN rfl 36 (.tmp 20) (.tmp 157) rfl _ isS_letter rfl rfl rfl (by simp) rfl (by simp [Value.oneCell']) ?_)))
            | ((with_reducible refine stopAt (.load 36 (.tmp 20)) rfl ?_); go_must (refine unStop (wpList_ldS rfl 36 (.tmp 20) rfl isS_letter w9.heap.size 0 rfl (Blk.new _ _ _) [.int .u8 7, .int .u8 f.toNat, .int .u8 T.toNat, .int .u64 0, .int .u64 0, .int .u64 0, .int .u64 0, .bool false, .slice none 0 0, .slice none 0 0, .int .u8 i'.toNat, .int .u64 ((u.toNat : Int) - 1), .slice none 0 0, .int .i64 0, .int .i64 0, .int .i64 who.toNat, .slice none 0 0] rfl rfl ?_))))
          rw [← HJS.out]
          refine (Take_miss (w.heap.size + 1) ⟨i', k, to2, (q - 1) % 5, u⟩ A3 c3 [cmdStep] 7 f T i' 0 0 0 0 (u - 1) false (.slice none 0 0) (.slice none 0 0) (.slice none 0 0) (.slice none 0 0) 0 0 who.toNat _ ⟨hi9.blk.alloc _, hi9.rd.alloc _, hi9.len, hi9.off⟩ (by simp only []; omega) hi8 (fun hA => by
            have h1 := HJS.out
            have h2 : (u - 1).toNat = u.toNat := congrArg UInt64.toNat hA.2.2.2.1
            omega)).mono ?_
          rintro e w10 ⟨rfl, hk10⟩
          have hb10 := (hb9.alloc _).nw hk10
          have hi10 : IsO w10 (w.heap.size + 1) ⟨i', k, to2, (q - 1) % 5, u⟩ A3 c3 [cmdStep] := ⟨(hi9.blk.alloc _).nw hk10, (hi9.rd.alloc _).nw hk10, hi9.len, hi9.off⟩
          have hn10 : Kp (fun x => x = w.heap.size + 1) w6 w10 := (hk9.alloc _).nw hk10
          clear hb9 hi9 hk9 hk10
          go_wp2_with ((with_reducible refine stopAt (.load 36 (.tmp 19)) rfl ?_); go_must (refine unStop (wpList_ldS rfl 36 (.tmp 19) rfl isS_letter _ 0 rfl (hb10.alloc _) [.int .u8 7, .int .u8 f.toNat, .int .u8 T.toNat, .int .u64 0, .int .u64 0, .int .u64 0, .int .u64 0, .bool false, .slice none 0 0, .slice none 0 0, .int .u8 i'.toNat, .int .u64 u.toNat, .slice none 0 0, .int .i64 0, .int .i64 0, .int .i64 who.toNat, .slice none 0 0] rfl rfl ?_)))
          refine (Take_done (w.heap.size + 1) ⟨i', k, to2, (q - 1) % 5, u⟩ A3 c3 [cmdStep] f T 0 0 0 0 false (.slice none 0 0) (.slice none 0 0) (.slice none 0 0) 0 who.toNat none 0 [] _ ⟨hi10.blk.alloc _, hi10.rd.alloc _, hi10.len, hi10.off⟩ (by simp only []; omega) (by have := HT.out; simp only []; omega) hf1 hfk hi8 (Rd.nil _ _) (by simp)).mono ?_
          rintro e w11 ⟨A11, rfl, ho11, hs11, hk11⟩
          have hb11 := (hb10.alloc (.cells #[.int .i64 0, .int .i64 0, .slice none 0 0] 34)).kp hk11 (by omega)
          have hn11 : Kp (fun x => x = w.heap.size + 1) w6 w11 := (hn10.alloc _).trans hk11 (fun _ _ e => e)
          clear hb10 hi10 hn10 hk11 ho11
          go_wp2_with ((with_reducible refine stopAt (.load 36 (.tmp 19)) rfl ?_); go_must (refine unStop (wpList_ldS rfl 36 (.tmp 19) rfl isS_letter _ 0 rfl (hb11.alloc _) [.int .u8 7, .int .u8 f.toNat, .int .u8 T.toNat, .int .u64 0, .int .u64 0, .int .u64 0, .int .u64 0, .bool false, .slice none 0 0, .slice none 0 0, .int .u8 i'.toNat, .int .u64 u.toNat, .slice none 0 0, .int .i64 0, .int .i64 0, .int .i64 who.toNat, .slice none 0 0] rfl rfl ?_)))
          refine (Take_not (some ⟨w.heap.size + 1, 0, none⟩) _ _ (fun w1 h1 => Open_is _ _ _ k false w1 ((hs11.alloc _).nw h1) rfl (by omega) rfl)).mono ?_
          rintro e w13 ⟨rfl, hk13⟩
          have hs13 := ((hs11.alloc (.cells #[.int .i64 0, .int .i64 who.toNat, .slice A11 0 0] 34)).nw hk13).alloc (.cells #[.int .i64 0, .int .i64 0, .slice none 0 0] 34)
          have hx13 : ((w13.alloc (.cells #[.int .i64 0, .int .i64 0, .slice none 0 0] 34)).cell? ⟨w11.heap.size, 1, none⟩) = some (.int .i64 who.toNat) := (((Blk.new w11 _ _).nw hk13).alloc _).cell 1
          have hn13 : Kp (fun x => x = w.heap.size + 1) w6 (w13.alloc (.cells #[.int .i64 0, .int .i64 0, .slice none 0 0] 34)) := ((hn11.alloc _).nw hk13).alloc _
          have hww : ((who.toNat : Int) != (who.toNat : Int)) = false := by simp
          clear hb11 hn11 hs11 hk13
          go_wp2_with (first
            | (go_at_call 22; go_must (refine (Open_is _ _ _ k false _ hs13 rfl (by omega) rfl).mono ?_); rintro e w14 ⟨rfl, rfl⟩)
            | (go_at_call 23; go_must (refine (Num_is _ _ _ k (u.toNat : Int) _ hs13 rfl (by omega) rfl).mono ?_); rintro e w14 ⟨rfl, rfl⟩)
            | (go_at_call 21; go_must (refine (Tick_shut _ ⟨i', k, to2, (q - 1) % 5, u⟩ _ hs13 (by simp only []; omega)).mono ?_); rintro e w14 ⟨rfl, rfl⟩))
          have hu1 : (u + 1).toNat = u.toNat + 1 := by
            rw [UInt64.toNat_add]
            have : (1 : UInt64).toNat = 1 := rfl
            omega
          refine ⟨⟨u + 1, to2, (q - 1) % 5, by omega, by omega, by rw [hu1]; simp, htk, ht1, ?_, (hn6.trans hn13 (fun i hi e => by omega))⟩, by simp [intOf]; omega⟩
          rw [show u + 1 - 1 = u from UInt64.add_sub_cancel u 1]
          exact hs13
    · go_wp2_with (go_at_call 18; go_must (refine (lives27 _).mono ?_); rintro e w9 ⟨rfl, hk9⟩)
      go_ret
      exact ⟨rfl, hnr.nw hk9⟩
end Go.Proofs.Ytiimdnachgkomaa
