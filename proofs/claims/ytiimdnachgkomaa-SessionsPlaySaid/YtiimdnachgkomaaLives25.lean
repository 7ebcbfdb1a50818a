/- sessions: the chapter's example (lives). -/
import Derived.Test.YtiimdnachgkomaaSess3
import Derived.Test.YtiimdnachgkomaaSames
import Derived.Test.YtiimdnachgkomaaStill
namespace Go.Proofs.Ytiimdnachgkomaa
open Go Go.RowKit
set_option maxRecDepth 20000 in
set_option maxHeartbeats 1000000 in
theorem lives25 (w : World) :
    Calls Try.prog 37 #[] w fun e w' => e = .returned (.bool true) ∧ Nw w w' := by
  go_enter Try.func37, Try.ntmps37
  go_wp2_with fail
  go_must (refine (SNew w).mono ?_)
  rintro e w1 ⟨g, rfl, hg, hb1, hk1⟩
  have HG := Lib.hid hg
  have HB1 := Lib.hid hb1
  have HK1 := Lib.hid hk1
  clear hg hb1 hk1
  go_wp2_with fail
  have hrd : RdG ((w1.alloc (.cells #[.int .i64 3, .int .i64 0] 93)).alloc (.cells #[.int .i64 0, .int .i64 0, .slice (some ⟨w1.heap.size, 0, none⟩) 1 1] 34)) (some ⟨w1.heap.size, 0, none⟩) 1 [⟨3, 0⟩] := ((Own.of_newAt (W := w1) rfl 93 2 1 #[.int .i64 3, .int .i64 0] rfl (by simp [maxLen])).alloc _).rd
  have HRD := Lib.hid hrd
  have HR2 : Hid (Blk ((w1.alloc (.cells #[.int .i64 3, .int .i64 0] 93)).alloc (.cells #[.int .i64 0, .int .i64 0, .slice (some ⟨w1.heap.size, 0, none⟩) 1 1] 34)) (w1.heap.size + 1) 34 #[.int .i64 0, .int .i64 0, .slice (some ⟨w1.heap.size, 0, none⟩) 1 1]) := Lib.hid (Blk.newAt (by simp) _ _)
  have HK2 : Hid (Nw w ((w1.alloc (.cells #[.int .i64 3, .int .i64 0] 93)).alloc (.cells #[.int .i64 0, .int .i64 0, .slice (some ⟨w1.heap.size, 0, none⟩) 1 1] 34))) := Lib.hid ((HK1.out.alloc _).alloc _)
  have HNE : Hid (g < w1.heap.size) := Lib.hid HB1.out.blk.lt
  clear hrd
  go_must (refine (Note_ok g noPages 0 Pg.none rfl 5 0 0 (some ⟨w1.heap.size, 0, none⟩) 1 [⟨3, 0⟩] ((w1.alloc (.cells #[.int .i64 3, .int .i64 0] 93)).alloc (.cells #[.int .i64 0, .int .i64 0, .slice (some ⟨w1.heap.size, 0, none⟩) 1 1] 34)) ((HB1.out.nw ((Kp.refl _ w1).alloc _)).nw ((Kp.refl _ _).alloc _)) HRD.out (by simp) (by decide)).mono ?_)
  rintro e w3 ⟨A2, rfl, hb3, ho3, hk3⟩
  have HB3 := Lib.hid hb3
  have HK3 : Hid (Nw w w3) := Lib.hid (HK2.out.trans hk3 (fun i hi e => by have := HG.out; omega))
  have HR3 := Lib.hid (HR2.out.kp hk3 (by have := HNE.out; omega))
  have HRD3 := Lib.hid (HRD.out.kp hk3 (fun _ k hk e => by simp [blkOf] at hk; have := HNE.out; omega))
  have HP3 : Hid ((noPages.set 0 ⟨5, 0, 0, ⟨[⟨3, 0⟩], A2, 1⟩⟩)[0]? = some ⟨5, 0, 0, ⟨[⟨3, 0⟩], A2, 1⟩⟩) := Lib.hid rfl
  clear hb3 ho3 hk3 HR2 HRD HK2 HB1 HNE
  go_wp2_with fail
  go_must (refine (Ask_is g _ 0 _ HP3.out 5 w3 HB3.out rfl (by decide)).mono ?_)
  rintro e w4 ⟨A4, rfl, ho4, hk4⟩
  have HO4 := Lib.hid ho4
  have HK4 := Lib.hid (HK3.out.nw hk4)
  have HB4 := Lib.hid (HB3.out.nw hk4)
  have HR4 := Lib.hid (HR3.out.nw hk4)
  have HRD4 := Lib.hid (HRD3.out.nw hk4)
  clear ho4 hk4 HB3 HR3 HRD3 HK3
  go_wp2_with fail
  have HB5 := Lib.hid (HB4.out.nw ((Kp.refl _ w4).alloc (.cells #[.int .i64 0, .int .i64 0, .slice A4 1 1] 34)))
  have HK5 := Lib.hid (HK4.out.alloc (.cells #[.int .i64 0, .int .i64 0, .slice A4 1 1] 34))
  have HR5 := Lib.hid (HR4.out.alloc (.cells #[.int .i64 0, .int .i64 0, .slice A4 1 1] 34))
  have HD5 := Lib.hid (HRD4.out.alloc (.cells #[.int .i64 0, .int .i64 0, .slice A4 1 1] 34))
  have HO5 := Lib.hid (HO4.out.alloc (.cells #[.int .i64 0, .int .i64 0, .slice A4 1 1] 34))
  have HN5 : Hid (Blk (w4.alloc (.cells #[.int .i64 0, .int .i64 0, .slice A4 1 1] 34)) w4.heap.size 34 #[.int .i64 0, .int .i64 0, .slice A4 1 1]) := Lib.hid (Blk.new _ _ _)
  go_must (refine (Ask_old g _ 0 _ HP3.out 4 _ HB5.out (.inl (show (4 : UInt64).toNat < (5 : UInt64).toNat by decide))).mono ?_)
  rintro e w6 ⟨rfl, hk6⟩
  have hk7 : Nw (w4.alloc (.cells #[.int .i64 0, .int .i64 0, .slice A4 1 1] 34)) (w6.alloc (.cells #[.int .i64 0, .int .i64 0, .slice none 0 0] 34)) := hk6.alloc _
  have HB7 := Lib.hid (HB5.out.nw hk7)
  have HK7 := Lib.hid (HK5.out.nw hk7)
  have HR7 := Lib.hid (HR5.out.nw hk7)
  have HD7 := Lib.hid (HD5.out.nw hk7)
  have HO7 := Lib.hid (HO5.out.nw hk7)
  have HN7 := Lib.hid (HN5.out.nw hk7)
  clear hk6 hk7 HB5 HK5 HR5 HD5 HO5 HN5 HB4 HK4 HR4 HRD4 HO4
  go_wp2_with fail
  go_must (refine (Ask_new g _ 0 _ HP3.out 9 _ HB7.out (show (5 : UInt64).toNat < (9 : UInt64).toNat by decide)).mono ?_)
  rintro e w8 ⟨rfl, hk8⟩
  have hk9 : Nw (w6.alloc (.cells #[.int .i64 0, .int .i64 0, .slice none 0 0] 34)) (w8.alloc (.cells #[.int .i64 0, .int .i64 0, .slice none 0 0] 34)) := hk8.alloc _
  have HK9 := Lib.hid (HK7.out.nw hk9)
  have HR9 := Lib.hid (HR7.out.nw hk9)
  have HD9 := Lib.hid (HD7.out.nw hk9)
  have HO9 := Lib.hid (HO7.out.nw hk9)
  have HN9 := Lib.hid (HN7.out.nw hk9)
  have HSR := Lib.hid (SameReply_ 0 0 (some ⟨w1.heap.size, 0, none⟩) A4 1 1 [⟨3, 0⟩] _ HD9.out HO9.out.rd)
  clear hk8 hk9 HB7 HK7 HR7 HD7 HO7 HN7
  go_wp2_with (first
    | ((with_reducible refine stopAt (.load 34 (.tmp 2)) rfl ?_); go_must (refine unStop (wpList_ug (by kernel_rfl) (wpList_ldS rfl 34 (.tmp 2) rfl sS_reply (w1.heap.size + 1) 0 rfl HR9.out [.int .i64 0, .int .i64 0, .slice (some ⟨w1.heap.size, 0, none⟩) 1 1] rfl rfl ?_))))
    | ((with_reducible refine stopAt (.load 34 (.tmp 4)) rfl ?_); go_must (refine unStop (wpList_ug (by kernel_rfl) (wpList_ldS rfl 34 (.tmp 4) rfl sS_reply w4.heap.size 0 rfl HN9.out [.int .i64 0, .int .i64 0, .slice A4 1 1] rfl rfl ?_))))
    | (go_at_call 35; go_must (refine HSR.out.mono ?_); rintro e w10 ⟨rfl, hk10⟩))
  go_ret
  exact ⟨rfl, HK9.out.nw hk10⟩
end Go.Proofs.Ytiimdnachgkomaa
