/- PacksPut: the walk. -/
import Derived.Test.YtiimdnachgkomaaCall01
import Derived.Test.YtiimdnachgkomaaApart2
import Derived.Test.YtiimdnachgkomaaT4
import Derived.Test.YtiimdnachgkomaaLives16
import Derived.Test.YtiimdnachgkomaaSames
import Derived.Test.YtiimdnachgkomaaActRead
namespace Go.Proofs.Ytiimdnachgkomaa
open Go Go.RowKit
/-- What is put: bytes, or that it may not be. -/
def outOf (b : Bool) (l : Bytes) : Bytes × Nat := if b then (l, 0) else ([], 3)
def PutsX (o : Bytes × Nat) (w : World) (e : Ending) (w' : World) : Prop := ∃ A c, e = .returned (.tuple #[.slice A o.1.length c, .int .i64 o.2]) ∧ OwnB w' w.heap.size A c o.1 ∧ Nw w w'
theorem Puts.x {l : Bytes} {w w' : World} {e : Ending} (h : Puts l w e w') : PutsX (outOf true l) w e w' := by
  obtain ⟨A, rfl, ho, hk⟩ := h
  exact ⟨A, _, rfl, ho, hk⟩
theorem RPutsE.x {l : Bytes} {w w' : World} {e : Ending} (h : RPutsE l w e w') : PutsX (outOf true l) w e w' := by
  obtain ⟨A, c, rfl, ho, hk⟩ := h
  exact ⟨A, _, rfl, ho, hk⟩
theorem PutNot.x {l : Bytes} {w w' : World} {e : Ending} (h : PutNot w e w') : PutsX (outOf false l) w e w' := by
  obtain ⟨rfl, hk⟩ := h
  exact ⟨none, 0, rfl, Own.nil _ _ _ 1, hk⟩
theorem PutEntry_x (index term : UInt64) (cl : UInt8) (num : UInt64) (B : Option Addr) (d : Nat) (xs : List Step) (w : World) (hx : RdSt w B d xs) (o : Bytes × Nat) (ho : o = outOf (decide (xs.length ≤ 8)) (encEntry ⟨index, term, cl, num, xs⟩)) :
    Calls Try.prog 58 #[.agg #[.int .u64 index.toNat, .int .u64 term.toNat, .int .u8 cl.toNat, .int .u64 num.toNat, .slice B xs.length d]] w (PutsX o w) := by
  subst ho
  by_cases h : xs.length ≤ 8
  · rw [decide_eq_true h]; exact (PutEntry_ok index term cl num B d xs w hx h).mono fun _ _ h => h.x
  · rw [decide_eq_false h]; exact (PutEntry_not index term cl num B d xs w (by omega)).mono fun _ _ h => h.x
theorem RPutEntry_x (index term : UInt64) (cl : UInt8) (num : UInt64) (B : Option Addr) (d : Nat) (xs : List Step) (w : World) (hx : RdSt w B d xs) (o : Bytes × Nat) (ho : o = outOf (decide (xs.length ≤ 8)) (encEntry ⟨index, term, cl, num, xs⟩)) :
    Calls Try.prog 59 #[.agg #[.int .u64 index.toNat, .int .u64 term.toNat, .int .u8 cl.toNat, .int .u64 num.toNat, .slice B xs.length d]] w (PutsX o w) := by
  subst ho
  by_cases h : xs.length ≤ 8
  · rw [decide_eq_true h]; exact (RPutEntry_ok index term cl num B d xs w hx h).mono fun _ _ h => h.x
  · rw [decide_eq_false h]; exact (RPutEntry_not index term cl num B xs.length d w (by omega)).mono fun _ _ h => h.x
theorem PutCommand_x (B : Option Addr) (d : Nat) (xs : List Step) (w : World) (hx : RdSt w B d xs) (o : Bytes × Nat) (ho : o = outOf (decide (xs.length ≤ 8)) (encList encStep xs)) :
    Calls Try.prog 60 #[.agg #[.slice B xs.length d]] w (PutsX o w) := by
  subst ho
  by_cases h : xs.length ≤ 8
  · rw [decide_eq_true h]; exact (PutCommand_ok B d xs w hx h).mono fun _ _ h => h.x
  · rw [decide_eq_false h]; exact (PutCommand_not B d xs w (by omega)).mono fun _ _ h => h.x
theorem RPutCommand_x (B : Option Addr) (d : Nat) (xs : List Step) (w : World) (hx : RdSt w B d xs) (o : Bytes × Nat) (ho : o = outOf (decide (xs.length ≤ 8)) (encList encStep xs)) :
    Calls Try.prog 61 #[.agg #[.slice B xs.length d]] w (PutsX o w) := by
  subst ho
  by_cases h : xs.length ≤ 8
  · rw [decide_eq_true h]; exact (RPutCommand_ok B d xs w hx h).mono fun _ _ h => h.x
  · rw [decide_eq_false h]; exact (RPutCommand_not B xs.length d w (by omega)).mono fun _ _ h => h.x
theorem PutReply_x (e at_ : Int64) (B : Option Addr) (d : Nat) (xs : List Got) (w : World) (hx : RdG w B d xs) (o : Bytes × Nat) (ho : o = outOf (decide (xs.length ≤ 8)) (encReply ⟨e, at_, xs⟩)) :
    Calls Try.prog 62 #[.agg #[.int .i64 e.toInt, .int .i64 at_.toInt, .slice B xs.length d]] w (PutsX o w) := by
  subst ho
  by_cases h : xs.length ≤ 8
  · rw [decide_eq_true h]; exact (PutReply_ok e at_ B d xs w hx h).mono fun _ _ h => h.x
  · rw [decide_eq_false h]; exact (PutReply_not e at_ B d xs w (by omega)).mono fun _ _ h => h.x
theorem RPutReply_x (e at_ : Int64) (B : Option Addr) (d : Nat) (xs : List Got) (w : World) (hx : RdG w B d xs) (o : Bytes × Nat) (ho : o = outOf (decide (xs.length ≤ 8)) (encReply ⟨e, at_, xs⟩)) :
    Calls Try.prog 63 #[.agg #[.int .i64 e.toInt, .int .i64 at_.toInt, .slice B xs.length d]] w (PutsX o w) := by
  subst ho
  by_cases h : xs.length ≤ 8
  · rw [decide_eq_true h]; exact (RPutReply_ok e at_ B d xs w hx h).mono fun _ _ h => h.x
  · rw [decide_eq_false h]; exact (RPutReply_not e at_ B xs.length d w (by omega)).mono fun _ _ h => h.x
theorem isS_cmd : IsS Try.prog 24 1 := ⟨⟨_, Try.underlying24, rfl⟩, by kernel_rfl⟩
theorem isS_entry : IsS Try.prog 124 5 := ⟨⟨_, Try.underlying124, rfl⟩, by kernel_rfl⟩
set_option maxRecDepth 100000 in
set_option maxHeartbeats 4000000 in
theorem put16_calls (x : EntV) (r : RepV) (w : World) (hx : x.Ok w) (hr : r.Ok w) :
    Calls Try.prog 11 #[.agg x.cells.toArray, .agg r.cells.toArray] w fun e w' => e = .returned (.bool true) ∧ Nw w w' := by
  obtain ⟨index, term, cl, num, ⟨xs, B, d⟩⟩ := x
  obtain ⟨rE, rAt, ⟨gs, C, dg⟩⟩ := r
  have HX : Hid (RdSt w B d xs) := Lib.hid hx.rd
  have HG : Hid (RdG w C dg gs) := Lib.hid hr.rd
  have HN0 : Hid (Nw w ((w.alloc (.cells #[.int .u64 index.toNat, .int .u64 term.toNat, .int .u8 cl.toNat, .int .u64 num.toNat, .slice B xs.length d] 124)).alloc (.cells #[.int .i64 rE.toInt, .int .i64 rAt.toInt, .slice C gs.length dg] 34))) := Lib.hid (((Kp.refl _ w).alloc _).alloc _)
  clear hx hr
  have lives_ : ∀ w0, Nw w w0 → Calls Try.prog 54 #[] w0 fun e w' => e = .returned (.bool true) ∧ Nw w w' := fun w0 h => (lives16 w0).mono fun e w' ⟨h1, h2⟩ => ⟨h1, h.trans h2 (fun _ _ e => e)⟩
  have HL := Lib.hid lives_
  clear lives_
  show Calls Try.prog 11 #[.agg #[.int .u64 index.toNat, .int .u64 term.toNat, .int .u8 cl.toNat, .int .u64 num.toNat, .slice B xs.length d], .agg #[.int .i64 rE.toInt, .int .i64 rAt.toInt, .slice C gs.length dg]] w _
  by_cases hg : 100 < xs.length
  · have hd1 : decide ((100 : Int) < (xs.length : Int)) = true := decide_eq_true (by omega)
    go_enter Try.func11, Try.ntmps11
    go_wp2_with fail
    go_must (refine (HL.out _ HN0.out).mono ?_)
    rintro e w1 ⟨rfl, hk⟩
    go_wp2_with fail
    go_ret
    exact ⟨rfl, hk⟩
  have hd1 : decide ((100 : Int) < (xs.length : Int)) = false := decide_eq_false (by omega)
  by_cases hg2 : 100 < gs.length
  · have hd2 : decide ((100 : Int) < (gs.length : Int)) = true := decide_eq_true (by omega)
    go_enter Try.func11, Try.ntmps11
    go_wp2_with fail
    go_must (refine (HL.out _ HN0.out).mono ?_)
    rintro e w1 ⟨rfl, hk⟩
    go_wp2_with fail
    go_ret
    exact ⟨rfl, hk⟩
  have hd2 : decide ((100 : Int) < (gs.length : Int)) = false := decide_eq_false (by omega)
  have HG1 : Hid (xs.length ≤ 100) := Lib.hid (by omega)
  have HG2 : Hid (gs.length ≤ 100) := Lib.hid (by omega)
  clear hg hg2
  go_enter Try.func11, Try.ntmps11
  go_wp2_with fail
  have hxl : (xs.length : Int) ≤ 100000 := by have := HG1.out; omega
  have HBx0 : Hid (Blk (((w.alloc (.cells #[.int .u64 index.toNat, .int .u64 term.toNat, .int .u8 cl.toNat, .int .u64 num.toNat, .slice B xs.length d] 124)).alloc (.cells #[.int .i64 rE.toInt, .int .i64 rAt.toInt, .slice C gs.length dg] 34)).alloc (.cells #[.int .u64 index.toNat, .int .u64 term.toNat, .int .u8 cl.toNat, .int .u64 num.toNat, .slice B xs.length d] 124)) w.heap.size 124 #[.int .u64 index.toNat, .int .u64 term.toNat, .int .u8 cl.toNat, .int .u64 num.toNat, .slice B xs.length d]) := Lib.hid (((Blk.new _ _ _).alloc _).alloc _)
  have HBr0 : Hid (Blk (((w.alloc (.cells #[.int .u64 index.toNat, .int .u64 term.toNat, .int .u8 cl.toNat, .int .u64 num.toNat, .slice B xs.length d] 124)).alloc (.cells #[.int .i64 rE.toInt, .int .i64 rAt.toInt, .slice C gs.length dg] 34)).alloc (.cells #[.int .u64 index.toNat, .int .u64 term.toNat, .int .u8 cl.toNat, .int .u64 num.toNat, .slice B xs.length d] 124)) (w.heap.size + 1) 34 #[.int .i64 rE.toInt, .int .i64 rAt.toInt, .slice C gs.length dg]) := Lib.hid ((Blk.newAt (by simp) _ _).alloc _)
  have HBt0 : Hid (Blk (((w.alloc (.cells #[.int .u64 index.toNat, .int .u64 term.toNat, .int .u8 cl.toNat, .int .u64 num.toNat, .slice B xs.length d] 124)).alloc (.cells #[.int .i64 rE.toInt, .int .i64 rAt.toInt, .slice C gs.length dg] 34)).alloc (.cells #[.int .u64 index.toNat, .int .u64 term.toNat, .int .u8 cl.toNat, .int .u64 num.toNat, .slice B xs.length d] 124)) (w.heap.size + 2) 124 #[.int .u64 index.toNat, .int .u64 term.toNat, .int .u8 cl.toNat, .int .u64 num.toNat, .slice B xs.length d]) := Lib.hid (Blk.newAt (by simp) _ _)
  have HN2 : Hid (Nw w (((w.alloc (.cells #[.int .u64 index.toNat, .int .u64 term.toNat, .int .u8 cl.toNat, .int .u64 num.toNat, .slice B xs.length d] 124)).alloc (.cells #[.int .i64 rE.toInt, .int .i64 rAt.toInt, .slice C gs.length dg] 34)).alloc (.cells #[.int .u64 index.toNat, .int .u64 term.toNat, .int .u8 cl.toNat, .int .u64 num.toNat, .slice B xs.length d] 124))) := Lib.hid (HN0.out.alloc _)
  have hsz : ((((w.alloc (.cells #[.int .u64 index.toNat, .int .u64 term.toNat, .int .u8 cl.toNat, .int .u64 num.toNat, .slice B xs.length d] 124)).alloc (.cells #[.int .i64 rE.toInt, .int .i64 rAt.toInt, .slice C gs.length dg] 34)).alloc (.cells #[.int .u64 index.toNat, .int .u64 term.toNat, .int .u8 cl.toNat, .int .u64 num.toNat, .slice B xs.length d] 124))).heap.size = w.heap.size + 3 := by simp
  have HSz := Lib.hid hsz
  clear hsz
  generalize (((w.alloc (.cells #[.int .u64 index.toNat, .int .u64 term.toNat, .int .u8 cl.toNat, .int .u64 num.toNat, .slice B xs.length d] 124)).alloc (.cells #[.int .i64 rE.toInt, .int .i64 rAt.toInt, .slice C gs.length dg] 34)).alloc (.cells #[.int .u64 index.toNat, .int .u64 term.toNat, .int .u8 cl.toNat, .int .u64 num.toNat, .slice B xs.length d] 124)) = w0 at *
  go_must (refine (TwinCall_ cl num B d xs w0 (HX.out.nw HN2.out) hxl).mono ?_)
  rintro e w1 ⟨g, c2, rfl, ho1, hk1⟩
  have HO1 := Lib.hid ho1
  have HK1 := Lib.hid hk1
  have HBt1 := Lib.hid (HBt0.out.nw hk1)
  clear ho1 hk1
  go_wp2_with ((with_reducible refine stopAt (.store 30 (.tmp 36) (.tmp 35)) rfl ?_); go_must (refine unStop (wpList_stS rfl 30 (.tmp 36) (.tmp 35) rfl [.int .u8 cl.toNat, .int .u64 num.toNat, .slice (some ⟨g, 0, none⟩) xs.length c2] isS_call (w.heap.size + 2) 2 rfl rfl rfl HBt1.out [.int .u64 index.toNat, .int .u64 term.toNat, .int .u8 cl.toNat, .int .u64 num.toNat, .slice (some ⟨g, 0, none⟩) xs.length c2] (by simp) (by simp [Value.oneCell']) rfl ?_)); intro w2 hb2 hk2; have HB2 := Lib.hid hb2; have HK2 := Lib.hid hk2; clear hb2 hk2; change Stop _)
  have HO2 : Hid (Own w2 w0.heap.size 169 10 (some ⟨g, 0, none⟩) (xs.length + 2) c2 ((xs ++ [markSt, markSt]).flatMap Step.cells)) := Lib.hid (HO1.out.kp HK2.out (fun k hk e => by have := (HO1.out.lt k hk).1; have := HSz.out; omega))
  have HNw2 : Hid (Nw w w2) := Lib.hid ((HN2.out.nw HK1.out).trans HK2.out (fun k hk e => by omega))
  have HBx2 := Lib.hid ((HBx0.out.nw HK1.out).kp HK2.out (by omega))
  have HBr2 := Lib.hid ((HBr0.out.nw HK1.out).kp HK2.out (by omega))
  have HTw : Hid (∀ w', Nw w2 w' → RdSt w' (some ⟨g, 0, none⟩) c2 xs) := Lib.hid (fun w' hk => by
    have h1 := (HO2.out.nw hk).cutTo (k := xs.length) (Nat.le_add_right _ _)
    have h2 : ((xs ++ [markSt, markSt]).flatMap Step.cells).take (xs.length * 10) = xs.flatMap Step.cells := by
      rw [List.flatMap_append, List.take_left' (by rw [flat_len Step.cells 10 (fun _ => rfl)])]
    rw [h2] at h1
    exact h1.rd)
  have HXr : Hid (∀ w', Nw w2 w' → RdSt w' B d xs) := Lib.hid (fun w' hk => HX.out.nw (HNw2.out.nw hk))
  have HGr : Hid (∀ w', Nw w2 w' → RdG w' C dg gs) := Lib.hid (fun w' hk => HG.out.nw (HNw2.out.nw hk))
  have HKc : Hid (Nw w2 w2) := Lib.hid (Kp.refl _ _)
  clear HBx0 HBr0 HBt0 HBt1 HN0 HN2 HO1 HK1 HK2
  obtain ⟨oE, hoE⟩ : ∃ o, o = outOf (decide (xs.length ≤ 8)) (encEntry ⟨index, term, cl, num, xs⟩) := ⟨_, rfl⟩
  have HoE := Lib.hid hoE
  clear hoE
  obtain ⟨oC, hoC⟩ : ∃ o, o = outOf (decide (xs.length ≤ 8)) (encList encStep xs) := ⟨_, rfl⟩
  have HoC := Lib.hid hoC
  clear hoC
  obtain ⟨oR, hoR⟩ : ∃ o, o = outOf (decide (gs.length ≤ 8)) (encReply ⟨rE, rAt, gs⟩) := ⟨_, rfl⟩
  have HoR := Lib.hid hoR
  clear hoR
  refine unStop ?_
  go_wp2_with ((with_reducible refine stopAt (.load 124 (.tmp 5)) rfl ?_); go_must (refine unStop (wpList_ldS rfl 124 (.tmp 5) rfl isS_entry (w.heap.size + 2) 0 rfl (HB2.out.nw HKc.out) [.int .u64 index.toNat, .int .u64 term.toNat, .int .u8 cl.toNat, .int .u64 num.toNat, .slice (some ⟨g, 0, none⟩) xs.length c2] rfl rfl ?_)))
  go_must (refine (PutEntry_x index term cl num (some ⟨g, 0, none⟩) c2 xs w2 (HTw.out _ HKc.out) oE HoE.out).mono ?_)
  rintro e w3 ⟨A3, d3, rfl, ho3, hk3⟩
  have HP3 := Lib.hid ho3
  have HQ3 := Lib.hid hk3
  replace HKc := Lib.hid (HKc.out.nw hk3)
  clear ho3 hk3
  go_wp2_with ((with_reducible refine stopAt (.load 124 (.tmp 2)) rfl ?_); go_must (refine unStop (wpList_ldS rfl 124 (.tmp 2) rfl isS_entry w.heap.size 0 rfl (HBx2.out.nw HKc.out) [.int .u64 index.toNat, .int .u64 term.toNat, .int .u8 cl.toNat, .int .u64 num.toNat, .slice B xs.length d] rfl rfl ?_)))
  go_must (refine (RPutEntry_x index term cl num B d xs w3 (HXr.out _ HKc.out) oE HoE.out).mono ?_)
  rintro e w4 ⟨A4, d4, rfl, ho4, hk4⟩
  have HP4 := Lib.hid ho4
  have HQ4 := Lib.hid hk4
  replace HKc := Lib.hid (HKc.out.nw hk4)
  clear ho4 hk4
  go_wp2_with ((with_reducible refine stopAt (.load 24 (.tmp 49)) rfl ?_); go_must (refine unStop (wpList_ldS rfl 24 (.tmp 49) rfl isS_cmd (w.heap.size + 2) 4 rfl (HB2.out.nw HKc.out) [.slice (some ⟨g, 0, none⟩) xs.length c2] rfl rfl ?_)))
  go_must (refine (PutCommand_x (some ⟨g, 0, none⟩) c2 xs w4 (HTw.out _ HKc.out) oC HoC.out).mono ?_)
  rintro e w5 ⟨A5, d5, rfl, ho5, hk5⟩
  have HP5 := Lib.hid ho5
  have HQ5 := Lib.hid hk5
  replace HKc := Lib.hid (HKc.out.nw hk5)
  clear ho5 hk5
  go_wp2_with ((with_reducible refine stopAt (.load 24 (.tmp 56)) rfl ?_); go_must (refine unStop (wpList_ldS rfl 24 (.tmp 56) rfl isS_cmd w.heap.size 4 rfl (HBx2.out.nw HKc.out) [.slice B xs.length d] rfl rfl ?_)))
  go_must (refine (RPutCommand_x B d xs w5 (HXr.out _ HKc.out) oC HoC.out).mono ?_)
  rintro e w6 ⟨A6, d6, rfl, ho6, hk6⟩
  have HP6 := Lib.hid ho6
  have HQ6 := Lib.hid hk6
  replace HKc := Lib.hid (HKc.out.nw hk6)
  clear ho6 hk6
  go_wp2_with ((with_reducible refine stopAt (.load 34 (.tmp 3)) rfl ?_); go_must (refine unStop (wpList_ldS rfl 34 (.tmp 3) rfl sS_reply (w.heap.size + 1) 0 rfl (HBr2.out.nw HKc.out) [.int .i64 rE.toInt, .int .i64 rAt.toInt, .slice C gs.length dg] rfl rfl ?_)))
  go_must (refine (PutReply_x rE rAt C dg gs w6 (HGr.out _ HKc.out) oR HoR.out).mono ?_)
  rintro e w7 ⟨A7, d7, rfl, ho7, hk7⟩
  have HP7 := Lib.hid ho7
  have HQ7 := Lib.hid hk7
  replace HKc := Lib.hid (HKc.out.nw hk7)
  clear ho7 hk7
  go_wp2_with ((with_reducible refine stopAt (.load 34 (.tmp 3)) rfl ?_); go_must (refine unStop (wpList_ldS rfl 34 (.tmp 3) rfl sS_reply (w.heap.size + 1) 0 rfl (HBr2.out.nw HKc.out) [.int .i64 rE.toInt, .int .i64 rAt.toInt, .slice C gs.length dg] rfl rfl ?_)))
  go_must (refine (RPutReply_x rE rAt C dg gs w7 (HGr.out _ HKc.out) oR HoR.out).mono ?_)
  rintro e w8 ⟨A8, d8, rfl, ho8, hk8⟩
  have HP8 := Lib.hid ho8
  have HQ8 := Lib.hid hk8
  replace HKc := Lib.hid (HKc.out.nw hk8)
  clear ho8 hk8
  have noE : ((oE.2 : Int) != (oE.2 : Int)) = false := by simp
  have noC : ((oC.2 : Int) != (oC.2 : Int)) = false := by simp
  have noR : ((oR.2 : Int) != (oR.2 : Int)) = false := by simp
  have N78 : Hid (Nw w7 w8) := HQ8
  have N68 : Hid (Nw w6 w8) := Lib.hid (HQ7.out.nw N78.out)
  have N58 : Hid (Nw w5 w8) := Lib.hid (HQ6.out.nw N68.out)
  have N48 : Hid (Nw w4 w8) := Lib.hid (HQ5.out.nw N58.out)
  have N38 : Hid (Nw w3 w8) := Lib.hid (HQ4.out.nw N48.out)
  have HS1 := Lib.hid (SameBytes_ A3 A4 d3 d4 oE.1 w8 (HP3.out.nw N38.out).rd (HP4.out.nw N48.out).rd)
  go_wp2_with fail
  go_must (refine HS1.out.mono ?_)
  rintro e w9 ⟨rfl, nd9, hw9⟩
  have N89 : Hid (Nw w8 w9) := Lib.hid (by rw [hw9]; exact (Kp.refl _ _).drewN nd9)
  clear hw9
  have HS2 := Lib.hid (SameBytes_ A5 A6 d5 d6 oC.1 w9 ((HP5.out.nw N58.out).nw N89.out).rd ((HP6.out.nw N68.out).nw N89.out).rd)
  go_wp2_with fail
  go_must (refine HS2.out.mono ?_)
  rintro e w10 ⟨rfl, nd10, hw10⟩
  have N810 : Hid (Nw w8 w10) := Lib.hid (by rw [hw10]; exact N89.out.drewN nd10)
  clear hw10
  have HS3 := Lib.hid (SameBytes_ A7 A8 d7 d8 oR.1 w10 ((HP7.out.nw N78.out).nw N810.out).rd ((HP8.out.nw N810.out)).rd)
  go_wp2_with fail
  go_must (refine HS3.out.mono ?_)
  rintro e w11 ⟨rfl, nd11, hw11⟩
  have N811 : Hid (Nw w8 w11) := Lib.hid (by rw [hw11]; exact N810.out.drewN nd11)
  have K11 : Hid (Nw w2 w11) := Lib.hid (HKc.out.nw N811.out)
  clear hw11 noE noC noR
  have hbt := HB2.out.nw K11.out
  have hbx := HBx2.out.nw K11.out
  have p2 : w11.cell? ⟨w.heap.size + 1 + 1, 2, none⟩ = some (.int .u8 cl.toNat) := hbt.cell 2
  have p3 : w11.cell? ⟨w.heap.size + 1 + 1, 3, none⟩ = some (.int .u64 num.toNat) := hbt.cell 3
  have p4 : w11.cell? ⟨w.heap.size + 1 + 1, 4, none⟩ = some (.slice (some ⟨g, 0, none⟩) xs.length c2) := hbt.cell 4
  have q2 : w11.cell? ⟨w.heap.size, 2, none⟩ = some (.int .u8 cl.toNat) := hbx.cell 2
  have q3 : w11.cell? ⟨w.heap.size, 3, none⟩ = some (.int .u64 num.toNat) := hbx.cell 3
  have q4 : w11.cell? ⟨w.heap.size, 4, none⟩ = some (.slice B xs.length d) := hbx.cell 4
  have HLc := Lib.hid (LeftCall_ cl num g w0.heap.size c2 B d xs w11 hxl (HO2.out.nw K11.out) (HXr.out _ K11.out))
  clear hbt hbx
  go_wp2_with fail
  go_must (refine HLc.out.mono ?_)
  rintro e w12 ⟨rfl, hk12⟩
  have N812 : Hid (Nw w8 w12) := Lib.hid (N811.out.nw hk12)
  clear p2 p3 p4 q2 q3 q4 hk12
  have hbo : Bo (w12.alloc (.cells #[.slice none 0 0] 100)) w12.heap.size w12.heap.size [] := ⟨none, 0, Blk.new _ _ _, Own.nil _ _ _ _, by simp [blkOf]⟩
  have HBo := Lib.hid hbo
  have N813 : Hid (Nw w8 (w12.alloc (.cells #[.slice none 0 0] 100))) := Lib.hid (N812.out.alloc _)
  have HZ : Hid ((w12.alloc (.cells #[.slice none 0 0] 100)).heap.size = w12.heap.size + 1) := Lib.hid (by simp)
  clear hbo
  go_wp2_with fail
  generalize (w12.alloc (.cells #[.slice none 0 0] 100)) = w13 at *
  go_must (refine (Bytes01 w12.heap.size w12.heap.size _ A3 oE.1.length d3 w13 HBo.out (by simp) (by have := HZ.out; omega)).mono ?_)
  rintro e w14 ⟨rfl, hbo, hk⟩
  replace HBo := Lib.hid hbo
  replace HZ : Hid (w12.heap.size + 1 ≤ w14.heap.size) := Lib.hid (by have := HZ.out; have := hk.size; omega)
  have N814 : Hid (Nw w8 w14) := Lib.hid (N813.out.trans hk (fun k hk e => by have := N812.out.size; omega))
  clear hbo hk
  go_wp2_with fail
  go_must (refine (Bytes01 w12.heap.size w12.heap.size _ A5 oC.1.length d5 w14 HBo.out (by simp) (by have := HZ.out; omega)).mono ?_)
  rintro e w15 ⟨rfl, hbo, hk⟩
  replace HBo := Lib.hid hbo
  replace HZ : Hid (w12.heap.size + 1 ≤ w15.heap.size) := Lib.hid (by have := HZ.out; have := hk.size; omega)
  have N815 : Hid (Nw w8 w15) := Lib.hid (N814.out.trans hk (fun k hk e => by have := N812.out.size; omega))
  clear hbo hk
  go_wp2_with fail
  go_must (refine (Bytes01 w12.heap.size w12.heap.size _ A7 oR.1.length d7 w15 HBo.out (by simp) (by have := HZ.out; omega)).mono ?_)
  rintro e w16 ⟨rfl, hbo, hk⟩
  replace HBo := Lib.hid hbo
  replace HZ : Hid (w12.heap.size + 1 ≤ w16.heap.size) := Lib.hid (by have := HZ.out; have := hk.size; omega)
  have N816 : Hid (Nw w8 w16) := Lib.hid (N815.out.trans hk (fun k hk e => by have := N812.out.size; omega))
  clear hbo hk
  go_wp2_with fail
  obtain ⟨m1, b1, m2, b2, m3, b3, hbo2⟩ : ∃ m1 b1 m2 b2 m3 b3 : UInt8, Bo w16 w12.heap.size w12.heap.size (([⟨A3, oE.1.length, d3, .byte m1 b1⟩, ⟨A5, oC.1.length, d5, .byte m2 b2⟩, ⟨A7, oR.1.length, d7, .byte m3 b3⟩] : List PgV).map PgV.val) := ⟨_, _, _, _, _, _, HBo.out⟩
  obtain ⟨ps, hps⟩ : ∃ ps, ps = ([⟨A3, oE.1.length, d3, .byte m1 b1⟩, ⟨A5, oC.1.length, d5, .byte m2 b2⟩, ⟨A7, oR.1.length, d7, .byte m3 b3⟩] : List PgV) := ⟨_, rfl⟩
  rw [← hps] at hbo2
  have HBo2 := Lib.hid hbo2
  clear hbo2
  have HLone : Hid (Lone ps w12.heap.size) := Lib.hid (by
    have q4 := HQ4.out.size; have q5 := HQ5.out.size; have q6 := HQ6.out.size; have q7 := HQ7.out.size; have q8 := HQ8.out.size; have q12 := N812.out.size; have q3 := HQ3.out.size
    refine Lone.up (fun i => match i with | 0 => w2.heap.size | 1 => w4.heap.size | 2 => w6.heap.size | _ => w12.heap.size) (fun i => ?_) (by rw [hps]; exact Nat.le_refl _) (fun i p hi k hk => ?_)
    · match i with
      | 0 => show w2.heap.size ≤ w4.heap.size; omega
      | 1 => show w4.heap.size ≤ w6.heap.size; omega
      | 2 => show w6.heap.size ≤ w12.heap.size; omega
      | _ + 3 => exact Nat.le_refl _
    · rw [hps] at hi
      match i, hi with
      | 0, hi => cases hi; have := HP3.out.lt k hk; show w2.heap.size ≤ k ∧ k < w4.heap.size; omega
      | 1, hi => cases hi; have := HP5.out.lt k hk; show w4.heap.size ≤ k ∧ k < w6.heap.size; omega
      | 2, hi => cases hi; have := HP7.out.lt k hk; show w6.heap.size ≤ k ∧ k < w12.heap.size; omega)
  have HRow : Hid (∀ p ∈ ps, p.row w16 0) := Lib.hid (by
    rw [hps]
    intro p hp
    rcases List.mem_cons.1 hp with rfl | hp
    · exact (((HP3.out.nw N38.out).nw N816.out)).row
    rcases List.mem_cons.1 hp with rfl | hp
    · exact (((HP5.out.nw N58.out).nw N816.out)).row
    rcases List.mem_cons.1 hp with rfl | hp
    · exact (((HP7.out.nw N78.out).nw N816.out)).row
    cases hp)
  have HFar : Hid (∀ k, (∃ p ∈ ps, blkOf p.A = some k) → w2.heap.size ≤ k) := Lib.hid (fun k ⟨p, hp, hk⟩ => by
    have q4 := HQ4.out.size; have q5 := HQ5.out.size; have q6 := HQ6.out.size; have q3 := HQ3.out.size
    rw [hps] at hp
    rcases List.mem_cons.1 hp with rfl | hp
    · exact (HP3.out.lt k hk).1
    rcases List.mem_cons.1 hp with rfl | hp
    · have := (HP5.out.lt k hk).1; omega
    rcases List.mem_cons.1 hp with rfl | hp
    · have := (HP7.out.lt k hk).1; omega
    cases hp)
  have HAp := Lib.hid (Apart01 w12.heap.size w12.heap.size ps w16 HBo2.out HLone.out HRow.out (by rw [hps]; simp) (by rw [hps]; simp) (Nat.le_refl _))
  replace hps := Lib.hid hps
  go_must (refine HAp.out.mono ?_)
  rintro e w17 ⟨rfl, hk17⟩
  have N17 : Hid (Nw w w17) := Lib.hid ((HNw2.out.nw (HKc.out.nw N816.out)).trans hk17 (fun k hk e => by have h1 := HFar.out k e; have h2 := HNw2.out.size; omega))
  clear hk17
  go_wp2_with fail
  go_must (refine (HL.out _ N17.out).mono ?_)
  rintro e w18 ⟨rfl, hk18⟩
  go_wp2_with fail
  go_ret
  exact ⟨rfl, hk18⟩
end Go.Proofs.Ytiimdnachgkomaa
