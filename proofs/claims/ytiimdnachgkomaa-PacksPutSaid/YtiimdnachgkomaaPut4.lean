/- packs: PutCommand, PutReply, PutEntry, PutState: the bytes, in memory of their own; or that it may not be. -/
import Derived.Test.YtiimdnachgkomaaPut3
namespace Go.Proofs.Ytiimdnachgkomaa
open Go Go.RowKit
theorem Own.up {w : World} {b0 base size n c : Nat} {t : TypeId} {A : Option Addr} {xs : List Value} (h : Own w b0 t size A n c xs) (hf : ∀ k, k < base → blkOf A ≠ some k) : Own w base t size A n c xs := by
  refine ⟨h.len, h.cap, h.max, ?_⟩
  rcases h.at_ with h' | ⟨g, cur, rfl, _, hr⟩
  · exact .inl h'
  · refine .inr ⟨g, cur, rfl, ?_, hr⟩
    rcases Nat.lt_or_ge g base with hlt | hge
    · exact absurd rfl (hf g hlt)
    · exact hge
/-- Bytes in memory of their own, and no error. -/
def Puts (l : Bytes) (w : World) (e : Ending) (w' : World) : Prop := ∃ A, e = .returned (.tuple #[.slice A l.length l.length, .int .i64 0]) ∧ OwnB w' w.heap.size A l.length l ∧ Nw w w'
def PutNot (w : World) (e : Ending) (w' : World) : Prop := e = .returned (.tuple #[.slice none 0 0, .int .i64 3]) ∧ Nw w w'
theorem Away.none {w : World} {g size n d : Nat} {B : Option Addr} {xs : List Value} (hr : Rd w size B n d xs) (hs : 0 < size) (hg : w.heap.size ≤ g) : Away g none n B := fun hn k hk => by
  obtain ⟨k', hk', hlt⟩ := hr.blk_lt hn hs
  rw [hk'] at hk; injection hk with hk; subst hk
  exact ⟨by omega, by simp [blkOf]⟩

set_option maxRecDepth 20000 in
set_option maxHeartbeats 400000 in
theorem put1_command (B : Option Addr) (d : Nat) (xs : List Step) (w : World) (hx1 : RdSt w B d xs) (hn1 : xs.length ≤ 1000) :
    Calls Try.prog 108 #[.agg #[.slice B xs.length d], .bool true, .func (.func 109) #[] #[]] w (Puts (encList encStep xs) w) := by
  have HP : Hid (Put ((w.alloc (.cells #[.slice B xs.length d] 24)).alloc (.cells #[.slice none 0 0] 249)) (w.heap.size + 1) none 0 []) := Lib.hid ⟨Blk.newAt (by simp) _ _, Own.nil _ _ _ _, by simp [blkOf]⟩
  have hn0 : Nw w ((w.alloc (.cells #[.slice B xs.length d] 24)).alloc (.cells #[.slice none 0 0] 249)) := ((Kp.refl _ w).alloc _).alloc _
  have HX1 := Lib.hid (hx1.nw hn0)
  have HA1 := Lib.hid (Away.none hx1 (by omega) (show w.heap.size ≤ w.heap.size + 1 by omega))
  have HN1 := Lib.hid hn1
  clear hx1 hn1
  go_enter Try.func108, Try.ntmps108
  go_wp2_with ((with_reducible refine stopAt (.load 24 (.tmp 3)) rfl ?_); go_must (refine unStop (wpList_ldS rfl 24 (.tmp 3) rfl sS_command w.heap.size 0 rfl ((Blk.new w _ _).alloc _) [.slice B xs.length d] rfl rfl ?_)))
  go_must (refine (put_command (w.heap.size + 1) none 0 [] B d xs _ HP.out HX1.out HA1.out HN1.out (by simp)).mono ?_)
  rintro e w1 ⟨rfl, A1, c1, hp1, hs1⟩
  have hN := Lib.hid (hn0.trans hs1.kp (S := fun _ => False) (fun i hi e => by rcases e with e | e; omega; simp [blkOf] at e))
  have hf : Hid (∀ k, k < w.heap.size → blkOf A1 ≠ some k) := Lib.hid (fun k hk => hs1.far k (by have := hn0.size; omega) (by omega) (by simp [blkOf]))
  have q0 : World.cell? _ ⟨w.heap.size + 1, 0, none⟩ = (some (.slice A1 ([] ++ encList encStep xs : Bytes).length c1) : Option Value) := hp1.blk.cell 0
  have HP1 := Lib.hid hp1
  clear hp1 hs1 hn0
  simp only [List.nil_append] at q0 HP1
  go_wp2_with fail
  go_must (refine (clip_byte _ _ _ _ HP1.out.own.cap).mono ?_)
  rintro e w2 ⟨rfl, rfl⟩
  go_wp2_with fail
  go_ret2
  exact ⟨A1, rfl, HP1.out.own.clip.up hf.out, hN.out⟩
set_option maxRecDepth 20000 in
set_option maxHeartbeats 400000 in
theorem put0_command (cs : Array Value) (v : Value) (w : World) :
    Calls Try.prog 108 #[.agg cs, .bool false, v] w (PutNot w) := by
  go_enter Try.func108, Try.ntmps108
  go_wp2_with fail
  go_ret2
  exact ⟨rfl, (Kp.refl _ w).alloc _⟩
set_option maxRecDepth 20000 in
set_option maxHeartbeats 400000 in
theorem PutCommand_ok (B : Option Addr) (d : Nat) (xs : List Step) (w : World) (hx1 : RdSt w B d xs) (hm1 : xs.length ≤ 8) :
    Calls Try.prog 60 #[.agg #[.slice B xs.length d]] w (Puts (encList encStep xs) w) := by
  have HX1 := Lib.hid (hx1.alloc (.cells #[.slice B xs.length d] 24))
  have HN1 : Hid (xs.length ≤ 1000) := Lib.hid (by omega)
  have hd1 : decide ((xs.length : Int) ≤ 8) = true := decide_eq_true (by omega)
  clear hx1
  go_enter Try.func60, Try.ntmps60
  go_wp2_with ((with_reducible refine stopAt (.load 24 (.tmp 1)) rfl ?_); go_must (refine unStop (wpList_ldS rfl 24 (.tmp 1) rfl sS_command w.heap.size 0 rfl (Blk.new w _ _) [.slice B xs.length d] rfl rfl ?_)))
  go_must (refine (put1_command B d xs _ HX1.out HN1.out).mono ?_)
  rintro e w1 ⟨A, rfl, ho, hk⟩
  go_wp2_with fail
  go_ret2
  exact ⟨A, rfl, ho.low (by simp), ((Kp.refl _ w).alloc _).nw hk⟩
set_option maxRecDepth 20000 in
set_option maxHeartbeats 400000 in
theorem PutCommand_not (B : Option Addr) (d : Nat) (xs : List Step) (w : World) (hm : 8 < xs.length) :
    Calls Try.prog 60 #[.agg #[.slice B xs.length d]] w (PutNot w) := by
  have hd1 : decide ((xs.length : Int) ≤ 8) = false := decide_eq_false (by omega)
  go_enter Try.func60, Try.ntmps60
  go_wp2_with ((with_reducible refine stopAt (.load 24 (.tmp 1)) rfl ?_); go_must (refine unStop (wpList_ldS rfl 24 (.tmp 1) rfl sS_command w.heap.size 0 rfl (Blk.new w _ _) [.slice B xs.length d] rfl rfl ?_)))
  go_must (refine (put0_command _ _ _).mono ?_)
  rintro e w1 ⟨rfl, hk⟩
  go_wp2_with fail
  go_ret2
  exact ⟨rfl, ((Kp.refl _ w).alloc _).nw hk⟩
set_option maxRecDepth 20000 in
set_option maxHeartbeats 400000 in
theorem put1_reply (e at_ : Int64) (B : Option Addr) (d : Nat) (xs : List Got) (w : World) (hx1 : RdG w B d xs) (hn1 : xs.length ≤ 1000) :
    Calls Try.prog 111 #[.agg #[.int .i64 e.toInt, .int .i64 at_.toInt, .slice B xs.length d], .bool true, .func (.func 112) #[] #[]] w (Puts (encReply ⟨e, at_, xs⟩) w) := by
  have HP : Hid (Put ((w.alloc (.cells #[.int .i64 e.toInt, .int .i64 at_.toInt, .slice B xs.length d] 34)).alloc (.cells #[.slice none 0 0] 249)) (w.heap.size + 1) none 0 []) := Lib.hid ⟨Blk.newAt (by simp) _ _, Own.nil _ _ _ _, by simp [blkOf]⟩
  have hn0 : Nw w ((w.alloc (.cells #[.int .i64 e.toInt, .int .i64 at_.toInt, .slice B xs.length d] 34)).alloc (.cells #[.slice none 0 0] 249)) := ((Kp.refl _ w).alloc _).alloc _
  have HX1 := Lib.hid (hx1.nw hn0)
  have HA1 := Lib.hid (Away.none hx1 (by omega) (show w.heap.size ≤ w.heap.size + 1 by omega))
  have HN1 := Lib.hid hn1
  clear hx1 hn1
  go_enter Try.func111, Try.ntmps111
  go_wp2_with ((with_reducible refine stopAt (.load 34 (.tmp 3)) rfl ?_); go_must (refine unStop (wpList_ldS rfl 34 (.tmp 3) rfl sS_reply w.heap.size 0 rfl ((Blk.new w _ _).alloc _) [.int .i64 e.toInt, .int .i64 at_.toInt, .slice B xs.length d] rfl rfl ?_)))
  go_must (refine (put_reply (w.heap.size + 1) none 0 [] e at_ B d xs _ HP.out HX1.out HA1.out HN1.out (by simp)).mono ?_)
  rintro e w1 ⟨rfl, A1, c1, hp1, hs1⟩
  have hN := Lib.hid (hn0.trans hs1.kp (S := fun _ => False) (fun i hi e => by rcases e with e | e; omega; simp [blkOf] at e))
  have hf : Hid (∀ k, k < w.heap.size → blkOf A1 ≠ some k) := Lib.hid (fun k hk => hs1.far k (by have := hn0.size; omega) (by omega) (by simp [blkOf]))
  have q0 : World.cell? _ ⟨w.heap.size + 1, 0, none⟩ = (some (.slice A1 ([] ++ encReply ⟨e, at_, xs⟩ : Bytes).length c1) : Option Value) := hp1.blk.cell 0
  have HP1 := Lib.hid hp1
  clear hp1 hs1 hn0
  simp only [List.nil_append] at q0 HP1
  go_wp2_with fail
  go_must (refine (clip_byte _ _ _ _ HP1.out.own.cap).mono ?_)
  rintro e w2 ⟨rfl, rfl⟩
  go_wp2_with fail
  go_ret2
  exact ⟨A1, rfl, HP1.out.own.clip.up hf.out, hN.out⟩
set_option maxRecDepth 20000 in
set_option maxHeartbeats 400000 in
theorem put0_reply (cs : Array Value) (v : Value) (w : World) :
    Calls Try.prog 111 #[.agg cs, .bool false, v] w (PutNot w) := by
  go_enter Try.func111, Try.ntmps111
  go_wp2_with fail
  go_ret2
  exact ⟨rfl, (Kp.refl _ w).alloc _⟩
set_option maxRecDepth 20000 in
set_option maxHeartbeats 400000 in
theorem PutReply_ok (e at_ : Int64) (B : Option Addr) (d : Nat) (xs : List Got) (w : World) (hx1 : RdG w B d xs) (hm1 : xs.length ≤ 8) :
    Calls Try.prog 62 #[.agg #[.int .i64 e.toInt, .int .i64 at_.toInt, .slice B xs.length d]] w (Puts (encReply ⟨e, at_, xs⟩) w) := by
  have HX1 := Lib.hid (hx1.alloc (.cells #[.int .i64 e.toInt, .int .i64 at_.toInt, .slice B xs.length d] 34))
  have HN1 : Hid (xs.length ≤ 1000) := Lib.hid (by omega)
  have hd1 : decide ((xs.length : Int) ≤ 8) = true := decide_eq_true (by omega)
  clear hx1
  go_enter Try.func62, Try.ntmps62
  go_wp2_with ((with_reducible refine stopAt (.load 34 (.tmp 1)) rfl ?_); go_must (refine unStop (wpList_ldS rfl 34 (.tmp 1) rfl sS_reply w.heap.size 0 rfl (Blk.new w _ _) [.int .i64 e.toInt, .int .i64 at_.toInt, .slice B xs.length d] rfl rfl ?_)))
  go_must (refine (put1_reply e at_ B d xs _ HX1.out HN1.out).mono ?_)
  rintro e w1 ⟨A, rfl, ho, hk⟩
  go_wp2_with fail
  go_ret2
  exact ⟨A, rfl, ho.low (by simp), ((Kp.refl _ w).alloc _).nw hk⟩
set_option maxRecDepth 20000 in
set_option maxHeartbeats 400000 in
theorem PutReply_not (e at_ : Int64) (B : Option Addr) (d : Nat) (xs : List Got) (w : World) (hm : 8 < xs.length) :
    Calls Try.prog 62 #[.agg #[.int .i64 e.toInt, .int .i64 at_.toInt, .slice B xs.length d]] w (PutNot w) := by
  have hd1 : decide ((xs.length : Int) ≤ 8) = false := decide_eq_false (by omega)
  go_enter Try.func62, Try.ntmps62
  go_wp2_with ((with_reducible refine stopAt (.load 34 (.tmp 1)) rfl ?_); go_must (refine unStop (wpList_ldS rfl 34 (.tmp 1) rfl sS_reply w.heap.size 0 rfl (Blk.new w _ _) [.int .i64 e.toInt, .int .i64 at_.toInt, .slice B xs.length d] rfl rfl ?_)))
  go_must (refine (put0_reply _ _ _).mono ?_)
  rintro e w1 ⟨rfl, hk⟩
  go_wp2_with fail
  go_ret2
  exact ⟨rfl, ((Kp.refl _ w).alloc _).nw hk⟩
set_option maxRecDepth 20000 in
set_option maxHeartbeats 400000 in
theorem put1_entry (index term : UInt64) (cl : UInt8) (num : UInt64) (B : Option Addr) (d : Nat) (xs : List Step) (w : World) (hx1 : RdSt w B d xs) (hn1 : xs.length ≤ 1000) :
    Calls Try.prog 105 #[.agg #[.int .u64 index.toNat, .int .u64 term.toNat, .int .u8 cl.toNat, .int .u64 num.toNat, .slice B xs.length d], .bool true, .func (.func 106) #[] #[]] w (Puts (encEntry ⟨index, term, cl, num, xs⟩) w) := by
  have HP : Hid (Put ((w.alloc (.cells #[.int .u64 index.toNat, .int .u64 term.toNat, .int .u8 cl.toNat, .int .u64 num.toNat, .slice B xs.length d] 124)).alloc (.cells #[.slice none 0 0] 249)) (w.heap.size + 1) none 0 []) := Lib.hid ⟨Blk.newAt (by simp) _ _, Own.nil _ _ _ _, by simp [blkOf]⟩
  have hn0 : Nw w ((w.alloc (.cells #[.int .u64 index.toNat, .int .u64 term.toNat, .int .u8 cl.toNat, .int .u64 num.toNat, .slice B xs.length d] 124)).alloc (.cells #[.slice none 0 0] 249)) := ((Kp.refl _ w).alloc _).alloc _
  have HX1 := Lib.hid (hx1.nw hn0)
  have HA1 := Lib.hid (Away.none hx1 (by omega) (show w.heap.size ≤ w.heap.size + 1 by omega))
  have HN1 := Lib.hid hn1
  clear hx1 hn1
  go_enter Try.func105, Try.ntmps105
  go_wp2_with ((with_reducible refine stopAt (.load 124 (.tmp 3)) rfl ?_); go_must (refine unStop (wpList_ldS rfl 124 (.tmp 3) rfl sS_entry w.heap.size 0 rfl ((Blk.new w _ _).alloc _) [.int .u64 index.toNat, .int .u64 term.toNat, .int .u8 cl.toNat, .int .u64 num.toNat, .slice B xs.length d] rfl rfl ?_)))
  go_must (refine (put_entry (w.heap.size + 1) none 0 [] index term cl num B d xs _ HP.out HX1.out HA1.out HN1.out (by simp)).mono ?_)
  rintro e w1 ⟨rfl, A1, c1, hp1, hs1⟩
  have hN := Lib.hid (hn0.trans hs1.kp (S := fun _ => False) (fun i hi e => by rcases e with e | e; omega; simp [blkOf] at e))
  have hf : Hid (∀ k, k < w.heap.size → blkOf A1 ≠ some k) := Lib.hid (fun k hk => hs1.far k (by have := hn0.size; omega) (by omega) (by simp [blkOf]))
  have q0 : World.cell? _ ⟨w.heap.size + 1, 0, none⟩ = (some (.slice A1 ([] ++ encEntry ⟨index, term, cl, num, xs⟩ : Bytes).length c1) : Option Value) := hp1.blk.cell 0
  have HP1 := Lib.hid hp1
  clear hp1 hs1 hn0
  simp only [List.nil_append] at q0 HP1
  go_wp2_with fail
  go_must (refine (clip_byte _ _ _ _ HP1.out.own.cap).mono ?_)
  rintro e w2 ⟨rfl, rfl⟩
  go_wp2_with fail
  go_ret2
  exact ⟨A1, rfl, HP1.out.own.clip.up hf.out, hN.out⟩
set_option maxRecDepth 20000 in
set_option maxHeartbeats 400000 in
theorem put0_entry (cs : Array Value) (v : Value) (w : World) :
    Calls Try.prog 105 #[.agg cs, .bool false, v] w (PutNot w) := by
  go_enter Try.func105, Try.ntmps105
  go_wp2_with fail
  go_ret2
  exact ⟨rfl, (Kp.refl _ w).alloc _⟩
set_option maxRecDepth 20000 in
set_option maxHeartbeats 400000 in
theorem PutEntry_ok (index term : UInt64) (cl : UInt8) (num : UInt64) (B : Option Addr) (d : Nat) (xs : List Step) (w : World) (hx1 : RdSt w B d xs) (hm1 : xs.length ≤ 8) :
    Calls Try.prog 58 #[.agg #[.int .u64 index.toNat, .int .u64 term.toNat, .int .u8 cl.toNat, .int .u64 num.toNat, .slice B xs.length d]] w (Puts (encEntry ⟨index, term, cl, num, xs⟩) w) := by
  have HX1 := Lib.hid (hx1.alloc (.cells #[.int .u64 index.toNat, .int .u64 term.toNat, .int .u8 cl.toNat, .int .u64 num.toNat, .slice B xs.length d] 124))
  have HN1 : Hid (xs.length ≤ 1000) := Lib.hid (by omega)
  have hd1 : decide ((xs.length : Int) ≤ 8) = true := decide_eq_true (by omega)
  clear hx1
  go_enter Try.func58, Try.ntmps58
  go_wp2_with ((with_reducible refine stopAt (.load 124 (.tmp 1)) rfl ?_); go_must (refine unStop (wpList_ldS rfl 124 (.tmp 1) rfl sS_entry w.heap.size 0 rfl (Blk.new w _ _) [.int .u64 index.toNat, .int .u64 term.toNat, .int .u8 cl.toNat, .int .u64 num.toNat, .slice B xs.length d] rfl rfl ?_)))
  go_must (refine (put1_entry index term cl num B d xs _ HX1.out HN1.out).mono ?_)
  rintro e w1 ⟨A, rfl, ho, hk⟩
  go_wp2_with fail
  go_ret2
  exact ⟨A, rfl, ho.low (by simp), ((Kp.refl _ w).alloc _).nw hk⟩
set_option maxRecDepth 20000 in
set_option maxHeartbeats 400000 in
theorem PutEntry_not (index term : UInt64) (cl : UInt8) (num : UInt64) (B : Option Addr) (d : Nat) (xs : List Step) (w : World) (hm : 8 < xs.length) :
    Calls Try.prog 58 #[.agg #[.int .u64 index.toNat, .int .u64 term.toNat, .int .u8 cl.toNat, .int .u64 num.toNat, .slice B xs.length d]] w (PutNot w) := by
  have hd1 : decide ((xs.length : Int) ≤ 8) = false := decide_eq_false (by omega)
  go_enter Try.func58, Try.ntmps58
  go_wp2_with ((with_reducible refine stopAt (.load 124 (.tmp 1)) rfl ?_); go_must (refine unStop (wpList_ldS rfl 124 (.tmp 1) rfl sS_entry w.heap.size 0 rfl (Blk.new w _ _) [.int .u64 index.toNat, .int .u64 term.toNat, .int .u8 cl.toNat, .int .u64 num.toNat, .slice B xs.length d] rfl rfl ?_)))
  go_must (refine (put0_entry _ _ _).mono ?_)
  rintro e w1 ⟨rfl, hk⟩
  go_wp2_with fail
  go_ret2
  exact ⟨rfl, ((Kp.refl _ w).alloc _).nw hk⟩
set_option maxRecDepth 20000 in
set_option maxHeartbeats 400000 in
theorem put1_state (B1 : Option Addr) (d1 : Nat) (ps : Bytes) (B2 : Option Addr) (d2 : Nat) (ls : List Line) (B3 : Option Addr) (d3 : Nat) (os : List Offer) (next : UInt64) (w : World) (hx1 : RdB w B1 d1 ps) (hx2 : RdL w B2 d2 ls) (hx3 : RdO w B3 d3 os) (hn1 : ps.length ≤ 1000) (hn2 : ls.length ≤ 1000) (hn3 : os.length ≤ 1000) :
    Calls Try.prog 122 #[.agg #[.slice B1 ps.length d1, .slice B2 ls.length d2, .slice B3 os.length d3, .int .u64 next.toNat], .bool true, .func (.func 123) #[] #[]] w (Puts (encState ⟨ps, ls, os, next⟩) w) := by
  have HP : Hid (Put ((w.alloc (.cells #[.slice B1 ps.length d1, .slice B2 ls.length d2, .slice B3 os.length d3, .int .u64 next.toNat] 143)).alloc (.cells #[.slice none 0 0] 249)) (w.heap.size + 1) none 0 []) := Lib.hid ⟨Blk.newAt (by simp) _ _, Own.nil _ _ _ _, by simp [blkOf]⟩
  have hn0 : Nw w ((w.alloc (.cells #[.slice B1 ps.length d1, .slice B2 ls.length d2, .slice B3 os.length d3, .int .u64 next.toNat] 143)).alloc (.cells #[.slice none 0 0] 249)) := ((Kp.refl _ w).alloc _).alloc _
  have HX1 := Lib.hid (hx1.nw hn0)
  have HA1 := Lib.hid (Away.none hx1 (by omega) (show w.heap.size ≤ w.heap.size + 1 by omega))
  have HN1 := Lib.hid hn1
  clear hx1 hn1
  have HX2 := Lib.hid (hx2.nw hn0)
  have HA2 := Lib.hid (Away.none hx2 (by omega) (show w.heap.size ≤ w.heap.size + 1 by omega))
  have HN2 := Lib.hid hn2
  clear hx2 hn2
  have HX3 := Lib.hid (hx3.nw hn0)
  have HA3 := Lib.hid (Away.none hx3 (by omega) (show w.heap.size ≤ w.heap.size + 1 by omega))
  have HN3 := Lib.hid hn3
  clear hx3 hn3
  go_enter Try.func122, Try.ntmps122
  go_wp2_with ((with_reducible refine stopAt (.load 143 (.tmp 3)) rfl ?_); go_must (refine unStop (wpList_ldS rfl 143 (.tmp 3) rfl sS_state w.heap.size 0 rfl ((Blk.new w _ _).alloc _) [.slice B1 ps.length d1, .slice B2 ls.length d2, .slice B3 os.length d3, .int .u64 next.toNat] rfl rfl ?_)))
  go_must (refine (put_state (w.heap.size + 1) none 0 [] B1 d1 ps B2 d2 ls B3 d3 os next _ HP.out HX1.out HA1.out HN1.out HX2.out HA2.out HN2.out HX3.out HA3.out HN3.out (by simp)).mono ?_)
  rintro e w1 ⟨rfl, A1, c1, hp1, hs1⟩
  have hN := Lib.hid (hn0.trans hs1.kp (S := fun _ => False) (fun i hi e => by rcases e with e | e; omega; simp [blkOf] at e))
  have hf : Hid (∀ k, k < w.heap.size → blkOf A1 ≠ some k) := Lib.hid (fun k hk => hs1.far k (by have := hn0.size; omega) (by omega) (by simp [blkOf]))
  have q0 : World.cell? _ ⟨w.heap.size + 1, 0, none⟩ = (some (.slice A1 ([] ++ encState ⟨ps, ls, os, next⟩ : Bytes).length c1) : Option Value) := hp1.blk.cell 0
  have HP1 := Lib.hid hp1
  clear hp1 hs1 hn0
  simp only [List.nil_append] at q0 HP1
  go_wp2_with fail
  go_must (refine (clip_byte _ _ _ _ HP1.out.own.cap).mono ?_)
  rintro e w2 ⟨rfl, rfl⟩
  go_wp2_with fail
  go_ret2
  exact ⟨A1, rfl, HP1.out.own.clip.up hf.out, hN.out⟩
set_option maxRecDepth 20000 in
set_option maxHeartbeats 400000 in
theorem put0_state (cs : Array Value) (v : Value) (w : World) :
    Calls Try.prog 122 #[.agg cs, .bool false, v] w (PutNot w) := by
  go_enter Try.func122, Try.ntmps122
  go_wp2_with fail
  go_ret2
  exact ⟨rfl, (Kp.refl _ w).alloc _⟩
set_option maxRecDepth 20000 in
set_option maxHeartbeats 400000 in
theorem PutState_ok (B1 : Option Addr) (d1 : Nat) (ps : Bytes) (B2 : Option Addr) (d2 : Nat) (ls : List Line) (B3 : Option Addr) (d3 : Nat) (os : List Offer) (next : UInt64) (w : World) (hx1 : RdB w B1 d1 ps) (hx2 : RdL w B2 d2 ls) (hx3 : RdO w B3 d3 os) (hm1 : ps.length ≤ 16) (hm2 : ls.length ≤ 64) (hm3 : os.length ≤ 32) :
    Calls Try.prog 73 #[.agg #[.slice B1 ps.length d1, .slice B2 ls.length d2, .slice B3 os.length d3, .int .u64 next.toNat]] w (Puts (encState ⟨ps, ls, os, next⟩) w) := by
  have HX1 := Lib.hid (hx1.alloc (.cells #[.slice B1 ps.length d1, .slice B2 ls.length d2, .slice B3 os.length d3, .int .u64 next.toNat] 143))
  have HN1 : Hid (ps.length ≤ 1000) := Lib.hid (by omega)
  have hd1 : decide ((ps.length : Int) ≤ 16) = true := decide_eq_true (by omega)
  clear hx1
  have HX2 := Lib.hid (hx2.alloc (.cells #[.slice B1 ps.length d1, .slice B2 ls.length d2, .slice B3 os.length d3, .int .u64 next.toNat] 143))
  have HN2 : Hid (ls.length ≤ 1000) := Lib.hid (by omega)
  have hd2 : decide ((ls.length : Int) ≤ 64) = true := decide_eq_true (by omega)
  clear hx2
  have HX3 := Lib.hid (hx3.alloc (.cells #[.slice B1 ps.length d1, .slice B2 ls.length d2, .slice B3 os.length d3, .int .u64 next.toNat] 143))
  have HN3 : Hid (os.length ≤ 1000) := Lib.hid (by omega)
  have hd3 : decide ((os.length : Int) ≤ 32) = true := decide_eq_true (by omega)
  clear hx3
  go_enter Try.func73, Try.ntmps73
  go_wp2_with ((with_reducible refine stopAt (.load 143 (.tmp 1)) rfl ?_); go_must (refine unStop (wpList_ldS rfl 143 (.tmp 1) rfl sS_state w.heap.size 0 rfl (Blk.new w _ _) [.slice B1 ps.length d1, .slice B2 ls.length d2, .slice B3 os.length d3, .int .u64 next.toNat] rfl rfl ?_)))
  go_must (refine (put1_state B1 d1 ps B2 d2 ls B3 d3 os next _ HX1.out HX2.out HX3.out HN1.out HN2.out HN3.out).mono ?_)
  rintro e w1 ⟨A, rfl, ho, hk⟩
  go_wp2_with fail
  go_ret2
  exact ⟨A, rfl, ho.low (by simp), ((Kp.refl _ w).alloc _).nw hk⟩
set_option maxRecDepth 20000 in
set_option maxHeartbeats 400000 in
theorem PutState_not (B1 : Option Addr) (d1 : Nat) (ps : Bytes) (B2 : Option Addr) (d2 : Nat) (ls : List Line) (B3 : Option Addr) (d3 : Nat) (os : List Offer) (next : UInt64) (w : World) (hm : ¬ (ps.length ≤ 16 ∧ ls.length ≤ 64 ∧ os.length ≤ 32)) :
    Calls Try.prog 73 #[.agg #[.slice B1 ps.length d1, .slice B2 ls.length d2, .slice B3 os.length d3, .int .u64 next.toNat]] w (PutNot w) := by
  by_cases h1 : ps.length ≤ 16
  · have hd1 : decide ((ps.length : Int) ≤ 16) = true := decide_eq_true (by omega)
    by_cases h2 : ls.length ≤ 64
    · have hd2 : decide ((ls.length : Int) ≤ 64) = true := decide_eq_true (by omega)
      have hd3 : decide ((os.length : Int) ≤ 32) = false := decide_eq_false (by omega)
      clear hm
      go_enter Try.func73, Try.ntmps73
      go_wp2_with ((with_reducible refine stopAt (.load 143 (.tmp 1)) rfl ?_); go_must (refine unStop (wpList_ldS rfl 143 (.tmp 1) rfl sS_state w.heap.size 0 rfl (Blk.new w _ _) [.slice B1 ps.length d1, .slice B2 ls.length d2, .slice B3 os.length d3, .int .u64 next.toNat] rfl rfl ?_)))
      go_must (refine (put0_state _ _ _).mono ?_)
      rintro e w1 ⟨rfl, hk⟩
      go_wp2_with fail
      go_ret2
      exact ⟨rfl, ((Kp.refl _ w).alloc _).nw hk⟩
    · have hd2 : decide ((ls.length : Int) ≤ 64) = false := decide_eq_false (by omega)
      clear hm
      go_enter Try.func73, Try.ntmps73
      go_wp2_with ((with_reducible refine stopAt (.load 143 (.tmp 1)) rfl ?_); go_must (refine unStop (wpList_ldS rfl 143 (.tmp 1) rfl sS_state w.heap.size 0 rfl (Blk.new w _ _) [.slice B1 ps.length d1, .slice B2 ls.length d2, .slice B3 os.length d3, .int .u64 next.toNat] rfl rfl ?_)))
      go_must (refine (put0_state _ _ _).mono ?_)
      rintro e w1 ⟨rfl, hk⟩
      go_wp2_with fail
      go_ret2
      exact ⟨rfl, ((Kp.refl _ w).alloc _).nw hk⟩
  · have hd1 : decide ((ps.length : Int) ≤ 16) = false := decide_eq_false (by omega)
    clear hm
    go_enter Try.func73, Try.ntmps73
    go_wp2_with ((with_reducible refine stopAt (.load 143 (.tmp 1)) rfl ?_); go_must (refine unStop (wpList_ldS rfl 143 (.tmp 1) rfl sS_state w.heap.size 0 rfl (Blk.new w _ _) [.slice B1 ps.length d1, .slice B2 ls.length d2, .slice B3 os.length d3, .int .u64 next.toNat] rfl rfl ?_)))
    go_must (refine (put0_state _ _ _).mono ?_)
    rintro e w1 ⟨rfl, hk⟩
    go_wp2_with fail
    go_ret2
    exact ⟨rfl, ((Kp.refl _ w).alloc _).nw hk⟩
end Go.Proofs.Ytiimdnachgkomaa
