/- SessionsVoid: the walk. -/
import Derived.Test.YtiimdnachgkomaaLives25
import Derived.Deep.RegionHeld3
namespace Go.Proofs.Ytiimdnachgkomaa
open Go Go.RowKit
/-- A book that is not there, or that no call made. -/
def VBook (w : World) (A : Option Addr) : Prop := A = none ∨ ∃ g t cs, A = some ⟨g, 0, none⟩ ∧ Blk w g t cs ∧ cs[32]? = some (.bool false)
theorem VBook.nw {w w' : World} {A : Option Addr} (h : VBook w A) (hk : Nw w w') : VBook w' A := by
  rcases h with h | ⟨g, t, cs, h1, h2, h3⟩
  · exact .inl h
  · exact .inr ⟨g, t, cs, h1, h2.nw hk, h3⟩
theorem page_V {w : World} {A : Option Addr} (h : VBook w A) (c : UInt8) : Calls Try.prog 96 #[.pointer A, .int .u8 c.toNat] w fun e w' => e = .returned (.tuple #[.pointer none, .int .i64 2]) ∧ w' = w := by
  rcases h with rfl | ⟨g, t, cs, rfl, hb, h0⟩
  · exact page_nil c w
  · exact page_void g t cs c w hb h0
theorem Ask_V {w : World} {A : Option Addr} (h : VBook w A) (c : UInt8) (num : Int) : Calls Try.prog 43 #[.pointer A, .int .u8 c.toNat, .int .u64 num] w fun e w' => e = .returned (.tuple #[.agg #[.int .i64 0, .int .i64 0, .slice none 0 0], .bool false, .int .i64 2]) ∧ Nw w w' :=
  Ask_err A c num 2 (.inr rfl) w (fun _ hk => page_V (h.nw hk) c)
theorem Note_V {w : World} {A : Option Addr} (h : VBook w A) (c : UInt8) (num re rat : Int) (B : Option Addr) (n d : Nat) : Calls Try.prog 39 #[.pointer A, .int .u8 c.toNat, .int .u64 num, .agg #[.int .i64 re, .int .i64 rat, .slice B n d]] w fun e w' => e = .returned (.int .i64 2) ∧ Nw w w' :=
  Note_err A c num re rat B n d 2 (.inr rfl) w (fun _ hk => page_V (h.nw hk) c)
theorem Last_V {w : World} {A : Option Addr} (h : VBook w A) (c : UInt8) : Calls Try.prog 42 #[.pointer A, .int .u8 c.toNat] w fun e w' => e = .returned (.int .u64 0) ∧ w' = w :=
  Last_err A c 2 (.inr rfl) w (page_V h c)
set_option maxRecDepth 20000 in
theorem SPut_V {w : World} {A : Option Addr} (h : VBook w A) : Calls Try.prog 47 #[.pointer A] w fun e w' => e = .returned (.slice none 0 0) ∧ w' = w := by
  rcases h with rfl | ⟨g, t, cs, rfl, hb, h0⟩
  · go_enter Try.func47, Try.ntmps47
    go_wp2_with fail
    go_ret
    exact ⟨rfl, rfl⟩
  · have hc : w.cell? ⟨g, 32, none⟩ = some (.bool false) := (hb.cell 32).trans h0
    clear h0
    go_enter Try.func47, Try.ntmps47
    go_wp2_with fail
    go_ret
    exact ⟨rfl, rfl⟩
set_option maxRecDepth 100000 in
set_option maxHeartbeats 4000000 in
theorem void25_calls (note : Bool) (cl : UInt8) (num : UInt64) (re rat : Int64) (gs : Sl Got) (w : World) :
    Calls Try.prog 8 #[.agg #[.bool note, .int .u8 cl.toNat, .int .u64 num.toNat, .int .i64 re.toInt, .int .i64 rat.toInt, .slice gs.A gs.l.length gs.c]] w fun e w' => e = .returned (.bool true) ∧ Nw w w' := by
  obtain ⟨gl, gA, gc⟩ := gs
  simp only []
  go_enter Try.func8, Try.ntmps8
  go_wp2_with fail
  obtain ⟨w3, zs, hw3, hzs⟩ : ∃ w3 zs, (((w.alloc (.cells #[.bool note, .int .u8 cl.toNat, .int .u64 num.toNat, .int .i64 re.toInt, .int .i64 rat.toInt, .slice gA gl.length gc] 90)).alloc (.cells zs 115)).alloc (.cells #[Value.pointer none, Value.pointer (some ⟨w.heap.size + 1, 0, none⟩)] 82)) = w3 ∧ zs = #[.int .u64 0, .int .i64 0, .int .i64 0, .slice none 0 0, .int .u64 0, .int .i64 0, .int .i64 0, .slice none 0 0, .int .u64 0, .int .i64 0, .int .i64 0, .slice none 0 0, .int .u64 0, .int .i64 0, .int .i64 0, .slice none 0 0, .int .u64 0, .int .i64 0, .int .i64 0, .slice none 0 0, .int .u64 0, .int .i64 0, .int .i64 0, .slice none 0 0, .int .u64 0, .int .i64 0, .int .i64 0, .slice none 0 0, .int .u64 0, .int .i64 0, .int .i64 0, .slice none 0 0, .bool false] := ⟨_, _, rfl, rfl⟩
  have hv1 : VBook w3 (some ⟨w.heap.size + 1, 0, none⟩) := .inr ⟨w.heap.size + 1, _, zs, rfl, by rw [← hw3]; exact (Blk.newAt (by simp) _ _).alloc _, by rw [hzs]; rfl⟩
  have hpp : Blk w3 (w.heap.size + 1 + 1) 82 #[Value.pointer none, Value.pointer (some ⟨w.heap.size + 1, 0, none⟩)] := by rw [← hw3]; exact Blk.newAt (by simp) _ _
  have hbx : Blk w3 w.heap.size 90 #[.bool note, .int .u8 cl.toNat, .int .u64 num.toNat, .int .i64 re.toInt, .int .i64 rat.toInt, .slice gA gl.length gc] := by rw [← hw3]; exact ((Blk.new _ _ _).alloc _).alloc _
  have hn3 : Nw w w3 := by rw [← hw3]; exact (((Kp.refl _ w).alloc _).alloc _).alloc _
  rw [← hzs, hw3]
  clear hw3 hzs
  generalize w.heap.size = N at *
  go_loopw [5] (fun i wr => ∃ q : Nat, i = .int .i64 q ∧ q ≤ 2 ∧ Nw w3 wr) (fun i _ => 2 - (intOf i).toNat)
  case atStart => exact ⟨0, rfl, by omega, Kp.refl _ _⟩
  case round =>
    obtain ⟨q, rfl, hq, hk⟩ := hrel
    by_cases hlt : q < 2
    · have hA : ∃ A, VBook wr A ∧ wr.cell? ⟨N + 1 + 1, q, none⟩ = some (.pointer A) := by
        have hpr := (hpp.nw hk).cell q
        rcases (by omega : q = 0 ∨ q = 1) with rfl | rfl
        · exact ⟨none, .inl rfl, hpr⟩
        · exact ⟨some ⟨N + 1, 0, none⟩, hv1.nw hk, hpr⟩
      obtain ⟨A, hV, hp⟩ := hA
      have HV := Lib.hid hV
      have hbr := hbx.nw hk
      have p1 : wr.cell? ⟨N, 1, none⟩ = some (.int .u8 cl.toNat) := hbr.cell 1
      have p2 : wr.cell? ⟨N, 2, none⟩ = some (.int .u64 num.toNat) := hbr.cell 2
      have hlt3 : N + 1 + 1 < wr.heap.size := (hpp.nw hk).lt
      have HS : Hid (∀ w', Nw wr w' → (fun w' => Nw wr w' ∧ w'.cell? ⟨N + 1 + 1, q, none⟩ = some (.pointer A) ∧ w'.cell? ⟨N, 1, none⟩ = some (.int .u8 cl.toNat) ∧ w'.cell? ⟨N, 2, none⟩ = some (.int .u64 num.toNat)) w') := Lib.hid (fun w' h => ⟨h, h.cell hp, h.cell p1, h.cell p2⟩)
      clear hV
      go_wp2_with fail
      go_region_held3 (fun w' => Nw wr w' ∧ w'.cell? ⟨N + 1 + 1, q, none⟩ = some (.pointer A) ∧ w'.cell? ⟨N, 1, none⟩ = some (.int .u8 cl.toNat) ∧ w'.cell? ⟨N, 2, none⟩ = some (.int .u64 num.toNat)) (refine HS.out _ ?_ <;> first | exact Kp.drew (Kp.refl _ _) | exact Kp.alloc (Kp.drew (Kp.refl _ _)) _ | exact Kp.nw (‹Nw wr _ ∧ _›).1 hk6 | exact Kp.alloc (‹Nw wr _ ∧ _›).1 _ | exact Kp.alloc hk7 _ | exact ((Kp.setNew hk7 (p := ⟨wr.heap.size, 0, none⟩) (Nat.le_refl _) _).setNew (p := ⟨wr.heap.size, 1, none⟩) (Nat.le_refl _) _).setNew (p := ⟨wr.heap.size, 2, none⟩) (Nat.le_refl _) _)
        ((go_at_call 43; refine (Ask_V (HV.out.nw (‹Nw wr _ ∧ _›).1) _ _).mono ?_; rintro e w6 ⟨rfl, hk6⟩; have hk7 := Kp.nw (‹Nw wr _ ∧ _›).1 hk6; (try (have hbN : Blk w6 wr.heap.size 34 #[Value.int IntKind.i64 0, Value.int IntKind.i64 0, Value.slice none 0 0] := (Blk.newAt (W := wr.drew) rfl _ _).nw hk6; have n0 : w6.cell? ⟨wr.heap.size, 0, none⟩ = some (Value.int IntKind.i64 0) := hbN.cell 0; have n1 : w6.cell? ⟨wr.heap.size, 1, none⟩ = some (Value.int IntKind.i64 0) := hbN.cell 1; have n2 : w6.cell? ⟨wr.heap.size, 2, none⟩ = some (Value.slice none 0 0) := hbN.cell 2; have m0 := hbN.free 0; have m1 := hbN.free 1; have m2 := hbN.free 2; have HBN := Lib.hid hbN; clear hbN))))
      focus
        have hbM : Blk (w6.alloc (.cells #[.int .i64 0, .int .i64 0, .slice none 0 0] 34)) w6.heap.size 34 #[.int .i64 0, .int .i64 0, .slice none 0 0] := Blk.new _ _ _
        have hnW : Nw wr (w6.alloc (.cells #[.int .i64 0, .int .i64 0, .slice none 0 0] 34)) := Kp.alloc hk7 _
        generalize w6.alloc (.cells #[.int .i64 0, .int .i64 0, .slice none 0 0] 34) = W at hbM hnW ⊢
        obtain ⟨M, hM⟩ : ∃ M, M = w6.heap.size := ⟨_, rfl⟩
        rw [← hM] at hbM ⊢
        clear hM hk6 hk7
      rotate_left
      focus
        have hbM := ((HBN.out.set_ 0 (.int .i64 0)).set_ 1 (.int .i64 0)).set_ 2 (.slice none 0 0)
        have hnW : Nw wr (((w6.setCell ⟨wr.heap.size, 0, none⟩ (.int .i64 0)).setCell ⟨wr.heap.size, 1, none⟩ (.int .i64 0)).setCell ⟨wr.heap.size, 2, none⟩ (.slice none 0 0)) := ((Kp.setNew hk7 (p := ⟨wr.heap.size, 0, none⟩) (Nat.le_refl _) _).setNew (p := ⟨wr.heap.size, 1, none⟩) (Nat.le_refl _) _).setNew (p := ⟨wr.heap.size, 2, none⟩) (Nat.le_refl _) _
        replace hbM : Blk (((w6.setCell ⟨wr.heap.size, 0, none⟩ (.int .i64 0)).setCell ⟨wr.heap.size, 1, none⟩ (.int .i64 0)).setCell ⟨wr.heap.size, 2, none⟩ (.slice none 0 0)) wr.heap.size 34 #[.int .i64 0, .int .i64 0, .slice none 0 0] := hbM
        clear n0 n1 n2 m0 m1 m2 HBN hk6 hk7
        generalize ((w6.setCell ⟨wr.heap.size, 0, none⟩ (.int .i64 0)).setCell ⟨wr.heap.size, 1, none⟩ (.int .i64 0)).setCell ⟨wr.heap.size, 2, none⟩ (.slice none 0 0) = W at hbM hnW ⊢
        obtain ⟨M, hM⟩ : ∃ M, M = wr.heap.size := ⟨_, rfl⟩
        rw [← hM] at hbM ⊢
        clear hM
      all_goals
        have hbW := hbr.nw hnW
        have hpW := Nw.cell hnW hp
        have HVW := Lib.hid (HV.out.nw hnW)
        have hltW : N + 1 + 1 < W.heap.size := Nat.lt_of_lt_of_le hlt3 hnW.size
        have hltM := hbM.lt
        clear HS hp p1 p2
        have y1 : W.cell? ⟨N, 1, none⟩ = some (.int .u8 cl.toNat) := hbW.cell 1
        have y2 : W.cell? ⟨N, 2, none⟩ = some (.int .u64 num.toNat) := hbW.cell 2
        have y3 : W.cell? ⟨N, 3, none⟩ = some (.int .i64 re.toInt) := hbW.cell 3
        have y4 : W.cell? ⟨N, 4, none⟩ = some (.int .i64 rat.toInt) := hbW.cell 4
        have y5 : W.cell? ⟨N, 5, none⟩ = some (.slice gA gl.length gc) := hbW.cell 5
        have x0 : W.cell? ⟨M, 0, none⟩ = some (.int .i64 0) := hbM.cell 0
        have x1 : W.cell? ⟨M, 1, none⟩ = some (.int .i64 0) := hbM.cell 1
        have x2 : W.cell? ⟨M, 2, none⟩ = some (.slice none 0 0) := hbM.cell 2
        have HS : Hid (∀ w', Nw W w' → (fun w' => Nw W w' ∧ w'.cell? ⟨N + 1 + 1, q, none⟩ = some (.pointer A) ∧ w'.cell? ⟨N, 1, none⟩ = some (.int .u8 cl.toNat) ∧ w'.cell? ⟨N, 2, none⟩ = some (.int .u64 num.toNat) ∧ w'.cell? ⟨N, 3, none⟩ = some (.int .i64 re.toInt) ∧ w'.cell? ⟨N, 4, none⟩ = some (.int .i64 rat.toInt) ∧ w'.cell? ⟨N, 5, none⟩ = some (.slice gA gl.length gc) ∧ w'.cell? ⟨M, 0, none⟩ = some (.int .i64 0) ∧ w'.cell? ⟨M, 1, none⟩ = some (.int .i64 0) ∧ w'.cell? ⟨M, 2, none⟩ = some (.slice none 0 0)) w') := Lib.hid (fun w' h => ⟨h, h.cell hpW, h.cell y1, h.cell y2, h.cell y3, h.cell y4, h.cell y5, h.cell x0, h.cell x1, h.cell x2⟩)
        go_wp2_with fail
        go_region_held3 (fun w' => Nw W w' ∧ w'.cell? ⟨N + 1 + 1, q, none⟩ = some (.pointer A) ∧ w'.cell? ⟨N, 1, none⟩ = some (.int .u8 cl.toNat) ∧ w'.cell? ⟨N, 2, none⟩ = some (.int .u64 num.toNat) ∧ w'.cell? ⟨N, 3, none⟩ = some (.int .i64 re.toInt) ∧ w'.cell? ⟨N, 4, none⟩ = some (.int .i64 rat.toInt) ∧ w'.cell? ⟨N, 5, none⟩ = some (.slice gA gl.length gc) ∧ w'.cell? ⟨M, 0, none⟩ = some (.int .i64 0) ∧ w'.cell? ⟨M, 1, none⟩ = some (.int .i64 0) ∧ w'.cell? ⟨M, 2, none⟩ = some (.slice none 0 0)) (refine HS.out _ ?_ <;> first | exact Kp.drew (Kp.refl _ _) | exact (‹Nw W _ ∧ _›).1 | exact Kp.nw (‹Nw W _ ∧ _›).1 hk8)
          ((first
            | (go_at_call 42; refine (Last_V (HVW.out.nw (‹Nw W _ ∧ _›).1) _).mono ?_; rintro e w8 ⟨rfl, hw8⟩; have hk8 : Nw _ w8 := (by rw [hw8]; exact Kp.refl _ _); clear hw8)
            | (go_at_call 35; refine (SameReply_ 0 0 none none 0 0 [] _ (Rd.nil _ _) (Rd.nil _ _)).mono ?_; rintro e w8 ⟨rfl, hk8⟩)
            | (go_at_call 39; refine (Note_V (HVW.out.nw (‹Nw W _ ∧ _›).1) _ _ _ _ _ _ _).mono ?_; rintro e w8 ⟨rfl, hk8⟩)
            | (go_at_call 47; refine (SPut_V (HVW.out.nw (‹Nw W _ ∧ _›).1)).mono ?_; rintro e w8 ⟨rfl, hw8⟩; have hk8 : Nw _ w8 := (by rw [hw8]; exact Kp.refl _ _); clear hw8)))
        have hnF := (‹Nw W _ ∧ _›).1
        clear HS
        go_wp2_with fail
        go_roundw
        case rel => exact ⟨q + 1, rfl, by omega, (hk.trans hnW (fun _ _ e => e)).trans hnF (fun _ _ e => e)⟩
        case measure =>
          show 2 - ((q : Int) + 1).toNat < 2 - ((q : Int)).toNat
          omega
    · obtain rfl : q = 2 := by omega
      have hk' := hn3.trans hk (fun _ _ e => e)
      go_wp2_with (go_at_call 37; go_must (refine (lives25 _).mono ?_); rintro e w4 ⟨rfl, hk4⟩)
      go_ret
      exact ⟨rfl, hk'.trans hk4 (fun _ _ e => e)⟩
end Go.Proofs.Ytiimdnachgkomaa
