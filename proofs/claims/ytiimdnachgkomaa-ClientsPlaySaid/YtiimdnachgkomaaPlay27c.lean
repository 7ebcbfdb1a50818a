/- ClientsPlay: the walk of no act; all of it. -/
import Derived.Test.YtiimdnachgkomaaPlay27
import Derived.Test.YtiimdnachgkomaaPlayC
import Derived.Test.YtiimdnachgkomaaGreat
import Derived.Test.YtiimdnachgkomaaLives27
import Derived.Test.YtiimdnachgkomaaLeft
import Derived.Test.YtiimdnachgkomaaMem3
import Derived.Deep.RegionHeld3
import Derived.Deep.DeepCutAuto
import Derived.Deep.CutBlock
namespace Go.Proofs.Ytiimdnachgkomaa
open Go Go.RowKit
set_option maxRecDepth 20000 in
set_option maxHeartbeats 8000000 in
theorem play27_nil (id : UInt8) (n : Nat) (num : UInt64) (A : Option Addr) (c : Nat) (w : World) (h : ActsOk w ⟨[], A, c⟩) (h1 : 1 ≤ id.toNat) (h2 : id.toNat ≤ 8) (h3 : 1 ≤ n) (h4 : n ≤ 7) :
    Calls Try.prog 5 #[.agg #[.int .i64 (id.toNat : Int), .int .i64 (n : Int)], .int .u64 num.toNat, .slice A 0 c] w fun e w' => e = .returned (.bool true) ∧ Nw w w' := by
  have HG := Lib.hid (great27_calls ⟨[], A, c⟩ (w.alloc (.cells #[.int .i64 (id.toNat : Int), .int .i64 (n : Int)] 60)) (h.nw ((Kp.refl _ w).alloc _)))
  have HB : Hid (1 ≤ id.toNat ∧ id.toNat ≤ 8 ∧ 1 ≤ n ∧ n ≤ 7) := Lib.hid ⟨h1, h2, h3, h4⟩
  have d1 : decide ((id.toNat : Int) < 1) = false := decide_eq_false (by omega)
  have d2 : decide ((8 : Int) < (id.toNat : Int)) = false := decide_eq_false (by omega)
  have d3 : decide ((n : Int) < 1) = false := decide_eq_false (by omega)
  have d4 : decide ((7 : Int) < (n : Int)) = false := decide_eq_false (by omega)
  clear h h1 h2 h3 h4
  go_enter Try.func5, Try.ntmps5
  go_wp2_with fail
  go_must (refine HG.out.mono ?_)
  rintro e w1 ⟨rfl, hk1⟩
  have hb1 : Blk w1 w.heap.size 60 #[.int .i64 (id.toNat : Int), .int .i64 (n : Int)] := (Blk.new _ _ _).nw hk1
  have a0 : w1.cell? ⟨w.heap.size, 0, none⟩ = some (.int .i64 (id.toNat : Int)) := hb1.cell 0
  have a1 : w1.cell? ⟨w.heap.size, 1, none⟩ = some (.int .i64 (n : Int)) := hb1.cell 1
  have HK1 : Hid (Nw w w1) := Lib.hid (((Kp.refl _ w).alloc _).nw hk1)
  clear hk1 hb1
  cases hac : acts27 []
  rotate_left
  focus
    go_wp2_with fail
    go_must (refine (lives27 _).mono ?_)
    rintro e w2 ⟨rfl, hk2⟩
    go_wp2_with fail
    go_ret
    exact ⟨rfl, HK1.out.nw hk2⟩
  have HNew : Hid (∀ w', Calls Try.prog 24 #[.int .i64 (id.toNat : Int), .int .i64 (n : Int)] w' fun e w'' => e = .returned (.pointer (some ⟨w'.heap.size, 0, none⟩)) ∧ Blk w'' w'.heap.size 45 (Cl.shut ⟨id, n, 1, 0, 0⟩) ∧ Nw w' w'') := Lib.hid (fun w' => (New_ok id n w' HB.out.1 HB.out.2.1 HB.out.2.2.1 HB.out.2.2.2).mono fun e w'' ⟨h1, h2⟩ => ⟨h1, by rw [h2]; exact Blk.new _ _ _, by rw [h2]; exact (Kp.refl _ _).alloc _⟩)
  have HRes : Hid (∀ w', Calls Try.prog 26 #[.int .i64 (id.toNat : Int), .int .i64 (n : Int), .int .u64 (num.toNat : Int)] w' fun e w'' => e = .returned (.pointer (some ⟨w'.heap.size, 0, none⟩)) ∧ Blk w'' w'.heap.size 45 (Cl.shut ⟨id, n, 1, 0, num⟩) ∧ Nw w' w'') := Lib.hid (fun w' => Resume_ok id n num w' HB.out.1 HB.out.2.1 HB.out.2.2.1 HB.out.2.2.2)
  go_upto_if 36 with (go_at_call 24; go_must (refine (HNew.out _).mono ?_); rintro e w2 ⟨rfl, hb2, hk2⟩)
  go_cut [9] (fun s9 wx => ∃ g1, s9 = .pointer (some ⟨g1, 0, none⟩) ∧ w.heap.size ≤ g1 ∧ Blk wx g1 45 (Cl.shut ⟨id, n, 1, 0, num⟩) ∧ Nw w wx)
  case first =>
    cases htb : decide (0 < num.toNat)
    · have hz : num = 0 := by have := of_decide_eq_false htb; exact UInt64.toNat.inj (by simp; omega)
      have HZ := Lib.hid hz
      clear htb hz
      go_wp2_with fail
      go_meet
      exact ⟨w1.heap.size, rfl, HK1.out.size, by rw [HZ.out]; exact hb2, HK1.out.nw hk2⟩
    · clear htb
      go_wp2_with (go_at_call 26; go_must (refine (HRes.out _).mono ?_); rintro e w3 ⟨rfl, hb3, hk3⟩)
      go_meet
      exact ⟨w2.heap.size, rfl, Nat.le_trans HK1.out.size hk2.size, hb3, (HK1.out.nw hk2).nw hk3⟩
  case rest =>
  obtain ⟨g1, rfl, hg1, hb3, hk3⟩ := hcut
  have HB3 := Lib.hid hb3
  have HK3 := Lib.hid hk3
  clear hb3 hk3
  go_wp2_with fail
  go_must (refine (RResume id n num wc HB.out.2.1).mono ?_)
  rintro e w4 ⟨rfl, hw4⟩
  have hb4 : Blk w4 wc.heap.size 72 (RC.cells ⟨id, n, 1, num, 0⟩ false none 0 0) := by rw [hw4]; exact Blk.new _ _ _
  have hk4 : Nw wc w4 := by rw [hw4]; exact (Kp.refl _ _).alloc _
  obtain ⟨g2, hg2e⟩ : ∃ g2, g2 = wc.heap.size := ⟨_, rfl⟩
  have hlt1 := HB3.out.lt
  have hwg2 : w.heap.size ≤ g2 := by rw [hg2e]; exact HK3.out.size
  have hne : g1 < g2 := by rw [hg2e]; exact hlt1
  rw [← hg2e] at hb4 ⊢
  have HN4 := Lib.hid (HK3.out.nw hk4)
  clear hw4 hb4 hk4 hg2e hlt1 HB3 HK3 HNew HRes HG
  go_wp2_with fail
  go_loopw [11] (fun i wr => i = .int .i64 0 ∧ Nw w wr) (fun _ _ => 0)
  case atStart => exact ⟨rfl, HN4.out⟩
  case round =>
    obtain ⟨rfl, hnw⟩ := hrel
    have HN := Lib.hid hnw
    clear hnw HN4
    go_wp2_with fail
    go_must (refine (lives27 _).mono ?_)
    rintro e w5 ⟨rfl, hk5⟩
    go_wp2_with fail
    go_ret
    exact ⟨rfl, HN.out.nw hk5⟩
theorem play27_calls (a b : Int) (num : UInt64) (s : Sl ActV) (w : World) (h : ActsOk w s) :
    Calls Try.prog 5 #[.agg #[.int .i64 a, .int .i64 b], .int .u64 num.toNat, .slice s.A s.l.length s.c] w fun e w' => e = .returned (.bool true) ∧ Nw w w' := by
  by_cases hbad : a < 1 ∨ 8 < a ∨ b < 1 ∨ 7 < b
  · exact play27_bad a b num s w h hbad
  · obtain ⟨id, hid⟩ : ∃ id : UInt8, (id.toNat : Int) = a := ⟨UInt8.ofNat a.toNat, by rw [UInt8.toNat_ofNat', Nat.mod_eq_of_lt (by omega)]; omega⟩
    obtain ⟨n, hn⟩ : ∃ n : Nat, (n : Int) = b := ⟨b.toNat, by omega⟩
    subst hid hn
    obtain ⟨l, A, c⟩ := s
    rcases Nat.eq_zero_or_pos l.length with h0 | h0
    · have := List.eq_nil_of_length_eq_zero h0
      subst this
      exact play27_nil id n num A c w h (by omega) (by omega) (by omega) (by omega)
    · obtain ⟨ad, hA, _⟩ := h.rd.at_ h0
      cases hA
      exact play27_good id n num ad c l w h (by omega) (by omega) (by omega) (by omega)
end Go.Proofs.Ytiimdnachgkomaa
