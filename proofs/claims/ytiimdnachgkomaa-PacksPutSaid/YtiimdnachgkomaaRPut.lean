/- The document's packs: a number's bytes behind others. -/
import Derived.Test.YtiimdnachgkomaaPut4
namespace Go.Proofs.Ytiimdnachgkomaa
open Go Go.RowKit
theorem rnum_round {w w3 : World} {l pre : List UInt8} {n k : Nat} {A2 : Option Addr} {c2 : Nat} {base : Nat} (h : ¬ k < 128) (hk : k < u64) (he : l ++ encNum n = pre ++ encNum k) (hw : Nw w w3) (ho : Own w3 base 5 1 A2 (pre.length + 1) c2 (List.map bv pre ++ [.int .u8 (128 + (k : Int) % 128)])) :
    ∃ (k1 : Nat) (pre1 : List UInt8) (A' : Option Addr) (c' : Nat), k1 < u64 ∧ Value.int .u64 ((k : Int) / 128) = Value.int .u64 k1 ∧ l ++ encNum n = pre1 ++ encNum k1 ∧ Value.slice A2 (pre.length + 1) c2 = .slice A' pre1.length c' ∧ OwnB w3 base A' c' pre1 ∧ Nw w w3 := by
  refine ⟨k / 128, pre ++ [UInt8.ofNat (128 + k % 128)], A2, c2, by omega, by simp, by rw [he, encNum_big h]; simp, by simp, ?_, hw⟩
  show Own _ _ _ _ _ _ _ _
  rw [List.map_append, List.length_append]
  have e : (128 : Int) + (k : Int) % 128 = ((128 + k % 128 : Nat) : Int) := by omega
  rw [e] at ho
  simp only [List.map_cons, List.map_nil, bv_small (show 128 + k % 128 < 256 by omega)]
  exact ho
/-- Bytes in memory of their own. -/
def RPuts (l : Bytes) (w : World) (e : Ending) (w' : World) : Prop := ∃ A2 c2, e = .returned (.slice A2 l.length c2) ∧ OwnB w' w.heap.size A2 c2 l ∧ Nw w w'
set_option maxRecDepth 20000 in
set_option maxHeartbeats 400000 in
theorem rnum (A : Option Addr) (c : Nat) (l : List UInt8) (n : Nat) (w : World) (hr : RdB w A c l) (hl : l.length ≤ 10000000) (hn : n < u64) :
    Calls Try.prog 101 #[.slice A l.length c, .int .u64 n] w (RPuts (l ++ encNum n) w) := by
  obtain ⟨i0, hi0, hz0, hz1, hz2⟩ := info_parts info_byte
  have hL : Hid (l.length ≤ 10000000) := hl
  have HR := Lib.hid hr
  clear hl hr
  go_enter Try.func101, Try.ntmps101
  go_wp2_with (at_builtin; go_must (refine wpList_append_ _ rfl (.const (.slice none 0 0)) (.tmp 6) 28 rfl w.heap.size 5 i0 _ 1 1 Try.underlying28 hi0 hz0 hz1 hz2 rfl none 0 0 [] rfl (Own.nil _ _ _ _) A l.length c _ rfl HR.out (bv_one _) (Fits.of (by have := hL.out; unfold big; omega) (by omega)) (Nat.le_refl _) ?_); intro A1 c1 w1 ho1 hk1 hb1; (simp only [Nat.zero_add, List.nil_append] at ho1))
  have hn1 : Nw w w1 := hk1.more (fun i hi e => by simp [blkOf] at e)
  clear hk1 hb1
  go_loopw [1, 5] (fun m v wr => ∃ (k : Nat) (pre : List UInt8) (A' : Option Addr) (c' : Nat), k < u64 ∧ m = .int .u64 k ∧ l ++ encNum n = pre ++ encNum k ∧ v = .slice A' pre.length c' ∧ OwnB wr w.heap.size A' c' pre ∧ Nw w wr) (fun m _ _ => (intOf m).toNat)
  case atStart => exact ⟨n, l, A1, c1, hn, rfl, rfl, rfl, ho1, hn1⟩
  case round =>
    obtain ⟨k, pre, A', c', hk, rfl, he, rfl, ho, hkw⟩ := hrel
    have HE := Lib.hid he
    clear he
    have hfit : Fits (pre.length + 1) 1 := by
      have h1 := congrArg List.length HE.out
      have h2 := encNum_len10 hn
      have h3 := hL.out
      simp only [List.length_append] at h1
      exact Fits.of (by unfold big; omega) (by omega)
    have hnw : ∀ {o : Obj} {w2 : World}, Kp (fun k => blkOf A' = some k) (wr.alloc o) w2 → Nw w w2 := fun hk2 => (hkw.alloc _).trans hk2 (fun i hi e => by have := (ho.lt i e).1; omega)
    have HW := (show Hid (∀ {o : Obj} {w2 : World}, Kp (fun k => blkOf A' = some k) (wr.alloc o) w2 → Nw w w2) from hnw)
    clear hnw hn1 ho1
    by_cases h128 : k < 128
    · have hd : decide ((128 : Int) ≤ (k : Int)) = false := decide_eq_false (by omega)
      have hd2 : decide (128 ≤ k) = false := decide_eq_false (by omega)
      go_wp2_with (at_builtin; go_must (refine wpList_append_ _ rfl (.tmp 19) (.tmp 22) 28 rfl w.heap.size 5 i0 _ 1 1 Try.underlying28 hi0 hz0 hz1 hz2 rfl A' pre.length c' _ rfl (ho.alloc _) _ 1 1 _ rfl (Own.of_new _ _ 1 1 #[_] rfl (by simp [maxLen])).rd (by simp [Value.oneCell']) hfit (by have := hkw.size; simp; omega) ?_); intro A2 c2 w2 ho2 hk2 hb2)
      go_ret
      refine num_last (l := l) (n := n) ?_ (HW.out hk2) ho2
      rw [HE.out, encNum_small h128]
    · have hd : decide ((128 : Int) ≤ (k : Int)) = true := decide_eq_true (by omega)
      have hd2 : decide (128 ≤ k) = true := decide_eq_true (by omega)
      go_wp2_with (at_builtin; go_must (refine wpList_append_ _ rfl (.tmp 10) (.tmp 15) 28 rfl w.heap.size 5 i0 _ 1 1 Try.underlying28 hi0 hz0 hz1 hz2 rfl A' pre.length c' _ rfl (ho.alloc _) _ 1 1 _ rfl (Own.of_new _ _ 1 1 #[_] rfl (by simp [maxLen])).rd (by simp [Value.oneCell']) hfit (by have := hkw.size; simp; omega) ?_); intro A2 c2 w2 ho2 hk2 hb2)
      have hw : IntKind.u64.wrap ((k : Int) / 128) = (k : Int) / 128 := by rw [IntKind.wrap_u64]; unfold u64 at hk; omega
      rw [hw]
      clear hw
      go_roundw
      case rel => exact rnum_round h128 hk HE.out (HW.out hk2) ho2
      case measure => simp [intOf]; omega
set_option maxRecDepth 20000 in
set_option maxHeartbeats 400000 in
theorem rsign (A : Option Addr) (c : Nat) (l : List UInt8) (x : Int64) (w : World) (hr : RdB w A c l) (hl : l.length ≤ 10000000) :
    Calls Try.prog 147 #[.slice A l.length c, .int .i64 x.toInt] w (RPuts (l ++ encS x) w) := by
  obtain ⟨l2, hl2⟩ : ∃ l2, l2 = l ++ encS x := ⟨_, rfl⟩
  have HN := Lib.hid (rnum A c l (zigN x.toInt) w hr hl (zig_lt x))
  rw [show l ++ encNum (zigN x.toInt) = l2 from hl2.symm] at HN
  rw [← hl2]
  clear hl2
  have hb1 : (-9223372036854775808 : Int) ≤ x.toInt := x.le_toInt
  have hb2 : x.toInt < 9223372036854775808 := x.toInt_lt
  by_cases h : 0 ≤ x.toInt
  · have HZ : Hid (IntKind.u64.wrap (2 * IntKind.u64.wrap x.toInt) = (zigN x.toInt : Int)) := Lib.hid (by unfold zigN; rw [if_pos h, IntKind.wrap_u64, IntKind.wrap_u64]; omega)
    replace hb1 := Lib.hid hb1
    replace hb2 := Lib.hid hb2
    go_enter Try.func147, Try.ntmps147
    go_wp2_with fail
    rw [HZ.out]
    refine HN.out.mono ?_
    rintro e w1 ⟨A2, c2, rfl, h1, h2⟩
    go_wp2_with fail
    go_ret
    exact ⟨A2, c2, rfl, h1, h2⟩
  · have HZ : Hid (IntKind.u64.wrap (IntKind.u64.wrap (2 * IntKind.u64.wrap (wrap64 (-wrap64 (x.toInt + 1)))) + 1) = (zigN x.toInt : Int)) := Lib.hid (by
      have e1 : wrap64 (x.toInt + 1) = x.toInt + 1 := by unfold wrap64; omega
      have e2 : wrap64 (-(x.toInt + 1)) = -(x.toInt + 1) := by unfold wrap64; omega
      rw [e1, e2]
      unfold zigN; rw [if_neg h, IntKind.wrap_u64, IntKind.wrap_u64, IntKind.wrap_u64]; omega)
    replace hb1 := Lib.hid hb1
    replace hb2 := Lib.hid hb2
    go_enter Try.func147, Try.ntmps147
    go_wp2_with fail
    rw [HZ.out]
    refine HN.out.mono ?_
    rintro e w1 ⟨A2, c2, rfl, h1, h2⟩
    go_wp2_with fail
    go_ret
    exact ⟨A2, c2, rfl, h1, h2⟩
end Go.Proofs.Ytiimdnachgkomaa
