/- packs.Num: a number's bytes behind others. -/
import Derived.Test.YtiimdnachgkomaaTypes
import Derived.Lib.Hide
namespace Go.Proofs.Ytiimdnachgkomaa
open Go Go.RowKit
theorem bv_small {k : Nat} (h : k < 256) : bv (UInt8.ofNat k) = .int .u8 k := by
  unfold bv
  rw [UInt8.toNat_ofNat', Nat.mod_eq_of_lt h]
theorem num_last {w w3 : World} {l pre : List UInt8} {n k : Nat} {A2 : Option Addr} {c2 : Nat} {base : Nat} (he : l ++ encNum n = pre ++ [UInt8.ofNat k]) (hk : Nw w w3) (ho : Own w3 base 5 1 A2 (pre.length + 1) c2 (List.map bv pre ++ [.int .u8 (k : Int)])) (hk : k < 256 := by omega) :
  ∃ A3 c3, Ending.returned (.slice A2 (pre.length + 1) c2) = .returned (.slice A3 (l ++ encNum n).length c3) ∧ OwnB w3 base A3 c3 (l ++ encNum n) ∧ Nw w w3 := by
  rw [he]
  exact ⟨A2, c2, by simp, by show Own _ _ _ _ _ _ _ _; rw [List.map_append, List.length_append]; simpa [bv_small hk] using ho, by assumption⟩

theorem or128 {x : Int} (h0 : 0 ≤ x) (h : x < 256) : bits BinOp.or IntKind.u8 x 128 = 128 + x % 128 := by
  have h1 : ∀ y : Fin 256, bits BinOp.or IntKind.u8 (y.val : Int) 128 = 128 + (y.val : Int) % 128 := by decide +kernel
  have := h1 ⟨x.toNat, by omega⟩
  rwa [show ((⟨x.toNat, by omega⟩ : Fin 256).val : Int) = x from by simp; omega] at this
theorem num_round {w w3 : World} {l pre : List UInt8} {n k : Nat} {A2 : Option Addr} {c2 : Nat} {base : Nat} (h : ¬ k < 128) (hk : k < u64) (he : l ++ encNum n = pre ++ encNum k) (hw : Nw w w3) (ho : Own w3 base 5 1 A2 (pre.length + 1) c2 (List.map bv pre ++ #[.int .u8 (bits BinOp.or IntKind.u8 ((k : Int) % 256) 128)].toList)) :
    ∃ (k1 : Nat) (pre1 : List UInt8) (A' : Option Addr) (c' : Nat), k1 < u64 ∧ Value.int .u64 ((k : Int) / 128) = Value.int .u64 k1 ∧ l ++ encNum n = pre1 ++ encNum k1 ∧ Value.slice A2 (pre.length + 1) c2 = .slice A' pre1.length c' ∧ OwnB w3 base A' c' pre1 ∧ Nw w w3 := by
  refine ⟨k / 128, pre ++ [UInt8.ofNat (128 + k % 128)], A2, c2, by omega, by simp, by rw [he, encNum_big h]; simp, by simp, ?_, hw⟩
  show Own _ _ _ _ _ _ _ _
  rw [List.map_append, List.length_append]
  rw [or128 (by omega) (by omega)] at ho
  have e : (128 : Int) + (k : Int) % 256 % 128 = ((128 + k % 128 : Nat) : Int) := by omega
  rw [e] at ho
  simp only [List.map_cons, List.map_nil, bv_small (show 128 + k % 128 < 256 by omega)]
  exact ho

set_option maxRecDepth 20000 in
set_option maxHeartbeats 400000 in
theorem num_calls (A : Option Addr) (c : Nat) (l : List UInt8) (n : Nat) (w : World) (hr : RdB w A c l) (hl : l.length ≤ 10000000) (hn : n < u64) :
    Calls Try.prog 55 #[.slice A l.length c, .int .u64 n] w fun e w' =>
      ∃ A2 c2, e = .returned (.slice A2 (l ++ encNum n).length c2) ∧ OwnB w' w.heap.size A2 c2 (l ++ encNum n) ∧ Nw w w' := by
  obtain ⟨i0, hi0, hz0, hz1, hz2⟩ := info_parts info_byte
  have hL : Hid (l.length ≤ 10000000) := hl
  clear hl
  go_enter Try.func55, Try.ntmps55
  go_wp2_with (go_at_call 103; go_must (refine (clone_byte _ _ _ _ _ hr (bv_one l) ?_).mono ?_); (have := hL.out; unfold big; omega); rintro e w1 ⟨A1, c1, rfl, ho1, hk1⟩)
  go_loopw [1, 5] (fun m v wr => ∃ (k : Nat) (pre : List UInt8) (A' : Option Addr) (c' : Nat), k < u64 ∧ m = .int .u64 k ∧ l ++ encNum n = pre ++ encNum k ∧ v = .slice A' pre.length c' ∧ OwnB wr w.heap.size A' c' pre ∧ Nw w wr) (fun m _ _ => (intOf m).toNat)
  case atStart => exact ⟨n, l, A1, c1, hn, rfl, rfl, rfl, ho1, hk1⟩
  case round =>
    obtain ⟨k, pre, A', c', hk, rfl, he, rfl, ho, hkw⟩ := hrel
    have HE := Lib.hid he
    clear he
    have hfit : Fits (pre.length + 1) 1 := by
      have h1 := congrArg List.length HE.out
      have h2 := encNum_len10 hn
      have h3 := hL.out
      simp only [List.length_append] at h1
      exact Fits.of (by unfold big; omega) (by omega)
    have hnw : ∀ {o : Obj} {w2 : World}, Kp (fun k => blkOf A' = some k) (wr.alloc o) w2 → Nw w w2 := fun hk2 => (hkw.alloc _).trans hk2 (fun i hi e => by have := (ho.lt i e).1; omega)
    have HW := (show Hid (∀ {o : Obj} {w2 : World}, Kp (fun k => blkOf A' = some k) (wr.alloc o) w2 → Nw w w2) from hnw)
    clear hnw
    by_cases h128 : k < 128
    · go_wp2_with (first | (at_builtin; go_must (refine wpList_append_ _ rfl (.tmp 18) (.tmp 21) 28 rfl w.heap.size 5 i0 _ 1 1 Try.underlying28 hi0 hz0 hz1 hz2 rfl A' pre.length c' _ rfl (ho.alloc _) _ 1 1 _ rfl (Own.of_new _ _ 1 1 #[_] rfl (by simp [maxLen])).rd (by simp [Value.oneCell']) hfit (by have := hkw.size; simp; omega) ?_); intro A2 c2 w2 ho2 hk2 hb2) | (go_at_call 100; go_must (refine (clip_byte _ _ _ _ ho2.cap).mono ?_); rintro e w3 ⟨rfl, rfl⟩))
      go_ret
      refine num_last ?_ (HW.out hk2) ho2.clip
      rw [HE.out, encNum_small h128]
    · go_wp2_with (at_builtin; go_must (refine wpList_append_ _ rfl (.tmp 10) (.tmp 14) 28 rfl w.heap.size 5 i0 _ 1 1 Try.underlying28 hi0 hz0 hz1 hz2 rfl A' pre.length c' _ rfl (ho.alloc _) _ 1 1 _ rfl (Own.of_new _ _ 1 1 #[_] rfl (by simp [maxLen])).rd (by simp [Value.oneCell']) hfit (by have := hkw.size; simp; omega) ?_); intro A2 c2 w2 ho2 hk2 hb2)
      go_roundw
      case rel => exact num_round h128 hk HE.out (HW.out hk2) ho2
      case measure => simp [intOf]; omega
end Go.Proofs.Ytiimdnachgkomaa
