/- packs: a number is taken. -/
import Derived.Test.YtiimdnachgkomaaPut4
namespace Go.Proofs.Ytiimdnachgkomaa
open Go Go.RowKit
theorem bits_or_u64_nat (a b : Nat) (ha : a < 18446744073709551616) (hb : b < 18446744073709551616) :
    bits .or .u64 (a : Int) (b : Int) = ((a ||| b : Nat) : Int) := by
  have hx : a ||| b < 2 ^ 64 := Nat.or_lt_two_pow (by omega) (by omega)
  have h1 : (BitVec.ofInt 64 (a : Int)).toNat = a := by
    rw [BitVec.ofInt_natCast, BitVec.toNat_ofNat]; exact Nat.mod_eq_of_lt (by omega)
  have h2 : (BitVec.ofInt 64 (b : Int)).toNat = b := by
    rw [BitVec.ofInt_natCast, BitVec.toNat_ofNat]; exact Nat.mod_eq_of_lt (by omega)
  show IntKind.u64.wrap ((BitVec.ofInt 64 (a : Int) ||| BitVec.ofInt 64 (b : Int)).toNat : Int) = _
  rw [BitVec.toNat_or, h1, h2, IntKind.wrap_u64]
  omega
theorem andNot128 (x : Nat) (h : x < 256) : bits BinOp.andNot IntKind.u8 (x : Int) 128 = ((x % 128 : Nat) : Int) := by
  have h1 : ∀ y : Fin 256, bits BinOp.andNot IntKind.u8 (y.val : Int) 128 = ((y.val % 128 : Nat) : Int) := by decide +kernel
  exact h1 ⟨x, h⟩
theorem pow_128 (k : Nat) : 2 ^ (7 * k) = 128 ^ k := by rw [Nat.pow_mul]
/-- Seven bits more. -/
theorem or_step (acc x k : Nat) (hk : k ≤ 9) (hx : x < 256) (h9 : k = 9 → x ≤ 1) (ha : acc < 128 ^ k) :
    bits BinOp.or IntKind.u64 (acc : Int) (IntKind.u64.wrap (IntKind.u64.wrap (bits BinOp.andNot IntKind.u8 (x : Int) 128) * 2 ^ (7 * k))) = ((acc + x % 128 * 128 ^ k : Nat) : Int) := by
  have hp : 128 ^ k ≤ 128 ^ 9 := Nat.pow_le_pow_right (by omega) hk
  have hm : x % 128 * 128 ^ k < 18446744073709551616 := by
    by_cases h : k = 9
    · have := h9 h
      subst h
      have : x % 128 ≤ 1 := by omega
      exact Nat.lt_of_le_of_lt (Nat.mul_le_mul_right _ this) (by decide)
    · have h8 : 128 ^ k ≤ 128 ^ 8 := Nat.pow_le_pow_right (by omega) (by omega)
      exact Nat.lt_of_le_of_lt (Nat.mul_le_mul (show x % 128 ≤ 127 by omega) h8) (by decide)
  rw [andNot128 x hx]
  have e1 : IntKind.u64.wrap ((x % 128 : Nat) : Int) = ((x % 128 : Nat) : Int) := by rw [IntKind.wrap_u64]; omega
  rw [e1]
  have e2 : ((x % 128 : Nat) : Int) * 2 ^ (7 * k) = ((x % 128 * 128 ^ k : Nat) : Int) := by
    rw [← pow_128, Int.natCast_mul, Int.natCast_pow]; rfl
  rw [e2]
  have e3 : IntKind.u64.wrap ((x % 128 * 128 ^ k : Nat) : Int) = ((x % 128 * 128 ^ k : Nat) : Int) := by rw [IntKind.wrap_u64]; omega
  rw [e3, bits_or_u64_nat _ _ (Nat.lt_of_lt_of_le ha (Nat.le_trans hp (by decide))) hm]
  congr 1
  rw [← pow_128] at *
  have := Nat.shiftLeft_add_eq_or_of_lt (a := x % 128) ha
  rw [Nat.shiftLeft_eq] at this
  rw [Nat.or_comm, ← this, Nat.add_comm]
theorem acc_lt (acc x k : Nat) (ha : acc < 128 ^ k) : acc + x % 128 * 128 ^ k < 128 ^ (k + 1) := by
  have h : x % 128 * 128 ^ k ≤ 127 * 128 ^ k := Nat.mul_le_mul_right _ (by omega)
  rw [Nat.pow_succ]
  omega
theorem tup3 {a a' b b' c c' : Value} (h1 : a = a') (h2 : b = b') (h3 : c = c') : Value.tuple #[a, b, c] = .tuple #[a', b', c'] := by rw [h1, h2, h3]
theorem drop_at {l : Bytes} {k : Nat} (h : k < l.length) : l.drop k = l[k] :: l.drop (k + 1) := List.drop_eq_getElem_cons h
def TakeE (l : Bytes) (e : Ending) : Prop := match pNum l with
  | .ok (n, r) => e = .returned (.tuple #[.int .u64 n, .int .i64 ((l.length - r.length : Nat)), .int .i64 0])
  | .error k => e = .returned (.tuple #[.int .u64 0, .int .i64 0, .int .i64 k])
theorem TakeE.err {l : Bytes} {k : Nat} (h : pNum l = .error k) : TakeE l (.returned (.tuple #[.int .u64 0, .int .i64 0, .int .i64 k])) := by unfold TakeE; rw [h]
theorem TakeE.ok {l r : Bytes} {n : Nat} {v : Value} (h : pNum l = .ok (n, r)) (hv : v = .tuple #[.int .u64 n, .int .i64 ((l.length - r.length : Nat)), .int .i64 0]) : TakeE l (.returned v) := by unfold TakeE; rw [h, hv]
/-- One byte more is taken. -/
theorem numA_more {l : Bytes} {k acc : Nat} (hk : k < 10) (hl : k < l.length) (hp : pNum l = pNumA (10 - k) k acc (l.drop k)) :
    pNum l = if k = 9 ∧ 1 < l[k].toNat ∨ 0 < k ∧ l[k].toNat = 0 then .error 4
    else if l[k].toNat < 128 then .ok (acc + l[k].toNat * 128 ^ k, l.drop (k + 1))
    else pNumA (10 - (k + 1)) (k + 1) (acc + (l[k].toNat - 128) * 128 ^ k) (l.drop (k + 1)) := by
  rw [hp, drop_at hl, show 10 - k = 10 - (k + 1) + 1 by omega]
  rfl
set_option maxRecDepth 20000 in
set_option maxHeartbeats 400000 in
theorem take_calls (A : Option Addr) (c : Nat) (l : Bytes) (w : World) (hr : RdB w A c l) :
    Calls Try.prog 104 #[.slice A l.length c] w fun e w' => TakeE l e ∧ w' = w := by
  have HR := Lib.hid hr
  clear hr
  go_enter Try.func104, Try.ntmps104
  go_wp2_with fail
  go_loop [2, 7] (fun n i => ∃ (k acc : Nat), k ≤ 10 ∧ k ≤ l.length ∧ i = .int .i64 k ∧ n = .int .u64 acc ∧ acc < 128 ^ k ∧ pNum l = pNumA (10 - k) k acc (l.drop k)) (fun _ i => 10 - (intOf i).toNat)
  case atStart => exact ⟨0, 0, by omega, by omega, rfl, rfl, by simp, by simp [pNum]⟩
  case round =>
    obtain ⟨k, acc, hk, hkl, rfl, rfl, ha, hp⟩ := hrel
    have HP := Lib.hid hp
    have HAcc := Lib.hid ha
    clear hp ha
    by_cases hlt : k < 10
    · by_cases hl : k < l.length
      · have HM := Lib.hid (numA_more hlt hl HP.out)
        obtain ⟨ad, rfl, hc⟩ := HR.out.bytes hl (by omega)
        obtain ⟨x, hx⟩ : ∃ x, x = l[k] := ⟨_, rfl⟩
        rw [← hx] at hc HM
        clear hx
        have hx256 : (x.toNat : Int) < 256 := by have := x.toNat_lt; omega
        by_cases h9 : k = 9 ∧ 1 < x.toNat
        · have HE : Hid (pNum l = .error 4) := Lib.hid (by rw [HM.out, if_pos (.inl h9)])
          have hb9 : ((k : Int) == 9) = true := beq_iff_eq.2 (by omega)
          have h1 := h9.2
          clear h9
          have hb1 : decide (1 < (x.toNat : Int)) = true := decide_eq_true (by omega)
          go_wp2_with fail
          go_ret3
          exact ⟨TakeE.err HE.out, rfl⟩
        · by_cases hs : x.toNat < 128
          · have hxs : decide ((x.toNat : Int) < 128) = true := decide_eq_true (by omega)
            by_cases h0 : 0 < k ∧ x.toNat = 0
            · have HE : Hid (pNum l = .error 4) := Lib.hid (by rw [HM.out, if_pos (.inr h0)])
              obtain ⟨hk0, h0⟩ := h0
              have hz : ((x.toNat : Int) == 0) = true := beq_iff_eq.2 (by omega)
              have hk0' : decide (0 < (k : Int)) = true := decide_eq_true (by omega)
              have h1 : decide (1 < (x.toNat : Int)) = false := decide_eq_false (by omega)
              by_cases hk9 : k = 9
              · have hb9 : ((k : Int) == 9) = true := beq_iff_eq.2 (by omega)
                clear h9 hk9 h0
                go_wp2_with fail
                go_ret3
                exact ⟨TakeE.err HE.out, rfl⟩
              · have hb9 : ((k : Int) == 9) = false := beq_eq_false_iff_ne.2 (by omega)
                go_wp2_with fail
                go_ret3
                exact ⟨TakeE.err HE.out, rfl⟩
            · have HE : Hid (pNum l = .ok (acc + x.toNat * 128 ^ k, l.drop (k + 1))) := Lib.hid (by rw [HM.out, if_neg (by rintro (h | h); exact h9 h; exact h0 h), if_pos hs])
              have HO := Lib.hid (or_step acc x.toNat k (by omega) (by have := x.toNat_lt; omega) (fun e => by rcases Nat.lt_or_ge 1 x.toNat with h | h; exact absurd ⟨e, h⟩ h9; exact h) HAcc.out)
              have hv : ((l.length - (l.drop (k + 1)).length : Nat) : Int) = (k : Int) + 1 := by rw [List.length_drop]; omega
              have HV := Lib.hid hv
              clear hv
              rw [Nat.mod_eq_of_lt hs] at HO
              by_cases hk9 : k = 9
              · have h1 : decide (1 < (x.toNat : Int)) = false := decide_eq_false (fun h => h9 ⟨hk9, by omega⟩)
                have hz : ((x.toNat : Int) == 0) = false := beq_eq_false_iff_ne.2 (fun h => h0 ⟨by omega, by omega⟩)
                have hb9 : ((k : Int) == 9) = true := beq_iff_eq.2 (by omega)
                clear h9 h0 hk9
                go_wp2_with fail
                go_ret3
                exact ⟨TakeE.ok HE.out (tup3 (congrArg (Value.int .u64) HO.out) (congrArg (Value.int .i64) HV.out.symm) rfl), rfl⟩
              · have hb9 : ((k : Int) == 9) = false := beq_eq_false_iff_ne.2 (by omega)
                by_cases hz0 : x.toNat = 0
                · have hz : ((x.toNat : Int) == 0) = true := beq_iff_eq.2 (by omega)
                  have hk1 : ¬ 0 < k := fun h => h0 ⟨h, hz0⟩
                  have hk0 : decide (0 < k) = false := decide_eq_false hk1
                  replace hz0 := Lib.hid hz0
                  clear h9 h0
                  go_wp2_with fail
                  go_ret3
                  exact ⟨TakeE.ok HE.out (tup3 (congrArg (Value.int .u64) HO.out) (congrArg (Value.int .i64) HV.out.symm) rfl), rfl⟩
                · have hz : ((x.toNat : Int) == 0) = false := beq_eq_false_iff_ne.2 (by omega)
                  clear h9 h0 hz0
                  go_wp2_with fail
                  go_ret3
                  exact ⟨TakeE.ok HE.out (tup3 (congrArg (Value.int .u64) HO.out) (congrArg (Value.int .i64) HV.out.symm) rfl), rfl⟩
          · have h9' : k ≠ 9 := fun e => h9 ⟨e, by omega⟩
            have hb9 : ((k : Int) == 9) = false := beq_eq_false_iff_ne.2 (by omega)
            have hxs : decide ((x.toNat : Int) < 128) = false := decide_eq_false (by omega)
            have HE : Hid (pNum l = pNumA (10 - (k + 1)) (k + 1) (acc + (x.toNat - 128) * 128 ^ k) (l.drop (k + 1))) := Lib.hid (by rw [HM.out, if_neg (by rintro (h | ⟨_, h⟩); exact h9 h; omega), if_neg hs])
            have HO := Lib.hid (or_step acc x.toNat k (by omega) (by have := x.toNat_lt; omega) (fun e => absurd e h9') HAcc.out)
            have HL := Lib.hid (acc_lt acc x.toNat k HAcc.out)
            have HX : Hid (x.toNat % 128 = x.toNat - 128) := Lib.hid (by omega)
            clear h9 h9'
            go_wp2_with fail
            refine ⟨⟨k + 1, acc + x.toNat % 128 * 128 ^ k, by omega, by omega, by go_num, by rw [HO.out], HL.out, by rw [HE.out, HX.out]⟩, by simp [intOf]; omega⟩
      · obtain rfl : k = l.length := by omega
        have HE : Hid (pNum l = .error 5) := Lib.hid (by rw [HP.out, show 10 - l.length = 9 - l.length + 1 by omega, List.drop_length]; rfl)
        go_wp2_with fail
        go_ret3
        exact ⟨TakeE.err HE.out, rfl⟩
    · obtain rfl : k = 10 := by omega
      have HE : Hid (pNum l = .error 4) := Lib.hid (by rw [HP.out]; rfl)
      go_wp2_with fail
      go_ret3
      exact ⟨TakeE.err HE.out, rfl⟩
end Go.Proofs.Ytiimdnachgkomaa
