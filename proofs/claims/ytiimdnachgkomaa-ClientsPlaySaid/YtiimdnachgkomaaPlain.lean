/- The plain coders: numbers, bytes. No program in sight. -/
namespace Go.Proofs.Ytiimdnachgkomaa

/-- A number's bytes. -/
def encNum (n : Nat) : List UInt8 := if n < 128 then [UInt8.ofNat n] else UInt8.ofNat (128 + n % 128) :: encNum (n / 128)
termination_by n
decreasing_by omega

theorem encNum_small {n : Nat} (h : n < 128) : encNum n = [UInt8.ofNat n] := by rw [encNum, if_pos h]
theorem encNum_big {n : Nat} (h : ¬ n < 128) : encNum n = UInt8.ofNat (128 + n % 128) :: encNum (n / 128) := by rw [encNum, if_neg h]

/-- A bound of the numbers of 64 bits (a name: the walk wants no such numeral). -/
def u64 : Nat := 18446744073709551616

theorem encNum_len : ∀ (k n : Nat), n < 128 ^ (k + 1) → (encNum n).length ≤ k + 1 ∧ 1 ≤ (encNum n).length := by
  intro k
  induction k with
  | zero =>
    intro n h
    rw [encNum_small (by simpa using h)]
    simp
  | succ k ih =>
    intro n h
    by_cases hn : n < 128
    · rw [encNum_small hn]; simp
    · have := ih (n / 128) (by rw [Nat.div_lt_iff_lt_mul (by omega)]; rw [Nat.pow_succ] at h; exact h)
      rw [encNum_big hn]
      simp only [List.length_cons]
      omega
theorem encNum_len10 {n : Nat} (h : n < u64) : (encNum n).length ≤ 10 := (encNum_len 9 n (Nat.lt_of_lt_of_le h (by decide))).1
theorem encNum_pos (n : Nat) : 1 ≤ (encNum n).length := by
  by_cases hn : n < 128
  · rw [encNum_small hn]; simp
  · rw [encNum_big hn]; simp
end Go.Proofs.Ytiimdnachgkomaa
