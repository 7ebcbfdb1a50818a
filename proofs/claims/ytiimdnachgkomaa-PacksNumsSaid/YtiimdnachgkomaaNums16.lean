/- PacksNums: the walk. -/
import Derived.Test.YtiimdnachgkomaaLives16
import Derived.Test.YtiimdnachgkomaaLetterV
namespace Go.Proofs.Ytiimdnachgkomaa
open Go Go.RowKit
set_option maxRecDepth 100000 in
set_option maxHeartbeats 2000000 in
theorem nums_calls (a b : UInt64) (A : Option Addr) (c : Nat) (l : Bytes) (w : World) (hr : RdB w A c l) (hl : Reach l.length) :
    Calls Try.prog 10 #[.int .u64 a.toNat, .int .u64 b.toNat, .slice A l.length c] w fun e w' => e = .returned (.bool true) ∧ Nw w w' := by
  obtain ⟨i0, hi0, hz0, hz1, hz2⟩ := info_parts info_byte
  have HR := Lib.hid hr
  clear hr
  by_cases hg : 1000 < l.length
  · have hd : decide ((1000 : Int) < (l.length : Int)) = true := decide_eq_true (by omega)
    go_enter Try.func10, Try.ntmps10
    go_wp2_with fail
    go_must (refine (lives16 _).mono ?_)
    rintro e w1 ⟨rfl, hk⟩
    go_wp2_with fail
    go_ret
    exact ⟨rfl, hk⟩
  have hd : decide ((1000 : Int) < (l.length : Int)) = false := decide_eq_false (by omega)
  have HL : Hid (l.length ≤ 1000) := Lib.hid (by omega)
  have ha := Lib.hid a.toNat_lt
  have hb := Lib.hid b.toNat_lt
  clear hl hg
  go_enter Try.func10, Try.ntmps10
  go_wp2_with fail
  go_must (refine (num_calls none 0 [] a.toNat _ (Rd.nil _ 1) (by simp) ha.out).mono ?_)
  rintro e w1 ⟨A1, c1, rfl, ho1, hk1⟩
  rw [List.nil_append] at *
  have HO1 := Lib.hid ho1
  have HK1 := Lib.hid hk1
  clear ho1 hk1
  go_wp2_with fail
  go_must (refine (num_calls none 0 [] b.toNat _ (Rd.nil _ 1) (by simp) hb.out).mono ?_)
  rintro e w2 ⟨A2, c2, rfl, ho2, hk2⟩
  rw [List.nil_append] at *
  have HO2 := Lib.hid ho2
  have HO1' := Lib.hid (HO1.out.nw hk2)
  have HK2 := Lib.hid (HK1.out.nw hk2)
  clear ho2 hk2
  go_wp2_with fail
  go_must (refine (num_calls A c l a.toNat _ (HR.out.nw HK2.out) (by have := HL.out; omega) ha.out).mono ?_)
  rintro e w3 ⟨A3, c3, rfl, ho3, hk3⟩
  have HO3 := Lib.hid ho3
  have HOx := Lib.hid (HO1'.out.nw hk3)
  have HOy := Lib.hid (HO2.out.nw hk3)
  have HK3 := Lib.hid (HK2.out.nw hk3)
  have HR3 := Lib.hid (HR.out.nw HK3.out)
  clear ho3 hk3 HO1 HO2 HK2 HO1' HK1
  have HXL := Lib.hid (encNum_len10 ha.out)
  have HXP := Lib.hid (encNum_pos a.toNat)
  go_wp2_with (first
    | ((with_reducible refine stopAt (.call { callee := .builtin .append, args := #[.const (.slice none 0 0), .tmp 24], argTypes := #[28, 28] }) rfl ?_); go_must (refine unStop (wpList_append_ _ rfl _ _ 28 rfl w.heap.size 5 i0 _ 1 1 Try.underlying28 hi0 hz0 hz1 hz2 rfl none 0 0 [] rfl (Own.nil _ _ _ _) A1 (encNum a.toNat).length c1 _ rfl HOx.out.rd (bv_one _) (Fits.of (by have := HXL.out; unfold big; omega) (by omega)) HK3.out.size ?_)); intro A4 c4 w4 ho4 hk4 hb4; (simp only [Nat.zero_add, List.nil_append] at ho4); have HN4 : Hid (Nw w3 w4) := Lib.hid ((Kp.refl _ w3).trans hk4 (fun i hi e => by simp [blkOf] at e)); have HO4 := Lib.hid ho4; have HF : Hid (∀ i, blkOf A4 = some i → w3.heap.size ≤ i) := Lib.hid (fun i e => by rcases hb4 with h | h; rw [h] at e; simp [blkOf] at e; rw [h] at e; injection e with e; omega); clear ho4 hk4 hb4)
    | ((with_reducible refine stopAt (.call { callee := .builtin .append, args := #[.tmp 25, .tmp 26], argTypes := #[28, 28] }) rfl ?_); go_must (refine unStop (wpList_append_ _ rfl _ _ 28 rfl w.heap.size 5 i0 _ 1 1 Try.underlying28 hi0 hz0 hz1 hz2 rfl A4 (encNum a.toNat).length c4 _ rfl HO4.out A l.length c _ rfl (HR3.out.nw HN4.out) (bv_one _) (Fits.of (by have := HXL.out; have := HL.out; unfold big; omega) (by omega)) (by have := HK3.out.size; have := HN4.out.size; omega) ?_)); intro A5 c5 w5 ho5 hk5 hb5))
  have HN5 : Hid (Nw w3 w5) := Lib.hid (HN4.out.trans hk5 (fun i hi e => by have := HF.out i e; omega))
  have hr5 : RdB w5 A5 c5 (encNum a.toNat ++ l) := by
    have := ho5.rd
    show Rd _ _ _ _ _ _
    rw [List.map_append, List.length_append]
    exact this
  have hT := Take_ A5 c5 _ w5 hr5
  rw [List.length_append] at hT
  have HX5 := Lib.hid (HOx.out.nw HN5.out)
  have HY5 := Lib.hid (HOy.out.nw HN5.out)
  have HZ5 := Lib.hid (HO3.out.nw HN5.out)
  have HL5 := Lib.hid (HR3.out.nw HN5.out)
  have HK5 := Lib.hid (HK3.out.nw HN5.out)
  clear ho5 hk5 hb5 hr5 HN4 HN5 HF HO4 HOx HOy HO3 HR3 HK3
  go_must (refine hT.mono ?_)
  rintro e w6 ⟨he, rfl⟩
  clear hT
  have hp : pNum (encNum a.toNat ++ l) = .ok (a.toNat, l) := codec_num.back a.toNat l ha.out
  rcases he.ways with ⟨n, r, hp2, rfl⟩ | ⟨k, hp2, rfl⟩
  rotate_left
  · rw [hp] at hp2; cases hp2
  rw [hp] at hp2
  injection hp2 with hp2
  injection hp2 with h1 h2
  subst h1 h2
  have hsz : (encNum a.toNat ++ l).length - l.length = (encNum a.toNat).length := by rw [List.length_append]; omega
  rw [hsz]
  clear hsz hp he
  obtain ⟨x, hx⟩ : ∃ x, x = encNum a.toNat := ⟨_, rfl⟩
  obtain ⟨y, hy⟩ : ∃ y, y = encNum b.toNat := ⟨_, rfl⟩
  rw [← hx, ← hy]
  replace hx := Lib.hid hx
  replace hy := Lib.hid hy
  have HX6 : Hid (RdB w6 A1 c1 x) := Lib.hid (by rw [hx.out]; exact HX5.out.rd)
  have HY6 : Hid (RdB w6 A2 c2 y) := Lib.hid (by rw [hy.out]; exact HY5.out.rd)
  have HZ6 : Hid (RdB w6 A3 c3 l) := Lib.hid (by
    have := (HZ5.out.rd).take (k := l.length) (by rw [List.length_append]; omega)
    rw [List.map_append, List.take_left' (by simp)] at this
    exact this)
  have HC6 : Hid (l.length ≤ c3) := Lib.hid (by have := HZ5.out.cap; rw [List.length_append] at this; omega)
  have t1 : ((a.toNat : Int) != (a.toNat : Int)) = false := by simp
  have t2 : ((x.length : Int) != (x.length : Int)) = false := by simp
  have t3 : decide ((x.length : Int) < 1) = false := decide_eq_false (by have := HXP.out; rw [hx.out]; omega)
  have t4 : decide ((10 : Int) < (x.length : Int)) = false := decide_eq_false (by have := HXL.out; rw [hx.out]; omega)
  have t5 : (((l.length : Int) + (x.length : Int)) != ((l.length : Int) + (x.length : Int))) = false := by simp
  have b1 : (x.length : Int) ≤ 10 := by have := HXL.out; rw [hx.out]; omega
  have b2 : (l.length : Int) ≤ 1000 := by have := HL.out; omega
  have hsl : ∀ w : World, (Instr.sliceAt 28 (.slice A3 (l.length + x.length) c3) none (some (.int .i64 l.length)) none).run Try.prog w = .ok (.slice A3 l.length c3) w := fun w => by
    have hu : Try.prog.underlying 28 = some (.slice (Try.prog.elem 28)) := Try.underlying28
    have hc := HC6.out
    rw [run_sliceAt_slice w _ _ _ _ _ hu, run_slice_h w _ A3 _ c3 hu .i64 l.length (by omega) (by omega)]
    have e : (sizeOf (Try.prog.elem 28)).run Try.prog w = .ok 1 w := by
      have : Try.prog.elem 28 = 5 := by kernel_rfl
      rw [this]; simp [sizeOf, typeInfo, hi0, hz1]
    rw [e]
    simp only [Result.andThen, sliced, Int.toNat_natCast, Nat.zero_mul, Nat.sub_zero]
    congr 2
    split
    · rfl
    · cases A3 <;> simp [add_zero_]
  have HV : Hid (∀ (A' : Option Addr) (c' : Nat) (m : Bytes), RdB w6 A' c' m → ∀ k, (convert 28 9 (.slice A' m.length c')).run Try.prog (w6.drewN k) = .ok (.string ⟨m.toArray⟩) (w6.drewN k)) := Lib.hid (fun A' c' m h k => conv_bytes A' c' m _ (h.drewN k))
  have v1 := HV.out A3 c3 l HZ6.out
  have v2 := HV.out A c l HL5.out
  go_wp2_with fail
  go_quiet (fail)
  have v3 := HV.out A1 c1 x HX6.out nq
  have v4 := HV.out A2 c2 y HY6.out nq
  clear v1 v2 hsl t1 t2 t3 t4 t5
  by_cases hab : a = b
  · have hxy : y = x := by rw [hx.out, hy.out, hab]
    subst hab
    subst hxy
    have s1 : ((a.toNat : Int) == (a.toNat : Int)) = true := by simp
    go_wp2_with (go_at_call 54; go_must (refine (lives16 _).mono ?_); rintro e w7 ⟨rfl, hk7⟩)
    go_ret
    exact ⟨rfl, (HK5.out.drewN nq).trans hk7 (fun _ _ e => e)⟩
  · have s1 : ((a.toNat : Int) == (b.toNat : Int)) = false := beq_eq_false_iff_ne.2 (fun h => hab (UInt64.toNat_inj.1 (by omega)))
    have hxy : (x == y) = false := beq_eq_false_iff_ne.2 (fun h2 => by
      rw [hx.out, hy.out] at h2
      exact hab (UInt64.toNat_inj.1 (encNum_inj ha.out hb.out h2)))
    by_cases hgt : b.toNat < a.toNat
    · have s3 : decide ((b.toNat : Int) < (a.toNat : Int)) = true := decide_eq_true (by omega)
      have s4 : decide (b.toNat < a.toNat) = true := decide_eq_true hgt
      clear hgt hab
      go_wp2_with (go_at_call 54; go_must (refine (lives16 _).mono ?_); rintro e w7 ⟨rfl, hk7⟩)
      go_ret
      exact ⟨rfl, (HK5.out.drewN nq).trans hk7 (fun _ _ e => e)⟩
    · have s3 : decide ((b.toNat : Int) < (a.toNat : Int)) = false := decide_eq_false (by omega)
      have hle : x.length ≤ y.length := by rw [hx.out, hy.out]; exact encNum_mono _ _ (by omega)
      have s5 : decide ((x.length : Int) ≤ (y.length : Int)) = true := decide_eq_true (by omega)
      have s6 : decide (x.length ≤ y.length) = true := decide_eq_true hle
      clear hab
      go_wp2_with (go_at_call 54; go_must (refine (lives16 _).mono ?_); rintro e w7 ⟨rfl, hk7⟩)
      go_ret
      exact ⟨rfl, (HK5.out.drewN nq).trans hk7 (fun _ _ e => e)⟩
end Go.Proofs.Ytiimdnachgkomaa
