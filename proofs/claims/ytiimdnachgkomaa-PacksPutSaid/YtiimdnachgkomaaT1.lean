import Derived.Test.YtiimdnachgkomaaRPut
import Derived.Test.YtiimdnachgkomaaStill
import Derived.Deep.RegionHeld3
namespace Go.Proofs.Ytiimdnachgkomaa
open Go Go.RowKit
theorem rnum' {l l2 : Bytes} {n : Nat} (h : l2 = l ++ encNum n) (A : Option Addr) (c : Nat) (w : World) (hr : RdB w A c l) (hl : l.length ≤ 10000000) (hn : n < u64) :
    Calls Try.prog 101 #[.slice A l.length c, .int .u64 n] w (RPuts l2 w) := by subst h; exact rnum A c l n w hr hl hn
theorem rsign' {l l2 : Bytes} {x : Int64} (h : l2 = l ++ encS x) (A : Option Addr) (c : Nat) (w : World) (hr : RdB w A c l) (hl : l.length ≤ 10000000) :
    Calls Try.prog 147 #[.slice A l.length c, .int .i64 x.toInt] w (RPuts l2 w) := by subst h; exact rsign A c l x w hr hl
set_option maxRecDepth 20000 in
set_option maxHeartbeats 2000000 in
theorem rcommand (A : Option Addr) (c : Nat) (l : Bytes) (B : Option Addr) (d : Nat) (xs : List Step) (w : World) (hr : RdB w A c l) (hx : RdSt w B d xs) (hl : l.length ≤ 1000000) (hn : xs.length ≤ 1000) :
    Calls Try.prog 110 #[.slice A l.length c, .agg #[.slice B xs.length d]] w (RPuts (l ++ encList encStep xs) w) := by
  obtain ⟨i0, hi0, hz0, hz1, hz2⟩ := info_parts info_byte
  obtain ⟨lf, hlf⟩ : ∃ lf, lf = l ++ encList encStep xs := ⟨_, rfl⟩
  rw [← hlf]
  replace hlf := Lib.hid hlf
  have HX := Lib.hid (hx.alloc (.cells #[.slice B xs.length d] 24))
  have HR := Lib.hid (hr.alloc (.cells #[.slice B xs.length d] 24))
  have HL : Hid (l.length ≤ 1000000) := Lib.hid hl
  have HN : Hid (xs.length ≤ 1000) := Lib.hid hn
  have HU : Hid (xs.length < u64) := Lib.hid (Nat.lt_of_le_of_lt hn (by decide))
  have HB0 : Hid (Blk (w.alloc (.cells #[.slice B xs.length d] 24)) w.heap.size 24 #[.slice B xs.length d]) := Lib.hid (Blk.new _ _ _)
  have HN0 : Hid (Nw w (w.alloc (.cells #[.slice B xs.length d] 24))) := Lib.hid ((Kp.refl _ w).alloc _)
  have HZ0 : Hid ((w.alloc (.cells #[.slice B xs.length d] 24)).heap.size = w.heap.size + 1) := Lib.hid (by simp)
  obtain ⟨l1, hl1⟩ : ∃ l1, l1 = l ++ encNum xs.length := ⟨_, rfl⟩
  replace hl1 := Lib.hid hl1
  clear hr hx hl
  go_enter Try.func110, Try.ntmps110
  go_wp2_with fail
  go_must (refine (rnum' hl1.out A c _ HR.out (by have := HL.out; omega) HU.out).mono ?_)
  rintro e w1 ⟨A1, c1, rfl, ho1, hk1⟩
  generalize (w.alloc (.cells #[.slice B xs.length d] 24)) = w0 at *
  have HO1 := Lib.hid ho1
  have HK1 := Lib.hid hk1
  clear ho1 hk1
  go_wp2_with fail
  go_loopw [0, 5] (fun v i wr => ∃ (k : Nat) (pre : Bytes) (A' : Option Addr) (c' : Nat), k ≤ xs.length ∧ i = .int .i64 k ∧ v = .slice A' pre.length c' ∧ pre = l1 ++ (xs.take k).flatMap encStep ∧ OwnB wr w0.heap.size A' c' pre ∧ Nw w0 wr) (fun _ i _ => xs.length - (intOf i).toNat)
  case atStart => exact ⟨0, l1, A1, c1, by omega, rfl, rfl, by simp, HO1.out, HK1.out⟩
  case round =>
    obtain ⟨k, pre, A', c', hk, rfl, rfl, hpre, ho, hkw⟩ := hrel
    have HPre := Lib.hid hpre
    have HO := Lib.hid ho
    have HK := Lib.hid hkw
    have hb0 := HB0.out.nw hkw
    have e0 : wr.cell? ⟨w.heap.size, 0, none⟩ = some (.slice B xs.length d) := hb0.cell 0
    clear hpre ho hb0
    by_cases hlt : k < xs.length
    · obtain ⟨ad, rfl, hc⟩ := (HX.out.nw hkw).elem (fun _ => rfl) hlt (by omega)
      obtain ⟨x, hx⟩ : ∃ x, x = xs[k] := ⟨_, rfl⟩
      rw [← hx] at hc
      have HC := Lib.hid hc
      have HPL : Hid (pre.length ≤ 1060000) := Lib.hid (by
        have h1 := flat_le encStep encStep_len (xs.take k)
        rw [List.length_take] at h1
        rw [HPre.out, List.length_append, hl1.out, List.length_append]
        have := HL.out; have := HN.out; have := encNum_len10 HU.out; omega)
      obtain ⟨l2, hl2⟩ : ∃ l2, l2 = pre ++ [x.kind, x.a, x.b, x.c, x.d] := ⟨_, rfl⟩
      obtain ⟨l3, hl3⟩ : ∃ l3, l3 = l2 ++ encS x.n := ⟨_, rfl⟩
      obtain ⟨l4, hl4⟩ : ∃ l4, l4 = l3 ++ encS x.max := ⟨_, rfl⟩
      obtain ⟨l5, hl5⟩ : ∃ l5, l5 = l4 ++ encS x.num := ⟨_, rfl⟩
      obtain ⟨l6, hl6⟩ : ∃ l6, l6 = l5 ++ encS x.den := ⟨_, rfl⟩
      obtain ⟨l7, hl7⟩ : ∃ l7, l7 = l6 ++ encNum x.seq.toNat := ⟨_, rfl⟩
      have HP7 : Hid (l7 = l1 ++ (xs.take (k + 1)).flatMap encStep) := Lib.hid (by
        rw [take_more' xs k hlt, ← hx, ← List.append_assoc, ← HPre.out, hl7, hl6, hl5, hl4, hl3, hl2]
        simp [encStep, encU])
      have q1 := encS_len x.n; have q2 := encS_len x.max; have q3 := encS_len x.num; have q4 := encS_len x.den
      have b2 : Hid (l2.length ≤ 1070000) := Lib.hid (by rw [hl2, List.length_append]; have := HPL.out; simp; omega)
      have b3 : Hid (l3.length ≤ 1080000) := Lib.hid (by rw [hl3, List.length_append]; have := b2.out; omega)
      have b4 : Hid (l4.length ≤ 1090000) := Lib.hid (by rw [hl4, List.length_append]; have := b3.out; omega)
      have b5 : Hid (l5.length ≤ 1100000) := Lib.hid (by rw [hl5, List.length_append]; have := b4.out; omega)
      have b6 : Hid (l6.length ≤ 1110000) := Lib.hid (by rw [hl6, List.length_append]; have := b5.out; omega)
      replace hx := Lib.hid hx
      replace hl2 := Lib.hid hl2
      replace hl3 := Lib.hid hl3
      replace hl4 := Lib.hid hl4
      replace hl5 := Lib.hid hl5
      replace hl6 := Lib.hid hl6
      replace hl7 := Lib.hid hl7
      have hmb : Blk ((wr.alloc (.cells x.cells.toArray 169)).alloc (.cells #[.int .u8 x.kind.toNat, .int .u8 x.a.toNat, .int .u8 x.b.toNat, .int .u8 x.c.toNat, .int .u8 x.d.toNat] 5)) wr.heap.size 169 x.cells.toArray := (Blk.new _ _ _).alloc _
      have HMB := Lib.hid hmb
      have HK2 : Hid (Nw w0 ((wr.alloc (.cells x.cells.toArray 169)).alloc (.cells #[.int .u8 x.kind.toNat, .int .u8 x.a.toNat, .int .u8 x.b.toNat, .int .u8 x.c.toNat, .int .u8 x.d.toNat] 5))) := Lib.hid ((hkw.alloc _).alloc _)
      have HO2 : Hid (OwnB ((wr.alloc (.cells x.cells.toArray 169)).alloc (.cells #[.int .u8 x.kind.toNat, .int .u8 x.a.toNat, .int .u8 x.b.toNat, .int .u8 x.c.toNat, .int .u8 x.d.toNat] 5)) w0.heap.size A' c' pre) := Lib.hid ((HO.out.alloc _).alloc _)
      have HFar : Hid (∀ i, blkOf A' = some i → w0.heap.size ≤ i ∧ i < wr.heap.size) := Lib.hid HO.out.lt
      have p0 : (wr.alloc (.cells x.cells.toArray 169)).cell? ⟨wr.heap.size, 0, none⟩ = some (.int .u8 x.kind.toNat) := (Blk.new wr 169 x.cells.toArray).cell 0
      have p1 : (wr.alloc (.cells x.cells.toArray 169)).cell? ⟨wr.heap.size, 1, none⟩ = some (.int .u8 x.a.toNat) := (Blk.new wr 169 x.cells.toArray).cell 1
      have p2 : (wr.alloc (.cells x.cells.toArray 169)).cell? ⟨wr.heap.size, 2, none⟩ = some (.int .u8 x.b.toNat) := (Blk.new wr 169 x.cells.toArray).cell 2
      have p3 : (wr.alloc (.cells x.cells.toArray 169)).cell? ⟨wr.heap.size, 3, none⟩ = some (.int .u8 x.c.toNat) := (Blk.new wr 169 x.cells.toArray).cell 3
      have p4 : (wr.alloc (.cells x.cells.toArray 169)).cell? ⟨wr.heap.size, 4, none⟩ = some (.int .u8 x.d.toNat) := (Blk.new wr 169 x.cells.toArray).cell 4
      clear hc hkw hmb q1 q2 q3 q4
      go_wp2_with (first
        | ((with_reducible refine stopAt (.load 169 (.tmp 23)) rfl ?_); go_must (refine unStop (wpList_ldP rfl 169 (.tmp 23) rfl sS_step _ rfl x.cells HC.out rfl ?_)))
        | ((with_reducible refine stopAt (.store 169 (.tmp 6) (.tmp 24)) rfl ?_); go_must (refine unStop (wpList_stN rfl 169 (.tmp 6) (.tmp 24) rfl x.cells sS_step rfl rfl rfl rfl rfl (step_one x) ?_)))
        | (at_builtin; go_must (refine wpList_append_ _ rfl (.tmp 25) (.tmp 36) 28 rfl w0.heap.size 5 i0 _ 1 1 Try.underlying28 hi0 hz0 hz1 hz2 rfl A' pre.length c' _ rfl HO2.out (some ⟨wr.heap.size + 1, 0, none⟩) 5 5 [.int .u8 x.kind.toNat, .int .u8 x.a.toNat, .int .u8 x.b.toNat, .int .u8 x.c.toNat, .int .u8 x.d.toNat] rfl (Own.of_newAt (by simp) _ 1 5 #[.int .u8 x.kind.toNat, .int .u8 x.a.toNat, .int .u8 x.b.toNat, .int .u8 x.c.toNat, .int .u8 x.d.toNat] rfl (by simp [maxLen])).rd (by simp [Value.oneCell']) (Fits.of (by have := HPL.out; unfold big; omega) (by omega)) HK2.out.size ?_); intro A2 c2 w2 ho2 hk2 hb2))
      have hfar : blkOf A' ≠ some wr.heap.size := fun e => by have := (HFar.out _ e).2; omega
      have q5 : w2.cell? ⟨wr.heap.size, 5, none⟩ = some (.int .i64 x.n.toInt) := hk2.cell (HMB.out.cell 5) hfar
      have q6 : w2.cell? ⟨wr.heap.size, 6, none⟩ = some (.int .i64 x.max.toInt) := hk2.cell (HMB.out.cell 6) hfar
      have q7 : w2.cell? ⟨wr.heap.size, 7, none⟩ = some (.int .i64 x.num.toInt) := hk2.cell (HMB.out.cell 7) hfar
      have q8 : w2.cell? ⟨wr.heap.size, 8, none⟩ = some (.int .i64 x.den.toInt) := hk2.cell (HMB.out.cell 8) hfar
      have q9 : w2.cell? ⟨wr.heap.size, 9, none⟩ = some (.int .u64 x.seq.toNat) := hk2.cell (HMB.out.cell 9) hfar
      have e2 : pre.length + 5 = l2.length := by rw [hl2.out]; simp
      have HR2 : Hid (RdB w2 A2 c2 l2) := Lib.hid (by
        have e3 : l2.map bv = pre.map bv ++ [.int .u8 x.kind.toNat, .int .u8 x.a.toNat, .int .u8 x.b.toNat, .int .u8 x.c.toNat, .int .u8 x.d.toNat] := by rw [hl2.out, List.map_append]; rfl
        have h2 := ho2
        rw [e2, ← e3] at h2
        exact h2.rd)
      have HK2w : Hid (Nw w0 w2) := Lib.hid (HK2.out.trans hk2 (fun k hk e => by have := (HFar.out k e).1; omega))
      have HC3 : Hid (∀ w' A c, RdB w' A c l2 → Calls Try.prog 147 #[.slice A (pre.length + 5) c, .int .i64 x.n.toInt] w' (RPuts l3 w')) := Lib.hid (fun w' A c h => by rw [e2]; exact rsign' hl3.out A c w' h (by have := b2.out; omega))
      have HC4 : Hid (∀ w' A c, RdB w' A c l3 → Calls Try.prog 147 #[.slice A l3.length c, .int .i64 x.max.toInt] w' (RPuts l4 w')) := Lib.hid (fun w' A c h => rsign' hl4.out A c w' h (by have := b3.out; omega))
      have HC5 : Hid (∀ w' A c, RdB w' A c l4 → Calls Try.prog 147 #[.slice A l4.length c, .int .i64 x.num.toInt] w' (RPuts l5 w')) := Lib.hid (fun w' A c h => rsign' hl5.out A c w' h (by have := b4.out; omega))
      have HC6 : Hid (∀ w' A c, RdB w' A c l5 → Calls Try.prog 147 #[.slice A l5.length c, .int .i64 x.den.toInt] w' (RPuts l6 w')) := Lib.hid (fun w' A c h => rsign' hl6.out A c w' h (by have := b5.out; omega))
      have HC7 : Hid (∀ w' A c, RdB w' A c l6 → Calls Try.prog 101 #[.slice A l6.length c, .int .u64 x.seq.toNat] w' (RPuts l7 w')) := Lib.hid (fun w' A c h => rnum' hl7.out A c w' h (by have := b6.out; omega) x.seq.toNat_lt)
      have HS : Hid (∀ w', Nw w2 w' → (Nw w2 w' ∧ w'.cell? ⟨wr.heap.size, 5, none⟩ = some (.int .i64 x.n.toInt) ∧ w'.cell? ⟨wr.heap.size, 6, none⟩ = some (.int .i64 x.max.toInt))) := Lib.hid (fun w' h => ⟨h, Nw.cell h q5, Nw.cell h q6⟩)
      clear ho2 hk2 hb2 hfar e2 p0 p1 p2 p3 p4
      go_region_held3 (fun w' => Nw w2 w' ∧ w'.cell? ⟨wr.heap.size, 5, none⟩ = some (.int .i64 x.n.toInt) ∧ w'.cell? ⟨wr.heap.size, 6, none⟩ = some (.int .i64 x.max.toInt)) (first | exact HS.out _ hs4 | exact HS.out _ hs3 | exact HS.out _ (Kp.drew (Kp.refl _ _)))
        (first
          | (go_at_call 147; have hy := HC4.out _ _ _ ho3.rd; refine Calls.mono hy ?_; intro e w4 hn; clear hy; obtain ⟨A4, c4, rfl, ho4, hk4⟩ := hn; have hs4 := hs3.nw hk4; dsimp only)
          | (go_at_call 147; have hy := HC3.out _ _ _ HR2.out.drew; refine Calls.mono hy ?_; intro e w3 hn; clear hy; obtain ⟨A3, c3, rfl, ho3, hk3⟩ := hn; have hs3 : Nw w2 w3 := (Kp.drew (Kp.refl _ w2)).nw hk3; dsimp only))
      have q7' := Nw.cell hs4 q7
      have q8' := Nw.cell hs4 q8
      have q9' := Nw.cell hs4 q9
      have HR4 := Lib.hid ho4.rd
      have HK4w := Lib.hid (HK2w.out.nw hs4)
      rename_i hHeld
      clear hHeld hs4 hs3 ho3 ho4 hk3 hk4 q5 q6 q7 q8 q9 HS HC3 HC4
      go_wp2_with fail
      have HS : Hid (∀ w', Nw w4 w' → (Nw w4 w' ∧ w'.cell? ⟨wr.heap.size, 7, none⟩ = some (.int .i64 x.num.toInt) ∧ w'.cell? ⟨wr.heap.size, 8, none⟩ = some (.int .i64 x.den.toInt))) := Lib.hid (fun w' h => ⟨h, Nw.cell h q7', Nw.cell h q8'⟩)
      go_region_held3 (fun w' => Nw w4 w' ∧ w'.cell? ⟨wr.heap.size, 7, none⟩ = some (.int .i64 x.num.toInt) ∧ w'.cell? ⟨wr.heap.size, 8, none⟩ = some (.int .i64 x.den.toInt)) (first | exact HS.out _ hs6 | exact HS.out _ hs5 | exact HS.out _ (Kp.drew (Kp.refl _ _)))
        (first
          | (go_at_call 147; have hy := HC6.out _ _ _ ho5.rd; refine Calls.mono hy ?_; intro e w6 hn; clear hy; obtain ⟨A6, c6, rfl, ho6, hk6⟩ := hn; have hs6 := hs5.nw hk6; dsimp only)
          | (go_at_call 147; have hy := HC5.out _ _ _ HR4.out.drew; refine Calls.mono hy ?_; intro e w5 hn; clear hy; obtain ⟨A5, c5, rfl, ho5, hk5⟩ := hn; have hs5 : Nw w4 w5 := (Kp.drew (Kp.refl _ w4)).nw hk5; dsimp only))
      have q9'' := Nw.cell hs6 q9'
      have HR6 := Lib.hid ho6.rd
      have HK6w := Lib.hid (HK4w.out.nw hs6)
      rename_i hHeld
      clear hHeld hs6 hs5 ho5 ho6 hk5 hk6 q7' q8' q9' HS HC5 HC6
      go_wp2_with fail
      go_must (refine (HC7.out _ _ _ HR6.out).mono ?_)
      rintro e w7 ⟨A7, c7, rfl, ho7, hk7⟩
      have HO7 := Lib.hid ho7
      have HK7 := Lib.hid (HK6w.out.nw hk7)
      have hsz6 := HK6w.out.size
      clear ho7 hk7
      go_wp2_with fail
      exact ⟨⟨k + 1, l7, A7, c7, hlt, rfl, rfl, HP7.out, HO7.out.low hsz6, HK7.out⟩, by simp [intOf]; omega⟩
    · obtain rfl : k = xs.length := by omega
      have HE : Hid (pre = lf) := Lib.hid (by rw [HPre.out, List.take_length, hl1.out, hlf.out, List.append_assoc]; rfl)
      go_wp2_with fail
      go_ret
      obtain rfl := HE.out
      exact ⟨A', c', rfl, HO.out.low HN0.out.size, HN0.out.trans HK.out (fun _ _ e => e)⟩
end Go.Proofs.Ytiimdnachgkomaa
