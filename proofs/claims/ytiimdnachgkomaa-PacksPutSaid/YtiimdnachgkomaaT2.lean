/- The document's packs: a reply's bytes behind others. -/
import Derived.Test.YtiimdnachgkomaaT1
import Derived.Test.YtiimdnachgkomaaMem2
namespace Go.Proofs.Ytiimdnachgkomaa
open Go Go.RowKit
set_option maxRecDepth 20000 in
set_option maxHeartbeats 2000000 in
theorem rreply (A : Option Addr) (c : Nat) (l : Bytes) (e at_ : Int64) (B : Option Addr) (d : Nat) (xs : List Got) (w : World) (hr : RdB w A c l) (hx : RdG w B d xs) (hl : l.length ≤ 1000000) (hn : xs.length ≤ 1000) :
    Calls Try.prog 113 #[.slice A l.length c, .agg #[.int .i64 e.toInt, .int .i64 at_.toInt, .slice B xs.length d]] w (RPuts (l ++ encReply ⟨e, at_, xs⟩) w) := by
  obtain ⟨lf, hlf⟩ : ∃ lf, lf = l ++ encReply ⟨e, at_, xs⟩ := ⟨_, rfl⟩
  rw [← hlf]
  replace hlf := Lib.hid hlf
  have HX := Lib.hid (hx.alloc (.cells #[.int .i64 e.toInt, .int .i64 at_.toInt, .slice B xs.length d] 34))
  have HR := Lib.hid (hr.alloc (.cells #[.int .i64 e.toInt, .int .i64 at_.toInt, .slice B xs.length d] 34))
  have HL : Hid (l.length ≤ 1000000) := Lib.hid hl
  have HN : Hid (xs.length ≤ 1000) := Lib.hid hn
  have HU : Hid (xs.length < u64) := Lib.hid (Nat.lt_of_le_of_lt hn (by decide))
  have hb0 : Blk (w.alloc (.cells #[.int .i64 e.toInt, .int .i64 at_.toInt, .slice B xs.length d] 34)) w.heap.size 34 #[.int .i64 e.toInt, .int .i64 at_.toInt, .slice B xs.length d] := Blk.new _ _ _
  have HB0 := Lib.hid hb0
  have HN0 : Hid (Nw w (w.alloc (.cells #[.int .i64 e.toInt, .int .i64 at_.toInt, .slice B xs.length d] 34))) := Lib.hid ((Kp.refl _ w).alloc _)
  obtain ⟨l1, hl1⟩ : ∃ l1, l1 = l ++ encS e := ⟨_, rfl⟩
  obtain ⟨l2, hl2⟩ : ∃ l2, l2 = l1 ++ encS at_ := ⟨_, rfl⟩
  obtain ⟨l3, hl3⟩ : ∃ l3, l3 = l2 ++ encNum xs.length := ⟨_, rfl⟩
  have q1 := encS_len e
  have q2 := encS_len at_
  have q3 := encNum_len10 HU.out
  have b1 : Hid (l1.length ≤ 1000010) := Lib.hid (by rw [hl1, List.length_append]; omega)
  have b2 : Hid (l2.length ≤ 1000020) := Lib.hid (by rw [hl2, List.length_append]; have := b1.out; omega)
  have b3 : Hid (l3.length ≤ 1000030) := Lib.hid (by rw [hl3, List.length_append]; have := b2.out; omega)
  replace hl1 := Lib.hid hl1
  replace hl2 := Lib.hid hl2
  replace hl3 := Lib.hid hl3
  have HC1 : Hid (∀ w' A c, RdB w' A c l → Calls Try.prog 147 #[.slice A l.length c, .int .i64 e.toInt] w' (RPuts l1 w')) := Lib.hid (fun w' A c h => rsign' hl1.out A c w' h (by have := HL.out; omega))
  have HC2 : Hid (∀ w' A c, RdB w' A c l1 → Calls Try.prog 147 #[.slice A l1.length c, .int .i64 at_.toInt] w' (RPuts l2 w')) := Lib.hid (fun w' A c h => rsign' hl2.out A c w' h (by have := b1.out; omega))
  have HC3 : Hid (∀ w' A c, RdB w' A c l2 → Calls Try.prog 101 #[.slice A l2.length c, .int .u64 xs.length] w' (RPuts l3 w')) := Lib.hid (fun w' A c h => rnum' hl3.out A c w' h (by have := b2.out; omega) HU.out)
  clear hr hx hl q1 q2 q3
  go_enter Try.func113, Try.ntmps113
  go_wp2_with fail
  generalize (w.alloc (.cells #[.int .i64 e.toInt, .int .i64 at_.toInt, .slice B xs.length d] 34)) = w0 at *
  have HS : Hid (∀ w', Nw w0 w' → (Nw w0 w' ∧ w'.cell? ⟨w.heap.size, 0, none⟩ = some (.int .i64 e.toInt) ∧ w'.cell? ⟨w.heap.size, 1, none⟩ = some (.int .i64 at_.toInt))) := Lib.hid (fun w' h => ⟨h, Nw.cell h (HB0.out.cell 0), Nw.cell h (HB0.out.cell 1)⟩)
  clear hb0
  go_region_held3 (fun w' => Nw w0 w' ∧ w'.cell? ⟨w.heap.size, 0, none⟩ = some (.int .i64 e.toInt) ∧ w'.cell? ⟨w.heap.size, 1, none⟩ = some (.int .i64 at_.toInt)) (first | exact HS.out _ hs2 | exact HS.out _ hs1 | exact HS.out _ (Kp.drew (Kp.refl _ _)))
    (first
      | (go_at_call 147; have hy := HC2.out _ _ _ ho1.rd; refine Calls.mono hy ?_; intro e w2 hn; clear hy; obtain ⟨A2, c2, rfl, ho2, hk2⟩ := hn; have hs2 := hs1.nw hk2; dsimp only)
      | (go_at_call 147; have hy := HC1.out _ _ _ HR.out.drew; refine Calls.mono hy ?_; intro e w1 hn; clear hy; obtain ⟨A1, c1, rfl, ho1, hk1⟩ := hn; have hs1 : Nw w0 w1 := (Kp.drew (Kp.refl _ w0)).nw hk1; dsimp only))
  have n2 : w2.cell? ⟨w.heap.size, 2, none⟩ = some (.slice B xs.length d) := Nw.cell hs2 (HB0.out.cell 2)
  have HR2 := Lib.hid ho2.rd
  have HK2 := Lib.hid hs2
  rename_i hHeld
  clear hHeld hs1 hs2 ho1 ho2 hk1 hk2 HS HC1 HC2
  go_wp2_with fail
  go_must (refine (HC3.out _ _ _ HR2.out).mono ?_)
  rintro e' w3 ⟨A3, c3, rfl, ho3, hk3⟩
  have HO3 := Lib.hid (ho3.low HK2.out.size)
  have HK3 := Lib.hid (HK2.out.nw hk3)
  clear ho3 hk3 n2 HC3
  go_wp2_with fail
  go_loopw [0, 5] (fun v i wr => ∃ (k : Nat) (pre : Bytes) (A' : Option Addr) (c' : Nat), k ≤ xs.length ∧ i = .int .i64 k ∧ v = .slice A' pre.length c' ∧ pre = l3 ++ (xs.take k).flatMap encGot ∧ OwnB wr w0.heap.size A' c' pre ∧ Nw w0 wr) (fun _ i _ => xs.length - (intOf i).toNat)
  case atStart => exact ⟨0, l3, A3, c3, by omega, rfl, rfl, by simp, HO3.out, HK3.out⟩
  case round =>
    obtain ⟨k, pre, A', c', hk, rfl, rfl, hpre, ho, hkw⟩ := hrel
    have HPre := Lib.hid hpre
    have HO := Lib.hid ho
    have HK := Lib.hid hkw
    have e2 : wr.cell? ⟨w.heap.size, 2, none⟩ = some (.slice B xs.length d) := Nw.cell hkw (HB0.out.cell 2)
    clear hpre ho
    by_cases hlt : k < xs.length
    · obtain ⟨ad, rfl, hc⟩ := (HX.out.nw hkw).elem (fun _ => rfl) hlt (by omega)
      obtain ⟨x, hx⟩ : ∃ x, x = xs[k] := ⟨_, rfl⟩
      rw [← hx] at hc
      have c0 : wr.cell? (ad.add (k * 2)) = some (.int .i64 x.x.toInt) := by have := hc 0 _ rfl; rw [add_zero_] at this; exact this
      have c1 : wr.cell? ⟨(ad.add (k * 2)).block, (ad.add (k * 2)).off + 1, none⟩ = some (.int .i64 x.y.toInt) := by rw [fld_ ad (k * 2) 1 (by decide), ← add_add_]; exact hc 1 _ rfl
      have HPL : Hid (pre.length ≤ 1060000) := Lib.hid (by
        have h1 := flat_le encGot encGot_len (xs.take k)
        rw [List.length_take] at h1
        rw [HPre.out, List.length_append]
        have := b3.out; have := HN.out; omega)
      obtain ⟨l4, hl4⟩ : ∃ l4, l4 = pre ++ encS x.x := ⟨_, rfl⟩
      obtain ⟨l5, hl5⟩ : ∃ l5, l5 = l4 ++ encS x.y := ⟨_, rfl⟩
      have HP5 : Hid (l5 = l3 ++ (xs.take (k + 1)).flatMap encGot) := Lib.hid (by
        rw [take_more' xs k hlt, ← hx, ← List.append_assoc, ← HPre.out, hl5, hl4]
        simp [encGot])
      have q1 := encS_len x.x
      have b4 : Hid (l4.length ≤ 1070000) := Lib.hid (by rw [hl4, List.length_append]; have := HPL.out; omega)
      replace hx := Lib.hid hx
      replace hl4 := Lib.hid hl4
      replace hl5 := Lib.hid hl5
      have HC4 : Hid (∀ w' A c, RdB w' A c pre → Calls Try.prog 147 #[.slice A pre.length c, .int .i64 x.x.toInt] w' (RPuts l4 w')) := Lib.hid (fun w' A c h => rsign' hl4.out A c w' h (by have := HPL.out; omega))
      have HC5 : Hid (∀ w' A c, RdB w' A c l4 → Calls Try.prog 147 #[.slice A l4.length c, .int .i64 x.y.toInt] w' (RPuts l5 w')) := Lib.hid (fun w' A c h => rsign' hl5.out A c w' h (by have := b4.out; omega))
      have HS : Hid (∀ w', Nw wr w' → (Nw wr w' ∧ w'.cell? ⟨w.heap.size, 2, none⟩ = some (.slice (some ad) xs.length d) ∧ w'.cell? (ad.add (k * 2)) = some (.int .i64 x.x.toInt) ∧ w'.cell? ⟨(ad.add (k * 2)).block, (ad.add (k * 2)).off + 1, none⟩ = some (.int .i64 x.y.toInt))) := Lib.hid (fun w' h => ⟨h, Nw.cell h e2, Nw.cell h c0, Nw.cell h c1⟩)
      have hk0 : (0 : Int) ≤ (k : Int) := by omega
      have hk1 : (k : Int) < (xs.length : Int) := by omega
      clear hc q1 c0 c1 hkw
      go_wp2_with fail
      go_region_held3 (fun w' => Nw wr w' ∧ w'.cell? ⟨w.heap.size, 2, none⟩ = some (.slice (some ad) xs.length d) ∧ w'.cell? (ad.add (k * 2)) = some (.int .i64 x.x.toInt) ∧ w'.cell? ⟨(ad.add (k * 2)).block, (ad.add (k * 2)).off + 1, none⟩ = some (.int .i64 x.y.toInt)) (first | exact HS.out _ hs5 | exact HS.out _ hs4 | exact HS.out _ (Kp.drew (Kp.refl _ _)))
        (first
          | (go_at_call 147; have hy := HC5.out _ _ _ ho4.rd; refine Calls.mono hy ?_; intro e w5 hn; clear hy; obtain ⟨A5, c5, rfl, ho5, hk5⟩ := hn; have hs5 := hs4.nw hk5; dsimp only)
          | (go_at_call 147; have hy := HC4.out _ _ _ HO.out.rd.drew; refine Calls.mono hy ?_; intro e w4 hn; clear hy; obtain ⟨A4, c4, rfl, ho4, hk4⟩ := hn; have hs4 : Nw wr w4 := (Kp.drew (Kp.refl _ wr)).nw hk4; dsimp only))
      have HO5 := Lib.hid (ho5.low (base' := w0.heap.size) (by have h1 := HK.out.size; have h2 := hs4.size; omega))
      have HK5 := Lib.hid (HK.out.nw hs5)
      rename_i hHeld
      clear hHeld hs4 hs5 ho4 ho5 hk4 hk5 HS HC4 HC5 e2
      go_wp2_with fail
      exact ⟨⟨k + 1, l5, A5, c5, hlt, rfl, rfl, HP5.out, HO5.out, HK5.out⟩, by simp [intOf]; omega⟩
    · obtain rfl : k = xs.length := by omega
      have HE : Hid (pre = lf) := Lib.hid (by rw [HPre.out, List.take_length, hlf.out, hl3.out, hl2.out, hl1.out]; simp [encReply, encList])
      go_wp2_with fail
      go_ret
      obtain rfl := HE.out
      exact ⟨A', c', rfl, HO.out.low HN0.out.size, HN0.out.trans HK.out (fun _ _ e => e)⟩
end Go.Proofs.Ytiimdnachgkomaa
