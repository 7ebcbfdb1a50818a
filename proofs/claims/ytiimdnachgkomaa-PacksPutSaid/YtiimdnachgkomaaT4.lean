/- The document's packs: an entry's bytes behind others; PutEntry. -/
import Derived.Test.YtiimdnachgkomaaT3
namespace Go.Proofs.Ytiimdnachgkomaa
open Go Go.RowKit
set_option maxRecDepth 20000 in
set_option maxHeartbeats 2000000 in
theorem rentry (A : Option Addr) (c : Nat) (l : Bytes) (index term : UInt64) (cl : UInt8) (num : UInt64) (B : Option Addr) (d : Nat) (xs : List Step) (w : World) (hr : RdB w A c l) (hx : RdSt w B d xs) (hl : l.length ≤ 100000) (hn : xs.length ≤ 1000) :
    Calls Try.prog 107 #[.slice A l.length c, .agg #[.int .u64 index.toNat, .int .u64 term.toNat, .int .u8 cl.toNat, .int .u64 num.toNat, .slice B xs.length d]] w (RPuts (l ++ encEntry ⟨index, term, cl, num, xs⟩) w) := by
  obtain ⟨i0, hi0, hz0, hz1, hz2⟩ := info_parts info_byte
  have HX := Lib.hid (hx.alloc (.cells #[.int .u64 index.toNat, .int .u64 term.toNat, .int .u8 cl.toNat, .int .u64 num.toNat, .slice B xs.length d] 124))
  have HR := Lib.hid (hr.alloc (.cells #[.int .u64 index.toNat, .int .u64 term.toNat, .int .u8 cl.toNat, .int .u64 num.toNat, .slice B xs.length d] 124))
  have HL : Hid (l.length ≤ 100000) := Lib.hid hl
  have HN : Hid (xs.length ≤ 1000) := Lib.hid hn
  have hb0 : Blk (w.alloc (.cells #[.int .u64 index.toNat, .int .u64 term.toNat, .int .u8 cl.toNat, .int .u64 num.toNat, .slice B xs.length d] 124)) w.heap.size 124 #[.int .u64 index.toNat, .int .u64 term.toNat, .int .u8 cl.toNat, .int .u64 num.toNat, .slice B xs.length d] := Blk.new _ _ _
  have HB0 := Lib.hid hb0
  have HN0 : Hid (Nw w (w.alloc (.cells #[.int .u64 index.toNat, .int .u64 term.toNat, .int .u8 cl.toNat, .int .u64 num.toNat, .slice B xs.length d] 124))) := Lib.hid ((Kp.refl _ w).alloc _)
  obtain ⟨l1, hl1⟩ : ∃ l1, l1 = l ++ encNum index.toNat := ⟨_, rfl⟩
  obtain ⟨l2, hl2⟩ : ∃ l2, l2 = l1 ++ encNum term.toNat := ⟨_, rfl⟩
  obtain ⟨l3, hl3⟩ : ∃ l3, l3 = l2 ++ [cl] := ⟨_, rfl⟩
  obtain ⟨l4, hl4⟩ : ∃ l4, l4 = l3 ++ encNum num.toNat := ⟨_, rfl⟩
  obtain ⟨l5, hl5⟩ : ∃ l5, l5 = l4 ++ encList encStep xs := ⟨_, rfl⟩
  have HF : l ++ encEntry ⟨index, term, cl, num, xs⟩ = l5 := by rw [hl5, hl4, hl3, hl2, hl1]; simp [encEntry, encU]
  rw [HF]
  clear HF
  have q1 := encNum_len10 index.toNat_lt
  have q2 := encNum_len10 term.toNat_lt
  have q3 := encNum_len10 num.toNat_lt
  have b1 : Hid (l1.length ≤ 100010) := Lib.hid (by rw [hl1, List.length_append]; omega)
  have b2 : Hid (l2.length ≤ 100020) := Lib.hid (by rw [hl2, List.length_append]; have := b1.out; omega)
  have b3 : Hid (l3.length ≤ 100021) := Lib.hid (by rw [hl3, List.length_append]; have := b2.out; simp; omega)
  have b4 : Hid (l4.length ≤ 100031) := Lib.hid (by rw [hl4, List.length_append]; have := b3.out; omega)
  replace hl1 := Lib.hid hl1
  replace hl2 := Lib.hid hl2
  replace hl3 := Lib.hid hl3
  replace hl4 := Lib.hid hl4
  replace hl5 := Lib.hid hl5
  have HC1 : Hid (∀ w' A c, RdB w' A c l → Calls Try.prog 101 #[.slice A l.length c, .int .u64 index.toNat] w' (RPuts l1 w')) := Lib.hid (fun w' A c h => rnum' hl1.out A c w' h (by have := HL.out; omega) index.toNat_lt)
  have HC2 : Hid (∀ w' A c, RdB w' A c l1 → Calls Try.prog 101 #[.slice A l1.length c, .int .u64 term.toNat] w' (RPuts l2 w')) := Lib.hid (fun w' A c h => rnum' hl2.out A c w' h (by have := b1.out; omega) term.toNat_lt)
  have HC4 : Hid (∀ w' A c, RdB w' A c l3 → Calls Try.prog 101 #[.slice A (l2.length + 1) c, .int .u64 num.toNat] w' (RPuts l4 w')) := Lib.hid (fun w' A c h => by
    have e : l2.length + 1 = l3.length := by rw [hl3.out]; simp
    rw [e]; exact rnum' hl4.out A c w' h (by have := b3.out; omega) num.toNat_lt)
  have HC5 : Hid (∀ w' A c B', RdB w' A c l4 → RdSt w' B' d xs → Calls Try.prog 110 #[.slice A l4.length c, .agg #[.slice B' xs.length d]] w' (RPuts l5 w')) := Lib.hid (fun w' A c B' h h2 => by
    rw [hl5.out]; exact rcommand A c l4 B' d xs w' h h2 (by have := b4.out; omega) HN.out)
  have HMk : Hid (∀ (w3 : World) (A3 : Option Addr) (c3 base : Nat), Own w3 base 5 1 A3 (l2.length + 1) c3 (l2.map bv ++ [.int .u8 cl.toNat]) → RdB w3 A3 c3 l3) := Lib.hid (fun w3 A3 c3 base h => by
    have e : l2.length + 1 = l3.length := by rw [hl3.out]; simp
    have e3 : l3.map bv = l2.map bv ++ [.int .u8 cl.toNat] := by rw [hl3.out, List.map_append]; rfl
    rw [e, ← e3] at h
    exact h.rd)
  clear hr hx hl q1 q2 q3
  go_enter Try.func107, Try.ntmps107
  go_wp2_with fail
  generalize (w.alloc (.cells #[.int .u64 index.toNat, .int .u64 term.toNat, .int .u8 cl.toNat, .int .u64 num.toNat, .slice B xs.length d] 124)) = w0 at *
  have HS : Hid (∀ w', Nw w0 w' → (Nw w0 w' ∧ w'.cell? ⟨w.heap.size, 0, none⟩ = some (.int .u64 index.toNat) ∧ w'.cell? ⟨w.heap.size, 1, none⟩ = some (.int .u64 term.toNat))) := Lib.hid (fun w' h => ⟨h, Nw.cell h (HB0.out.cell 0), Nw.cell h (HB0.out.cell 1)⟩)
  clear hb0
  go_region_held3 (fun w' => Nw w0 w' ∧ w'.cell? ⟨w.heap.size, 0, none⟩ = some (.int .u64 index.toNat) ∧ w'.cell? ⟨w.heap.size, 1, none⟩ = some (.int .u64 term.toNat)) (first | exact HS.out _ hs2 | exact HS.out _ hs1 | exact HS.out _ (Kp.drew (Kp.refl _ _)))
    (first
      | (go_at_call 101; have hy := HC2.out _ _ _ ho1.rd; refine Calls.mono hy ?_; intro e w2 hn; clear hy; obtain ⟨A2, c2, rfl, ho2, hk2⟩ := hn; have hs2 := hs1.nw hk2; dsimp only)
      | (go_at_call 101; have hy := HC1.out _ _ _ HR.out.drew; refine Calls.mono hy ?_; intro e w1 hn; clear hy; obtain ⟨A1, c1, rfl, ho1, hk1⟩ := hn; have hs1 : Nw w0 w1 := (Kp.drew (Kp.refl _ w0)).nw hk1; dsimp only))
  have HK2 := Lib.hid hs2
  have HO2 := Lib.hid (ho2.low (base' := w0.heap.size) hs1.size)
  have n2 : w2.cell? ⟨w.heap.size, 2, none⟩ = some (.int .u8 cl.toNat) := Nw.cell hs2 (HB0.out.cell 2)
  have HO2a : Hid (OwnB (w2.alloc (.cells #[.int .u8 cl.toNat] 5)) w0.heap.size A2 c2 l2) := Lib.hid (HO2.out.alloc _)
  rename_i hHeld
  clear hHeld hs1 hs2 ho1 ho2 hk1 hk2 HS HC1 HC2
  go_wp2_with (at_builtin; go_must (refine wpList_append_ _ rfl (.tmp 12) (.tmp 16) 28 rfl w0.heap.size 5 i0 _ 1 1 Try.underlying28 hi0 hz0 hz1 hz2 rfl A2 l2.length c2 _ rfl HO2a.out (some ⟨w2.heap.size, 0, none⟩) 1 1 [.int .u8 cl.toNat] rfl (Own.of_newAt (W := w2) rfl 5 1 1 #[.int .u8 cl.toNat] rfl (by simp [maxLen])).rd (by simp [Value.oneCell']) (Fits.of (by have := b2.out; unfold big; omega) (by omega)) (by have := HK2.out.size; simp; omega) ?_); intro A3 c3 w3 ho3 hk3 hb3)
  have HR3 := Lib.hid (HMk.out w3 A3 c3 _ ho3)
  have HK3 : Hid (Nw w0 w3) := Lib.hid (HK2.out.trans (((Kp.refl (fun k => blkOf A2 = some k) w2).alloc _).trans hk3 (fun _ _ e => e)) (fun k hk e => by have := (HO2.out.lt k e).1; omega))
  clear ho3 hk3 hb3 n2
  have HS : Hid (∀ w', Nw w3 w' → (Nw w3 w' ∧ w'.cell? ⟨w.heap.size, 3, none⟩ = some (.int .u64 num.toNat) ∧ w'.cell? ⟨w.heap.size, 4, none⟩ = some (.slice B xs.length d))) := Lib.hid (fun w' h => ⟨h, Nw.cell (HK3.out.nw h) (HB0.out.cell 3), Nw.cell (HK3.out.nw h) (HB0.out.cell 4)⟩)
  have HX3 : Hid (∀ w', Nw w3 w' → RdSt w' B d xs) := Lib.hid (fun w' h => (HX.out.nw HK3.out).nw h)
  go_region_held3 (fun w' => Nw w3 w' ∧ w'.cell? ⟨w.heap.size, 3, none⟩ = some (.int .u64 num.toNat) ∧ w'.cell? ⟨w.heap.size, 4, none⟩ = some (.slice B xs.length d)) (first | exact HS.out _ hs5 | exact HS.out _ hs4 | exact HS.out _ (Kp.drew (Kp.refl _ _)))
    (first
      | (go_at_call 110; have hy := HC5.out _ _ _ B ho4.rd (HX3.out _ hs4); refine Calls.mono hy ?_; intro e w5 hn; clear hy; obtain ⟨A5, c5, rfl, ho5, hk5⟩ := hn; have hs5 := hs4.nw hk5; dsimp only)
      | (go_at_call 101; have hy := HC4.out _ _ _ HR3.out.drew; refine Calls.mono hy ?_; intro e w4 hn; clear hy; obtain ⟨A4, c4, rfl, ho4, hk4⟩ := hn; have hs4 : Nw w3 w4 := (Kp.drew (Kp.refl _ w3)).nw hk4; dsimp only))
  have HK5 := Lib.hid (HN0.out.trans (HK3.out.nw hs5) (fun _ _ e => e))
  have HO5 := Lib.hid (ho5.low (base' := w.heap.size) (by have h1 := HN0.out.size; have h2 := HK3.out.size; have h3 := hs4.size; omega))
  rename_i hHeld
  clear hHeld hs4 hs5 ho4 ho5 hk4 hk5 HS
  go_wp2_with fail
  go_ret
  exact ⟨A5, c5, rfl, HO5.out, HK5.out⟩
set_option maxRecDepth 20000 in
set_option maxHeartbeats 1000000 in
theorem RPutEntry_ok (index term : UInt64) (cl : UInt8) (num : UInt64) (B : Option Addr) (d : Nat) (xs : List Step) (w : World) (hx : RdSt w B d xs) (hn : xs.length ≤ 8) :
    Calls Try.prog 59 #[.agg #[.int .u64 index.toNat, .int .u64 term.toNat, .int .u8 cl.toNat, .int .u64 num.toNat, .slice B xs.length d]] w (RPutsE (encEntry ⟨index, term, cl, num, xs⟩) w) := by
  have t1 : decide ((8 : Int) < (xs.length : Int)) = false := decide_eq_false (by omega)
  have HC := Lib.hid (rentry none 0 [] index term cl num B d xs (w.alloc (.cells #[.int .u64 index.toNat, .int .u64 term.toNat, .int .u8 cl.toNat, .int .u64 num.toNat, .slice B xs.length d] 124)) (Rd.nil _ 1) (hx.alloc _) (by simp) (by omega))
  obtain ⟨lf, hlf⟩ : ∃ lf, lf = encEntry ⟨index, term, cl, num, xs⟩ := ⟨_, rfl⟩
  rw [List.nil_append, ← hlf] at HC
  rw [← hlf]
  replace hlf := Lib.hid hlf
  clear hx hn
  go_enter Try.func59, Try.ntmps59
  go_wp2_with fail
  go_must (refine HC.out.mono ?_)
  rintro e' w2 ⟨A2, c2, rfl, ho2, hk2⟩
  have HO := Lib.hid (ho2.low (base' := w.heap.size) (by simp))
  have HK := Lib.hid (((Kp.refl (fun _ => False) w).alloc (.cells #[.int .u64 index.toNat, .int .u64 term.toNat, .int .u8 cl.toNat, .int .u64 num.toNat, .slice B xs.length d] 124)).nw hk2)
  clear ho2 hk2
  go_wp2_with fail
  go_ret2
  exact ⟨A2, c2, rfl, HO.out, HK.out⟩
set_option maxRecDepth 20000 in
theorem RPutEntry_not (index term : UInt64) (cl : UInt8) (num : UInt64) (B : Option Addr) (n d : Nat) (w : World) (hn : 8 < n) :
    Calls Try.prog 59 #[.agg #[.int .u64 index.toNat, .int .u64 term.toNat, .int .u8 cl.toNat, .int .u64 num.toNat, .slice B n d]] w (PutNot w) := by
  have t1 : decide ((8 : Int) < (n : Int)) = true := decide_eq_true (by omega)
  have HK : Hid (Nw w (w.alloc (.cells #[.int .u64 index.toNat, .int .u64 term.toNat, .int .u8 cl.toNat, .int .u64 num.toNat, .slice B n d] 124))) := Lib.hid ((Kp.refl _ w).alloc _)
  go_enter Try.func59, Try.ntmps59
  go_wp2_with fail
  go_ret2
  exact ⟨rfl, HK.out⟩
end Go.Proofs.Ytiimdnachgkomaa
