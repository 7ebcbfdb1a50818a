/- The document's book of sessions: Put. -/
import Derived.Test.YtiimdnachgkomaaR25b
import Derived.Test.YtiimdnachgkomaaT3
import Derived.Test.YtiimdnachgkomaaSput
namespace Go.Proofs.Ytiimdnachgkomaa
open Go Go.RowKit
theorem pagesK_same {ps : List PgP} {k : Nat} {p : PgP} (hp : ps[k]? = some p) (h : p.num = 0) : encPages 0 (ps.take (k + 1)) = encPages 0 (ps.take k) ∧ cntPages (ps.take (k + 1)) = cntPages (ps.take k) := by
  obtain ⟨hk, rfl⟩ := List.getElem?_eq_some_iff.1 hp
  rw [List.take_succ_eq_append_getElem hk, cntPages_append, encPages_append]
  simp [cntPages, encPages, encPage, h]
theorem pagesK_more {ps : List PgP} {k : Nat} {p : PgP} (hp : ps[k]? = some p) (h : p.num ≠ 0) :
    encPages 0 (ps.take (k + 1)) = encPages 0 (ps.take k) ++ [UInt8.ofNat (k + 1)] ++ encNum p.num.toNat ++ encNum (encReply p.rep).length ++ encReply p.rep ∧ cntPages (ps.take (k + 1)) = cntPages (ps.take k) + 1 := by
  obtain ⟨hk, rfl⟩ := List.getElem?_eq_some_iff.1 hp
  rw [List.take_succ_eq_append_getElem hk, cntPages_append, encPages_append]
  have e : (ps.take k).length = k := by rw [List.length_take, Nat.min_eq_left (by omega)]
  simp [cntPages, encPages, encPage, h, e]
def RBPut (l : Bytes) (w : World) (e : Ending) (w' : World) : Prop := ∃ A c, e = .returned (.slice A l.length c) ∧ OwnB w' w.heap.size A c l ∧ Nw w w'
set_option maxRecDepth 20000 in
set_option maxHeartbeats 2000000 in
theorem RPut25 (g : Nat) (ns : List UInt64) (rs : List RepV) (pls : List PgP) (w : World) (hb : RBk w g ns rs) (hl : pls.length = 8) (hp : ∀ (i : Nat) (p : PgP), pls[i]? = some p → ns[i + 1]? = some p.num ∧ ∃ r, rs[i + 1]? = some r ∧ (⟨r.e, r.at_, r.got.l⟩ : RepP) = p.rep) :
    Calls Try.prog 48 #[.pointer (some ⟨g, 0, none⟩)] w (RBPut (encBook pls) w) := by
  obtain ⟨i0, hi0, hz0, hz1, hz2⟩ := info_parts info_byte
  have hg := hb.blk.lt
  have HB := Lib.hid hb
  have HP := Lib.hid hp
  have HL := Lib.hid hl
  have HAll : Hid (∀ q ∈ pls, q.rep.got.length ≤ 8) := Lib.hid (fun q hq => by
    obtain ⟨i, hi, rfl⟩ := List.mem_iff_getElem.1 hq
    obtain ⟨_, r, h1, h2⟩ := hp i _ (List.getElem?_eq_getElem hi)
    rw [← h2]
    exact (hb.each _ r h1).2.1)
  clear hb hp hl
  go_enter Try.func48, Try.ntmps48
  go_wp2_with fail
  go_loopw [3, 4, 5] (fun m v i wr => ∃ (k : Nat) (l : Bytes) (A' : Option Addr) (c' : Nat), k ≤ 8 ∧ i = .int .i64 ((k : Int) + 1) ∧ m = .int .u8 (cntPages (pls.take k) : Nat) ∧ v = .slice A' l.length c' ∧ l = encPages 0 (pls.take k) ∧ OwnB wr w.heap.size A' c' l ∧ Nw w wr) (fun _ _ i _ => 9 - (intOf i).toNat)
  case atStart => exact ⟨0, [], none, 0, by omega, rfl, rfl, rfl, rfl, Own.nil _ _ _ _, Kp.refl _ _⟩
  case round =>
    obtain ⟨k, l, A', c', hk, rfl, rfl, rfl, hl, ho, hkw⟩ := hrel
    have HLl := Lib.hid hl
    have HO := Lib.hid ho
    have HK := Lib.hid hkw
    clear hl ho hkw
    by_cases hlt : k < 8
    · obtain ⟨p, hpk⟩ : ∃ p, pls[k]? = some p := ⟨_, List.getElem?_eq_getElem (by rw [HL.out]; exact hlt)⟩
      obtain ⟨hnk, r, hrk, hrp⟩ := HP.out k p hpk
      have z0 : wr.cell? ⟨g, k + 1, none⟩ = some (.int .u64 p.num.toNat) := Nw.cell HK.out (HB.out.num hnk)
      have hki : (k : Int) ≤ 7 := by omega
      have hk0 : (0 : Int) ≤ (k : Int) := by omega
      have hd1 : decide ((k : Int) + 1 ≤ 8) = true := decide_eq_true (by omega)
      have HPk := Lib.hid hpk
      have HRk := Lib.hid hrk
      have HRp := Lib.hid hrp
      clear hpk hnk hrk hrp
      by_cases hz : p.num = 0
      · obtain ⟨e1, e2⟩ := pagesK_same HPk.out hz
        have hq1 : decide ((0 : Int) < (p.num.toNat : Int)) = false := by rw [hz]; rfl
        have hq2 : decide (0 < p.num.toNat) = false := by rw [hz]; rfl
        have HE1 := Lib.hid e1
        have HE2 := Lib.hid e2
        clear e1 e2
        replace hz := Lib.hid hz
        go_wp2_with fail
        exact ⟨⟨k + 1, l, A', c', hlt, rfl, by rw [HE2.out], rfl, by rw [HE1.out]; exact HLl.out, HO.out, HK.out⟩, by simp [intOf]; omega⟩
      · obtain ⟨e1, e2⟩ := pagesK_more HPk.out hz
        have hq0 : p.num.toNat ≠ 0 := fun e => hz (UInt64.toNat_inj.1 (by simpa using e))
        have hq1 : decide ((0 : Int) < (p.num.toNat : Int)) = true := decide_eq_true (by omega)
        have hq2 : decide (0 < p.num.toNat) = true := decide_eq_true (by omega)
        have HE1 := Lib.hid e1
        have HE2 := Lib.hid e2
        have hcn : (cntPages (pls.take k) : Int) ≤ 7 := by
          have h1 := cntPages_le (pls.take k)
          have h2 : (pls.take k).length ≤ 7 := by rw [List.length_take]; omega
          omega
        obtain ⟨hr1, hr2, hr3⟩ := HB.out.each (k + 1) r HRk.out
        obtain ⟨rb, hrb⟩ : ∃ rb, rb = encReply p.rep := ⟨_, rfl⟩
        have HPut : Hid (Calls Try.prog 63 #[.agg #[.int .i64 r.e.toInt, .int .i64 r.at_.toInt, .slice r.got.A r.got.l.length r.got.c]] wr (RPutsE rb wr)) := Lib.hid (by
          rw [hrb, ← HRp.out]; exact RPutReply_ok r.e r.at_ r.got.A r.got.c r.got.l wr (hr1.nw HK.out) hr2)
        have HCs : Hid (∀ j v, ([.int .i64 r.e.toInt, .int .i64 r.at_.toInt, .slice r.got.A r.got.l.length r.got.c] : List Value)[j]? = some v → wr.cell? ⟨g, 9 + (k + 1) * 3 + j, none⟩ = some v) := Lib.hid (fun j v hv => by
          have hj : j < 3 := (List.getElem?_eq_some_iff.1 hv).1
          refine Nw.cell HK.out ?_
          rw [HB.out.rep HRk.out hj]
          exact hv)
        replace hrb := Lib.hid hrb
        clear e1 e2 hz hr1 hr2 hr3
        go_wp2_with (first
          | ((with_reducible refine stopAt (.load 34 (.tmp 24)) rfl ?_); go_must (refine unStop (wpList_ldA rfl 34 (.tmp 24) rfl sS_reply g (9 + (k + 1) * 3) rfl [.int .i64 r.e.toInt, .int .i64 r.at_.toInt, .slice r.got.A r.got.l.length r.got.c] HCs.out rfl ?_))))
        go_must (refine HPut.out.mono ?_)
        rintro e w2 ⟨A2, c2, rfl, ho2, hk2⟩
        have HO2 := Lib.hid ho2
        have HK2 := Lib.hid hk2
        have z2 := Nw.cell hk2 z0
        clear ho2 hk2 z0
        go_wp2_with fail
        have HLe : Hid (l.length ≤ 4000) := Lib.hid (by
          rw [HLl.out]
          have h1 := encPages_len (pls.take k) 0 (fun q hq => HAll.out q (List.mem_of_mem_take hq))
          have h2 : (pls.take k).length ≤ 8 := by rw [List.length_take, HL.out]; omega
          have := Nat.mul_le_mul_right 500 h2
          omega)
        have HRl : Hid (rb.length ≤ 470) := Lib.hid (by rw [hrb.out]; exact encReply_len (HAll.out p (List.mem_of_getElem? HPk.out)))
        have hfar : blkOf A' ≠ some g := HO.out.fresh hg
        have HOw : Hid (OwnB w2 w.heap.size A' c' l) := Lib.hid (HO.out.nw HK2.out)
        have HKw : Hid (Nw w w2) := Lib.hid (HK.out.nw HK2.out)
        have HS : Hid (∀ w', Kp (fun j => blkOf A' = some j) w2 w' → (Kp (fun j => blkOf A' = some j) w2 w' ∧ w'.cell? ⟨g, k + 1, none⟩ = some (.int .u64 p.num.toNat))) := Lib.hid (fun w' h => ⟨h, h.cell z2 hfar⟩)
        obtain ⟨l2, hl2⟩ : ∃ l2, l2 = l ++ [UInt8.ofNat (k + 1)] := ⟨_, rfl⟩
        obtain ⟨l3, hl3⟩ : ∃ l3, l3 = l2 ++ encNum p.num.toNat := ⟨_, rfl⟩
        obtain ⟨l4, hl4⟩ : ∃ l4, l4 = l3 ++ encNum rb.length := ⟨_, rfl⟩
        obtain ⟨l5, hl5⟩ : ∃ l5, l5 = l4 ++ rb := ⟨_, rfl⟩
        have hbyte : [bv (UInt8.ofNat (k + 1))] = [Value.int .u8 ((k : Int) + 1)] := by
          have := u8_of (n := k + 1) (by omega)
          show [Value.int .u8 ((UInt8.ofNat (k + 1)).toNat : Int)] = _
          rw [this]; rfl
        have wr2 : IntKind.u8.wrap ((k : Int) + 1) = (k : Int) + 1 := by simp [IntKind.wrap, IntKind.bits, IntKind.signed]; omega
        have wr3 : IntKind.u64.wrap (rb.length : Int) = (rb.length : Int) := by have := HRl.out; simp [IntKind.wrap, IntKind.bits, IntKind.signed]; omega
        have e2 : l.length + 1 = l2.length := by rw [hl2]; simp
        have q3 := encNum_len10 (n := p.num.toNat) p.num.toNat_lt
        have q4 := encNum_len10 (n := rb.length) (Nat.lt_of_le_of_lt HRl.out (by decide))
        have b2 : Hid (l2.length ≤ 4001) := Lib.hid (by have := HLe.out; omega)
        have b3 : Hid (l3.length ≤ 4011) := Lib.hid (by rw [hl3, List.length_append]; have := b2.out; omega)
        have b4 : Hid (l4.length ≤ 4021) := Lib.hid (by rw [hl4, List.length_append]; have := b3.out; omega)
        have HMk : Hid (∀ (w3 : World) (A3 : Option Addr) (c3 : Nat), Own w3 w.heap.size 5 1 A3 (l.length + 1) c3 (l.map bv ++ [.int .u8 ((k : Int) + 1)]) → RdB w3 A3 c3 l2) := Lib.hid (fun w3 A3 c3 h => by
          have e3 : l2.map bv = l.map bv ++ [.int .u8 ((k : Int) + 1)] := by rw [hl2, List.map_append, ← hbyte]; rfl
          rw [e2, ← e3] at h
          exact h.rd)
        have HNum1 : Hid (∀ w' A c, RdB w' A c l2 → Calls Try.prog 101 #[.slice A (l.length + 1) c, .int .u64 p.num.toNat] w' (RPuts l3 w')) := Lib.hid (fun w' A c h => by
          rw [e2]; exact rnum' hl3 A c w' h (by have := b2.out; omega) p.num.toNat_lt)
        have HNum2 : Hid (∀ w' A c, RdB w' A c l3 → Calls Try.prog 101 #[.slice A l3.length c, .int .u64 rb.length] w' (RPuts l4 w')) := Lib.hid (fun w' A c h => rnum' hl4 A c w' h (by have := b3.out; omega) (Nat.lt_of_le_of_lt HRl.out (by decide)))
        have HR2 : Hid (∀ w', Kp (fun j => blkOf A' = some j) w2 w' → RdB w' A2 c2 rb) := Lib.hid (fun w' h => (HO2.out.kp h (fun j hj e => by
          have h1 := (HO2.out.lt j hj).1
          have h2 := (HO.out.lt j e).2
          omega)).rd)
        replace hl2 := Lib.hid hl2
        replace hl3 := Lib.hid hl3
        replace hl4 := Lib.hid hl4
        replace hl5 := Lib.hid hl5
        have hb9 : (k : Int) + 1 < 9 := by omega
        have hb0 : (0 : Int) ≤ (k : Int) + 1 := by omega
        clear hbyte hfar e2 q3 q4 z2
        go_region_held3 (fun w' => Kp (fun j => blkOf A' = some j) w2 w' ∧ w'.cell? ⟨g, k + 1, none⟩ = some (.int .u64 p.num.toNat)) (first | exact HS.out _ hs6 | exact HS.out _ hk4 | exact HS.out _ (Kp.drew (Kp.alloc (Kp.refl _ _) _)) | exact HS.out _ (Kp.alloc (Kp.drew (Kp.refl _ _)) _) | exact HS.out _ (Kp.drew (Kp.refl _ _)))
          (first
            | (refine step_append_ _ rfl (.tmp 29) (.tmp 32) 28 rfl w.heap.size 5 i0 _ 1 1 Try.underlying28 hi0 hz0 hz1 hz2 rfl A' l.length c' _ rfl ((HOw.out.alloc _).drew) (some ⟨w2.heap.size, 0, none⟩) 1 1 [.int .u8 ((k : Int) + 1)] rfl (Own.of_newAt (W := w2) rfl 5 1 1 #[.int .u8 ((k : Int) + 1)] rfl (by simp [maxLen])).drew.rd (by simp [Value.oneCell']) (Fits.of (by have := HLe.out; unfold big; omega) (by omega)) (by have := HKw.out.size; simp; omega) ?_; intro A3 c3 w3 ho3 hk3 hb3; have hk4 : Kp (fun j => blkOf A' = some j) w2 w3 := ((Kp.refl _ w2).alloc _).drew.trans hk3 (fun _ _ e => e))
            | (go_at_call 101; have hx := HMk.out _ _ _ ho3; have hy := HNum1.out _ _ _ hx; clear hx; refine Calls.mono hy ?_; intro e w6 hn; clear hy; obtain ⟨A6, c6, rfl, ho6, hk6⟩ := hn; have hs6 := hk4.nw hk6; dsimp only))
        have hn6 : Nw w w6 := HKw.out.trans hs6 (fun i hi e => by have := (HO.out.lt i e).1; omega)
        have HN6 := Lib.hid hn6
        have HR6 := Lib.hid ho6.rd
        have HRb6 := Lib.hid (HR2.out _ hs6)
        rename_i hHeld
        clear hHeld hs6 hk4 ho6 ho3 hk3 hk6 hb3 hn6
        go_wp2_with fail
        go_must (refine (HNum2.out _ _ _ HR6.out).mono ?_)
        rintro e w8 ⟨A8, c8, rfl, ho8, hk8⟩
        have HO8 : Hid (OwnB w8 w.heap.size A8 c8 l4) := Lib.hid (ho8.low HN6.out.size)
        have HN8 := Lib.hid (HN6.out.nw hk8)
        have HRb8 := Lib.hid (HRb6.out.nw hk8)
        clear ho8 hk8
        go_wp2_with (at_builtin; go_must (refine wpList_append_ _ rfl (.tmp 45) (.tmp 46) 28 rfl w.heap.size 5 i0 _ 1 1 Try.underlying28 hi0 hz0 hz1 hz2 rfl A8 l4.length c8 _ rfl HO8.out A2 rb.length c2 (rb.map bv) rfl HRb8.out (bv_one rb) (Fits.of (by have := b4.out; have := HRl.out; unfold big; omega) (by omega)) HN8.out.size ?_); intro A9 c9 w9 ho9 hk9 hb9'; have HO9 := Lib.hid ho9; have HK9 := Lib.hid hk9; clear ho9 hk9 hb9')
        have ho : OwnB w9 w.heap.size A9 c9 l5 := by
          have h1 := HO9.out
          rw [← List.map_append, ← List.length_append, ← hl5.out] at h1
          exact h1
        have hn : Nw w w9 := HN8.out.trans HK9.out (fun i hi e => by have := (HO8.out.lt i e).1; omega)
        have hL5 : l4.length + rb.length = l5.length := by rw [hl5.out, List.length_append]
        refine ⟨⟨k + 1, l5, A9, c9, hlt, rfl, by rw [HE2.out]; rfl, by rw [hL5], ?_, ho, hn⟩, by simp [intOf]; omega⟩
        rw [HE1.out, hl5.out, hl4.out, hl3.out, hl2.out, hrb.out, HLl.out]
    · obtain rfl : k = 8 := by omega
      have et : pls.take 8 = pls := List.take_of_length_le (by rw [HL.out]; omega)
      have hc8 : cntPages pls ≤ 8 := by have := cntPages_le pls; rw [HL.out] at this; exact this
      have HF : Hid (encBook pls = UInt8.ofNat (cntPages pls) :: l) := Lib.hid (by rw [HLl.out, et]; rfl)
      have HLe : Hid (l.length ≤ 4000) := Lib.hid (by
        rw [HLl.out, et]
        have h1 := encPages_len pls 0 HAll.out
        rw [HL.out] at h1
        omega)
      have hm : bv (UInt8.ofNat (cntPages pls)) = Value.int .u8 (cntPages pls : Nat) := by
        show Value.int .u8 ((UInt8.ofNat (cntPages pls)).toNat : Int) = _
        rw [u8_of (by omega)]
      have HO1 : Hid (OwnB (wr.alloc (.cells #[.int .u8 (cntPages (pls.take 8) : Nat)] 5)) wr.heap.size (some ⟨wr.heap.size, 0, none⟩) 1 [UInt8.ofNat (cntPages pls)]) := Lib.hid (by
        have h1 := Own.of_new wr 5 1 1 #[.int .u8 (cntPages (pls.take 8) : Nat)] rfl (by simp [maxLen])
        show Own _ _ _ _ _ _ _ [bv (UInt8.ofNat (cntPages pls))]
        rw [hm, et]
        rw [et] at h1
        exact h1)
      have HRl := Lib.hid (HO.out.rd.alloc (.cells #[.int .u8 (cntPages (pls.take 8) : Nat)] 5))
      clear et hc8 hm
      go_wp2_with (at_builtin; go_must (refine wpList_append_ _ rfl (.tmp 51) (.tmp 52) 28 rfl wr.heap.size 5 i0 _ 1 1 Try.underlying28 hi0 hz0 hz1 hz2 rfl (some ⟨wr.heap.size, 0, none⟩) 1 1 _ rfl HO1.out A' l.length c' (l.map bv) rfl HRl.out (bv_one l) (Fits.of (by have := HLe.out; unfold big; omega) (by omega)) (by simp) ?_); intro A9 c9 w9 ho9 hk9 hb9'; have HO9 := Lib.hid ho9; have HK9 := Lib.hid hk9; clear ho9 hk9 hb9')
      go_ret
      have ho : OwnB w9 w.heap.size A9 c9 (encBook pls) := by
        have h1 := HO9.out
        rw [HF.out]
        rw [Nat.add_comm] at h1
        exact h1.low HK.out.size
      have hL : (1 + l.length) = (encBook pls).length := by rw [HF.out, List.length_cons, Nat.add_comm]
      refine ⟨A9, c9, ?_, ho, (HK.out.alloc _).trans HK9.out (fun i hi e => by simp [blkOf] at e; have := HK.out.size; omega)⟩
      rw [← hL]
      rfl
end Go.Proofs.Ytiimdnachgkomaa
