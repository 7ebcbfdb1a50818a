/- Package sessions: Put of a book. -/
import Derived.Test.YtiimdnachgkomaaSess3
import Derived.Test.YtiimdnachgkomaaBook
import Derived.Test.YtiimdnachgkomaaMem4
import Derived.Test.YtiimdnachgkomaaPut4
import Derived.Deep.RegionHeld3
namespace Go.Proofs.Ytiimdnachgkomaa
open Go Go.RowKit
def Pg.pl (p : Pg) : PgP := ⟨p.num, ⟨p.e, p.at_, p.got.l⟩⟩
/-- What is put of the first k pages. -/
def outK (ps : List PgP) (k : Nat) : Bytes := encBook (ps.take k)
theorem outK_same {ps : List PgP} {k : Nat} {p : PgP} (hp : ps[k]? = some p) (h : p.num = 0) : outK ps (k + 1) = outK ps k := by
  obtain ⟨hk, rfl⟩ := List.getElem?_eq_some_iff.1 hp
  unfold outK encBook
  rw [List.take_succ_eq_append_getElem hk, cntPages_append, encPages_append]
  simp [cntPages, encPages, encPage, h]
theorem outK_more {ps : List PgP} {k : Nat} {p : PgP} (hp : ps[k]? = some p) (h : p.num ≠ 0) :
    (outK ps k ++ [UInt8.ofNat (k + 1)] ++ encNum p.num.toNat ++ encNum (encReply p.rep).length ++ encReply p.rep).set 0 (UInt8.ofNat (cntPages (ps.take k) + 1)) = outK ps (k + 1) := by
  obtain ⟨hk, rfl⟩ := List.getElem?_eq_some_iff.1 hp
  unfold outK encBook
  rw [List.take_succ_eq_append_getElem hk, cntPages_append, encPages_append]
  have e : (ps.take k).length = k := by rw [List.length_take, Nat.min_eq_left (by omega)]
  simp [cntPages, encPages, encPage, h, e]
theorem outK_len {ps : List PgP} (h : ps.length = 8) (hq : ∀ q ∈ ps, q.rep.got.length ≤ 8) (k : Nat) : (outK ps k).length ≤ 4001 := by
  unfold outK encBook
  have h1 := encPages_len (ps.take k) 0 (fun q hq' => hq q (List.mem_of_mem_take hq'))
  have h2 : (ps.take k).length ≤ 8 := by rw [List.length_take]; omega
  have := Nat.mul_le_mul_right 500 h2
  simp only [List.length_cons]
  omega
theorem Own.head1 {w : World} {base n c : Nat} {t : TypeId} {A : Option Addr} {xs : List Value} (h : Own w base t 1 A n c xs) (hn : 0 < n) : ∃ g v, A = some ⟨g, 0, none⟩ ∧ xs[0]? = some v ∧ w.cell? ⟨g, 0, none⟩ = some v ∧ w.frozen? ⟨g, 0, none⟩ = false := by
  have hl := h.len
  obtain ⟨ad, hA, hc⟩ := h.rd.at_ hn
  have hx : xs[0]? = some xs[0] := List.getElem?_eq_getElem (by omega)
  rcases h.at_ with ⟨h1, _⟩ | ⟨g, cur, h1, hb, hg, hsz, ht⟩
  · rw [h1] at hA; cases hA
  · refine ⟨g, xs[0], h1, hx, ?_, hg.free 0⟩
    have := hc 0 _ hx
    rw [hA] at h1
    injection h1 with h1
    rw [h1, add_lit_] at this
    exact this
/-- The bytes of a book, in new memory. -/
def BPut (l : Bytes) (w : World) (e : Ending) (w' : World) : Prop := ∃ A, e = .returned (.slice A l.length l.length) ∧ OwnB w' w.heap.size A l.length l ∧ Nw w w'
def NPuts (l : Bytes) (w : World) (e : Ending) (w' : World) : Prop := ∃ A2 c2, e = .returned (.slice A2 l.length c2) ∧ OwnB w' w.heap.size A2 c2 l ∧ Nw w w'
theorem isS_pages : IsS Try.prog 113 32 := ⟨⟨_, Try.underlying113, rfl⟩, by kernel_rfl⟩
set_option maxRecDepth 20000 in
set_option maxHeartbeats 1000000 in
theorem SPut (g : Nat) (ps : List Pg) (w : World) (hb : Bk w g ps) :
    Calls Try.prog 47 #[.pointer (some ⟨g, 0, none⟩)] w (BPut (encBook (ps.map Pg.pl)) w) := by
  obtain ⟨i0, hi0, hz0, hz1, hz2⟩ := info_parts info_byte
  have hc := hb.made
  have hg := hb.blk.lt
  obtain ⟨lf, hlf⟩ : ∃ lf, lf = encBook (ps.map Pg.pl) := ⟨_, rfl⟩
  rw [← hlf]
  replace hlf := Lib.hid hlf
  have HB0 := Lib.hid hb
  have HB1 := Lib.hid (hb.nw ((Kp.refl _ w).alloc (.cells #[.int .u8 0] 5)))
  have HN1 : Hid (Nw w (w.alloc (.cells #[.int .u8 0] 5))) := Lib.hid ((Kp.refl _ w).alloc _)
  have HO1 : Hid (OwnB (w.alloc (.cells #[.int .u8 0] 5)) w.heap.size (some ⟨w.heap.size, 0, none⟩) 1 [0]) := Lib.hid (by
    have := Own.of_new w 5 1 1 #[.int .u8 0] rfl (by simp [maxLen])
    exact this)
  have HSub : Hid (subc (bookCells ps true) 0 32 = ps.flatMap Pg.cells) := Lib.hid (by
    unfold subc bookCells
    have := flat_len Pg.cells 4 (fun _ => rfl) ps
    rw [hb.len] at this
    simp [List.take_left' this])
  have HLen : Hid ((ps.flatMap Pg.cells).length = 32) := Lib.hid (by rw [flat_len Pg.cells 4 (fun _ => rfl), hb.len])
  have HQ : Hid (∀ q ∈ ps.map Pg.pl, q.rep.got.length ≤ 8) := Lib.hid (by
    intro q hq
    obtain ⟨p, hp, rfl⟩ := List.mem_map.1 hq
    obtain ⟨i, hi, rfl⟩ := List.mem_iff_getElem.1 hp
    exact (hb.each i _ (List.getElem?_eq_getElem hi)).2.1)
  have HPl : Hid ((ps.map Pg.pl).length = 8) := Lib.hid (by rw [List.length_map, hb.len])
  clear hb
  go_enter Try.func47, Try.ntmps47
  go_wp2_with (first
    | ((with_reducible refine stopAt (.load 113 (.tmp 20)) rfl ?_); go_must (refine unStop (wpList_ldS rfl 113 (.tmp 20) rfl isS_pages g 0 rfl HB1.out.blk (ps.flatMap Pg.cells) HSub.out HLen.out ?_))))
  generalize (w.alloc (.cells #[.int .u8 0] 5)) = w1 at *
  go_loopw [3, 22] (fun v i wr => ∃ (k : Nat) (l : Bytes) (A' : Option Addr) (c' : Nat), k ≤ 8 ∧ i = .int .i64 k ∧ v = .slice A' l.length c' ∧ l = outK (ps.map Pg.pl) k ∧ OwnB wr w.heap.size A' c' l ∧ Nw w wr) (fun _ i _ => 8 - (intOf i).toNat)
  case atStart => exact ⟨0, [0], _, 1, by omega, rfl, rfl, rfl, HO1.out, HN1.out⟩
  case round =>
    obtain ⟨k, l, A', c', hk, rfl, rfl, hl, ho, hkw⟩ := hrel
    have HL := Lib.hid hl
    have HO := Lib.hid ho
    have HK := Lib.hid hkw
    clear hl ho hkw
    by_cases hlt : k < 8
    · have hlen : ps.length = 8 := HB0.out.len
      obtain ⟨p, hp⟩ : ∃ p, ps[k]? = some p := ⟨_, List.getElem?_eq_getElem (by omega)⟩
      have HP := Lib.hid hp
      have HP' : Hid ((ps.map Pg.pl)[k]? = some p.pl) := Lib.hid (by rw [List.getElem?_map, hp]; rfl)
      have HK8 := Lib.hid hlt
      have HRd : Hid (RdG (wr.alloc (.cells p.cells.toArray 112)) p.got.A p.got.c p.got.l) := Lib.hid (((HB0.out.each k p hp).1.nw HK.out).alloc _)
      have HG8 : Hid (p.got.l.length ≤ 8) := Lib.hid (HB0.out.each k p hp).2.1
      have hnb : Blk (wr.alloc (.cells p.cells.toArray 112)) wr.heap.size 112 p.cells.toArray := Blk.new _ _ _
      have HNb := Lib.hid hnb
      have n0 : (wr.alloc (.cells p.cells.toArray 112)).cell? ⟨wr.heap.size, 0, none⟩ = some (.int .u64 p.num.toNat) := hnb.cell 0
      clear hp hlen hnb
      by_cases hz : p.num = 0
      · have HE := Lib.hid (outK_same HP'.out (show p.pl.num = 0 from hz))
        have hq1 : ((p.num.toNat : Int) == 0) = true := by rw [hz]; rfl
        have hq2 : p.num.toNat = 0 := by rw [hz]; rfl
        replace hz := Lib.hid hz
        go_wp2_with (first
          | ((with_reducible refine stopAt (.index 113 (.tmp 21) (.tmp 22)) rfl ?_); go_must (refine unStop (wpList_idx (f := Pg.cells) rfl 113 112 (.tmp 21) (.tmp 22) rfl Try.underlying113 isS_page (fun _ => rfl) (xs := ps) rfl rfl HK8.out HP.out ?_)))
          | ((with_reducible refine stopAt (.store 112 (.tmp 5) (.tmp 25)) rfl ?_); go_must (refine unStop (wpList_stN rfl 112 (.tmp 5) (.tmp 25) rfl p.cells isS_page rfl rfl rfl rfl rfl (by simp [Pg.cells, Value.oneCell']) ?_))))
        exact ⟨⟨k + 1, l, A', c', HK8.out, rfl, rfl, by rw [HE.out]; exact HL.out, HO.out.alloc _, HK.out.alloc _⟩, by simp [intOf]; have := HK8.out; omega⟩
      · have HE := Lib.hid (outK_more HP'.out (show p.pl.num ≠ 0 from hz))
        have hq0 : p.num.toNat ≠ 0 := fun e => hz (UInt64.toNat_inj.1 (by simpa using e))
        have hq1 : ((p.num.toNat : Int) == 0) = false := beq_eq_false_iff_ne.2 (by omega)
        have HLe : Hid (l.length ≤ 4001) := Lib.hid (by rw [HL.out]; exact outK_len HPl.out HQ.out k)
        clear hz
        obtain ⟨r, hr⟩ : ∃ r, r = encReply ⟨p.e, p.at_, p.got.l⟩ := ⟨_, rfl⟩
        have HPut : Hid (∀ w', RdG w' p.got.A p.got.c p.got.l → Calls Try.prog 62 #[.agg #[.int .i64 p.e.toInt, .int .i64 p.at_.toInt, .slice p.got.A p.got.l.length p.got.c]] w' (Puts r w')) := Lib.hid (fun w' h' => by rw [hr]; exact PutReply_ok p.e p.at_ p.got.A p.got.c p.got.l w' h' HG8.out)
        have HRl : Hid (r.length ≤ 470) := Lib.hid (by rw [hr]; exact encReply_len HG8.out)
        replace hr := Lib.hid hr
        go_wp2_with (first
          | ((with_reducible refine stopAt (.index 113 (.tmp 21) (.tmp 22)) rfl ?_); go_must (refine unStop (wpList_idx (f := Pg.cells) rfl 113 112 (.tmp 21) (.tmp 22) rfl Try.underlying113 isS_page (fun _ => rfl) (xs := ps) rfl rfl HK8.out HP.out ?_)))
          | ((with_reducible refine stopAt (.store 112 (.tmp 5) (.tmp 25)) rfl ?_); go_must (refine unStop (wpList_stN rfl 112 (.tmp 5) (.tmp 25) rfl p.cells isS_page rfl rfl rfl rfl rfl (by simp [Pg.cells, Value.oneCell']) ?_)))
          | ((with_reducible refine stopAt (.load 34 (.tmp 30)) rfl ?_); go_must (refine unStop (wpList_ldS rfl 34 (.tmp 30) rfl sS_reply wr.heap.size 1 rfl HNb.out [.int .i64 p.e.toInt, .int .i64 p.at_.toInt, .slice p.got.A p.got.l.length p.got.c] rfl rfl ?_)))
          | (go_at_call 62; go_must (refine (HPut.out _ HRd.out).mono ?_); rintro e w2 ⟨A2, rfl, ho2, hk2⟩; have HO2 := Lib.hid ho2; have HK2 := Lib.hid hk2; have n2 := (HNb.out.nw hk2).cell 0; clear ho2 hk2))
        have hfar : blkOf A' ≠ some wr.heap.size := fun e => by have := (HO.out.lt _ e).2; omega
        have HOw : Hid (OwnB w2 w.heap.size A' c' l) := Lib.hid ((HO.out.alloc _).nw HK2.out)
        have HKw : Hid (Nw w w2) := Lib.hid ((HK.out.alloc _).nw HK2.out)
        have HS : Hid (∀ w', Kp (fun k => blkOf A' = some k) w2 w' → (Kp (fun k => blkOf A' = some k) w2 w' ∧ w'.cell? ⟨wr.heap.size, 0, none⟩ = some (.int .u64 p.num.toNat))) := Lib.hid (fun w' h => ⟨h, h.cell n2 hfar⟩)
        have hk7 : (k : Int) ≤ 7 := by have := HK8.out; omega
        have hk0 : (0 : Int) ≤ (k : Int) := by omega
        obtain ⟨l2, hl2⟩ : ∃ l2, l2 = l ++ [UInt8.ofNat (k + 1)] := ⟨_, rfl⟩
        obtain ⟨l3, hl3⟩ : ∃ l3, l3 = l2 ++ encNum p.num.toNat := ⟨_, rfl⟩
        obtain ⟨l4, hl4⟩ : ∃ l4, l4 = l3 ++ encNum r.length := ⟨_, rfl⟩
        obtain ⟨l5, hl5⟩ : ∃ l5, l5 = l4 ++ r := ⟨_, rfl⟩
        have hbyte : [bv (UInt8.ofNat (k + 1))] = [Value.int .u8 ((k : Int) + 1)] := by
          have := u8_of (n := k + 1) (by omega)
          show [Value.int .u8 ((UInt8.ofNat (k + 1)).toNat : Int)] = _
          rw [this]; rfl
        have HBy := Lib.hid hbyte
        replace hl2 := Lib.hid hl2
        replace hl3 := Lib.hid hl3
        replace hl4 := Lib.hid hl4
        replace hl5 := Lib.hid hl5
        have wr1 : IntKind.i64.wrap ((k : Int) + 1) = (k : Int) + 1 := by simp [IntKind.wrap, IntKind.bits, IntKind.signed]; omega
        have wr2 : IntKind.u8.wrap ((k : Int) + 1) = (k : Int) + 1 := by simp [IntKind.wrap, IntKind.bits, IntKind.signed]; omega
        have wr3 : IntKind.u64.wrap (r.length : Int) = (r.length : Int) := by have := HRl.out; simp [IntKind.wrap, IntKind.bits, IntKind.signed]; omega
        have e2 : l.length + 1 = l2.length := by rw [hl2.out]; simp
        have q3 := encNum_len10 (n := p.num.toNat) p.num.toNat_lt
        have q4 := encNum_len10 (n := r.length) (Nat.lt_of_le_of_lt HRl.out (by decide))
        have HMk : Hid (∀ (w3 : World) (A3 : Option Addr) (c3 : Nat), Own w3 w.heap.size 5 1 A3 (l.length + 1) c3 (l.map bv ++ [.int .u8 ((k : Int) + 1)]) → RdB w3 A3 c3 l2) := Lib.hid (fun w3 A3 c3 h => by
          have e3 : l2.map bv = l.map bv ++ [.int .u8 ((k : Int) + 1)] := by rw [hl2.out, List.map_append, ← hbyte]; rfl
          rw [e2, ← e3] at h
          exact h.rd)
        have b2 : Hid (l2.length ≤ 4002) := Lib.hid (by have := HLe.out; omega)
        have b3 : Hid (l3.length ≤ 4012) := Lib.hid (by rw [hl3.out, List.length_append]; have := b2.out; omega)
        have b4 : Hid (l4.length ≤ 4022) := Lib.hid (by rw [hl4.out, List.length_append]; have := b3.out; omega)
        have HNum1 : Hid (∀ w' A c, RdB w' A c l2 → Calls Try.prog 55 #[.slice A (l.length + 1) c, .int .u64 p.num.toNat] w' (NPuts l3 w')) := Lib.hid (fun w' A c h => by
          rw [e2, hl3.out]; exact num_calls A c l2 p.num.toNat w' h (by have := b2.out; omega) p.num.toNat_lt)
        have HNum2 : Hid (∀ w' A c, RdB w' A c l3 → Calls Try.prog 55 #[.slice A l3.length c, .int .u64 r.length] w' (NPuts l4 w')) := Lib.hid (fun w' A c h => by
          rw [hl4.out]; exact num_calls A c l3 r.length w' h (by have := b3.out; omega) (Nat.lt_of_le_of_lt HRl.out (by decide)))
        have HR2 : Hid (∀ w', Kp (fun k => blkOf A' = some k) w2 w' → RdB w' A2 r.length r) := Lib.hid (fun w' h => (HO2.out.kp h (fun j hj e => by
          have h1 := (HO2.out.lt j hj).1
          have h2 := (HO.out.lt j e).2
          simp at h1
          omega)).rd)
        clear hbyte hfar e2 q3 q4
        go_region_held3 (fun w' => Kp (fun k => blkOf A' = some k) w2 w' ∧ w'.cell? ⟨wr.heap.size, 0, none⟩ = some (.int .u64 p.num.toNat)) (first | exact HS.out _ hs8 | exact HS.out _ hs6 | exact HS.out _ hk4 | exact HS.out _ (Kp.drew (Kp.alloc (Kp.refl _ _) _)) | exact HS.out _ (Kp.alloc (Kp.drew (Kp.refl _ _)) _) | exact HS.out _ (Kp.drew (Kp.refl _ _)))
          (first
            | (refine step_append_ _ rfl (.tmp 35) (.tmp 39) 28 rfl w.heap.size 5 i0 _ 1 1 Try.underlying28 hi0 hz0 hz1 hz2 rfl A' l.length c' _ rfl ((HOw.out.alloc _).drew) (some ⟨w2.heap.size, 0, none⟩) 1 1 [.int .u8 ((k : Int) + 1)] rfl (Own.of_newAt (W := w2) rfl 5 1 1 #[.int .u8 ((k : Int) + 1)] rfl (by simp [maxLen])).drew.rd (by simp [Value.oneCell']) (Fits.of (by have := HLe.out; unfold big; omega) (by omega)) (by have := HKw.out.size; simp; omega) ?_; intro A3 c3 w3 ho3 hk3 hb3; have hk4 : Kp (fun k => blkOf A' = some k) w2 w3 := ((Kp.refl _ w2).alloc _).drew.trans hk3 (fun _ _ e => e))
            | (go_at_call 55; have hy := HNum2.out _ _ _ ho6.rd; refine Calls.mono hy ?_; intro e w8 hn; clear hy; obtain ⟨A8, c8, rfl, ho8, hk8⟩ := hn; have hs8 := hs6.nw hk8; dsimp only)
            | (go_at_call 55; have hx := HMk.out _ _ _ ho3; have hy := HNum1.out _ _ _ hx; clear hx; refine Calls.mono hy ?_; intro e w6 hn; clear hy; obtain ⟨A6, c6, rfl, ho6, hk6⟩ := hn; have hs6 := hk4.nw hk6; dsimp only))
        have hn8 : Nw w w8 := HKw.out.trans hs8 (fun i hi e => by have := (HO.out.lt i e).1; omega)
        have HN8 := Lib.hid hn8
        have HO8 : Hid (OwnB w8 w.heap.size A8 c8 l4) := Lib.hid (ho8.low (by have h1 := HKw.out.size; have h2 := hs6.size; omega))
        have HR8 : Hid (RdB w8 A2 r.length r) := Lib.hid (HR2.out _ hs8)
        obtain ⟨h, hh⟩ : ∃ h, h = UInt8.ofNat (cntPages ((ps.map Pg.pl).take k)) := ⟨_, rfl⟩
        have hcn : cntPages ((ps.map Pg.pl).take k) ≤ 8 := Nat.le_trans (cntPages_le _) (by rw [List.length_take, HPl.out]; omega)
        have hhn : h.toNat = cntPages ((ps.map Pg.pl).take k) := by rw [hh]; exact u8_of (by omega)
        have hh8 : (h.toNat : Int) ≤ 8 := by omega
        obtain ⟨tl, htl⟩ : ∃ tl, l4 = h :: tl := by rw [hl4.out, hl3.out, hl2.out, HL.out, hh]; exact ⟨_, rfl⟩
        have HH : Hid ((l4.map bv ++ r.map bv)[0]? = some (.int .u8 h.toNat)) := Lib.hid (by rw [htl]; rfl)
        have hpos : 0 < l4.length + r.length := by rw [htl, List.length_cons]; omega
        have hposI : (0 : Int) < (l4.length : Int) + (r.length : Int) := by omega
        have HFin : Hid (l5.set 0 (UInt8.ofNat (h.toNat + 1)) = outK (ps.map Pg.pl) (k + 1)) := Lib.hid (by
          rw [hhn, ← HE.out, hl5.out, hl4.out, hl3.out, hl2.out, HL.out, hr.out]; rfl)
        have HB1 : Hid ((l4.map bv ++ r.map bv).set 0 (.int .u8 ((h.toNat : Int) + 1)) = (l5.set 0 (UInt8.ofNat (h.toNat + 1))).map bv) := Lib.hid (by
          have e := u8_of (n := h.toNat + 1) (by omega)
          rw [hl5.out, List.map_set, List.map_append]
          congr 1
          show _ = Value.int .u8 ((UInt8.ofNat (h.toNat + 1)).toNat : Int)
          rw [e]; rfl)
        have HLn : Hid (l4.length + r.length = (l5.set 0 (UInt8.ofNat (h.toNat + 1))).length) := Lib.hid (by rw [List.length_set, hl5.out, List.length_append])
        replace htl := Lib.hid htl
        replace hh := Lib.hid hh
        replace hhn := Lib.hid hhn
        rename_i hHeld
        clear hHeld hs8 hs6 hk4 ho8 ho6 ho3 hk3 hk6 hk8 hb3 hn8 hcn n2
        go_wp2_with (at_builtin; go_must (refine wpList_append_ _ rfl (.tmp 48) (.tmp 49) 28 rfl w.heap.size 5 i0 _ 1 1 Try.underlying28 hi0 hz0 hz1 hz2 rfl A8 l4.length c8 _ rfl HO8.out A2 r.length r.length (r.map bv) rfl HR8.out (bv_one r) (Fits.of (by have := b4.out; have := HRl.out; unfold big; omega) (by omega)) HN8.out.size ?_); intro A9 c9 w9 ho9 hk9 hb9; obtain ⟨g9, v9, rfl, hv9, hc9, hf9⟩ := ho9.head1 hpos; rw [HH.out] at hv9; injection hv9 with hv9; subst hv9; have HO9 := Lib.hid ho9; have HK9 := Lib.hid hk9; clear ho9 hk9 hb9)
        have ho := HO9.out.set1 (ad := ⟨g9, 0, none⟩) rfl (j := 0) hpos (.int .u8 ((h.toNat : Int) + 1))
        rw [add_zero_, HB1.out, HLn.out] at ho
        have hn : Nw w (w9.setCell ⟨g9, 0, none⟩ (.int .u8 ((h.toNat : Int) + 1))) := (HN8.out.trans HK9.out (fun i hi e => by have := (HO8.out.lt i e).1; omega)).setNew (p := ⟨g9, 0, none⟩) (HO9.out.lt g9 rfl).1 _
        exact ⟨⟨k + 1, _, _, c9, HK8.out, rfl, by rw [HLn.out], HFin.out, ho, hn⟩, by simp [intOf]; have := HK8.out; omega⟩
    · obtain rfl : k = 8 := by omega
      have HE : Hid (l = lf) := Lib.hid (by rw [HL.out, hlf.out]; unfold outK; rw [List.take_of_length_le (by rw [HPl.out]; omega)])
      go_wp2_with (go_at_call 100; go_must (refine (clip_byte _ _ _ _ HO.out.cap).mono ?_); rintro e w5 ⟨rfl, rfl⟩)
      go_ret
      obtain rfl := HE.out
      exact ⟨A', rfl, HO.out.clip, HK.out⟩
end Go.Proofs.Ytiimdnachgkomaa
