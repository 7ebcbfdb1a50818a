/- ClientsPlay: the walk. -/
import Derived.Test.YtiimdnachgkomaaPlay27a
import Derived.Test.YtiimdnachgkomaaPlayC
import Derived.Test.YtiimdnachgkomaaGreat
import Derived.Test.YtiimdnachgkomaaLives27
import Derived.Test.YtiimdnachgkomaaLeft
import Derived.Test.YtiimdnachgkomaaMem3
import Derived.Deep.RegionHeld3
import Derived.Deep.DeepCutAuto
import Derived.Deep.CutBlock
namespace Go.Proofs.Ytiimdnachgkomaa
open Go Go.RowKit
/-- What stands at the head of a round. -/
def St27 (id : UInt8) (n g1 g2 : Nat) (w : World) : Prop := ∃ (s : Cl) (o : Option (List Step)), PA w g1 g2 s o ∧ PB w g1 g2 s o ∧ ClOk s o ∧ s.id = id ∧ s.n = n
set_option maxRecDepth 20000 in
set_option maxHeartbeats 8000000 in
theorem play27_good (id : UInt8) (n : Nat) (num : UInt64) (ad : Addr) (c : Nat) (l : List ActV) (w : World) (h : ActsOk w ⟨l, some ad, c⟩) (h1 : 1 ≤ id.toNat) (h2 : id.toNat ≤ 8) (h3 : 1 ≤ n) (h4 : n ≤ 7) :
    Calls Try.prog 5 #[.agg #[.int .i64 (id.toNat : Int), .int .i64 (n : Int)], .int .u64 num.toNat, .slice (some ad) l.length c] w fun e w' => e = .returned (.bool true) ∧ Nw w w' := by
  have HG := Lib.hid (great27_calls ⟨l, some ad, c⟩ (w.alloc (.cells #[.int .i64 (id.toNat : Int), .int .i64 (n : Int)] 60)) (h.nw ((Kp.refl _ w).alloc _)))
  have HA := Lib.hid h
  have HB : Hid (1 ≤ id.toNat ∧ id.toNat ≤ 8 ∧ 1 ≤ n ∧ n ≤ 7) := Lib.hid ⟨h1, h2, h3, h4⟩
  have d1 : decide ((id.toNat : Int) < 1) = false := decide_eq_false (by omega)
  have d2 : decide ((8 : Int) < (id.toNat : Int)) = false := decide_eq_false (by omega)
  have d3 : decide ((n : Int) < 1) = false := decide_eq_false (by omega)
  have d4 : decide ((7 : Int) < (n : Int)) = false := decide_eq_false (by omega)
  have hlen : Hid (l.length ≤ 140737488351232) := Lib.hid h.len
  clear h h1 h2 h3 h4
  go_enter Try.func5, Try.ntmps5
  go_wp2_with fail
  go_must (refine HG.out.mono ?_)
  rintro e w1 ⟨rfl, hk1⟩
  have hb1 : Blk w1 w.heap.size 60 #[.int .i64 (id.toNat : Int), .int .i64 (n : Int)] := (Blk.new _ _ _).nw hk1
  have a0 : w1.cell? ⟨w.heap.size, 0, none⟩ = some (.int .i64 (id.toNat : Int)) := hb1.cell 0
  have a1 : w1.cell? ⟨w.heap.size, 1, none⟩ = some (.int .i64 (n : Int)) := hb1.cell 1
  have HK1 : Hid (Nw w w1) := Lib.hid (((Kp.refl _ w).alloc _).nw hk1)
  clear hk1 hb1
  cases hac : acts27 l
  rotate_left
  focus
    go_wp2_with fail
    go_must (refine (lives27 _).mono ?_)
    rintro e w2 ⟨rfl, hk2⟩
    go_wp2_with fail
    go_ret
    exact ⟨rfl, HK1.out.nw hk2⟩
  have HNew : Hid (∀ w', Calls Try.prog 24 #[.int .i64 (id.toNat : Int), .int .i64 (n : Int)] w' fun e w'' => e = .returned (.pointer (some ⟨w'.heap.size, 0, none⟩)) ∧ Blk w'' w'.heap.size 45 (Cl.shut ⟨id, n, 1, 0, 0⟩) ∧ Nw w' w'') := Lib.hid (fun w' => (New_ok id n w' HB.out.1 HB.out.2.1 HB.out.2.2.1 HB.out.2.2.2).mono fun e w'' ⟨h1, h2⟩ => ⟨h1, by rw [h2]; exact Blk.new _ _ _, by rw [h2]; exact (Kp.refl _ _).alloc _⟩)
  have HRes : Hid (∀ w', Calls Try.prog 26 #[.int .i64 (id.toNat : Int), .int .i64 (n : Int), .int .u64 (num.toNat : Int)] w' fun e w'' => e = .returned (.pointer (some ⟨w'.heap.size, 0, none⟩)) ∧ Blk w'' w'.heap.size 45 (Cl.shut ⟨id, n, 1, 0, num⟩) ∧ Nw w' w'') := Lib.hid (fun w' => Resume_ok id n num w' HB.out.1 HB.out.2.1 HB.out.2.2.1 HB.out.2.2.2)
  go_upto_if 36 with (go_at_call 24; go_must (refine (HNew.out _).mono ?_); rintro e w2 ⟨rfl, hb2, hk2⟩)
  go_cut [9] (fun s9 wx => ∃ g1, s9 = .pointer (some ⟨g1, 0, none⟩) ∧ w.heap.size ≤ g1 ∧ Blk wx g1 45 (Cl.shut ⟨id, n, 1, 0, num⟩) ∧ Nw w wx)
  case first =>
    cases htb : decide (0 < num.toNat)
    · have hz : num = 0 := by have := of_decide_eq_false htb; exact UInt64.toNat.inj (by simp; omega)
      have HZ := Lib.hid hz
      clear htb hz
      go_wp2_with fail
      go_meet
      exact ⟨w1.heap.size, rfl, HK1.out.size, by rw [HZ.out]; exact hb2, HK1.out.nw hk2⟩
    · clear htb
      go_wp2_with (go_at_call 26; go_must (refine (HRes.out _).mono ?_); rintro e w3 ⟨rfl, hb3, hk3⟩)
      go_meet
      exact ⟨w2.heap.size, rfl, Nat.le_trans HK1.out.size hk2.size, hb3, (HK1.out.nw hk2).nw hk3⟩
  case rest =>
  obtain ⟨g1, rfl, hg1, hb3, hk3⟩ := hcut
  have HB3 := Lib.hid hb3
  have HK3 := Lib.hid hk3
  clear hb3 hk3
  go_wp2_with fail
  go_must (refine (RResume id n num wc HB.out.2.1).mono ?_)
  rintro e w4 ⟨rfl, hw4⟩
  have hb4 : Blk w4 wc.heap.size 72 (RC.cells ⟨id, n, 1, num, 0⟩ false none 0 0) := by rw [hw4]; exact Blk.new _ _ _
  have hk4 : Nw wc w4 := by rw [hw4]; exact (Kp.refl _ _).alloc _
  obtain ⟨g2, hg2e⟩ : ∃ g2, g2 = wc.heap.size := ⟨_, rfl⟩
  have hlt1 := HB3.out.lt
  have hwg2 : w.heap.size ≤ g2 := by rw [hg2e]; exact HK3.out.size
  have hne : g1 < g2 := by rw [hg2e]; exact hlt1
  rw [← hg2e] at hb4 ⊢
  have HSt : Hid (St27 id n g1 g2 w4) := Lib.hid ⟨⟨id, n, 1, 0, num⟩, none, HB3.out.nw hk4, ⟨none, 0, 0, hb4⟩, ⟨HB.out.1, HB.out.2.1, HB.out.2.2.1, HB.out.2.2.2, Nat.le_refl _, HB.out.2.2.1, fun h => absurd rfl h⟩, rfl, rfl⟩
  have HN4 := Lib.hid (HK3.out.nw hk4)
  clear hw4 hb4 hk4 hg2e hlt1 HB3 HK3 HNew HRes HG
  go_wp2_with fail
  go_loopw [11] (fun i wr => ∃ q : Nat, i = .int .i64 q ∧ q ≤ l.length ∧ St27 id n g1 g2 wr ∧ Nw w wr) (fun i _ => l.length - (intOf i).toNat)
  case atStart => exact ⟨0, rfl, by omega, HSt.out, HN4.out⟩
  case round =>
    obtain ⟨q, rfl, hq, hst, hnw⟩ := hrel
    have HST := Lib.hid hst
    have HN := Lib.hid hnw
    clear hst hnw HSt HN4
    obtain ⟨w0, hw0⟩ : ∃ w0, w0 = wr := ⟨_, rfl⟩
    subst hw0
    by_cases hlt : q < l.length
    · obtain ⟨x, hx⟩ : ∃ x, l[q]? = some x := ⟨_, List.getElem?_eq_getElem hlt⟩
      have HX := Lib.hid hx
      have HLt := Lib.hid hlt
      have HC : Hid (∀ j v, x.cells[j]? = some v → w0.cell? ((ad.add (q * 20)).add j) = some v) := Lib.hid (fun j v hv => by
        obtain ⟨hi, hx'⟩ := List.getElem?_eq_some_iff.1 hx
        obtain ⟨ad', hA, hc⟩ := HA.out.rd.elem (f := ActV.cells) (fun _ => rfl) hi (by show 0 < l.length; omega)
        cases hA
        rw [hx'] at hc
        exact HN.out.cell (hc j v hv))
      have hd1' : decide ((q : Int) < (l.length : Int)) = true := decide_eq_true (by omega)
      have hd1n : decide (q < l.length) = true := decide_eq_true hlt
      have hxok := HA.out.each q x hx
      have HXO := Lib.hid hxok
      have HXG : Hid (x.l.great = false ∧ x.steps.l.length ≤ 50) := Lib.hid (by
        have h1 : x.great = false := by
          have := hac
          unfold acts27 at this
          rw [Bool.or_eq_false_iff, List.any_eq_false] at this
          have h2 := this.2 x (List.mem_of_getElem? hx)
          simpa using h2
        unfold ActV.great at h1
        rw [Bool.or_eq_false_iff] at h1
        exact ⟨h1.1, by have := of_decide_eq_false h1.2; omega⟩)
      obtain ⟨k0, hk0⟩ : ∃ k0, x.kind.toNat % 8 = k0 := ⟨_, rfl⟩
      have hk1 : (x.kind.toNat : Int) % 8 = (k0 : Int) := by omega
      have hk8 : k0 < 8 := by omega
      have hbN : Blk (w0.alloc (.cells x.cells.toArray 38)) w0.heap.size 38 x.cells.toArray := Blk.new _ _ _
      have x0 : (w0.alloc (.cells x.cells.toArray 38)).cell? ⟨w0.heap.size, 0, none⟩ = some (.int .u8 x.kind.toNat) := hbN.cell 0
      have HBN := Lib.hid hbN
      have HKN : Hid (Nw w0 (w0.alloc (.cells x.cells.toArray 38))) := Lib.hid ((Kp.refl _ w0).alloc _)
      clear hx hbN hxok hk0
      have hk00 : ((k0 : Int) == 0) = decide (k0 = 0) := by rw [Bool.eq_iff_iff]; simp
      go_upto_block 2 with (first
        | ((with_reducible refine stopAt (.load 38 (.tmp 72)) rfl ?_); go_must (refine unStop (wpList_ldP rfl 38 (.tmp 72) rfl isS_act27 _ rfl x.cells HC.out rfl ?_)))
        | ((with_reducible refine stopAt (.store 38 (.tmp 12) (.tmp 73)) rfl ?_); go_must (refine unStop (wpList_stN rfl 38 (.tmp 12) (.tmp 73) rfl x.cells isS_act27 rfl rfl rfl rfl rfl (by simp [ActV.cells, LV.cells, Value.oneCell']) ?_))))
      generalize (w0.alloc (.cells x.cells.toArray 38)) = W at *
      clear hk00 x0
      go_cut [13, 14, 15, 16, 17, 18, 19, 20, 21, 22, 23, 24] from 64 to 201 (fun s13 s14 s15 s16 s17 s18 s19 s20 s21 s22 s23 s24 wx => St27 id n g1 g2 wx ∧ Nw w wx)
      case first =>
        go_upto_if 137 with fail
        go_cut [76, 137] from 64 to 201 (fun s76 s137 wx => s76 = .int .u8 (k0 : Int) ∧ s137 = .bool (decide (k0 ≤ 1)) ∧ wx = W)
        case first =>
         as_aux_lemma =>
          rcases (by omega : k0 = 0 ∨ k0 = 1 ∨ 2 ≤ k0) with hk | hk | hk
          · have t0 : ((k0 : Int) == 0) = true := by rw [hk]; rfl
            have HK := Lib.hid hk
            clear hk
            go_wp2_with fail
            go_meet
            exact ⟨congrArg (Value.int IntKind.u8) hk1, by rw [HK.out]; rfl, rfl⟩
          · have t0 : ((k0 : Int) == 0) = false := by rw [hk]; rfl
            have t1 : ((k0 : Int) == 1) = true := by rw [hk]; rfl
            have HK := Lib.hid hk
            clear hk
            go_wp2_with fail
            go_meet
            exact ⟨congrArg (Value.int IntKind.u8) hk1, by rw [HK.out]; rfl, rfl⟩
          · have t0 : ((k0 : Int) == 0) = false := beq_eq_false_iff_ne.2 (by omega)
            have t1 : ((k0 : Int) == 1) = false := beq_eq_false_iff_ne.2 (by omega)
            have HK := Lib.hid (decide_eq_false (show ¬ k0 ≤ 1 by omega))
            clear hk
            go_wp2_with fail
            go_meet
            exact ⟨congrArg (Value.int IntKind.u8) hk1, by rw [HK.out], rfl⟩
        case rest =>
        obtain ⟨rfl, rfl, hwc⟩ := hcut
        subst hwc
        obtain ⟨s, o, hpa, hpb, hok, hsid, hsn⟩ := HST.out
        have HPA := Lib.hid (hpa.nw HKN.out)
        have HPB := Lib.hid (hpb.nw HKN.out)
        have HOK := Lib.hid hok
        have HID := Lib.hid hsid
        have HSN := Lib.hid hsn
        have HNW : Hid (Nw w wc) := Lib.hid (HN.out.nw HKN.out)
        have hg1l := hpa.lt
        have hg2l := hpb.lt
        have hgw : w0.heap.size < wc.heap.size := HBN.out.lt
        clear hpa hpb hok hsid hsn
        cases hkk : decide (k0 ≤ 1)
        rotate_left
        as_aux_lemma =>
          have xs1 : wc.cell? ⟨w0.heap.size, 1, none⟩ = some (.slice x.steps.A x.steps.l.length x.steps.c) := HBN.out.cell 1
          have hxl : (x.steps.l.length : Int) ≤ 100000 := by have := HXG.out.2; omega
          have HTw := Lib.hid (TwinSteps_ x.steps.A x.steps.c x.steps.l wc (HXO.out.steps.nw HNW.out) hxl)
          go_wp2_with fail
          go_must (refine HTw.out.mono ?_)
          rintro e w5 ⟨gt, c2, rfl, ho5, hk5⟩
          have hbc : Blk (w5.alloc (.cells #[.slice (some ⟨gt, 0, none⟩) x.steps.l.length c2] 24)) w5.heap.size 24 #[.slice (some ⟨gt, 0, none⟩) x.steps.l.length c2] := Blk.new _ _ _
          have hk6 : Nw wc (w5.alloc (.cells #[.slice (some ⟨gt, 0, none⟩) x.steps.l.length c2] 24)) := hk5.alloc _
          have c0 : (w5.alloc (.cells #[.slice (some ⟨gt, 0, none⟩) x.steps.l.length c2] 24)).cell? ⟨w5.heap.size, 0, none⟩ = some (.slice (some ⟨gt, 0, none⟩) x.steps.l.length c2) := hbc.cell 0
          have HO6 := Lib.hid (ho5.alloc (.cells #[.slice (some ⟨gt, 0, none⟩) x.steps.l.length c2] 24))
          have HK6 := Lib.hid hk6
          have HBC := Lib.hid hbc
          have hgt : wc.heap.size ≤ gt := (ho5.lt gt rfl).1
          have hgt5 : gt < w5.heap.size := (ho5.lt gt rfl).2
          clear ho5 hk5 hk6 hbc HTw
          go_wp2_with fail
          generalize (w5.alloc (.cells #[.slice (some ⟨gt, 0, none⟩) x.steps.l.length c2] 24)) = w6 at *
          have HRt : Hid (RdSt w6 (some ⟨gt, 0, none⟩) c2 x.steps.l) := Lib.hid (by
            have h1 := HO6.out.cutTo (k := x.steps.l.length) (Nat.le_add_right _ _)
            have h2 : ((x.steps.l ++ [markSt, markSt]).flatMap Step.cells).take (x.steps.l.length * 10) = x.steps.l.flatMap Step.cells := by
              rw [List.flatMap_append, List.take_left' (by rw [flat_len Step.cells 10 (fun _ => rfl)])]
            rw [h2] at h1
            exact h1.rd)
          obtain ⟨r, hr⟩ : ∃ r, r = callS s o x.steps.l := ⟨_, rfl⟩
          have HRok := Lib.hid (call_ok HOK.out x.steps.l)
          rw [← hr] at HRok
          have HcA : Hid (Calls Try.prog 19 #[.pointer (some ⟨g1, 0, none⟩), .agg #[.slice (some ⟨gt, 0, none⟩) x.steps.l.length c2]] w6 (CallA g1 g2 r w6)) := Lib.hid (by
            rw [hr]
            exact Call_A (HPA.out.nw HK6.out) HOK.out (by have := HK6.out.size; omega) _ _ _ HRt.out (fun _ e => by simp [blkOf] at e; omega))
          have HcB : Hid (∀ w', Kp (fun j => j = g1) w6 w' → Calls Try.prog 29 #[.pointer (some ⟨g2, 0, none⟩), .agg #[.slice x.steps.A x.steps.l.length x.steps.c]] w' (CallB g1 g2 r w')) := Lib.hid (fun w' hk => by
            rw [hr]
            have hnw : Nw w w' := (HNW.out.nw HK6.out).trans hk (fun k hk e => by omega)
            refine Call_B ((HPB.out.nw HK6.out).kp hk (fun k e _ => ⟨e, by omega⟩)) HOK.out (by have := hk.size; have := HK6.out.size; omega) _ _ _ (HXO.out.steps.nw hnw) (fun hl e => ?_)
            obtain ⟨k, h1, h2⟩ := HXO.out.steps.blk_lt hl (by omega)
            rw [h1] at e; injection e; omega)
          obtain ⟨rc, rs, ro, rout⟩ := r
          dsimp only at HRok
          replace hr := Lib.hid hr
          clear c0
          go_must (refine HcA.out.mono ?_)
          rintro e w7 ⟨v7, rfl, hpa7, hout7, hk7⟩
          dsimp only at hpa7 hout7 ⊢
          have xs7 : w7.cell? ⟨w0.heap.size, 1, none⟩ = some (.slice x.steps.A x.steps.l.length x.steps.c) := hk7.cell (HK6.out.cell xs1) (by show ¬ w0.heap.size = g1; omega)
          have HPA7 := Lib.hid hpa7
          have HOut7 := Lib.hid hout7
          have HK7 := Lib.hid hk7
          clear hpa7 hout7 hk7 xs1
          go_wp2_with fail
          go_must (refine (HcB.out _ HK7.out).mono ?_)
          rintro e w8 ⟨v8, rfl, hpb8, hout8, hk8⟩
          dsimp only at hpb8 hout8 ⊢
          have HPB8 := Lib.hid hpb8
          have HPA8 := Lib.hid (HPA7.out.kp hk8 (fun k e _ => ⟨e, by omega⟩))
          have HK68 : Hid (Kp (fun j => j = g1 ∨ j = g2) w6 w8) := Lib.hid ((HK7.out.more (fun _ _ e => .inl e)).trans hk8 (fun _ _ e => .inr e))
          have hs6 := HK6.out.size
          have HSa := Lib.hid (SameAll_o (HOut7.out.kp hk8 (fun k e => by omega)) (Kp.refl _ w8) hout8 HRok.out.2.2.2)
          have xs8 : w8.cell? ⟨w0.heap.size, 1, none⟩ = some (.slice x.steps.A x.steps.l.length x.steps.c) := hk8.cell xs7 (by show ¬ w0.heap.size = g2; omega)
          have hbc8 := HBC.out.kp HK68.out (by omega)
          have c8 : w8.cell? ⟨w5.heap.size, 0, none⟩ = some (.slice (some ⟨gt, 0, none⟩) x.steps.l.length c2) := hbc8.cell 0
          have hrc : ((rc : Int) != (rc : Int)) = false := by simp
          clear hpb8 hout8 hk8 xs7 hbc8
          go_wp2_with fail
          go_must (refine HSa.out.mono ?_)
          rintro e w9 ⟨rfl, hk9⟩
          have x9 := hk9.cell xs8
          have c9 := hk9.cell c8
          have HNW9 : Hid (Nw w w9) := Lib.hid (((HNW.out.nw HK6.out).trans HK68.out (fun k hk e => by omega)).nw hk9)
          have HLs := Lib.hid (LeftSteps_ gt wc.heap.size c2 x.steps.A x.steps.c x.steps.l w9 hxl ((HO6.out.kp HK68.out (fun k hk e => by simp [blkOf] at hk; omega)).nw hk9) (HXO.out.steps.nw HNW9.out))
          have HPA9 := Lib.hid (HPA8.out.nw hk9)
          have HPB9 := Lib.hid (HPB8.out.nw hk9)
          clear hk9 xs8 c8
          go_wp2_with fail
          go_must (refine HLs.out.mono ?_)
          rintro e w10 ⟨rfl, hk10⟩
          clear x9 c9
          go_wp2_with fail
          go_meet
          exact ⟨⟨rs, ro, HPA9.out.nw hk10, HPB9.out.nw hk10, HRok.out.1, HRok.out.2.1.trans HID.out, HRok.out.2.2.1.trans HSN.out⟩, HNW9.out.nw hk10⟩
        go_upto_if 176 with fail
        go_cut [76, 176] from 64 to 201 (fun s76 s176 wx => s76 = .int .u8 (k0 : Int) ∧ s176 = .bool (decide (k0 ≤ 4)) ∧ wx = wc)
        case first =>
         as_aux_lemma =>
          have hk2 : 2 ≤ k0 := by have := of_decide_eq_false hkk; omega
          rcases (by omega : k0 = 2 ∨ k0 = 3 ∨ k0 = 4 ∨ 5 ≤ k0) with hk | hk | hk | hk
          · have t2 : ((k0 : Int) == 2) = true := by rw [hk]; rfl
            have HK := Lib.hid hk
            clear hk hk2
            go_wp2_with fail
            go_meet
            exact ⟨rfl, by rw [HK.out]; rfl, rfl⟩
          · have t2 : ((k0 : Int) == 2) = false := by rw [hk]; rfl
            have t3 : ((k0 : Int) == 3) = true := by rw [hk]; rfl
            have HK := Lib.hid hk
            clear hk hk2
            go_wp2_with fail
            go_meet
            exact ⟨rfl, by rw [HK.out]; rfl, rfl⟩
          · have t2 : ((k0 : Int) == 2) = false := by rw [hk]; rfl
            have t3 : ((k0 : Int) == 3) = false := by rw [hk]; rfl
            have t4 : ((k0 : Int) == 4) = true := by rw [hk]; rfl
            have HK := Lib.hid hk
            clear hk hk2
            go_wp2_with fail
            go_meet
            exact ⟨rfl, by rw [HK.out]; rfl, rfl⟩
          · have t2 : ((k0 : Int) == 2) = false := beq_eq_false_iff_ne.2 (by omega)
            have t3 : ((k0 : Int) == 3) = false := beq_eq_false_iff_ne.2 (by omega)
            have t4 : ((k0 : Int) == 4) = false := beq_eq_false_iff_ne.2 (by omega)
            have HK := Lib.hid (decide_eq_false (show ¬ k0 ≤ 4 by omega))
            clear hk hk2
            go_wp2_with fail
            go_meet
            exact ⟨rfl, by rw [HK.out], rfl⟩
        case rest =>
        obtain ⟨rfl, rfl, hwd⟩ := hcut
        subst hwd
        clear hkk
        cases hkk : decide (k0 ≤ 4)
        rotate_left
        as_aux_lemma =>
          obtain ⟨r, hr⟩ : ∃ r, r = tickS s o := ⟨_, rfl⟩
          have HRok := Lib.hid (tick_ok HOK.out (fun l' e => by have := HPA.out; rw [e] at this; exact this.len))
          rw [← hr] at HRok
          have HcA : Hid (Calls Try.prog 21 #[.pointer (some ⟨g1, 0, none⟩)] wc (TickA g1 g2 r wc)) := Lib.hid (by rw [hr]; exact Tick_A HPA.out HOK.out)
          have HcB : Hid (∀ w', Kp (fun j => j = g1) wc w' → Calls Try.prog 32 #[.pointer (some ⟨g2, 0, none⟩)] w' (TickB g1 g2 r w')) := Lib.hid (fun w' hk => by
            rw [hr]
            exact Tick_B (HPB.out.kp hk (fun k e _ => ⟨e, by omega⟩)) HOK.out)
          obtain ⟨rs, ro, rout⟩ := r
          dsimp only at HRok
          replace hr := Lib.hid hr
          go_wp2_with fail
          go_must (refine HcA.out.mono ?_)
          rintro e w7 ⟨v7, rfl, hpa7, hout7, hk7⟩
          dsimp only at hpa7 hout7 ⊢
          have HPA7 := Lib.hid hpa7
          have HOut7 := Lib.hid hout7
          have HK7 := Lib.hid hk7
          clear hpa7 hout7 hk7
          go_wp2_with fail
          go_must (refine (HcB.out _ HK7.out).mono ?_)
          rintro e w8 ⟨v8, rfl, hpb8, hout8, hk8⟩
          dsimp only at hpb8 hout8 ⊢
          have HPB8 := Lib.hid hpb8
          have HPA8 := Lib.hid (HPA7.out.kp hk8 (fun k e _ => ⟨e, by omega⟩))
          have HNW8 : Hid (Nw w w8) := Lib.hid ((HNW.out.trans HK7.out (fun k hk e => by omega)).trans hk8 (fun k hk e => by omega))
          have HSa := Lib.hid (SameAll_o (HOut7.out.kp hk8 (fun k e => by omega)) (Kp.refl _ w8) hout8 HRok.out.2.2.2)
          clear hpb8 hout8 hk8
          go_wp2_with fail
          go_must (refine HSa.out.mono ?_)
          rintro e w9 ⟨rfl, hk9⟩
          go_wp2_with fail
          go_meet
          exact ⟨⟨rs, ro, HPA8.out.nw hk9, HPB8.out.nw hk9, HRok.out.1, HRok.out.2.1.trans HID.out, HRok.out.2.2.1.trans HSN.out⟩, HNW8.out.nw hk9⟩
        obtain ⟨wt, hwt⟩ : ∃ wt, wt = wc := ⟨_, rfl⟩
        subst hwt
        have HBL := Lib.hid HBN.out
        have xl : wt.cell? ⟨w0.heap.size, 19, none⟩ = some (.bool x.near) := HBN.out.cell 19
        have HSub : Hid (subc x.cells.toArray 2 17 = x.l.cells) := Lib.hid rfl
        have hBlt : Blk (wt.alloc (.cells x.l.cells.toArray 36)) wt.heap.size 36 x.l.cells.toArray := Blk.new _ _ _
        have hk5 : Nw wt (wt.alloc (.cells x.l.cells.toArray 36)) := (Kp.refl _ wt).alloc _
        have xl5 := hk5.cell xl
        have HBlt := Lib.hid hBlt
        have HK5 := Lib.hid hk5
        clear hBlt hk5 xl hkk
        go_upto_if 80 with (first
          | ((with_reducible refine stopAt (.load 36 (.tmp 77)) rfl ?_); go_must (refine unStop (wpList_ldS rfl 36 (.tmp 77) rfl isS_letter w0.heap.size 2 rfl HBL.out x.l.cells HSub.out rfl ?_)))
          | ((with_reducible refine stopAt (.store 36 (.tmp 18) (.tmp 78)) rfl ?_); go_must (refine unStop (wpList_stN rfl 36 (.tmp 18) (.tmp 78) rfl x.l.cells isS_letter rfl rfl rfl rfl rfl (by simp [LV.cells, Value.oneCell']) ?_))))
        have HPA5 := Lib.hid (HPA.out.nw HK5.out)
        have HPB5 := Lib.hid (HPB.out.nw HK5.out)
        obtain ⟨z0, z3, _⟩ := HPB5.out.id_
        have e1 : (wt.alloc (.cells x.l.cells.toArray 36)).cell? ⟨wt.heap.size, 1, none⟩ = some (.int .u8 x.l.frm.toNat) := HBlt.out.cell 1
        have HLg : Hid (x.l.got.l.length ≤ 100000) := Lib.hid (by
          have h1 := HXG.out.1
          unfold LV.great at h1
          rw [Bool.or_eq_false_iff] at h1
          have h2 := of_decide_eq_false h1.1
          have h3 : x.l.got.l.length ≤ x.l.base := by unfold LV.base; omega
          omega)
        generalize (wt.alloc (.cells x.l.cells.toArray 36)) = W5 at *
        go_cut [76] from 64 to 201 (fun s76 wx => ∃ y : LV, Blk wx wt.heap.size 36 y.cells.toArray ∧ y.got = x.l.got ∧ y.Ok w ∧ Nw wt wx)
        case first =>
         as_aux_lemma =>
          cases hnear : x.near
          · rw [hnear] at xl5
            clear z0 z3 e1
            go_wp2_with fail
            go_meet
            exact ⟨x.l, HBlt.out, rfl, HXO.out.l, HK5.out⟩
          · rw [hnear] at xl5
            have f0 := HBlt.out.free 0
            have f1 := HBlt.out.free 1
            have f2 := HBlt.out.free 2
            have f10 := HBlt.out.free 10
            have f11 := HBlt.out.free 11
            have m0 : W5.cell? ⟨wt.heap.size, 0, none⟩ = some (.int .u8 x.l.kind.toNat) := HBlt.out.cell 0
            have m2 : W5.cell? ⟨wt.heap.size, 2, none⟩ = some (.int .u8 x.l.to.toNat) := HBlt.out.cell 2
            have m10 : W5.cell? ⟨wt.heap.size, 10, none⟩ = some (.int .u8 x.l.cl.toNat) := HBlt.out.cell 10
            have m11 : W5.cell? ⟨wt.heap.size, 11, none⟩ = some (.int .u64 x.l.cn.toNat) := HBlt.out.cell 11
            have hnn : 1 ≤ n ∧ n ≤ 7 := ⟨HB.out.2.2.1, HB.out.2.2.2⟩
            have hid8 : s.id.toNat ≤ 8 := HOK.out.id8
            have hn0 : ¬ n = 0 := by omega
            have hWn : IntKind.u8.wrap (n : Int) = (n : Int) := by rw [IntKind.wrap_u8]; omega
            have hW8 : IntKind.u8.wrap (100 + (s.id.toNat : Int)) = 100 + (s.id.toNat : Int) := by rw [IntKind.wrap_u8]; omega
            have hm : (x.l.frm.toNat : Int).tmod (n : Int) = ((x.l.frm.toNat % n : Nat) : Int) := rfl
            have hml := Nat.mod_lt x.l.frm.toNat (show 0 < n by omega)
            have hnb : (n : Int) ≤ 7 := by omega
            have hml2 : (x.l.frm.toNat : Int) % (n : Int) ≤ 6 := by rw [← Int.natCast_emod]; omega
            have u1 : ((UInt8.ofNat (1 + x.l.frm.toNat % n)).toNat : Int) = 1 + (x.l.frm.toNat : Int) % (n : Int) := by rw [UInt8.toNat_ofNat', Nat.mod_eq_of_lt (by omega), ← Int.natCast_emod]; omega
            have u2 : ((UInt8.ofNat (100 + s.id.toNat)).toNat : Int) = 100 + (s.id.toNat : Int) := by rw [UInt8.toNat_ofNat', Nat.mod_eq_of_lt (by omega)]; omega
            have U1 := Lib.hid u1
            have U2 := Lib.hid u2
            clear u1 u2
            go_wp2_with fail
            go_meet
            refine ⟨⟨7, UInt8.ofNat (1 + x.l.frm.toNat % n), UInt8.ofNat (100 + s.id.toNat), x.l.term, x.l.index, x.l.mark, x.l.commit, x.l.yes, x.l.ents, x.l.data, s.id, s.num, x.l.steps, x.l.e, x.l.rE, x.l.rAt, x.l.got⟩, ?_, rfl, ⟨HXO.out.l.ents, HXO.out.l.data, HXO.out.l.dataR, HXO.out.l.steps, HXO.out.l.stepsR, HXO.out.l.got, HXO.out.l.gotR⟩, ?_⟩
            · have hb := ((((HBlt.out.set_ 0 (.int .u8 7)).set_ 1 (.int .u8 (1 + (x.l.frm.toNat : Int) % (n : Int)))).set_ 2 (.int .u8 (100 + (s.id.toNat : Int)))).set_ 10 (.int .u8 s.id.toNat)).set_ 11 (.int .u64 s.num.toNat)
              simp only [LV.cells] at hb ⊢
              rw [U1.out, U2.out]
              exact hb
            · exact (((((HK5.out.setNew (p := ⟨wt.heap.size, 0, none⟩) (Nat.le_refl _) _).setNew (p := ⟨wt.heap.size, 1, none⟩) (Nat.le_refl _) _).setNew (p := ⟨wt.heap.size, 2, none⟩) (Nat.le_refl _) _).setNew (p := ⟨wt.heap.size, 10, none⟩) (Nat.le_refl _) _).setNew (p := ⟨wt.heap.size, 11, none⟩) (Nat.le_refl _) _)
        case rest =>
        as_aux_lemma =>
          obtain ⟨y, hby, hyg, hyo, hk6⟩ := hcut
          obtain ⟨w6, hw6⟩ : ∃ w6, w6 = wc := ⟨_, rfl⟩
          subst hw6
          have HBy := Lib.hid hby
          have HKy := Lib.hid hk6
          have HYO := Lib.hid hyo
          have HYg : Hid (y.got.l.length ≤ 100000) := Lib.hid (by rw [hyg]; exact HLg.out)
          have HNW6 : Hid (Nw w w6) := Lib.hid (HNW.out.nw hk6)
          have hs6 := hk6.size
          have hlt6 := hby.lt
          clear hby hyg hyo hk6 xl5 z0 z3 e1
          obtain ⟨r, hr⟩ : ∃ r, r = takeS s o y := ⟨_, rfl⟩
          have HRok := Lib.hid (take_ok HOK.out (fun l' e => by have := HPA.out; rw [e] at this; exact this.len) y)
          rw [← hr] at HRok
          have HcA : Hid (Calls Try.prog 20 #[.pointer (some ⟨g1, 0, none⟩), .agg y.cells.toArray] w6 (TakeA g1 g2 r w6)) := Lib.hid (by
            rw [hr]
            exact Take_A (HPA.out.nw HKy.out) HOK.out y (HYO.out.got.nw HNW6.out) HYg.out)
          have HcB : Hid (∀ w', Kp (fun j => j = g1) w6 w' → Calls Try.prog 33 #[.pointer (some ⟨g2, 0, none⟩), .agg y.rcells.toArray] w' (TakeB g1 g2 r w')) := Lib.hid (fun w' hk => by
            rw [hr]
            refine Take_B ((HPB.out.nw HKy.out).kp hk (fun k e _ => ⟨e, by omega⟩)) HOK.out y (HYO.out.got.nw (HNW6.out.trans hk (fun k hk e => by omega))) (fun hl e => ?_)
            obtain ⟨k, h1, h2⟩ := HYO.out.got.blk_lt hl (by omega)
            rw [h1] at e; injection e; omega)
          obtain ⟨⟨re, rat, rgl⟩, rdone, rs, ro, rout⟩ := r
          dsimp only at HRok
          replace hr := Lib.hid hr
          go_wp2_with ((with_reducible refine stopAt (.load 36 (.tmp 18)) rfl ?_); go_must (refine unStop (wpList_ldS rfl 36 (.tmp 18) rfl isS_letter wt.heap.size 0 rfl HBy.out y.cells rfl rfl ?_)))
          go_must (refine HcA.out.mono ?_)
          rintro e w7 ⟨v7, A7, d7, rfl, hrd7, hfr7, hpa7, hout7, hk7⟩
          dsimp only at hrd7 hfr7 hpa7 hout7 ⊢
          have HRd7 := Lib.hid hrd7
          have HFr7 := Lib.hid hfr7
          have HPA7 := Lib.hid hpa7
          have HOut7 := Lib.hid hout7
          have HK7 := Lib.hid hk7
          have HBy7 := Lib.hid ((HBy.out.kp hk7 (by omega)).alloc (.cells #[.int .i64 re.toInt, .int .i64 rat.toInt, .slice A7 rgl.length d7] 34))
          have hs7 := hk7.size
          have HOth := Lib.hid (Other_ y (w7.alloc (.cells #[.int .i64 re.toInt, .int .i64 rat.toInt, .slice A7 rgl.length d7] 34)))
          clear hrd7 hfr7 hpa7 hout7 hk7
          go_wp2_with (first
            | ((with_reducible refine stopAt (.store 34 (.tmp 19) (.tmp 111)) rfl ?_); go_must (refine unStop (wpList_stN rfl 34 (.tmp 19) (.tmp 111) rfl [.int .i64 re.toInt, .int .i64 rat.toInt, .slice A7 rgl.length d7] isS_reply rfl rfl rfl rfl rfl (by simp [Value.oneCell']) ?_)))
            | ((with_reducible refine stopAt (.load 36 (.tmp 18)) rfl ?_); go_must (refine unStop (wpList_ldS rfl 36 (.tmp 18) rfl isS_letter wt.heap.size 0 rfl HBy7.out y.cells rfl rfl ?_))))
          go_must (refine HOth.out.mono ?_)
          rintro e w8 ⟨rfl, hk8⟩
          have HB19 : Hid (Blk w8 w7.heap.size 34 #[.int .i64 re.toInt, .int .i64 rat.toInt, .slice A7 rgl.length d7]) := Lib.hid ((Blk.new _ _ _).nw hk8)
          have HK78 : Hid (Nw w7 w8) := Lib.hid (((Kp.refl _ w7).alloc _).nw hk8)
          have hs8 := HK78.out.size
          clear hk8
          go_wp2_with fail
          go_must (refine (HcB.out _ (HK7.out.nw HK78.out)).mono ?_)
          rintro e w9 ⟨v9, A9, d9, rfl, hrd9, hpb9, hout9, hk9⟩
          dsimp only at hrd9 hpb9 hout9 ⊢
          have HRd9 := Lib.hid hrd9
          have HPB9 := Lib.hid hpb9
          have HOut9 := Lib.hid hout9
          have HK79 : Hid (Kp (fun j => j = g2) w7 w9) := Lib.hid (HK78.out.kp.trans hk9 (fun _ _ e => e))
          have hs9 := hk9.size
          have HB19' := Lib.hid (HB19.out.kp hk9 (by omega))
          have hlt19 := HB19.out.lt
          clear hrd9 hpb9 hout9 hk9
          have hk10 : Nw w9 (w9.alloc (.cells #[.int .i64 re.toInt, .int .i64 rat.toInt, .slice A9 rgl.length d9] 34)) := (Kp.refl _ w9).alloc _
          have hb19 := HB19'.out.nw hk10
          have hb22 : Blk (w9.alloc (.cells #[.int .i64 re.toInt, .int .i64 rat.toInt, .slice A9 rgl.length d9] 34)) w9.heap.size 34 #[.int .i64 re.toInt, .int .i64 rat.toInt, .slice A9 rgl.length d9] := Blk.new _ _ _
          have HSR := Lib.hid (SameReply_ re.toInt rat.toInt A7 A9 d7 d9 rgl _ ((HRd7.out.kp HK79.out (fun hl k hk e => by have := HFr7.out hl k hk; omega)).nw hk10) (HRd9.out.nw hk10))
          have a0 : (w9.alloc (.cells #[.int .i64 re.toInt, .int .i64 rat.toInt, .slice A9 rgl.length d9] 34)).cell? ⟨w7.heap.size, 0, none⟩ = some (.int .i64 re.toInt) := hb19.cell 0
          have a1 : (w9.alloc (.cells #[.int .i64 re.toInt, .int .i64 rat.toInt, .slice A9 rgl.length d9] 34)).cell? ⟨w7.heap.size, 1, none⟩ = some (.int .i64 rat.toInt) := hb19.cell 1
          have a2 : (w9.alloc (.cells #[.int .i64 re.toInt, .int .i64 rat.toInt, .slice A9 rgl.length d9] 34)).cell? ⟨w7.heap.size, 2, none⟩ = some (.slice A7 rgl.length d7) := hb19.cell 2
          have hdn : (rdone != rdone) = false := by simp
          have HK10 := Lib.hid hk10
          clear hk10 hb19 hb22
          go_wp2_with ((with_reducible refine stopAt (.store 34 (.tmp 22) (.tmp 119)) rfl ?_); go_must (refine unStop (wpList_stN rfl 34 (.tmp 22) (.tmp 119) rfl [.int .i64 re.toInt, .int .i64 rat.toInt, .slice A9 rgl.length d9] isS_reply rfl rfl rfl rfl rfl (by simp [Value.oneCell']) ?_)))
          go_must (refine HSR.out.mono ?_)
          rintro e w11 ⟨rfl, hk11⟩
          have hk911 : Nw w9 w11 := HK10.out.nw hk11
          have HSa := Lib.hid (SameAll_o ((HOut7.out.kp HK79.out (fun k e => by omega)).nw hk911) (Kp.refl _ w11) (HOut9.out.nw hk911) HRok.out.2.2.2)
          have HK911 := Lib.hid hk911
          clear a0 a1 a2 hk11 hk911
          go_wp2_with fail
          go_must (refine HSa.out.mono ?_)
          rintro e w12 ⟨rfl, hk12⟩
          have hk912 := HK911.out.nw hk12
          have hpaF := (HPA7.out.kp HK79.out (fun k e _ => ⟨e, by omega⟩)).nw hk912
          have hpbF := HPB9.out.nw hk912
          have hnF : Nw w w12 := ((HNW6.out.trans HK7.out (fun k hk e => by omega)).trans HK79.out (fun k hk e => by omega)).nw hk912
          clear hk12 hk912
          go_wp2_with fail
          go_meet
          exact ⟨⟨rs, ro, hpaF, hpbF, HRok.out.1, HRok.out.2.1.trans HID.out, HRok.out.2.2.1.trans HSN.out⟩, hnF⟩
      case rest =>
       as_aux_lemma =>
        obtain ⟨hst5, hnw5⟩ := hcut
        obtain ⟨s, o, hpa, hpb, hok, hsid, hsn⟩ := hst5
        have HPA := Lib.hid hpa
        have HPB := Lib.hid hpb
        have HNW := Lib.hid hnw5
        have HOp := Lib.hid (fun w' (hk : Nw wc w') => Open_A (hpa.nw hk) (show 0 < s.n by have := hok.n1; omega))
        have HNu := Lib.hid (fun w' (hk : Nw wc w') => Num_A (hpa.nw hk) (show 0 < s.n by have := hok.n1; omega))
        have HSt2 : Hid (∀ w', Nw wc w' → St27 id n g1 g2 w') := Lib.hid (fun w' hk => ⟨s, o, HPA.out.nw hk, HPB.out.nw hk, hok, hsid, hsn⟩)
        obtain ⟨_, y3, y4⟩ := hpb.id_
        have hop : (o.isSome != o.isSome) = false := by simp
        have hnu : ((s.num.toNat : Int) != (s.num.toNat : Int)) = false := by simp
        obtain ⟨ob, hob⟩ : ∃ ob, ob = o.isSome := ⟨_, rfl⟩
        rw [← hob] at HOp y4 hop
        clear hpa hpb hnw5 hok hsid hsn hob
        go_wp2_with fail
        go_quiet ((first | (go_at_call 22; exact Calls.quiet_of_same (HOp.out _ ((Kp.refl _ wc).drewN _))) | (go_at_call 23; exact Calls.quiet_of_same (HNu.out _ ((Kp.refl _ wc).drewN _)))))
        go_wp2_with fail
        exact ⟨⟨q + 1, congrArg (Value.int IntKind.i64) (wrapS q (by have := hlen.out; have := HLt.out; omega)), HLt.out, HSt2.out _ ((Kp.refl _ wc).drewN nq), HNW.out.drewN nq⟩, by
          rw [wrapS q (by have := hlen.out; have := HLt.out; omega)]
          simp only [intOf]
          have := HLt.out
          omega⟩
    · obtain rfl : q = l.length := by omega
      have hd1' : decide ((l.length : Int) < (l.length : Int)) = false := decide_eq_false (by omega)
      go_wp2_with fail
      go_must (refine (lives27 _).mono ?_)
      rintro e w5 ⟨rfl, hk5⟩
      go_wp2_with fail
      go_ret
      exact ⟨rfl, HN.out.nw hk5⟩
end Go.Proofs.Ytiimdnachgkomaa
