/- SessionsPlay: the walk. -/
import Derived.Test.YtiimdnachgkomaaPlayA
import Derived.Test.YtiimdnachgkomaaApart2
import Derived.Deep.RegionHeld3
import Derived.Deep.DeepCutAuto
namespace Go.Proofs.Ytiimdnachgkomaa
open Go Go.RowKit
theorem isS_act25' : IsS Try.prog 90 6 := ⟨⟨_, Try.underlying90, rfl⟩, by kernel_rfl⟩
theorem Sl_cells' {α : Type} {f : α → List Value} {k c : Nat} {ad : Addr} {l : List α} {w : World} (h : Rd w k (some ad) l.length c (l.flatMap f)) (hf : ∀ x, (f x).length = k) {i : Nat} {x : α} (hx : l[i]? = some x) :
    ∀ j v, (f x)[j]? = some v → w.cell? ((ad.add (i * k)).add j) = some v := by
  obtain ⟨hi, rfl⟩ := List.getElem?_eq_some_iff.1 hx
  obtain ⟨ad', hA, hc⟩ := h.elem hf hi (by omega)
  cases hA
  exact hc
def noNums : List UInt64 := List.replicate 9 0
def noReps' : List RepV := List.replicate 9 ⟨0, 0, ⟨[], none, 0⟩⟩
theorem rep9 {α : Type} (a : α) (i : Nat) (h : i < 8) : (List.replicate 9 a)[i + 1]? = some a := by rw [List.getElem?_replicate, if_pos (by omega)]
theorem encBook_len' {ps : List PgP} (h : ps.length = 8) (hq : ∀ q ∈ ps, okReply q.rep) : (encBook ps).length ≤ 10000 := by
  unfold encBook
  have h1 := encPages_len ps 0 hq
  rw [h] at h1
  simp only [List.length_cons]
  omega
theorem Put_A {w : World} {g h : Nat} {F : Nat → Prop} {pls : List PgP} (ha : PlA w g h F pls) : Calls Try.prog 47 #[.pointer (some ⟨g, 0, none⟩)] w (BPut (encBook pls) w) := by
  obtain ⟨ps, hb, hp, _⟩ := ha.is
  rw [← hp]
  exact SPut g ps w hb
theorem Put_B {w : World} {g h : Nat} {F : Nat → Prop} {pls : List PgP} (ha : PlB w h g F pls) (hl : pls.length = 8) : Calls Try.prog 48 #[.pointer (some ⟨h, 0, none⟩)] w (RBPut (encBook pls) w) := by
  obtain ⟨ns, rs, hb, hp, _⟩ := ha.is
  exact RPut25 h ns rs pls w hb hl hp
set_option maxRecDepth 20000 in
set_option maxHeartbeats 8000000 in
theorem play_some (ad : Addr) (c : Nat) (l : List A25) (w : World) (h : Acts25 w ⟨l, some ad, c⟩) :
    Calls Try.prog 6 #[.slice (some ad) l.length c] w fun e w' => e = .returned (.bool true) ∧ Nw w w' := by
  obtain ⟨i0, hi0, hz0, hz1, hz2⟩ := info_parts info_got
  have HA := Lib.hid h
  clear h
  go_enter Try.func6, Try.ntmps6
  go_wp2_with fail
  go_must (refine (great25_calls ⟨l, some ad, c⟩ w HA.out).mono ?_)
  rintro e w1 ⟨b, rfl, rfl, hb⟩
  cases b
  rotate_left
  focus
    go_wp2_with fail
    go_must (refine (lives25 _).mono ?_)
    rintro e w2 ⟨rfl, hk⟩
    go_wp2_with fail
    go_ret
    exact ⟨rfl, hk⟩
  focus
    have HSm := Lib.hid (hb rfl)
    clear hb
    go_wp2_with fail
    go_must (refine (SNew _).mono ?_)
    rintro e w2 ⟨g, rfl, hg, hb2, hk2⟩
    have HB2 := Lib.hid hb2
    have HK2 := Lib.hid hk2
    clear hb2 hk2
    go_wp2_with fail
    have HA0 : Hid (PlA (w2.alloc (.cells (rbCells noNums noReps') 88)) g w2.heap.size (fun _ => False) noPls) := Lib.hid ⟨noPages, HB2.out.nw ((Kp.refl _ w2).alloc _), rfl, fun i p hp hl => by
      obtain rfl : p = Pg.none := List.eq_of_mem_replicate (List.mem_of_getElem? hp)
      exact absurd hl (by simp [Pg.none])⟩
    have HB0 : Hid (PlB (w2.alloc (.cells (rbCells noNums noReps') 88)) w2.heap.size g (fun _ => False) noPls) := Lib.hid ⟨noNums, noReps', ⟨Blk.new _ _ _, rfl, rfl, fun i r hr => by
      obtain rfl := List.eq_of_mem_replicate (List.mem_of_getElem? hr)
      exact ⟨Rd.nil _ _, Nat.zero_le _, fun h => absurd h (by simp)⟩⟩, fun i p hp => by
        obtain rfl : p = PgP.none := List.eq_of_mem_replicate (List.mem_of_getElem? hp)
        have hi : i < 8 := by have := (List.getElem?_eq_some_iff.1 hp).1; simpa [noPls] using this
        exact ⟨rep9 _ i hi, ⟨0, 0, ⟨[], none, 0⟩⟩, rep9 _ i hi, rfl⟩, fun i r hr hl => by
      obtain rfl := List.eq_of_mem_replicate (List.mem_of_getElem? hr)
      exact absurd hl (by simp)⟩
    have HN0 : Hid (Nw w1 (w2.alloc (.cells (rbCells noNums noReps') 88))) := Lib.hid (HK2.out.alloc _)
    have hsz2 := HK2.out.size
    have hgl2 := HB2.out.blk.lt
    generalize hn2 : w2.heap.size = h at *
    have HHn := Lib.hid hn2
    clear hn2
    go_loopw [5] (fun i wr => ∃ (q : Nat) (pls : List PgP), i = .int .i64 q ∧ q ≤ l.length ∧ PlA wr g h (fun _ => False) pls ∧ PlB wr h g (fun _ => False) pls ∧ Nw w1 wr) (fun i _ => l.length - (intOf i).toNat)
    case atStart => exact ⟨0, noPls, rfl, by omega, HA0.out, HB0.out, HN0.out⟩
    case round =>
      obtain ⟨q, pls, rfl, hq, hpa, hpb, hnw⟩ := hrel
      have HPA := Lib.hid hpa
      have HPB := Lib.hid hpb
      have HN := Lib.hid hnw
      clear hpa hpb hnw HA0 HB0 HN0
      obtain ⟨w0, hw0⟩ : ∃ w0, w0 = wr := ⟨_, rfl⟩
      subst hw0
      by_cases hlt : q < l.length
      · obtain ⟨x, hx⟩ : ∃ x, l[q]? = some x := ⟨_, List.getElem?_eq_getElem hlt⟩
        have HX := Lib.hid hx
        have HLt := Lib.hid hlt
        have HC : Hid (∀ j v, x.cells[j]? = some v → w0.cell? ((ad.add (q * 6)).add j) = some v) := Lib.hid (fun j v hv => HN.out.cell (Sl_cells' (f := A25.cells) HA.out.rd (fun _ => rfl) hx j v hv))
        have hd1 : decide ((q : Int) < (l.length : Int)) = true := decide_eq_true (by omega)
        have hbN : Blk (w0.alloc (.cells x.cells.toArray 90)) w0.heap.size 90 x.cells.toArray := Blk.new _ _ _
        have HBN := Lib.hid hbN
        have hxn : (w0.alloc (.cells x.cells.toArray 90)).cell? ⟨w0.heap.size, 0, none⟩ = some (.bool x.note) := hbN.cell 0
        have HPA1 := Lib.hid (HPA.out.nw ((Kp.refl _ w0).alloc (.cells x.cells.toArray 90)))
        have HPB1 := Lib.hid (HPB.out.nw ((Kp.refl _ w0).alloc (.cells x.cells.toArray 90)))
        have HN1 : Hid (Nw w1 (w0.alloc (.cells x.cells.toArray 90))) := Lib.hid (HN.out.alloc _)
        have hgw := HPA.out.lt
        have hhw := HPB.out.lt
        have HXl : Hid (x.r.got.l.length ≤ 50) := Lib.hid (HSm.out.2 q x hx)
        clear hx hbN
        have hx1 : (w0.alloc (.cells x.cells.toArray 90)).cell? ⟨w0.heap.size, 1, none⟩ = some (.int .u8 x.cl.toNat) := HBN.out.cell 1
        go_upto_if 37 with (first
          | ((with_reducible refine stopAt (.load 90 (.tmp 34)) rfl ?_); go_must (refine unStop (wpList_ldP rfl 90 (.tmp 34) rfl isS_act25' _ rfl x.cells HC.out rfl ?_)))
          | ((with_reducible refine stopAt (.store 90 (.tmp 6) (.tmp 35)) rfl ?_); go_must (refine unStop (wpList_stN rfl 90 (.tmp 6) (.tmp 35) rfl x.cells isS_act25' rfl rfl rfl rfl rfl (by simp [A25.cells, Value.oneCell']) ?_))))
        go_cut [7, 8] (fun s7 s8 wx => ∃ pls2, PlA wx g h (fun _ => False) pls2 ∧ PlB wx h g (fun _ => False) pls2 ∧ Nw w1 wx ∧ Blk wx w0.heap.size 90 x.cells.toArray)
        case first =>
          cases hnote : x.note
          focus
            go_wp2_with fail
            go_meet
            exact ⟨pls, HPA1.out, HPB1.out, HN1.out, HBN.out⟩
          focus
            have HRd : Hid (RdG ((w0.alloc (.cells x.cells.toArray 90)).alloc (.cells x.r.cells.toArray 34)) x.r.got.A x.r.got.c x.r.got.l) := Lib.hid ((HA.out.each q x HX.out).rd.nw (HN1.out.alloc _))
            have HRb : Hid (Blk ((w0.alloc (.cells x.cells.toArray 90)).alloc (.cells x.r.cells.toArray 34)) (w0.heap.size + 1) 34 x.r.cells.toArray) := Lib.hid (Blk.newAt (by simp) _ _)
            have HBx : Hid (Blk ((w0.alloc (.cells x.cells.toArray 90)).alloc (.cells x.r.cells.toArray 34)) w0.heap.size 90 x.cells.toArray) := Lib.hid (HBN.out.alloc _)
            have hx5 : ((w0.alloc (.cells x.cells.toArray 90)).alloc (.cells x.r.cells.toArray 34)).cell? ⟨w0.heap.size, 5, none⟩ = some (.slice x.r.got.A x.r.got.l.length x.r.got.c) := HBx.out.cell 5
            have HN2 : Hid (Nw w1 ((w0.alloc (.cells x.cells.toArray 90)).alloc (.cells x.r.cells.toArray 34))) := Lib.hid (HN1.out.alloc _)
            have HPA2 := Lib.hid (HPA1.out.nw ((Kp.refl _ _).alloc (.cells x.r.cells.toArray 34)))
            have HPB2 := Lib.hid (HPB1.out.nw ((Kp.refl _ _).alloc (.cells x.r.cells.toArray 34)))
            go_wp2_with (first
              | ((with_reducible refine stopAt (.load 34 (.tmp 38)) rfl ?_); go_must (refine unStop (wpList_ldS rfl 34 (.tmp 38) rfl sS_reply w0.heap.size 3 rfl HBN.out x.r.cells rfl rfl ?_)))
              | ((with_reducible refine stopAt (.store 34 (.tmp 7) (.tmp 39)) rfl ?_); go_must (refine unStop (wpList_stN rfl 34 (.tmp 7) (.tmp 39) rfl x.r.cells sS_reply rfl rfl rfl (by simp) rfl (by simp [RepV.cells, Value.oneCell']) ?_)))
              | (at_builtin; go_must (refine wpList_append_ _ rfl (.const (.slice none 0 0)) (.tmp 42) 32 rfl (w0.heap.size + 2) 93 i0 _ 2 16 Try.underlying32 hi0 hz0 hz1 hz2 rfl none 0 0 [] rfl (Own.nil _ _ _ 2) x.r.got.A x.r.got.l.length x.r.got.c (x.r.got.l.flatMap Got.cells) rfl HRd.out (got_one _) (Fits.of (by have := HXl.out; unfold big; omega) (by omega)) (by simp) ?_); intro A2 c2 w6 ho6 hk6 hb6; have HO6 := Lib.hid ho6; have HK6 : Hid (Nw ((w0.alloc (.cells x.cells.toArray 90)).alloc (.cells x.r.cells.toArray 34)) w6) := Lib.hid (hk6.more (fun k hk e => by simp [blkOf] at e)); have hbR := HRb.out.nw HK6.out; have hf2 := hbR.free 2; have hr2 : w6.cell? ⟨w0.heap.size + 1, 2, none⟩ = some (.slice x.r.got.A x.r.got.l.length x.r.got.c) := hbR.cell 2; have HBR := Lib.hid hbR; clear ho6 hk6 hb6 hbR))
            have hN7 : Nw w0 (w6.setCell ⟨w0.heap.size + 1, 2, none⟩ (.slice A2 x.r.got.l.length c2)) := ((((Kp.refl _ w0).alloc _).alloc _).nw HK6.out).setNew (p := ⟨w0.heap.size + 1, 2, none⟩) (Nat.le_succ _) _
            have hb7 := (HBx.out.nw HK6.out).far (p := ⟨w0.heap.size + 1, 2, none⟩) (by show w0.heap.size ≠ w0.heap.size + 1; omega) (.slice A2 x.r.got.l.length c2)
            have hr7 := HBR.out.set_ 2 (.slice A2 x.r.got.l.length c2)
            have ho7 : OwnG (w6.setCell ⟨w0.heap.size + 1, 2, none⟩ (.slice A2 x.r.got.l.length c2)) (w0.heap.size + 2) A2 c2 x.r.got.l := by
              have h1 := HO6.out
              rw [Nat.zero_add] at h1
              exact h1.setCell (p := ⟨w0.heap.size + 1, 2, none⟩) (h1.fresh (by show w0.heap.size + 1 < _; omega)) _
            have hpa7 : PlA (w6.setCell ⟨w0.heap.size + 1, 2, none⟩ (.slice A2 x.r.got.l.length c2)) g h (fun j => blkOf A2 = some j) pls := (HPA.out.avoid (fun k hk e => by have := (ho7.lt k e).1; omega)).nw hN7
            have hpb7 : PlB (w6.setCell ⟨w0.heap.size + 1, 2, none⟩ (.slice A2 x.r.got.l.length c2)) h g (fun j => blkOf A2 = some j) pls := (HPB.out.avoid (fun k hk e => by have := (ho7.lt k e).1; omega)).nw hN7
            clear hf2 hr2 hx5
            generalize w6.setCell ⟨w0.heap.size + 1, 2, none⟩ (.slice A2 x.r.got.l.length c2) = w7 at *
            have y1 : w7.cell? ⟨w0.heap.size, 1, none⟩ = some (.int .u8 x.cl.toNat) := hb7.cell 1
            have y2 : w7.cell? ⟨w0.heap.size, 2, none⟩ = some (.int .u64 x.num.toNat) := hb7.cell 2
            have y3 : w7.cell? ⟨w0.heap.size, 3, none⟩ = some (.int .i64 x.r.e.toInt) := hb7.cell 3
            have y4 : w7.cell? ⟨w0.heap.size, 4, none⟩ = some (.int .i64 x.r.at_.toInt) := hb7.cell 4
            have y5 : w7.cell? ⟨w0.heap.size, 5, none⟩ = some (.slice x.r.got.A x.r.got.l.length x.r.got.c) := hb7.cell 5
            have v0 : w7.cell? ⟨w0.heap.size + 1, 0, none⟩ = some (.int .i64 x.r.e.toInt) := hr7.cell 0
            have v1 : w7.cell? ⟨w0.heap.size + 1, 1, none⟩ = some (.int .i64 x.r.at_.toInt) := hr7.cell 1
            have v2 : w7.cell? ⟨w0.heap.size + 1, 2, none⟩ = some (.slice A2 x.r.got.l.length c2) := hr7.cell 2
            have HO7 := Lib.hid ho7
            have HB7 := Lib.hid hb7
            have HR7 := Lib.hid hr7
            have HN7 := Lib.hid hN7
            have HPA7 := Lib.hid hpa7
            have HPB7 := Lib.hid hpb7
            obtain ⟨code, hcode⟩ : ∃ code, code = nCode pls x.cl x.num x.r.got.l.length := ⟨_, rfl⟩
            obtain ⟨pls2, hpls2⟩ : ∃ pls2, pls2 = nPls pls x.cl x.num ⟨x.r.e, x.r.at_, x.r.got.l⟩ := ⟨_, rfl⟩
            have HS : Hid (∀ w', Kp (fun j => j = g ∨ j = h) w7 w' → (Kp (fun j => j = g ∨ j = h) w7 w' ∧ w'.cell? ⟨w0.heap.size, 1, none⟩ = some (.int .u8 x.cl.toNat) ∧ w'.cell? ⟨w0.heap.size, 2, none⟩ = some (.int .u64 x.num.toNat) ∧ w'.cell? ⟨w0.heap.size, 3, none⟩ = some (.int .i64 x.r.e.toInt) ∧ w'.cell? ⟨w0.heap.size, 4, none⟩ = some (.int .i64 x.r.at_.toInt) ∧ w'.cell? ⟨w0.heap.size, 5, none⟩ = some (.slice x.r.got.A x.r.got.l.length x.r.got.c) ∧ w'.cell? ⟨w0.heap.size + 1, 0, none⟩ = some (.int .i64 x.r.e.toInt) ∧ w'.cell? ⟨w0.heap.size + 1, 1, none⟩ = some (.int .i64 x.r.at_.toInt) ∧ w'.cell? ⟨w0.heap.size + 1, 2, none⟩ = some (.slice A2 x.r.got.l.length c2))) := Lib.hid (fun w' hk => by
              have n0 : ¬ (w0.heap.size = g ∨ w0.heap.size = h) := by omega
              have n1 : ¬ (w0.heap.size + 1 = g ∨ w0.heap.size + 1 = h) := by omega
              exact ⟨hk, hk.cell y1 n0, hk.cell y2 n0, hk.cell y3 n0, hk.cell y4 n0, hk.cell y5 n0, hk.cell v0 n1, hk.cell v1 n1, hk.cell v2 n1⟩)
            have HNoteA : Hid (Calls Try.prog 39 #[.pointer (some ⟨g, 0, none⟩), .int .u8 x.cl.toNat, .int .u64 x.num.toNat, .agg #[.int .i64 x.r.e.toInt, .int .i64 x.r.at_.toInt, .slice A2 x.r.got.l.length c2]] w7.drew (fun e w' => e = .returned (.int .i64 code) ∧ PlA w' g h (fun j => blkOf A2 = some j) pls2 ∧ Kp (fun j => j = g) w7.drew w')) := Lib.hid (by
              rw [hcode, hpls2]
              exact Note_A (HPA7.out.nw (Kp.refl _ w7).drew) HPB7.out.lt (fun k e => (HO7.out.lt k e).2) x.cl x.num x.r.e x.r.at_ A2 c2 x.r.got.l HO7.out.rd.drew)
            have HNoteB : Hid (∀ w8, Kp (fun j => j = g) w7.drew w8 → Calls Try.prog 40 #[.pointer (some ⟨h, 0, none⟩), .int .u8 x.cl.toNat, .int .u64 x.num.toNat, .agg #[.int .i64 x.r.e.toInt, .int .i64 x.r.at_.toInt, .slice x.r.got.A x.r.got.l.length x.r.got.c]] w8 (fun e w' => e = .returned (.int .i64 code) ∧ PlB w' h g (fun j => blkOf A2 = some j) pls2 ∧ Kp (fun j => j = h) w8 w')) := Lib.hid (fun w8 hk8 => by
              rw [hcode, hpls2]
              have hrx := (HA.out.each q x HX.out).rd
              refine Note_B ((HPB7.out.nw (Kp.refl _ w7).drew).kp hk8 (fun k e hk => ⟨by omega, .inl e⟩)) HPA.out.len (Nat.lt_of_lt_of_le HPA7.out.lt hk8.size) (fun k e => Nat.lt_of_lt_of_le (HO7.out.lt k e).2 hk8.size) x.cl x.num x.r.e x.r.at_ x.r.got.A x.r.got.c x.r.got.l (hrx.nw ((HN.out.trans HN7.out (fun _ _ e => e)).trans ((Kp.refl (fun j => j = g) w7).drew.trans hk8 (fun _ _ e => e)) (fun k hk e => by omega))) (fun hl e => ?_)
              obtain ⟨k, hk, hkl⟩ := hrx.blk_lt hl (by decide)
              rw [hk] at e; injection e; omega)
            have HSame : Hid (∀ w9, Kp (fun j => j = g ∨ j = h) w7 w9 → Calls Try.prog 35 #[.agg #[.int .i64 x.r.e.toInt, .int .i64 x.r.at_.toInt, .slice A2 x.r.got.l.length c2], .agg #[.int .i64 x.r.e.toInt, .int .i64 x.r.at_.toInt, .slice x.r.got.A x.r.got.l.length x.r.got.c]] w9 (fun e w' => e = .returned (.bool true) ∧ Nw w9 w')) := Lib.hid (fun w9 hk9 => by
              have hrx := (HA.out.each q x HX.out).rd
              exact SameReply_ _ _ _ _ _ _ _ _ (HO7.out.rd.kp hk9 (fun hl k hk e => by have := (HO7.out.lt k hk).1; omega)) (hrx.nw ((HN.out.trans HN7.out (fun _ _ e => e)).trans hk9 (fun k hk e => by omega))))
            have hneq : ((code : Int) != (code : Int)) = false := by simp
            replace hcode := Lib.hid hcode
            replace hpls2 := Lib.hid hpls2
            clear ho7 hb7 hr7 hN7 hpa7 hpb7
            go_region_held3 (fun w' => Kp (fun j => j = g ∨ j = h) w7 w' ∧ w'.cell? ⟨w0.heap.size, 1, none⟩ = some (.int .u8 x.cl.toNat) ∧ w'.cell? ⟨w0.heap.size, 2, none⟩ = some (.int .u64 x.num.toNat) ∧ w'.cell? ⟨w0.heap.size, 3, none⟩ = some (.int .i64 x.r.e.toInt) ∧ w'.cell? ⟨w0.heap.size, 4, none⟩ = some (.int .i64 x.r.at_.toInt) ∧ w'.cell? ⟨w0.heap.size, 5, none⟩ = some (.slice x.r.got.A x.r.got.l.length x.r.got.c) ∧ w'.cell? ⟨w0.heap.size + 1, 0, none⟩ = some (.int .i64 x.r.e.toInt) ∧ w'.cell? ⟨w0.heap.size + 1, 1, none⟩ = some (.int .i64 x.r.at_.toInt) ∧ w'.cell? ⟨w0.heap.size + 1, 2, none⟩ = some (.slice A2 x.r.got.l.length c2)) (first | exact HS.out _ hs10 | exact HS.out _ hs9 | exact HS.out _ hs8 | exact HS.out _ (Kp.drew (Kp.refl _ _)))
              (first
                | (go_at_call 35; have hy := HSame.out _ hs9; refine Calls.mono hy ?_; intro e w10 hn; clear hy; obtain ⟨rfl, hk10⟩ := hn; have hs10 := hs9.nw hk10; dsimp only)
                | (go_at_call 40; have hy := HNoteB.out _ hk8; refine Calls.mono hy ?_; intro e w9 hn; clear hy; obtain ⟨rfl, hpb9, hk9⟩ := hn; have hs9 : Kp (fun j => j = g ∨ j = h) w7 w9 := hs8.trans hk9 (fun _ _ e => .inr e); dsimp only)
                | (go_at_call 39; have hy := HNoteA.out; refine Calls.mono hy ?_; intro e w8 hn; clear hy; obtain ⟨rfl, hpa8, hk8⟩ := hn; have hs8 : Kp (fun j => j = g ∨ j = h) w7 w8 := (Kp.refl _ w7).drew.trans hk8 (fun _ _ e => .inl e); dsimp only))
            have hgh := hhw
            have HPA10 := Lib.hid (hpa8.kp (hk9.nw hk10) (fun k e hk => ⟨by omega, .inl e⟩))
            have HPB10 := Lib.hid (hpb9.nw hk10)
            have HB10 := Lib.hid (HB7.out.kp hs10 (by omega))
            have HR10 := Lib.hid (HR7.out.kp hs10 (by omega))
            have HO10 := Lib.hid (HO7.out.kp hs10 (fun k hk e => by have := (HO7.out.lt k hk).1; omega))
            have HN10 : Hid (Nw w1 w10) := Lib.hid ((HN.out.trans HN7.out (fun _ _ e => e)).trans hs10 (fun k hk e => by omega))
            rename_i hHeld
            clear hHeld HS HNoteA HNoteB HSame hpa8 hk8 hpb9 hk9 hk10 hs8 hs9 hs10 HPA7 HPB7 HB7 HR7 HO7 HN7
            go_wp2_with fail
            go_loopw [8] (fun kv wk => ∃ k : Nat, kv = .int .i64 k ∧ k ≤ x.r.got.l.length ∧ Kp (fun j => blkOf A2 = some j) w10 wk ∧ (0 < x.r.got.l.length → ∃ gr cs, A2 = some ⟨gr, 0, none⟩ ∧ Blk wk gr 93 cs ∧ x.r.got.l.length * 2 ≤ cs.size ∧ ∀ i, i < x.r.got.l.length → ∃ v, cs[i * 2]? = some (.int .i64 v))) (fun kv _ => x.r.got.l.length - (intOf kv).toNat)
            case atStart =>
              refine ⟨0, rfl, by omega, Kp.refl _ _, fun hl => ?_⟩
              obtain ⟨ad2, hA2, hc2⟩ := HO10.out.rd.at_ hl
              rcases HO10.out.at_ with ⟨hA3, _⟩ | ⟨gr, cur, hA3, _, hbk, hsz, _⟩
              · rw [hA2] at hA3; cases hA3
              · refine ⟨gr, cur, hA3, hbk, Nat.le_trans (Nat.mul_le_mul_right _ HO10.out.cap) hsz, fun i hi => ?_⟩
                rw [hA2] at hA3
                injection hA3 with hA3
                subst hA3
                have h1 := hc2 (i * 2 + 0) (iv (x.r.got.l[i]).x) (by rw [flat_at Got.cells 2 (fun _ => rfl) x.r.got.l i 0 _ (List.getElem?_eq_getElem hi) (by decide)]; rfl)
                rw [add_lit_, hbk.cell] at h1
                exact ⟨_, h1⟩
            obtain ⟨k, rfl, hkl, hk11, hin⟩ := hrel
            have HK11 := Lib.hid hk11
            have HIn := Lib.hid hin
            have hfar : ∀ j, j < w0.heap.size + 2 → blkOf A2 ≠ some j := fun j hj => HO10.out.fresh hj
            have u2 : wr.cell? ⟨w0.heap.size + 1, 2, none⟩ = some (.slice A2 x.r.got.l.length c2) := hk11.cell (HR10.out.cell 2) (hfar _ (by show w0.heap.size + 1 < _; omega))
            have ub := HB10.out.kp hk11 (hfar _ (by omega))
            have UB := Lib.hid ub
            clear hk11 hin
            by_cases hkt : k < x.r.got.l.length
            focus
              obtain ⟨gr, cs, rfl, hbk, hsz, hin⟩ := HIn.out (by omega)
              obtain ⟨v, hv⟩ := hin k hkt
              have s0 : wr.cell? ⟨gr, k * 2, none⟩ = some (.int .i64 v) := (hbk.cell _).trans hv
              have s1 : wr.frozen? ⟨gr, k * 2, none⟩ = false := hbk.free _
              have hd2 : decide ((k : Int) < (x.r.got.l.length : Int)) = true := decide_eq_true (by omega)
              have HBk := Lib.hid hbk
              have HI := Lib.hid hin
              have HSz := Lib.hid hsz
              have hx50 : (x.r.got.l.length : Int) ≤ 50 := by have := HXl.out; omega
              clear hbk hin hsz hv hfar ub
              go_wp2_with fail
              refine ⟨⟨k + 1, by go_num, by omega, HK11.out.setCell (p := ⟨gr, k * 2, none⟩) (fun _ => rfl) _, fun _ => ⟨gr, _, rfl, HBk.out.set_ (k * 2) _, by rw [Array.size_setIfInBounds]; exact HSz.out, fun i hi => ?_⟩⟩, by simp [intOf]; omega⟩
              rw [Array.getElem?_setIfInBounds]
              split
              · rw [if_pos (by have := HSz.out; omega)]; exact ⟨_, rfl⟩
              · exact HI.out i hi
            have hd2 : decide ((k : Int) < (x.r.got.l.length : Int)) = false := decide_eq_false (by omega)
            have hd3 : decide (k < x.r.got.l.length) = false := decide_eq_false hkt
            have TA : Hid (PlA wr g h (fun _ => False) pls2) := Lib.hid ((HPA10.out.kp HK11.out (fun k e hk => ⟨fun e2 => by subst e2; exact hfar _ (by omega) e, .inr e⟩)).avoid (fun _ _ e => e.elim))
            have TD : Hid (PlB wr h g (fun _ => False) pls2) := Lib.hid ((HPB10.out.kp HK11.out (fun k e hk => ⟨fun e2 => by subst e2; exact hfar _ (by omega) e, .inr e⟩)).avoid (fun _ _ e => e.elim))
            have TN : Hid (Nw w1 wr) := Lib.hid (HN10.out.trans HK11.out (fun k hk e => hfar _ (by have := HN.out.size; omega) e))
            clear hfar ub
            go_wp2_with fail
            go_meet
            exact ⟨pls2, TA.out, TD.out, TN.out, UB.out⟩
        case rest =>
          obtain ⟨pls2, ta, td, tn, tb⟩ := hcut
          have TA := Lib.hid ta
          have TD := Lib.hid td
          have TN := Lib.hid tn
          have TB := Lib.hid tb
          have q1 : wc.cell? ⟨w0.heap.size, 1, none⟩ = some (.int .u8 x.cl.toNat) := tb.cell 1
          have q2 : wc.cell? ⟨w0.heap.size, 2, none⟩ = some (.int .u64 x.num.toNat) := tb.cell 2
          have hN1 : w0.heap.size < wc.heap.size := tb.lt
          have hgW := ta.lt
          have hhW := td.lt
          clear ta td tn tb hxn hx1 HPA HPB HN HPA1 HPB1 HN1 HBN
          obtain ⟨W, hW⟩ : ∃ W, W = wc := ⟨_, rfl⟩
          subst hW
          have HIs := Lib.hid (Is25 x.cl W)
          go_upto_if 86 with (go_at_call 41; go_must (refine HIs.out.mono ?_); rintro e w3 ⟨rfl, hw3⟩; subst hw3)
          go_cut [9] (fun s9 wx => s9 = .int .u64 (lastOf pls2 x.cl) ∧ Nw w3 wx)
          case first =>
            cases hic : isCl x.cl
            focus
              go_wp2_with fail
              go_meet
              exact ⟨by unfold lastOf; rw [hic]; rfl, Kp.refl _ _⟩
            focus
              obtain ⟨i8, hi8, hci⟩ := cl_ix hic
              obtain ⟨p, hp⟩ : ∃ p, pls2[i8]? = some p := ⟨_, List.getElem?_eq_getElem (by rw [TA.out.len]; exact hi8)⟩
              have hlast : lastOf pls2 x.cl = p.num.toNat := by unfold lastOf; rw [if_pos hic, hci, Nat.add_sub_cancel, hp]
              have z0 : w3.cell? ⟨h, x.cl.toNat, none⟩ = some (.int .u64 p.num.toNat) := by
                obtain ⟨ns, rs, hb, hpp, _⟩ := TD.out.is
                rw [hci]
                exact hb.num (hpp i8 p hp).1
              have hb0 : (0 : Int) ≤ (x.cl.toNat : Int) := by omega
              have hb9 : (x.cl.toNat : Int) < 9 := by omega
              have HTC := Lib.hid hlast
              clear hp hlast hci
              go_wp2_with fail
              go_quiet (fail)
              go_wp2_with fail
              go_meet
              exact ⟨by rw [HTC.out], (Kp.refl _ w3).drewN nq⟩
          case rest =>
          obtain ⟨rfl, hk34⟩ := hcut
          obtain ⟨wa, hwa⟩ : ∃ wa, wa = wc := ⟨_, rfl⟩
          subst hwa
          have HLast : Hid (Calls Try.prog 42 #[.pointer (some ⟨g, 0, none⟩), .int .u8 x.cl.toNat] wa fun e w2 => e = .returned (.int .u64 (lastOf pls2 x.cl)) ∧ w2 = wa) := Lib.hid (Last_A (TA.out.nw hk34) x.cl)
          have r1 := hk34.cell q1
          have r2 := hk34.cell q2
          have hneq : ((lastOf pls2 x.cl : Int) != (lastOf pls2 x.cl : Int)) = false := by simp
          clear q1 q2
          go_wp2_with (go_at_call 42; go_must (refine HLast.out.mono ?_); rintro e w4 ⟨rfl, hw4⟩; subst hw4)
          clear HLast hneq
          have TA4 := Lib.hid (TA.out.nw hk34)
          have TD4 := Lib.hid (TD.out.nw hk34)
          have TN4 := Lib.hid (TN.out.nw hk34)
          have TB4 := Lib.hid (TB.out.nw hk34)
          have hN4 : w0.heap.size < w4.heap.size := TB4.out.lt
          clear hk34
          obtain ⟨⟨⟨ae, aat, agl⟩, ab, ak⟩, ha⟩ : ∃ a, a = askOf pls2 x.cl x.num := ⟨_, rfl⟩
          have hag : agl.length ≤ 8 := by
            have h1 := askOf_got (fun q hq => TA4.out.rep q hq) x.cl x.num
            rw [← ha] at h1
            exact h1
          have HAskA : Hid (∀ w', Nw w4 w' → Calls Try.prog 43 #[.pointer (some ⟨g, 0, none⟩), .int .u8 x.cl.toNat, .int .u64 x.num.toNat] w' (AskA (⟨ae, aat, agl⟩, ab, ak) w')) := Lib.hid (fun w' hk => by rw [ha]; exact Ask_A (TA4.out.nw hk) x.cl x.num)
          have HAskB : Hid (∀ w', Nw w4 w' → Calls Try.prog 44 #[.pointer (some ⟨h, 0, none⟩), .int .u8 x.cl.toNat, .int .u64 x.num.toNat] w' (AskB (⟨ae, aat, agl⟩, ab, ak) w')) := Lib.hid (fun w' hk => by rw [ha]; exact Ask_B (TD4.out.nw hk) TA4.out.len x.cl x.num)
          have HAg := Lib.hid hag
          clear ha hag
          go_wp2_with fail
          go_must (refine (HAskA.out _ (Kp.refl _ _)).mono ?_)
          rintro e w5 ⟨A5, c5, rfl, ho5, hk5⟩
          dsimp only at ho5 ⊢
          have HO5 := Lib.hid ho5
          have HK5 := Lib.hid hk5
          have s1 := hk5.cell r1
          have s2 := hk5.cell r2
          have hN5 : w0.heap.size < w5.heap.size := Nat.lt_of_lt_of_le hN4 hk5.size
          clear ho5 hk5 r1 r2
          go_wp2_with ((with_reducible refine stopAt (.store 34 (.tmp 10) (.tmp 107)) rfl ?_); go_must (refine unStop (wpList_stN rfl 34 (.tmp 10) (.tmp 107) rfl [.int .i64 ae.toInt, .int .i64 aat.toInt, .slice A5 agl.length c5] sS_reply rfl rfl rfl rfl rfl (by simp [Value.oneCell']) ?_)))
          have HK5' : Hid (Nw w4 (w5.alloc (.cells #[.int .i64 ae.toInt, .int .i64 aat.toInt, .slice A5 agl.length c5] 34))) := Lib.hid (HK5.out.alloc _)
          go_must (refine (HAskB.out _ HK5'.out).mono ?_)
          rintro e w6 ⟨A6, c6, rfl, hr6, hk6⟩
          dsimp only at hr6 ⊢
          have HK6 : Hid (Nw w5 w6) := Lib.hid (((Kp.refl _ w5).alloc _).nw hk6)
          have HB6 : Hid (Blk w6 w5.heap.size 34 #[.int .i64 ae.toInt, .int .i64 aat.toInt, .slice A5 agl.length c5]) := Lib.hid ((Blk.new _ _ _).nw hk6)
          have HR6 := Lib.hid hr6
          have s1' := HK6.out.cell s1
          have s2' := HK6.out.cell s2
          have hN6 : w0.heap.size < w6.heap.size := Nat.lt_of_lt_of_le hN5 HK6.out.size
          clear hr6 hk6 HK5' HAskB s1 s2
          go_wp2_with ((with_reducible refine stopAt (.store 34 (.tmp 13) (.tmp 117)) rfl ?_); go_must (refine unStop (wpList_stN rfl 34 (.tmp 13) (.tmp 117) rfl [.int .i64 ae.toInt, .int .i64 aat.toInt, .slice A6 agl.length c6] sS_reply rfl rfl rfl rfl rfl (by simp [Value.oneCell']) ?_)))
          have HK6' : Hid (Nw w4 (w6.alloc (.cells #[.int .i64 ae.toInt, .int .i64 aat.toInt, .slice A6 agl.length c6] 34))) := Lib.hid ((HK5.out.nw HK6.out).alloc _)
          go_must (refine (HAskA.out _ HK6'.out).mono ?_)
          rintro e w7 ⟨A7, c7, rfl, ho7, hk7⟩
          dsimp only at ho7 ⊢
          have HK7 : Hid (Nw w6 w7) := Lib.hid (((Kp.refl _ w6).alloc _).nw hk7)
          have HB7 : Hid (Blk w7 w6.heap.size 34 #[.int .i64 ae.toInt, .int .i64 aat.toInt, .slice A6 agl.length c6]) := Lib.hid ((Blk.new _ _ _).nw hk7)
          have HO7 : Hid (OwnG w7 (w6.heap.size + 1) A7 c7 agl) := Lib.hid (ho7.low (by simp))
          have hN7 : w0.heap.size < w7.heap.size := Nat.lt_of_lt_of_le hN6 HK7.out.size
          clear ho7 hk7 HK6' HAskA s1' s2'
          have hbr8 : Blk ((w7.alloc (.cells #[.int .i64 ae.toInt, .int .i64 aat.toInt, .slice A7 agl.length c7] 34)).alloc (.cells #[.slice none 0 0] 100)) w5.heap.size 34 #[.int .i64 ae.toInt, .int .i64 aat.toInt, .slice A5 agl.length c5] := ((HB6.out.nw HK7.out).alloc _).alloc _
          have hbq8 : Blk ((w7.alloc (.cells #[.int .i64 ae.toInt, .int .i64 aat.toInt, .slice A7 agl.length c7] 34)).alloc (.cells #[.slice none 0 0] 100)) w7.heap.size 34 #[.int .i64 ae.toInt, .int .i64 aat.toInt, .slice A7 agl.length c7] := (Blk.new _ _ _).alloc _
          have hbo8 : Bo ((w7.alloc (.cells #[.int .i64 ae.toInt, .int .i64 aat.toInt, .slice A7 agl.length c7] 34)).alloc (.cells #[.slice none 0 0] 100)) (w7.heap.size + 1) (w7.heap.size + 1) [] := ⟨none, 0, Blk.newAt (by simp) _ _, Own.nil _ _ _ _, by simp [blkOf]⟩
          have hsz8 : ((w7.alloc (.cells #[.int .i64 ae.toInt, .int .i64 aat.toInt, .slice A7 agl.length c7] 34)).alloc (.cells #[.slice none 0 0] 100)).heap.size = w7.heap.size + 2 := by simp
          have hk8 : Nw w7 ((w7.alloc (.cells #[.int .i64 ae.toInt, .int .i64 aat.toInt, .slice A7 agl.length c7] 34)).alloc (.cells #[.slice none 0 0] 100)) := ((Kp.refl _ w7).alloc _).alloc _
          have t0 : ((w7.alloc (.cells #[.int .i64 ae.toInt, .int .i64 aat.toInt, .slice A7 agl.length c7] 34)).alloc (.cells #[.slice none 0 0] 100)).cell? ⟨w5.heap.size, 2, none⟩ = some (.slice A5 agl.length c5) := hbr8.cell 2
          have HBr8 := Lib.hid hbr8
          have HBq8 := Lib.hid hbq8
          have HBo8 := Lib.hid hbo8
          have HSz8 := Lib.hid hsz8
          have HK8 := Lib.hid hk8
          clear hbr8 hbq8 hbo8 hsz8 hk8
          go_wp2_with ((with_reducible refine stopAt (.store 34 (.tmp 16) (.tmp 127)) rfl ?_); go_must (refine unStop (wpList_stN rfl 34 (.tmp 16) (.tmp 127) rfl [.int .i64 ae.toInt, .int .i64 aat.toInt, .slice A7 agl.length c7] sS_reply rfl rfl rfl rfl rfl (by simp [Value.oneCell']) ?_)))
          have HM : Hid (w5.heap.size < w6.heap.size ∧ w6.heap.size < w7.heap.size) := Lib.hid ⟨by have := HB6.out.lt; omega, by have := HB7.out.lt; omega⟩
          generalize (w7.alloc (.cells #[.int .i64 ae.toInt, .int .i64 aat.toInt, .slice A7 agl.length c7] 34)).alloc (.cells #[.slice none 0 0] 100) = w8 at *
          go_must (refine (Gots01 (w7.heap.size + 1) (w7.heap.size + 1) [] A5 agl.length c5 w8 HBo8.out (by simp) (by have := HSz8.out; omega)).mono ?_)
          rintro e w9 ⟨rfl, hbo9, hk9⟩
          have HBo9 := Lib.hid hbo9
          have HK9 := Lib.hid hk9
          have HBr9 := Lib.hid (HBr8.out.kp hk9 (by have := HM.out; omega))
          have hbq9 := HBq8.out.kp hk9 (by omega)
          have HBq9 := Lib.hid hbq9
          have t1 : w9.cell? ⟨w7.heap.size, 2, none⟩ = some (.slice A7 agl.length c7) := hbq9.cell 2
          clear hbo9 hk9 hbq9 t0 HBo8 HBr8 HBq8
          go_wp2_with fail
          go_must (refine (Gots01 (w7.heap.size + 1) (w7.heap.size + 1) _ A7 agl.length c7 w9 HBo9.out (by simp) (by have := HSz8.out; have := HK9.out.size; omega)).mono ?_)
          rintro e w10 ⟨rfl, hbo10, hk10⟩
          obtain ⟨p1, hp1⟩ : ∃ p1, p1 = (⟨A5, agl.length, c5, .got ⟨Int64.ofNat (([] : List Value).length + 1), 0⟩ ⟨0, Int64.ofNat (([] : List Value).length + 1)⟩⟩ : PgV) := ⟨_, rfl⟩
          obtain ⟨p2, hp2⟩ : ∃ p2, p2 = (⟨A7, agl.length, c7, .got ⟨Int64.ofNat (([] ++ [PgV.val p1]).length + 1), 0⟩ ⟨0, Int64.ofNat (([] ++ [PgV.val p1]).length + 1)⟩⟩ : PgV) := ⟨_, rfl⟩
          have HBo10 : Hid (Bo w10 (w7.heap.size + 1) (w7.heap.size + 1) ([p1, p2].map PgV.val)) := Lib.hid (by rw [hp2, hp1]; exact hbo10)
          have HN710 : Hid (Nw w7 w10) := Lib.hid ((HK8.out.trans HK9.out (fun k hk e => by omega)).trans hk10 (fun k hk e => by omega))
          have HN610 : Hid (Nw w6 w10) := Lib.hid (HK7.out.nw HN710.out)
          have HN510 : Hid (Nw w5 w10) := Lib.hid (HK6.out.nw HN610.out)
          have HBr10 := HBr9.out.kp hk10 (by have := HM.out; omega)
          have HBs10 := HB7.out.nw HN710.out
          have a0 : w10.cell? ⟨w5.heap.size, 0, none⟩ = some (.int .i64 ae.toInt) := HBr10.cell 0
          have a1 : w10.cell? ⟨w5.heap.size, 1, none⟩ = some (.int .i64 aat.toInt) := HBr10.cell 1
          have a2 : w10.cell? ⟨w5.heap.size, 2, none⟩ = some (.slice A5 agl.length c5) := HBr10.cell 2
          have b0 : w10.cell? ⟨w6.heap.size, 0, none⟩ = some (.int .i64 ae.toInt) := HBs10.cell 0
          have b1 : w10.cell? ⟨w6.heap.size, 1, none⟩ = some (.int .i64 aat.toInt) := HBs10.cell 1
          have b2 : w10.cell? ⟨w6.heap.size, 2, none⟩ = some (.slice A6 agl.length c6) := HBs10.cell 2
          have HRow1 : Hid (p1.row w10 0) := Lib.hid (by rw [hp1]; exact (HO5.out.nw HN510.out).row)
          have HRow2 : Hid (p2.row w10 0) := Lib.hid (by rw [hp2]; exact (HO7.out.nw HN710.out).row)
          have HLone : Hid (Lone [p1, p2] (w7.heap.size + 1)) := Lib.hid (by
            have h5 := (HO5.out.nw HK6.out).lt
            have h7 := HO7.out.lt
            have hm := HM.out
            refine ⟨fun p hp k hk => ?_, fun i j p q hi hj hij k hk hk2 => ?_⟩
            · rcases List.mem_cons.1 hp with rfl | hp
              · rw [hp1] at hk; have := h5 k hk; omega
              · rcases List.mem_cons.1 hp with rfl | hp
                · rw [hp2] at hk; have := h7 k hk; omega
                · cases hp
            · match i, j, hi, hj with
              | 0, 0, _, _ => exact hij rfl
              | 1, 1, _, _ => exact hij rfl
              | 0, 1, hi, hj => cases hi; cases hj; rw [hp1] at hk; rw [hp2] at hk2; have := h5 k hk; have := h7 k hk2; omega
              | 1, 0, hi, hj => cases hi; cases hj; rw [hp2] at hk; rw [hp1] at hk2; have := h7 k hk; have := h5 k hk2; omega)
          have HS1 : Hid (∀ k, (∃ p ∈ [p1, p2], blkOf p.A = some k) → w4.heap.size ≤ k) := Lib.hid (fun k ⟨p, hp, hk⟩ => by
            have hm := HK5.out.size
            have hm2 := HK6.out.size
            rcases List.mem_cons.1 hp with rfl | hp
            · rw [hp1] at hk; exact (HO5.out.lt k hk).1
            · rcases List.mem_cons.1 hp with rfl | hp
              · rw [hp2] at hk; have := (HO7.out.lt k hk).1; omega
              · cases hp)
          have HSame := Lib.hid (SameReply_ ae.toInt aat.toInt A5 A6 c5 c6 agl w10 (HO5.out.nw HN510.out).rd (HR6.out.nw HN610.out))
          have HN410 : Hid (Nw w4 w10) := Lib.hid (HK5.out.nw HN510.out)
          obtain ⟨bl, hbl⟩ : ∃ bl, bl = encBook pls2 := ⟨_, rfl⟩
          have HPutA : Hid (∀ w', Nw w10 w' → Calls Try.prog 47 #[.pointer (some ⟨g, 0, none⟩)] w' (BPut bl w')) := Lib.hid (fun w' hk => by rw [hbl]; exact Put_A (TA4.out.nw (HN410.out.nw hk)))
          have HPutB : Hid (∀ w', Nw w10 w' → Calls Try.prog 48 #[.pointer (some ⟨h, 0, none⟩)] w' (RBPut bl w')) := Lib.hid (fun w' hk => by rw [hbl]; exact Put_B (TD4.out.nw (HN410.out.nw hk)) TA4.out.len)
          have hab : (ab != ab) = false := by simp
          have hak : ((ak : Int) != (ak : Int)) = false := by simp
          replace hbl := Lib.hid hbl
          replace hp1 := Lib.hid hp1
          replace hp2 := Lib.hid hp2
          clear hbo10 hk10 t1 HBr10 HBs10 HBo9 HBr9 HBq9
          go_wp2_with fail
          go_must (refine HSame.out.mono ?_)
          rintro e w11 ⟨rfl, hk11⟩
          have HK11 := Lib.hid hk11
          clear hk11
          go_wp2_with fail
          go_must (refine (HPutA.out _ HK11.out).mono ?_)
          rintro e w12 ⟨A12, rfl, ho12, hk12⟩
          have HO12 := Lib.hid ho12
          have HK12 := Lib.hid (HK11.out.nw hk12)
          clear ho12 hk12
          go_wp2_with fail
          go_must (refine (HPutB.out _ HK12.out).mono ?_)
          rintro e w13 ⟨A13, c13, rfl, ho13, hk13⟩
          have HSB := Lib.hid (SameBytes_ A12 A13 bl.length c13 bl w13 (HO12.out.nw hk13).rd ho13.rd)
          have HK13 := Lib.hid (HK12.out.nw hk13)
          clear ho13 hk13
          go_wp2_with fail
          go_must (refine HSB.out.mono ?_)
          rintro e w14 ⟨rfl, nd, hw14⟩
          have HK14 : Hid (Nw w10 w14) := Lib.hid (by rw [hw14]; exact HK13.out.drewN nd)
          clear hw14
          have HAp : Hid (Calls Try.prog 49 #[.pointer (some ⟨w7.heap.size + 1, 0, none⟩)] w14 fun e w' => e = .returned (.bool true) ∧ Kp (fun j => ∃ p ∈ [p1, p2], blkOf p.A = some j) w14 w') := Lib.hid (Apart01 (w7.heap.size + 1) (w7.heap.size + 1) [p1, p2] w14 (HBo10.out.nw HK14.out) HLone.out (fun p hp => by
            rcases List.mem_cons.1 hp with rfl | hp
            · exact PgV.row_kp HRow1.out HK14.out (fun _ _ => id)
            · rcases List.mem_cons.1 hp with rfl | hp
              · exact PgV.row_kp HRow2.out HK14.out (fun _ _ => id)
              · cases hp) (by simp) (by simp) (Nat.le_refl _))
          go_wp2_with fail
          go_must (refine HAp.out.mono ?_)
          rintro e w15 ⟨rfl, hk15⟩
          have hn15 : Nw w4 w15 := (HN410.out.nw HK14.out).trans hk15 (fun k hk e => by have := HS1.out k e; omega)
          have TA15 := Lib.hid (TA4.out.nw hn15)
          have TD15 := Lib.hid (TD4.out.nw hn15)
          have TN15 := Lib.hid (TN4.out.nw hn15)
          clear hk15 hn15
          go_wp2_with fail
          exact ⟨⟨q + 1, pls2, congrArg (Value.int IntKind.i64) (wrapM q (by have := HSm.out.1; have := HLt.out; omega)), HLt.out, TA15.out, TD15.out, TN15.out⟩, by rw [wrapM q (by have := HSm.out.1; have := HLt.out; omega)]; simp only [intOf]; have := HLt.out; omega⟩
      · obtain rfl : q = l.length := by omega
        have hd1 : decide ((l.length : Int) < (l.length : Int)) = false := decide_eq_false (by omega)
        go_wp2_with fail
        go_must (refine (lives25 _).mono ?_)
        rintro e w4 ⟨rfl, hk4⟩
        go_wp2_with fail
        go_ret
        exact ⟨rfl, HN.out.trans hk4 (fun _ _ e => e)⟩
set_option maxRecDepth 20000 in
theorem play_nil (A : Option Addr) (c : Nat) (w : World) (h : Acts25 w ⟨[], A, c⟩) :
    Calls Try.prog 6 #[.slice A 0 c] w fun e w' => e = .returned (.bool true) ∧ Nw w w' := by
  have HA := Lib.hid h
  clear h
  go_enter Try.func6, Try.ntmps6
  go_wp2_with fail
  go_must (refine (great25_calls ⟨[], A, c⟩ w HA.out).mono ?_)
  rintro e w1 ⟨b, rfl, rfl, hb⟩
  clear hb
  cases b
  rotate_left
  focus
    go_wp2_with fail
    go_must (refine (lives25 _).mono ?_)
    rintro e w2 ⟨rfl, hk⟩
    go_wp2_with fail
    go_ret
    exact ⟨rfl, hk⟩
  focus
    go_wp2_with fail
    go_must (refine (SNew _).mono ?_)
    rintro e w2 ⟨g, rfl, hg, hb2, hk2⟩
    have HN0 : Hid (Nw w1 (w2.alloc (.cells (rbCells noNums noReps') 88))) := Lib.hid (hk2.alloc _)
    clear hb2 hk2
    go_wp2_with fail
    go_loopw [5] (fun i wr => i = .int .i64 0 ∧ Nw w1 wr) (fun _ _ => 0)
    case atStart => exact ⟨rfl, HN0.out⟩
    case round =>
      obtain ⟨rfl, hnw⟩ := hrel
      have HN := Lib.hid hnw
      clear hnw
      go_wp2_with fail
      go_must (refine (lives25 _).mono ?_)
      rintro e w3 ⟨rfl, hk3⟩
      have HK3 := Lib.hid hk3
      clear hk3
      go_wp2_with fail
      go_ret
      exact ⟨rfl, HN.out.nw HK3.out⟩
theorem play_calls (s : Sl A25) (w : World) (h : Acts25 w s) :
    Calls Try.prog 6 #[.slice s.A s.l.length s.c] w fun e w' => e = .returned (.bool true) ∧ Nw w w' := by
  obtain ⟨l, A, c⟩ := s
  rcases Nat.eq_zero_or_pos l.length with h0 | h0
  · have := List.eq_nil_of_length_eq_zero h0
    subst this
    exact play_nil A c w h
  · obtain ⟨ad, hA, _⟩ := h.rd.at_ h0
    cases hA
    exact play_some ad c l w h
end Go.Proofs.Ytiimdnachgkomaa
