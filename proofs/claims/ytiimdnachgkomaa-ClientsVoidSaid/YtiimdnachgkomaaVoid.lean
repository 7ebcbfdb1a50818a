/- ClientsVoid: the walk. -/
import Derived.Test.YtiimdnachgkomaaGreat
import Derived.Test.YtiimdnachgkomaaLives27
import Derived.Deep.RegionHeld3
namespace Go.Proofs.Ytiimdnachgkomaa
open Go Go.RowKit
/-- A client that is not there, or that no call made. -/
def Void (w : World) (A : Option Addr) : Prop := A = none ∨ ∃ g t cs, A = some ⟨g, 0, none⟩ ∧ Blk w g t cs ∧ cs[1]? = some (.int .i64 0)
theorem Void.nw {w w' : World} {A : Option Addr} (h : Void w A) (hk : Nw w w') : Void w' A := by
  rcases h with h | ⟨g, t, cs, h1, h2, h3⟩
  · exact .inl h
  · exact .inr ⟨g, t, cs, h1, h2.nw hk, h3⟩
theorem Call_V {w : World} {A : Option Addr} (h : Void w A) (B : Option Addr) (c k : Nat) :
    Calls Try.prog 19 #[.pointer A, .agg #[.slice B k c]] w fun e w' => e = .returned (.tuple #[.slice none 0 0, .int .i64 2]) ∧ Nw w w' := by
  rcases h with rfl | ⟨g, t, cs, rfl, hb, h0⟩
  · exact Call_nil B c k w
  · exact Call_void g t cs B c k w hb h0
theorem Open_V {w : World} {A : Option Addr} (h : Void w A) : Calls Try.prog 22 #[.pointer A] w fun e w' => e = .returned (.bool false) ∧ w' = w := by
  rcases h with rfl | ⟨g, t, cs, rfl, hb, h0⟩
  · exact Open_nil w
  · exact Open_void g t cs w hb h0
theorem Num_V {w : World} {A : Option Addr} (h : Void w A) : Calls Try.prog 23 #[.pointer A] w fun e w' => e = .returned (.int .u64 0) ∧ w' = w := by
  rcases h with rfl | ⟨g, t, cs, rfl, hb, h0⟩
  · exact Num_nil w
  · exact Num_void g t cs w hb h0
theorem Tick_V {w : World} {A : Option Addr} (h : Void w A) : Calls Try.prog 21 #[.pointer A] w fun e w' => e = .returned (.slice none 0 0) ∧ w' = w := by
  rcases h with rfl | ⟨g, t, cs, rfl, hb, h0⟩
  · exact Tick_nil w
  · exact Tick_void g t cs w hb h0
theorem Take_V {w : World} {A : Option Addr} (h : Void w A) (L : Array Value) :
    Calls Try.prog 20 #[.pointer A, .agg L] w fun e w' => e = .returned (.tuple #[.agg #[.int .i64 0, .int .i64 0, .slice none 0 0], .bool false, .slice none 0 0]) ∧ Nw w w' :=
  Take_not A L w (fun _ hk => Open_V (h.nw hk))
theorem isS_act27 : IsS Try.prog 38 20 := ⟨⟨_, Try.underlying38, rfl⟩, by kernel_rfl⟩
theorem info_act27 : (Try.prog.info? 38).map (fun i => (i.zero, i.size, i.bytes)) = some (some (.agg #[.int .u8 0, .slice none 0 0, .int .u8 0, .int .u8 0, .int .u8 0, .int .u64 0, .int .u64 0, .int .u64 0, .int .u64 0, .bool false, .slice none 0 0, .slice none 0 0, .int .u8 0, .int .u64 0, .slice none 0 0, .int .i64 0, .int .i64 0, .int .i64 0, .slice none 0 0, .bool false]), 20, 224) := by kernel_rfl
set_option maxRecDepth 100000 in
set_option maxHeartbeats 2000000 in
theorem void_calls (x : ActV) (w : World) (h : x.Ok w) :
    Calls Try.prog 3 #[.agg x.cells.toArray] w fun e w' => e = .returned (.bool true) ∧ Nw w w' := by
  have HO := Lib.hid h
  clear h
  go_enter Try.func3, Try.ntmps3
  have hbl : Blk (w.alloc (.cells x.cells.toArray 38)) w.heap.size 38 x.cells.toArray := Blk.newAt rfl _ _
  have hn0 : Nw w (w.alloc (.cells x.cells.toArray 38)) := (Kp.refl _ w).alloc _
  go_wp2_with (first
    | ((with_reducible refine stopAt (.load 38 (.tmp 1)) rfl ?_); go_must (refine unStop (wpList_ldS rfl 38 (.tmp 1) rfl isS_act27 _ 0 rfl hbl x.cells rfl rfl ?_)))
    | ((with_reducible refine stopAt (.buildSlice 40 1 #[(0, .tmp 11)]) rfl ?_); go_must (refine unStop (wpList_bs1 rfl 40 38 (.tmp 11) rfl x.cells Try.underlying40 info_act27 rfl rfl (by omega) (by omega) ?_))))
  have hb1 := hbl.alloc (.cells x.cells.toArray 38)
  have hn1 := hn0.alloc (.cells x.cells.toArray 38)
  have hl1 : Blk ((w.alloc (.cells x.cells.toArray 38)).alloc (.cells x.cells.toArray 38)) (w.heap.size + 1) 38 x.cells.toArray := Blk.newAt (by simp) _ _
  clear hbl hn0
  generalize (w.alloc (.cells x.cells.toArray 38)).alloc (.cells x.cells.toArray 38) = w1 at hb1 hn1 hl1 ⊢
  have hO1 := Lib.hid (HO.out.nw hn1)
  refine (great27_calls ⟨[x], some ⟨w.heap.size + 1, 0, none⟩, 1⟩ w1 ⟨⟨rfl, Nat.le_refl _, by simp [maxLen], fun _ => ⟨_, rfl, fun j u hu => by
    rw [add_lit_]
    rw [hl1.cell]
    simpa using hu⟩⟩, fun i r hr => by
      match i, hr with
      | 0, hr => cases hr; exact hO1.out, by simp [Reach]⟩).mono ?_
  rintro e w2 ⟨rfl, hk2⟩
  have hn2 := hn1.trans hk2 (fun _ _ e => e)
  have hb2 := hb1.nw hk2
  clear hl1 hn1 hk2 hb1 hO1
  cases hgr : acts27 [x]
  · go_wp2_with fail
    have hb3 : ∃ w3 zs, ((w2.alloc (.cells zs 45)).alloc (.cells #[Value.pointer none, Value.pointer (some ⟨w2.heap.size, 0, none⟩)] 46)) = w3 ∧ zs = #[Value.int IntKind.u8 0, Value.int IntKind.i64 0, Value.int IntKind.i64 0, Value.int IntKind.u64 0,
          Value.int IntKind.i64 0, Value.int IntKind.u8 0, Value.int IntKind.u8 0, Value.int IntKind.u8 0,
          Value.int IntKind.u64 0, Value.int IntKind.u64 0, Value.int IntKind.u64 0, Value.int IntKind.u64 0,
          Value.bool false, Value.slice none 0 0, Value.slice none 0 0, Value.int IntKind.u8 0, Value.int IntKind.u64 0,
          Value.slice none 0 0, Value.int IntKind.i64 0, Value.int IntKind.i64 0, Value.int IntKind.i64 0,
          Value.slice none 0 0, Value.bool false] := ⟨_, _, rfl, rfl⟩
    obtain ⟨w3, zs, hw3, hzs⟩ := hb3
    have hv1 : Void w3 (some ⟨w2.heap.size, 0, none⟩) := .inr ⟨w2.heap.size, _, zs, rfl, by rw [← hw3]; exact (Blk.new _ _ _).alloc _, by rw [hzs]; rfl⟩
    have hpp : Blk w3 (w2.heap.size + 1) 46 #[Value.pointer none, Value.pointer (some ⟨w2.heap.size, 0, none⟩)] := by rw [← hw3]; exact Blk.newAt (by simp) _ _
    have hn3 : Nw w w3 := by rw [← hw3]; exact (hn2.alloc _).alloc _
    have hb3 : Blk w3 w.heap.size 38 x.cells.toArray := by rw [← hw3]; exact (hb2.alloc _).alloc _
    rw [← hzs, hw3]
    clear hw3 hzs hn2 hb2
    generalize w2.heap.size = g at *
    go_loopw [5] (fun i wr => ∃ q : Nat, i = .int .i64 q ∧ q ≤ 2 ∧ Nw w3 wr) (fun i _ => 2 - (intOf i).toNat)
    case atStart => exact ⟨0, rfl, by omega, Kp.refl _ _⟩
    case round =>
      obtain ⟨q, rfl, hq, hk⟩ := hrel
      by_cases hlt : q < 2
      · have hA : ∃ A, Void wr A ∧ wr.cell? ⟨g + 1, q, none⟩ = some (.pointer A) := by
          have hpr := (hpp.nw hk).cell q
          rcases (by omega : q = 0 ∨ q = 1) with rfl | rfl
          · exact ⟨none, .inl rfl, hpr⟩
          · exact ⟨some ⟨g, 0, none⟩, hv1.nw hk, hpr⟩
        obtain ⟨A, hV, hp⟩ := hA
        have HV := Lib.hid hV
        have hbr := hb3.nw hk
        have p1 : wr.cell? ⟨w.heap.size, 1, none⟩ = some (.slice x.steps.A x.steps.l.length x.steps.c) := hbr.cell 1
        have p2 : wr.cell? ⟨w.heap.size, 2, none⟩ = some (.int .u8 x.l.kind.toNat) := hbr.cell 2
        have p3 : wr.cell? ⟨w.heap.size, 3, none⟩ = some (.int .u8 x.l.frm.toNat) := hbr.cell 3
        have p4 : wr.cell? ⟨w.heap.size, 4, none⟩ = some (.int .u8 x.l.to.toNat) := hbr.cell 4
        have p5 : wr.cell? ⟨w.heap.size, 5, none⟩ = some (.int .u64 x.l.term.toNat) := hbr.cell 5
        have p6 : wr.cell? ⟨w.heap.size, 6, none⟩ = some (.int .u64 x.l.index.toNat) := hbr.cell 6
        have p7 : wr.cell? ⟨w.heap.size, 7, none⟩ = some (.int .u64 x.l.mark.toNat) := hbr.cell 7
        have p8 : wr.cell? ⟨w.heap.size, 8, none⟩ = some (.int .u64 x.l.commit.toNat) := hbr.cell 8
        have p9 : wr.cell? ⟨w.heap.size, 9, none⟩ = some (.bool x.l.yes) := hbr.cell 9
        have p10 : wr.cell? ⟨w.heap.size, 10, none⟩ = some (.slice x.l.ents.A x.l.ents.l.length x.l.ents.c) := hbr.cell 10
        have p11 : wr.cell? ⟨w.heap.size, 11, none⟩ = some (.slice x.l.data.A x.l.data.l.length x.l.data.c) := hbr.cell 11
        have p12 : wr.cell? ⟨w.heap.size, 12, none⟩ = some (.int .u8 x.l.cl.toNat) := hbr.cell 12
        have p13 : wr.cell? ⟨w.heap.size, 13, none⟩ = some (.int .u64 x.l.cn.toNat) := hbr.cell 13
        have p14 : wr.cell? ⟨w.heap.size, 14, none⟩ = some (.slice x.l.steps.A x.l.steps.l.length x.l.steps.c) := hbr.cell 14
        have p15 : wr.cell? ⟨w.heap.size, 15, none⟩ = some (.int .i64 x.l.e.toInt) := hbr.cell 15
        have p16 : wr.cell? ⟨w.heap.size, 16, none⟩ = some (.int .i64 x.l.rE.toInt) := hbr.cell 16
        have p17 : wr.cell? ⟨w.heap.size, 17, none⟩ = some (.int .i64 x.l.rAt.toInt) := hbr.cell 17
        have p18 : wr.cell? ⟨w.heap.size, 18, none⟩ = some (.slice x.l.got.A x.l.got.l.length x.l.got.c) := hbr.cell 18
        clear hV
        go_wp2_with fail
        go_region_held3 (fun w' => w'.cell? ⟨g + 1, q, none⟩ = some (.pointer A) ∧ w'.cell? ⟨w.heap.size, 1, none⟩ = some (.slice x.steps.A x.steps.l.length x.steps.c) ∧ Nw wr w') (refine ⟨?_, ?_, ?_⟩ <;> first | (go_keep; done) | assumption | exact Kp.drew (Kp.refl _ _) | exact Kp.drew (‹_ ∧ _ ∧ Nw wr _›).2.2 | exact Nw.cell hk5 (‹_ ∧ _ ∧ Nw wr _›).1 | exact Nw.cell hk5 (‹_ ∧ _ ∧ Nw wr _›).2.1 | exact Kp.nw (‹_ ∧ _ ∧ Nw wr _›).2.2 hk5)
          ((go_at_call 19; refine (Call_V (HV.out.nw (‹_ ∧ _ ∧ Nw wr _›).2.2) _ _ _).mono ?_; rintro e w5 ⟨rfl, hk5⟩))
        have hn5 : Nw wr w5 := (‹_ ∧ _ ∧ Nw wr w5›).2.2
        have hp5 : w5.cell? ⟨g + 1, q, none⟩ = some (.pointer A) := hn5.cell hp
        have HV5 := Lib.hid (HV.out.nw hn5)
        have hbr5 := hbr.nw hn5
        clear p1 p2 p3 p4 p5 p6 p7 p8 p9 p10 p11 p12 p13 p14 p15 p16 p17 p18
        have p2 : w5.cell? ⟨w.heap.size, 2, none⟩ = some (.int .u8 x.l.kind.toNat) := hbr5.cell 2
        have p3 : w5.cell? ⟨w.heap.size, 3, none⟩ = some (.int .u8 x.l.frm.toNat) := hbr5.cell 3
        have p4 : w5.cell? ⟨w.heap.size, 4, none⟩ = some (.int .u8 x.l.to.toNat) := hbr5.cell 4
        have p5 : w5.cell? ⟨w.heap.size, 5, none⟩ = some (.int .u64 x.l.term.toNat) := hbr5.cell 5
        have p6 : w5.cell? ⟨w.heap.size, 6, none⟩ = some (.int .u64 x.l.index.toNat) := hbr5.cell 6
        have p7 : w5.cell? ⟨w.heap.size, 7, none⟩ = some (.int .u64 x.l.mark.toNat) := hbr5.cell 7
        have p8 : w5.cell? ⟨w.heap.size, 8, none⟩ = some (.int .u64 x.l.commit.toNat) := hbr5.cell 8
        have p9 : w5.cell? ⟨w.heap.size, 9, none⟩ = some (.bool x.l.yes) := hbr5.cell 9
        have p10 : w5.cell? ⟨w.heap.size, 10, none⟩ = some (.slice x.l.ents.A x.l.ents.l.length x.l.ents.c) := hbr5.cell 10
        have p11 : w5.cell? ⟨w.heap.size, 11, none⟩ = some (.slice x.l.data.A x.l.data.l.length x.l.data.c) := hbr5.cell 11
        have p12 : w5.cell? ⟨w.heap.size, 12, none⟩ = some (.int .u8 x.l.cl.toNat) := hbr5.cell 12
        have p13 : w5.cell? ⟨w.heap.size, 13, none⟩ = some (.int .u64 x.l.cn.toNat) := hbr5.cell 13
        have p14 : w5.cell? ⟨w.heap.size, 14, none⟩ = some (.slice x.l.steps.A x.l.steps.l.length x.l.steps.c) := hbr5.cell 14
        have p15 : w5.cell? ⟨w.heap.size, 15, none⟩ = some (.int .i64 x.l.e.toInt) := hbr5.cell 15
        have p16 : w5.cell? ⟨w.heap.size, 16, none⟩ = some (.int .i64 x.l.rE.toInt) := hbr5.cell 16
        have p17 : w5.cell? ⟨w.heap.size, 17, none⟩ = some (.int .i64 x.l.rAt.toInt) := hbr5.cell 17
        have p18 : w5.cell? ⟨w.heap.size, 18, none⟩ = some (.slice x.l.got.A x.l.got.l.length x.l.got.c) := hbr5.cell 18
        have hg5 : g + 1 < w5.heap.size := (hpp.nw (hk.trans hn5 (fun _ _ e => e))).lt
        have HS : Hid (∀ w', Nw w5 w' → Nw w5 w' ∧ w'.cell? ⟨g + 1, q, none⟩ = some (.pointer A) ∧ w'.cell? ⟨w.heap.size, 2, none⟩ = some (.int .u8 x.l.kind.toNat) ∧ w'.cell? ⟨w.heap.size, 3, none⟩ = some (.int .u8 x.l.frm.toNat) ∧ w'.cell? ⟨w.heap.size, 4, none⟩ = some (.int .u8 x.l.to.toNat) ∧ w'.cell? ⟨w.heap.size, 5, none⟩ = some (.int .u64 x.l.term.toNat) ∧ w'.cell? ⟨w.heap.size, 6, none⟩ = some (.int .u64 x.l.index.toNat) ∧ w'.cell? ⟨w.heap.size, 7, none⟩ = some (.int .u64 x.l.mark.toNat) ∧ w'.cell? ⟨w.heap.size, 8, none⟩ = some (.int .u64 x.l.commit.toNat) ∧ w'.cell? ⟨w.heap.size, 9, none⟩ = some (.bool x.l.yes) ∧ w'.cell? ⟨w.heap.size, 10, none⟩ = some (.slice x.l.ents.A x.l.ents.l.length x.l.ents.c) ∧ w'.cell? ⟨w.heap.size, 11, none⟩ = some (.slice x.l.data.A x.l.data.l.length x.l.data.c) ∧ w'.cell? ⟨w.heap.size, 12, none⟩ = some (.int .u8 x.l.cl.toNat) ∧ w'.cell? ⟨w.heap.size, 13, none⟩ = some (.int .u64 x.l.cn.toNat) ∧ w'.cell? ⟨w.heap.size, 14, none⟩ = some (.slice x.l.steps.A x.l.steps.l.length x.l.steps.c) ∧ w'.cell? ⟨w.heap.size, 15, none⟩ = some (.int .i64 x.l.e.toInt) ∧ w'.cell? ⟨w.heap.size, 16, none⟩ = some (.int .i64 x.l.rE.toInt) ∧ w'.cell? ⟨w.heap.size, 17, none⟩ = some (.int .i64 x.l.rAt.toInt) ∧ w'.cell? ⟨w.heap.size, 18, none⟩ = some (.slice x.l.got.A x.l.got.l.length x.l.got.c)) := Lib.hid (fun w' h => ⟨h, h.cell hp5, h.cell p2, h.cell p3, h.cell p4, h.cell p5, h.cell p6, h.cell p7, h.cell p8, h.cell p9, h.cell p10, h.cell p11, h.cell p12, h.cell p13, h.cell p14, h.cell p15, h.cell p16, h.cell p17, h.cell p18⟩)
        clear hk5
        go_wp2_with fail
        go_region_held3 (fun w' => Nw w5 w' ∧ w'.cell? ⟨g + 1, q, none⟩ = some (.pointer A) ∧ w'.cell? ⟨w.heap.size, 2, none⟩ = some (.int .u8 x.l.kind.toNat) ∧ w'.cell? ⟨w.heap.size, 3, none⟩ = some (.int .u8 x.l.frm.toNat) ∧ w'.cell? ⟨w.heap.size, 4, none⟩ = some (.int .u8 x.l.to.toNat) ∧ w'.cell? ⟨w.heap.size, 5, none⟩ = some (.int .u64 x.l.term.toNat) ∧ w'.cell? ⟨w.heap.size, 6, none⟩ = some (.int .u64 x.l.index.toNat) ∧ w'.cell? ⟨w.heap.size, 7, none⟩ = some (.int .u64 x.l.mark.toNat) ∧ w'.cell? ⟨w.heap.size, 8, none⟩ = some (.int .u64 x.l.commit.toNat) ∧ w'.cell? ⟨w.heap.size, 9, none⟩ = some (.bool x.l.yes) ∧ w'.cell? ⟨w.heap.size, 10, none⟩ = some (.slice x.l.ents.A x.l.ents.l.length x.l.ents.c) ∧ w'.cell? ⟨w.heap.size, 11, none⟩ = some (.slice x.l.data.A x.l.data.l.length x.l.data.c) ∧ w'.cell? ⟨w.heap.size, 12, none⟩ = some (.int .u8 x.l.cl.toNat) ∧ w'.cell? ⟨w.heap.size, 13, none⟩ = some (.int .u64 x.l.cn.toNat) ∧ w'.cell? ⟨w.heap.size, 14, none⟩ = some (.slice x.l.steps.A x.l.steps.l.length x.l.steps.c) ∧ w'.cell? ⟨w.heap.size, 15, none⟩ = some (.int .i64 x.l.e.toInt) ∧ w'.cell? ⟨w.heap.size, 16, none⟩ = some (.int .i64 x.l.rE.toInt) ∧ w'.cell? ⟨w.heap.size, 17, none⟩ = some (.int .i64 x.l.rAt.toInt) ∧ w'.cell? ⟨w.heap.size, 18, none⟩ = some (.slice x.l.got.A x.l.got.l.length x.l.got.c)) (refine HS.out _ ?_ <;> first | exact Kp.drew (Kp.refl _ _) | exact Kp.nw (‹Nw w5 _ ∧ _›).1 hk6 | exact Kp.alloc (‹Nw w5 _ ∧ _›).1 _ | exact Kp.alloc (Kp.nw (‹Nw w5 _ ∧ _›).1 hk6) _ | exact Kp.nw (Kp.drew (Kp.refl _ _)) (hk6.alloc _) | exact Kp.setNew (Kp.setNew (Kp.setNew (‹Nw w5 _ ∧ _›).1 (Nat.le_refl _) _) (Nat.le_refl _) _) (Nat.le_refl _) _ | exact Kp.drew (‹Nw w5 _ ∧ _›).1)
          ((go_at_call 20; refine (Take_V (HV5.out.nw (‹Nw w5 _ ∧ _›).1) _).mono ?_; rintro e w6 ⟨rfl, hk6⟩; (try (have hbN : Blk w6 w5.heap.size 34 #[Value.int IntKind.i64 0, Value.int IntKind.i64 0, Value.slice none 0 0] := (Blk.newAt (W := w5.drew) rfl _ _).nw hk6; have n0 : w6.cell? ⟨w5.heap.size, 0, none⟩ = some (Value.int IntKind.i64 0) := hbN.cell 0; have n1 : w6.cell? ⟨w5.heap.size, 1, none⟩ = some (Value.int IntKind.i64 0) := hbN.cell 1; have n2 : w6.cell? ⟨w5.heap.size, 2, none⟩ = some (Value.slice none 0 0) := hbN.cell 2; have m0 := hbN.free 0; have m1 := hbN.free 1; have m2 := hbN.free 2; clear hbN))))
        all_goals
          have hn7 := (‹Nw w5 _ ∧ _›).1
          have hp7 := hn7.cell hp5
          have HV7 := Lib.hid (HV5.out.nw hn7)
          clear HS hk6
          go_wp2_with (first
            | (go_at_call 21; go_must (refine (Tick_V HV7.out).mono ?_); rintro e w8 ⟨rfl, rfl⟩)
            | (go_at_call 22; go_must (refine (Open_V HV7.out).mono ?_); rintro e w8 ⟨rfl, rfl⟩)
            | (go_at_call 23; go_must (refine (Num_V HV7.out).mono ?_); rintro e w8 ⟨rfl, rfl⟩))
          go_roundw
          case rel => exact ⟨q + 1, rfl, by omega, (hk.trans hn5 (fun _ _ e => e)).trans hn7 (fun _ _ e => e)⟩
          case measure =>
            show 2 - ((q : Int) + 1).toNat < 2 - ((q : Int)).toNat
            omega
      · obtain rfl : q = 2 := by omega
        have hk' := hn3.trans hk (fun _ _ e => e)
        go_wp2_with (go_at_call 18; go_must (refine (lives27 _).mono ?_); rintro e w4 ⟨rfl, hk4⟩)
        go_ret
        exact ⟨rfl, hk'.trans hk4 (fun _ _ e => e)⟩
  · go_wp2_with (go_at_call 18; go_must (refine (lives27 _).mono ?_); rintro e w3 ⟨rfl, hk3⟩)
    go_ret
    exact ⟨rfl, hn2.trans hk3 (fun _ _ e => e)⟩
end Go.Proofs.Ytiimdnachgkomaa
