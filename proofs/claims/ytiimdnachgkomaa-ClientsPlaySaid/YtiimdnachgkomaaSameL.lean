/- Same, SameAll: a letter, and the document's. -/
import Derived.Test.YtiimdnachgkomaaSames
import Derived.Test.YtiimdnachgkomaaClients
namespace Go.Proofs.Ytiimdnachgkomaa
open Go Go.RowKit
/-- A letter as the document has it. -/
def LV.rcells (x : LV) : List Value := (.int .i64 x.kind.toNat) :: x.cells.drop 1
/-- Two letters of the same content. -/
structure LV.Like (x y : LV) : Prop where
  kind : x.kind = y.kind
  frm : x.frm = y.frm
  to : x.to = y.to
  term : x.term = y.term
  index : x.index = y.index
  mark : x.mark = y.mark
  commit : x.commit = y.commit
  yes : x.yes = y.yes
  ents : EntsLike x.ents y.ents
  data : x.data.l = y.data.l
  cl : x.cl = y.cl
  cn : x.cn = y.cn
  steps : x.steps.l = y.steps.l
  e : x.e = y.e
  rE : x.rE = y.rE
  rAt : x.rAt = y.rAt
  got : x.got.l = y.got.l
theorem isS_rletter : IsS Try.prog 76 17 := ⟨⟨_, Try.underlying76, rfl⟩, by kernel_rfl⟩
set_option maxRecDepth 20000 in
set_option maxHeartbeats 2000000 in
theorem Same_ (x y : LV) (w : World) (hx : x.Ok w) (hy : y.Ok w) (h : x.Like y) :
    Calls Try.prog 93 #[.agg x.cells.toArray, .agg y.rcells.toArray] w fun e w' => e = .returned (.bool true) ∧ Nw w w' := by
  obtain ⟨kind, frm, to, term, index, mark, commit, yes, ents, data, cl, cn, steps, e, rE, rAt, got⟩ := x
  obtain ⟨kind', frm', to', term', index', mark', commit', yes', ents', data', cl', cn', steps', e', rE', rAt', got'⟩ := y
  obtain ⟨rfl, rfl, rfl, rfl, rfl, rfl, rfl, rfl, hE, hD, rfl, rfl, hS, rfl, rfl, rfl, hG⟩ := h
  simp only [] at hE hD hS hG
  obtain ⟨dl, dA, dc⟩ := data
  obtain ⟨dl', dA', dc'⟩ := data'
  obtain ⟨sl, sA, sc⟩ := steps
  obtain ⟨sl', sA', sc'⟩ := steps'
  obtain ⟨gl, gA, gc⟩ := got
  obtain ⟨gl', gA', gc'⟩ := got'
  simp only [] at hD hS hG
  subst hD hS hG
  have HX := Lib.hid (fun w' (hk : Nw w w') => hx.nw hk)
  have HY := Lib.hid (fun w' (hk : Nw w w') => hy.nw hk)
  have HE := Lib.hid hE
  clear hx hy hE
  have hkb : (kind.toNat : Int) ≤ 255 := by have := kind.toNat_lt; omega
  have hkw : wrap64 (kind.toNat : Int) = (kind.toNat : Int) := by unfold wrap64; omega
  obtain ⟨xc, hxc⟩ : ∃ xc, xc = (LV.cells ⟨kind, frm, to, term, index, mark, commit, yes, ents, ⟨dl, dA, dc⟩, cl, cn, ⟨sl, sA, sc⟩, e, rE, rAt, ⟨gl, gA, gc⟩⟩).toArray := ⟨_, rfl⟩
  obtain ⟨yc, hyc⟩ : ∃ yc, yc = (LV.rcells ⟨kind, frm, to, term, index, mark, commit, yes, ents', ⟨dl, dA', dc'⟩, cl, cn, ⟨sl, sA', sc'⟩, e, rE, rAt, ⟨gl, gA', gc'⟩⟩).toArray := ⟨_, rfl⟩
  rw [← hxc, ← hyc]
  have hba : Blk ((w.alloc (.cells xc 36)).alloc (.cells yc 76)) w.heap.size 36 xc := (Blk.new _ _ _).alloc _
  have hbb : Blk ((w.alloc (.cells xc 36)).alloc (.cells yc 76)) (w.heap.size + 1) 76 yc := Blk.newAt (by simp) _ _
  have hn0 : Nw w ((w.alloc (.cells xc 36)).alloc (.cells yc 76)) := ((Kp.refl _ w).alloc _).alloc _
  replace hxc := Lib.hid hxc
  replace hyc := Lib.hid hyc
  have a0 : ((w.alloc (.cells xc 36)).alloc (.cells yc 76)).cell? ⟨w.heap.size, 0, none⟩ = some (.int .u8 kind.toNat) := (hba.cell 0).trans (by rw [hxc.out]; rfl)
  have b0 : ((w.alloc (.cells xc 36)).alloc (.cells yc 76)).cell? ⟨w.heap.size + 1, 0, none⟩ = some (.int .i64 kind.toNat) := (hbb.cell 0).trans (by rw [hyc.out]; rfl)
  have a1 : ((w.alloc (.cells xc 36)).alloc (.cells yc 76)).cell? ⟨w.heap.size, 1, none⟩ = some (.int .u8 frm.toNat) := (hba.cell 1).trans (by rw [hxc.out]; rfl)
  have b1 : ((w.alloc (.cells xc 36)).alloc (.cells yc 76)).cell? ⟨w.heap.size + 1, 1, none⟩ = some (.int .u8 frm.toNat) := (hbb.cell 1).trans (by rw [hyc.out]; rfl)
  have a2 : ((w.alloc (.cells xc 36)).alloc (.cells yc 76)).cell? ⟨w.heap.size, 2, none⟩ = some (.int .u8 to.toNat) := (hba.cell 2).trans (by rw [hxc.out]; rfl)
  have b2 : ((w.alloc (.cells xc 36)).alloc (.cells yc 76)).cell? ⟨w.heap.size + 1, 2, none⟩ = some (.int .u8 to.toNat) := (hbb.cell 2).trans (by rw [hyc.out]; rfl)
  have a3 : ((w.alloc (.cells xc 36)).alloc (.cells yc 76)).cell? ⟨w.heap.size, 3, none⟩ = some (.int .u64 term.toNat) := (hba.cell 3).trans (by rw [hxc.out]; rfl)
  have b3 : ((w.alloc (.cells xc 36)).alloc (.cells yc 76)).cell? ⟨w.heap.size + 1, 3, none⟩ = some (.int .u64 term.toNat) := (hbb.cell 3).trans (by rw [hyc.out]; rfl)
  have a4 : ((w.alloc (.cells xc 36)).alloc (.cells yc 76)).cell? ⟨w.heap.size, 4, none⟩ = some (.int .u64 index.toNat) := (hba.cell 4).trans (by rw [hxc.out]; rfl)
  have b4 : ((w.alloc (.cells xc 36)).alloc (.cells yc 76)).cell? ⟨w.heap.size + 1, 4, none⟩ = some (.int .u64 index.toNat) := (hbb.cell 4).trans (by rw [hyc.out]; rfl)
  have a5 : ((w.alloc (.cells xc 36)).alloc (.cells yc 76)).cell? ⟨w.heap.size, 5, none⟩ = some (.int .u64 mark.toNat) := (hba.cell 5).trans (by rw [hxc.out]; rfl)
  have b5 : ((w.alloc (.cells xc 36)).alloc (.cells yc 76)).cell? ⟨w.heap.size + 1, 5, none⟩ = some (.int .u64 mark.toNat) := (hbb.cell 5).trans (by rw [hyc.out]; rfl)
  have a6 : ((w.alloc (.cells xc 36)).alloc (.cells yc 76)).cell? ⟨w.heap.size, 6, none⟩ = some (.int .u64 commit.toNat) := (hba.cell 6).trans (by rw [hxc.out]; rfl)
  have b6 : ((w.alloc (.cells xc 36)).alloc (.cells yc 76)).cell? ⟨w.heap.size + 1, 6, none⟩ = some (.int .u64 commit.toNat) := (hbb.cell 6).trans (by rw [hyc.out]; rfl)
  have a7 : ((w.alloc (.cells xc 36)).alloc (.cells yc 76)).cell? ⟨w.heap.size, 7, none⟩ = some (.bool yes) := (hba.cell 7).trans (by rw [hxc.out]; rfl)
  have b7 : ((w.alloc (.cells xc 36)).alloc (.cells yc 76)).cell? ⟨w.heap.size + 1, 7, none⟩ = some (.bool yes) := (hbb.cell 7).trans (by rw [hyc.out]; rfl)
  have a8 : ((w.alloc (.cells xc 36)).alloc (.cells yc 76)).cell? ⟨w.heap.size, 8, none⟩ = some (.slice ents.A ents.l.length ents.c) := (hba.cell 8).trans (by rw [hxc.out]; rfl)
  have b8 : ((w.alloc (.cells xc 36)).alloc (.cells yc 76)).cell? ⟨w.heap.size + 1, 8, none⟩ = some (.slice ents'.A ents'.l.length ents'.c) := (hbb.cell 8).trans (by rw [hyc.out]; rfl)
  have a9 : ((w.alloc (.cells xc 36)).alloc (.cells yc 76)).cell? ⟨w.heap.size, 9, none⟩ = some (.slice dA dl.length dc) := (hba.cell 9).trans (by rw [hxc.out]; rfl)
  have b9 : ((w.alloc (.cells xc 36)).alloc (.cells yc 76)).cell? ⟨w.heap.size + 1, 9, none⟩ = some (.slice dA' dl.length dc') := (hbb.cell 9).trans (by rw [hyc.out]; rfl)
  have a10 : ((w.alloc (.cells xc 36)).alloc (.cells yc 76)).cell? ⟨w.heap.size, 10, none⟩ = some (.int .u8 cl.toNat) := (hba.cell 10).trans (by rw [hxc.out]; rfl)
  have b10 : ((w.alloc (.cells xc 36)).alloc (.cells yc 76)).cell? ⟨w.heap.size + 1, 10, none⟩ = some (.int .u8 cl.toNat) := (hbb.cell 10).trans (by rw [hyc.out]; rfl)
  have a11 : ((w.alloc (.cells xc 36)).alloc (.cells yc 76)).cell? ⟨w.heap.size, 11, none⟩ = some (.int .u64 cn.toNat) := (hba.cell 11).trans (by rw [hxc.out]; rfl)
  have b11 : ((w.alloc (.cells xc 36)).alloc (.cells yc 76)).cell? ⟨w.heap.size + 1, 11, none⟩ = some (.int .u64 cn.toNat) := (hbb.cell 11).trans (by rw [hyc.out]; rfl)
  have a12 : ((w.alloc (.cells xc 36)).alloc (.cells yc 76)).cell? ⟨w.heap.size, 12, none⟩ = some (.slice sA sl.length sc) := (hba.cell 12).trans (by rw [hxc.out]; rfl)
  have b12 : ((w.alloc (.cells xc 36)).alloc (.cells yc 76)).cell? ⟨w.heap.size + 1, 12, none⟩ = some (.slice sA' sl.length sc') := (hbb.cell 12).trans (by rw [hyc.out]; rfl)
  have a13 : ((w.alloc (.cells xc 36)).alloc (.cells yc 76)).cell? ⟨w.heap.size, 13, none⟩ = some (.int .i64 e.toInt) := (hba.cell 13).trans (by rw [hxc.out]; rfl)
  have b13 : ((w.alloc (.cells xc 36)).alloc (.cells yc 76)).cell? ⟨w.heap.size + 1, 13, none⟩ = some (.int .i64 e.toInt) := (hbb.cell 13).trans (by rw [hyc.out]; rfl)
  have a14 : ((w.alloc (.cells xc 36)).alloc (.cells yc 76)).cell? ⟨w.heap.size, 14, none⟩ = some (.int .i64 rE.toInt) := (hba.cell 14).trans (by rw [hxc.out]; rfl)
  have b14 : ((w.alloc (.cells xc 36)).alloc (.cells yc 76)).cell? ⟨w.heap.size + 1, 14, none⟩ = some (.int .i64 rE.toInt) := (hbb.cell 14).trans (by rw [hyc.out]; rfl)
  have a15 : ((w.alloc (.cells xc 36)).alloc (.cells yc 76)).cell? ⟨w.heap.size, 15, none⟩ = some (.int .i64 rAt.toInt) := (hba.cell 15).trans (by rw [hxc.out]; rfl)
  have b15 : ((w.alloc (.cells xc 36)).alloc (.cells yc 76)).cell? ⟨w.heap.size + 1, 15, none⟩ = some (.int .i64 rAt.toInt) := (hbb.cell 15).trans (by rw [hyc.out]; rfl)
  have a16 : ((w.alloc (.cells xc 36)).alloc (.cells yc 76)).cell? ⟨w.heap.size, 16, none⟩ = some (.slice gA gl.length gc) := (hba.cell 16).trans (by rw [hxc.out]; rfl)
  have b16 : ((w.alloc (.cells xc 36)).alloc (.cells yc 76)).cell? ⟨w.heap.size + 1, 16, none⟩ = some (.slice gA' gl.length gc') := (hbb.cell 16).trans (by rw [hyc.out]; rfl)
  go_enter Try.func93, Try.ntmps93
  go_wp2_with (first
    | (go_at_call 67; go_must (refine (SameEntries_ ents ents' _ (HX.out _ hn0).ents (HY.out _ hn0).ents HE.out).mono ?_); rintro e1 w1 ⟨rfl, hk1⟩
       have hn1 := hn0.trans hk1 (fun _ _ e => e)
       have hba1 := hba.nw hk1
       have hbb1 := hbb.nw hk1
       have pa9 : w1.cell? ⟨w.heap.size, 9, none⟩ = some (.slice dA dl.length dc) := (hba1.cell 9).trans (by rw [hxc.out]; rfl)
       have pb9 : w1.cell? ⟨w.heap.size + 1, 9, none⟩ = some (.slice dA' dl.length dc') := (hbb1.cell 9).trans (by rw [hyc.out]; rfl)
       have pa10 : w1.cell? ⟨w.heap.size, 10, none⟩ = some (.int .u8 cl.toNat) := (hba1.cell 10).trans (by rw [hxc.out]; rfl)
       have pb10 : w1.cell? ⟨w.heap.size + 1, 10, none⟩ = some (.int .u8 cl.toNat) := (hbb1.cell 10).trans (by rw [hyc.out]; rfl)
       have pa11 : w1.cell? ⟨w.heap.size, 11, none⟩ = some (.int .u64 cn.toNat) := (hba1.cell 11).trans (by rw [hxc.out]; rfl)
       have pb11 : w1.cell? ⟨w.heap.size + 1, 11, none⟩ = some (.int .u64 cn.toNat) := (hbb1.cell 11).trans (by rw [hyc.out]; rfl)
       have pa12 : w1.cell? ⟨w.heap.size, 12, none⟩ = some (.slice sA sl.length sc) := (hba1.cell 12).trans (by rw [hxc.out]; rfl)
       have pb12 : w1.cell? ⟨w.heap.size + 1, 12, none⟩ = some (.slice sA' sl.length sc') := (hbb1.cell 12).trans (by rw [hyc.out]; rfl)
       have pa13 : w1.cell? ⟨w.heap.size, 13, none⟩ = some (.int .i64 e.toInt) := (hba1.cell 13).trans (by rw [hxc.out]; rfl)
       have pb13 : w1.cell? ⟨w.heap.size + 1, 13, none⟩ = some (.int .i64 e.toInt) := (hbb1.cell 13).trans (by rw [hyc.out]; rfl)
       have pa14 : w1.cell? ⟨w.heap.size, 14, none⟩ = some (.int .i64 rE.toInt) := (hba1.cell 14).trans (by rw [hxc.out]; rfl)
       have pb14 : w1.cell? ⟨w.heap.size + 1, 14, none⟩ = some (.int .i64 rE.toInt) := (hbb1.cell 14).trans (by rw [hyc.out]; rfl)
       have pa15 : w1.cell? ⟨w.heap.size, 15, none⟩ = some (.int .i64 rAt.toInt) := (hba1.cell 15).trans (by rw [hxc.out]; rfl)
       have pb15 : w1.cell? ⟨w.heap.size + 1, 15, none⟩ = some (.int .i64 rAt.toInt) := (hbb1.cell 15).trans (by rw [hyc.out]; rfl)
       have pa16 : w1.cell? ⟨w.heap.size, 16, none⟩ = some (.slice gA gl.length gc) := (hba1.cell 16).trans (by rw [hxc.out]; rfl)
       have pb16 : w1.cell? ⟨w.heap.size + 1, 16, none⟩ = some (.slice gA' gl.length gc') := (hbb1.cell 16).trans (by rw [hyc.out]; rfl)
       clear hba hbb)
    | (go_at_call 46; go_must (refine (SameBytes_ dA dA' dc dc' dl _ (HX.out _ hn1).data (HY.out _ hn1).data).mono ?_); rintro e1 w2 ⟨rfl, n2, rfl⟩
       have hn2 := hn1.drewN n2)
    | (go_at_call 116; go_must (refine (SameCall_ _ _ sA sA' sc sc' sl _ (HX.out _ hn2).steps (HY.out _ hn2).steps).mono ?_); rintro e1 w3 ⟨rfl, hk3⟩
       have hn3 := hn2.trans hk3 (fun _ _ e => e)
       have hba3 := (hba1.drewN n2).nw hk3
       have hbb3 := (hbb1.drewN n2).nw hk3
       have qa13 : w3.cell? ⟨w.heap.size, 13, none⟩ = some (.int .i64 e.toInt) := (hba3.cell 13).trans (by rw [hxc.out]; rfl)
       have qb13 : w3.cell? ⟨w.heap.size + 1, 13, none⟩ = some (.int .i64 e.toInt) := (hbb3.cell 13).trans (by rw [hyc.out]; rfl)
       have qa14 : w3.cell? ⟨w.heap.size, 14, none⟩ = some (.int .i64 rE.toInt) := (hba3.cell 14).trans (by rw [hxc.out]; rfl)
       have qb14 : w3.cell? ⟨w.heap.size + 1, 14, none⟩ = some (.int .i64 rE.toInt) := (hbb3.cell 14).trans (by rw [hyc.out]; rfl)
       have qa15 : w3.cell? ⟨w.heap.size, 15, none⟩ = some (.int .i64 rAt.toInt) := (hba3.cell 15).trans (by rw [hxc.out]; rfl)
       have qb15 : w3.cell? ⟨w.heap.size + 1, 15, none⟩ = some (.int .i64 rAt.toInt) := (hbb3.cell 15).trans (by rw [hyc.out]; rfl)
       have qa16 : w3.cell? ⟨w.heap.size, 16, none⟩ = some (.slice gA gl.length gc) := (hba3.cell 16).trans (by rw [hxc.out]; rfl)
       have qb16 : w3.cell? ⟨w.heap.size + 1, 16, none⟩ = some (.slice gA' gl.length gc') := (hbb3.cell 16).trans (by rw [hyc.out]; rfl)
       clear hba1 hbb1)
    | (go_at_call 35; go_must (refine (SameReply_ _ _ gA gA' gc gc' gl _ (HX.out _ hn3).got (HY.out _ hn3).got).mono ?_); rintro e1 w4 ⟨rfl, hk4⟩))
  go_ret
  exact ⟨rfl, hn3.trans hk4 (fun _ _ e => e)⟩
end Go.Proofs.Ytiimdnachgkomaa
