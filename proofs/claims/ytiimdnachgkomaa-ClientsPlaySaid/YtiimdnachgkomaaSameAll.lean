/- SameAll: no letter, or one. -/
import Derived.Test.YtiimdnachgkomaaSameL
import Derived.Test.YtiimdnachgkomaaRefCalls
namespace Go.Proofs.Ytiimdnachgkomaa
open Go Go.RowKit
theorem wpStill_ldS {P : Program} {w : World} {ops : Array Oper} {rest : List Oper} {op : Oper} {a : Act} {Q : Act → Prop} (hgd : op.guard = none) (ty : TypeId) (x : Operand) (ho : op.op = .load ty x) {k : Nat} (hs : IsS P ty k) (g o : Nat) (hx : a.eval x = .pointer (some ⟨g, o, none⟩))
    {t : TypeId} {cs : Array Value} (hb : Blk w g t cs) (arr : List Value) (ha : subc cs o k = arr) (hk : arr.length = k) (h : wpStill P ops w Q rest (a.put op.dst (.agg arr.toArray))) : wpStill P ops w Q (op :: rest) a :=
  wpStill_step fun K hK => by
    simp only [Region.wanted, hgd, if_true]
    unfold Oper.still execOp
    simp only [ho, hx, Instr.loadAt, Instr.sureAddr, Sem.run_bind, Sem.run_pure, Result.andThen_ok, run_ldS hs hb arr ha hk, Oper.stillUpon_value]
    exact hK _ h
set_option maxRecDepth 20000 in
theorem SameAll_nil (w : World) :
    Calls Try.prog 30 #[.slice none 0 0, .slice none 0 0] w fun e w' => e = .returned (.bool true) ∧ Nw w w' := by
  go_enter Try.func30, Try.ntmps30
  go_wp2_with fail
  go_loopw [5] (fun i wr => i = .int .i64 0 ∧ wr = w) (fun i _ => 0)
  case atStart => exact ⟨rfl, rfl⟩
  case round =>
    obtain ⟨rfl, rfl⟩ := hrel
    go_wp2_with fail
    go_ret
    exact ⟨rfl, Kp.refl _ _⟩
set_option maxRecDepth 20000 in
set_option maxHeartbeats 4000000 in
theorem SameAll_one (b b' : Nat) (x y : LV) (w : World) (hb : Blk w b 36 x.cells.toArray) (hb' : Blk w b' 76 y.rcells.toArray) (hx : x.Ok w) (hy : y.Ok w) (h : x.Like y) :
    Calls Try.prog 30 #[.slice (some ⟨b, 0, none⟩) 1 1, .slice (some ⟨b', 0, none⟩) 1 1] w fun e w' => e = .returned (.bool true) ∧ Nw w w' := by
  have HX := Lib.hid (fun w' (hk : Nw w w') => hx.nw hk)
  have HY := Lib.hid (fun w' (hk : Nw w w') => hy.nw hk)
  have HL := Lib.hid h
  clear hx hy h
  go_enter Try.func30, Try.ntmps30
  go_wp2_with fail
  go_loopw [5] (fun i wr => ∃ q : Nat, i = .int .i64 q ∧ q ≤ 1 ∧ Nw w wr) (fun i _ => 1 - (intOf i).toNat)
  case atStart => exact ⟨0, rfl, by omega, Kp.refl _ w⟩
  case round =>
    obtain ⟨q, rfl, hq, hn⟩ := hrel
    rcases (by omega : q = 0 ∨ q = 1) with rfl | rfl
    · rw [show (((0 : Nat) : Int)) = 0 from rfl]
      have hba := hb.nw hn
      have hbb := hb'.nw hn
      go_wp2_with fail
      refine wp_region_still_tail 8 (by kernel_rfl) (by kernel_rfl) ?_
      simp only [List.take_succ_cons, List.take_zero, List.drop_succ_cons, List.drop_zero]
      iterate 3 still_step
      refine wpStill_ldS rfl 36 (.tmp 19) rfl isS_letter b 0 rfl hba.drew x.cells rfl rfl ?_
      iterate 3 still_step
      refine wpStill_ldS rfl 76 (.tmp 23) rfl isS_rlet b' 0 rfl hbb.drew y.rcells rfl rfl ?_
      refine wpStill_nil ?_
      go_wp2_with (go_at_call 93; go_must (refine (Same_ x y _ (HX.out _ hn.drew) (HY.out _ hn.drew) HL.out).mono ?_); rintro e w6 ⟨rfl, hk6⟩)
      exact ⟨⟨1, rfl, by omega, hn.drew.trans hk6 (fun _ _ e => e)⟩, by simp [intOf]⟩
    · go_wp2_with fail
      go_ret
      exact ⟨rfl, hn⟩
end Go.Proofs.Ytiimdnachgkomaa
