/- The statement ClientsAround: for every input the law returns true and leaves its arguments as they were. No condition. -/
import Derived.Test.YtiimdnachgkomaaFactsClientsAround
import Derived.Test.YtiimdnachgkomaaAround
import Derived.Test.YtiimdnachgkomaaRead
import Derived.ProofKit
import Derived.OpenShut
import Derived.ShutString
import Derived.ChangeOld
namespace Go.Proofs.Ytiimdnachgkomaa
open Go Go.ChangeShapes Go.WideShapes Go.ChangeAt Go.RowKit

theorem own_ : ownKnob Try.prog.godebug = none := by kernel_rfl
theorem laidOut_ : laidOutB Try.prog = true := by kernel_rfl
theorem cells_2u8 : Try.prog.cellsOf 56 = 2 := by kernel_rfl
theorem cells_u8 : Try.prog.cellsOf 5 = 1 := by kernel_rfl

theorem two_of {cs : List Value} (h : cs.length = 2) : ∃ x y, cs = [x, y] := by
  match cs, h with
  | [x, y], _ => exact ⟨x, y, rfl⟩
set_option maxRecDepth 100000 in
theorem arg_2u8 {W : World} {H : Type} {enc : TypeId × Value → H} {base b0 : Nat} {spare : Nat → Bool} {held : Bool} {r : Reach} {v : Value} {d : DataW H} {p : List MemPlace}
    (hv : Value.okWide Try.prog W r b0 56 v) (h : DataW.Trod enc Try.prog W base spare held 56 v d p) : ∃ b c : UInt8, v = .agg #[.int .u8 b.toNat, .int .u8 c.toNat] := by
  obtain ⟨cs, rfl, hr⟩ := arg_agg hv h (.inr ⟨2, 5, Try.underlying56⟩)
  obtain ⟨hl, hi⟩ := hr.array Try.underlying56
  rw [cells_2u8] at hl
  rw [cells_u8] at hi
  obtain ⟨a, ha⟩ := (hi 0 (by omega)).u8 Try.underlying5
  obtain ⟨b, hb⟩ := (hi 1 (by omega)).u8 Try.underlying5
  obtain ⟨x, y, rfl⟩ := two_of hl
  simp at ha hb
  subst ha hb
  exact ⟨a, b, rfl⟩

set_option maxRecDepth 100000 in
theorem around_lifted (os : Os) (started : os.Started) (H : Type) (enc : TypeId × Value → H) :
    ReturnsInHanded {} Try.checked os 4 .any (Rows.clientsAroundSpec.pre6 enc Try.prog Try.f4 Rows.clientsAroundRow.domain false) (Rows.clientsAroundSpec.post enc Try.prog Try.f4 false true false false) := by
  refine returnsInHanded_of_change (C := Try.checked) own_ started (by kernel_rfl) Try.func4
    (ChangeSpec.witness6 (enc := enc) (C := Try.checked) false ⟨#[], #[.int .u8 0, .int .u8 0, .agg #[.int .u8 0, .int .u8 0]], []⟩ 8 (by kernel_rfl) (by kernel_rfl) (by kernel_rfl) (by kernel_rfl)) ?_
  intro W base args ds gs before hval0 hW hcnd _
  have hval : ∀ (j : Nat) t v, Try.f4.params[j]? = some t → args[j]? = some v → Value.okWide Try.prog W .any base t v := hval0
  have hW' := hW
  obtain ⟨p, q, hA0, hV, rfl, hfz, hnd⟩ := hW
  have hA : DataW.TrodAll enc Try.prog W 0 (fun _ => true) true Try.f4.params.toList args.toList ds p := hA0
  rw [Try.params4] at hA hval
  obtain ⟨v0, vs0, d0, ds0, p0, q0, hargs, rfl, rfl, h0, r0⟩ := trodAll_cons hA
  obtain ⟨v1, vs1, d1, ds1, p1, q1, rfl, rfl, rfl, h1, r1⟩ := trodAll_cons r0
  obtain ⟨v2, vs2, d2, ds2, p2, q2, rfl, rfl, rfl, h2, r2⟩ := trodAll_cons r1
  obtain ⟨rfl, rfl, rfl⟩ := trodAll_nil r2
  obtain rfl : args = #[v0, v1, v2] := by cases args; simp_all
  obtain ⟨rfl, rfl⟩ := trodVars_none hV
  have k0 := h0
  have k1 := h1
  have k2 := h2
  have lt0 : ∀ x ∈ p0, x.block < W.heap.size := by obtain ⟨m, hm⟩ := k0; exact DataW.trod_lt m _ _ _ hm
  have lt1 : ∀ x ∈ p1, x.block < W.heap.size := by obtain ⟨m, hm⟩ := k1; exact DataW.trod_lt m _ _ _ hm
  have lt2 : ∀ x ∈ p2, x.block < W.heap.size := by obtain ⟨m, hm⟩ := k2; exact DataW.trod_lt m _ _ _ hm
  have s0 : ∃ b : UInt8, v0 = .int .u8 b.toNat := arg_u8 Try.underlying5 (hval 0 5 v0 rfl rfl) h0
  have s1 : ∃ b : UInt8, v1 = .int .u8 b.toNat := arg_u8 Try.underlying5 (hval 1 5 v1 rfl rfl) h1
  have s2 := arg_2u8 (hval 2 56 v2 rfl rfl) h2
  obtain ⟨a0, rfl⟩ := s0
  obtain ⟨a1, rfl⟩ := s1
  obtain ⟨a2, a3, rfl⟩ := s2
  clear hA0 hval0
  refine (around_calls a0 a1 a2 a3 W).mono fun e W' ⟨he, hn⟩ => ?_
  subst he
  have bel := hn.below
  exact ⟨_, rfl, _, _, _, [], _, [], hW', trodAll_mk1 (shut_bool Try.underlying4 _), (trodAll_cons_mk (Below.trod laidOut_ (by kernel_rfl) (of_decide_eq_true (by kernel_rfl)) k0 bel lt0) (trodAll_cons_mk (Below.trod laidOut_ (by kernel_rfl) (of_decide_eq_true (by kernel_rfl)) k1 bel lt1) (trodAll_cons_mk (Below.trod laidOut_ (by kernel_rfl) (of_decide_eq_true (by kernel_rfl)) k2 bel lt2) trodAll_mk0))), rfl, bel.frame _, fun h => by cases h⟩

theorem around_holds : Rows.ClientsAroundSaid :=
  OpenClaim.holds_of_wide 4 Try.f4 rfl rfl rfl rfl rfl rfl rfl ⟨rfl, rfl, rfl, rfl, rfl⟩ rfl rfl rfl rfl rfl (by kernel_rfl) Try.func4 closed_ClientsAround
    (of_decide_eq_true (by kernel_rfl)) (by unfold Func.isWrapper; first | (rw [if_pos (by decide +kernel)]; kernel_rfl) | (rw [if_neg (by decide +kernel)]; exact ⟨rfl, rfl⟩))
    (fun os started H enc _ => around_lifted os started H enc)
#print axioms around_holds
end Go.Proofs.Ytiimdnachgkomaa
