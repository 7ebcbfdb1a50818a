/- packs: what is wrong is recovered; GetCommand, GetReply, GetEntry, GetState. -/
import Derived.Test.YtiimdnachgkomaaGet4
import Derived.Defers
import Derived.Recover
import Derived.RegionTactic
import Derived.BigRegion
namespace Go.Proofs.Ytiimdnachgkomaa
open Go Go.RowKit
/-- How the rest of a deferred function ends: its body behind recover. -/
def DQ (R : World → Prop) (e : Exit) (a : Act) (w : World) : Prop := (e = .normal ∨ e = .ret) ∧ a.defers = [] ∧ R w
theorem wpS_of_wp_ {P : Program} {c : Code} {fn : Func} {c₀ : Frame} {cs : List Frame} {u' : FrameMode} {a : Act} {w : World} {R : Ending → FrameMode → World → Prop} (hres : fn.results = #[]) (h : c.wp P (DQ fun w' => R (.returned (.tuple #[])) u' w') a w) :
    c.wpS P (bodyPostS P fn c₀ cs R) a ({ c₀ with mode := u' } :: cs) w := by
  refine wpS_of_wp (Code.wp_mono ?_ h)
  rintro e a w ⟨he, hd, hR⟩
  rcases he with rfl | rfl
  · exact ⟨hd, u', rfl, _, results_none hres _ _ _, hR⟩
  · exact ⟨hd, u', rfl, _, results_none hres _ _ _, hR⟩
theorem eta_mode {c₀ : Frame} {u : FrameMode} (h : c₀.mode = u) : c₀ = { c₀ with mode := u } := by subst h; rfl
def Idle (w : World) (e : Ending) (u' : FrameMode) (w' : World) : Prop := u' = .returning ∧ e = .returned (.tuple #[]) ∧ w' = w
theorem assert_wrong (v : Value) (w : World) : (Instr.typeAssert (.iface 259 v) 20 259 true).run Try.prog w = .ok (.tuple #[v, .bool true]) w := by kernel_rfl
def Caught (T : TypeId) (N0 N1 : Nat) (k : Nat) (z : Array Value) (w : World) (e : Ending) (u' : FrameMode) (w' : World) : Prop := u' = .panicking [{ v := .iface 259 (.agg #[.int .i64 k]), recovered := true }] ∧ e = .returned (.tuple #[]) ∧
      Blk w' N0 T z ∧ Blk w' N1 31 #[.int .i64 k] ∧ Kp (fun k => k = N0 ∨ k = N1) w w'
/-- How a Get ends: V says what of the value, z is the one of nothing. -/
def Got_ {α : Type} (w : World) (V : α → World → Value → Prop) (z : Value) (res : Except Nat α) (e : Ending) (w' : World) : Prop :=
  Nw w w' ∧ match res with
  | .ok a => ∃ x, e = .returned (.tuple #[x, .int .i64 0]) ∧ V a w' x
  | .error k => e = .returned (.tuple #[z, .int .i64 k])
theorem Got_.ok {α : Type} {w w' : World} {V : α → World → Value → Prop} {z : Value} {res : Except Nat α} {a : α} (h : res = .ok a) {x : Value} (hk : Nw w w') (hv : V a w' x) : Got_ w V z res (.returned (.tuple #[x, .int .i64 0])) w' := by
  subst h; exact ⟨hk, x, rfl, hv⟩
theorem Got_.err {α : Type} {w w' : World} {V : α → World → Value → Prop} {z : Value} {res : Except Nat α} {k : Nat} (h : res = .error k) (hk : Nw w w') : Got_ w V z res (.returned (.tuple #[z, .int .i64 k])) w' := by
  subst h; exact ⟨hk, rfl⟩
theorem Got_.ways {α : Type} {w w' : World} {V : α → World → Value → Prop} {z : Value} {res : Except Nat α} {e : Ending} (h : Got_ w V z res e w') :
    (∃ a x, res = .ok a ∧ e = .returned (.tuple #[x, .int .i64 0]) ∧ V a w' x ∧ Nw w w') ∨ (∃ k, res = .error k ∧ e = .returned (.tuple #[z, .int .i64 k]) ∧ Nw w w') := by
  obtain ⟨hk, h⟩ := h
  match res, h with
  | .ok a, ⟨x, h1, h2⟩ => exact .inl ⟨a, x, rfl, h1, h2, hk⟩
  | .error k, h => exact .inr ⟨k, rfl, h, hk⟩
theorem pAll_ok {α : Type} {d : Ps α} {l : Bytes} {a : α} (h : d l = .ok (a, [])) : pAll d l = .ok a := by unfold pAll; rw [h]
theorem pAll_err {α : Type} {d : Ps α} {l : Bytes} {k : Nat} (h : d l = .error k) : pAll d l = .error k := by unfold pAll; rw [h]
theorem pAll_more {α : Type} {d : Ps α} {l r : Bytes} {a : α} (h : d l = .ok (a, r)) (hr : 0 < r.length) : pAll d l = .error 4 := by
  match r, hr with
  | x :: r, _ => unfold pAll; rw [h]
theorem run_ld1 {P : Program} {w : World} {g : Nat} {t ty : TypeId} {v : Value} {d : TypeDesc} (hb : Blk w g t #[v]) (hu : P.underlying ty = some d) (hd : d.isRow = false) : (loadVar ty ⟨g, 0, none⟩).run P w = .ok v w := by
  have hc : w.cell? ⟨g, 0, none⟩ = some v := hb.cell 0
  have hagg : (isAgg ty).run P w = .ok false w := by
    unfold isAgg
    rw [Sem.run_bind, run_underlying hu w]
    cases d <;> simp_all
  simp [loadVar, Sem.run_bind, hagg, hc, go_sem]

set_option maxRecDepth 20000 in
set_option maxHeartbeats 1000000 in
theorem dget_idle_command (v0 v1 : Value) (w : World) :
    CallsD Try.prog 234 #[v0, v1] .returning w (Idle w) := by
  refine callsD_of_wpS Try.func234 rfl fun c₀ cs hu => ?_
  apply wpS_seq
  apply wpS_region
  simp [wpOpsS, go_sem, recoverD, hu, Try.ntmps234, Exit.thenS]
  rw [eta_mode hu]
  refine wpS_of_wp_ rfl ?_
  clear hu
  simp only [Array.replicate_succ, Array.replicate_zero, List.push_toArray, List.append_toArray, List.nil_append, List.cons_append, List.setIfInBounds_toArray, List.set_cons_zero, List.set_cons_succ]
  go_wp2_with fail
  exact ⟨.inr rfl, rfl, rfl, rfl, rfl⟩
set_option maxRecDepth 20000 in
set_option maxHeartbeats 1000000 in
theorem dget_caught_command (N0 N1 : Nat) (k : Nat) (x0 v1 : Value) (w : World) (h0 : Blk w N0 24 #[x0]) (h1 : Blk w N1 31 #[v1]) (hne : N0 ≠ N1) :
    CallsD Try.prog 234 #[.pointer (some ⟨N0, 0, none⟩), .pointer (some ⟨N1, 0, none⟩)] (.panicking [{ v := .iface 259 (.agg #[.int .i64 k]), recovered := false }]) w (Caught 24 N0 N1 k #[.slice none 0 0] w) := by
  refine callsD_of_wpS Try.func234 rfl fun c₀ cs hu => ?_
  apply wpS_seq
  apply wpS_region
  simp [wpOpsS, go_sem, recoverD, hu, Try.ntmps234, Exit.thenS]
  refine wpS_of_wp_ rfl ?_
  clear hu
  simp only [Array.replicate_succ, Array.replicate_zero, List.push_toArray, List.append_toArray, List.nil_append, List.cons_append, List.setIfInBounds_toArray, List.set_cons_zero, List.set_cons_succ]
  have hta := assert_wrong (.agg #[.int .i64 k])
  go_wp2_with fail
  clear hta
  have l0 := h0.lt
  have l1 := h1.lt
  have hk0 : Nw w ((w.alloc (.cells #[.int .i64 k] 259)).alloc (.cells #[.slice none 0 0] 24)) := ((Kp.refl _ w).alloc _).alloc _
  have g0 := Lib.hid (h0.nw hk0)
  have g1 := Lib.hid (h1.nw hk0)
  clear h0 h1
  obtain ⟨w1, hw1⟩ : ∃ w1, w1 = ((w.alloc (.cells #[.int .i64 k] 259)).alloc (.cells #[.slice none 0 0] 24)) := ⟨_, rfl⟩
  have b3 : Blk w1 w.heap.size 259 #[.int .i64 k] := by rw [hw1]; exact (Blk.new _ _ _).alloc _
  have b4 : Blk w1 (w.heap.size + 1) 24 #[.slice none 0 0] := by rw [hw1]; exact Blk.newAt (by simp) _ _
  have b0 : Blk w1 N0 24 #[x0] := by rw [hw1]; exact g0.out
  have b1 : Blk w1 N1 31 #[v1] := by rw [hw1]; exact g1.out
  rw [← hw1] at hk0 ⊢
  clear hw1 g0 g1
  have c3 : w1.cell? ⟨w.heap.size, 0, none⟩ = some (.int .i64 k) := b3.cell 0
  have c1 : w1.cell? ⟨N1, 0, none⟩ = some v1 := b1.cell 0
  have f1 := b1.free 0
  have d0 : w1.cell? ⟨w.heap.size + 1, 0, none⟩ = some (.slice none 0 0) := b4.cell 0
  have c0_0 : w1.cell? ⟨N0, 0, none⟩ = some x0 := b0.cell 0
  have f0_0 := b0.free 0
  have n1 : ¬ N0 = w.heap.size := by omega
  have n2 : ¬ N0 = w.heap.size + 1 := by omega
  have n3 : ¬ N1 = w.heap.size := by omega
  have n4 : ¬ N1 = w.heap.size + 1 := by omega
  have m1 : ¬ w.heap.size = N0 := by omega
  have m2 : ¬ w.heap.size + 1 = N0 := by omega
  have m3 : ¬ w.heap.size = N1 := by omega
  have m4 : ¬ w.heap.size + 1 = N1 := by omega
  have hne2 : ¬ N1 = N0 := Ne.symm hne
  go_region
  exact ⟨.inl rfl, rfl, rfl, rfl, ((b0.set_ 0 (.slice none 0 0)).far (p := ⟨N1, 0, none⟩) hne (.int .i64 k)).drew, ((b1.far (p := ⟨N0, 0, none⟩) (Ne.symm hne) (.slice none 0 0)).set_ 0 (.int .i64 k)).drew, (Kp.setCell (S := fun i => i = N0 ∨ i = N1) (p := ⟨N1, 0, none⟩) (Kp.setCell (p := ⟨N0, 0, none⟩) hk0.kp (fun _ => .inl rfl) (.slice none 0 0)) (fun _ => .inr rfl) _).drew⟩
set_option maxRecDepth 20000 in
set_option maxHeartbeats 1000000 in
theorem get1_command (A : Option Addr) (c : Nat) (l : Bytes) (w : World) (hr : RdB w A c l) :
    Calls Try.prog 233 #[.slice A l.length c, .func (.func 154) #[] #[]] w (Got_ w (VCommand w.heap.size) (.agg #[.slice none 0 0]) (pAll pCommand l)) := by
  have hmf : ∀ (fn : Fn) (first cap : Array Value) (w : World), (Instr.makeFunc fn first cap).run Try.prog w = .ok (.func fn first cap) w := fun _ _ _ _ => rfl
  have HG : Hid (Gs w.heap.size (((w.alloc (.cells #[.slice none 0 0] 24)).alloc (.cells #[.int .i64 0] 31)).alloc (.cells #[.slice A l.length c] 262)) (w.heap.size + 1 + 1) l) := Lib.hid ⟨by omega, A, c, Blk.newAt (by simp) _ _, ((hr.alloc _).alloc _).alloc _, fun hn b hb => by
    obtain ⟨k', h1, h2⟩ := hr.blk_lt hn (by omega)
    rw [h1] at hb; injection hb with hb; omega⟩
  have HB0 : Hid (Blk (((w.alloc (.cells #[.slice none 0 0] 24)).alloc (.cells #[.int .i64 0] 31)).alloc (.cells #[.slice A l.length c] 262)) w.heap.size 24 #[.slice none 0 0]) := Lib.hid (((Blk.new _ _ _).alloc _).alloc _)
  have HB1 : Hid (Blk (((w.alloc (.cells #[.slice none 0 0] 24)).alloc (.cells #[.int .i64 0] 31)).alloc (.cells #[.slice A l.length c] 262)) (w.heap.size + 1) 31 #[.int .i64 0]) := Lib.hid ((Blk.newAt (by simp) _ _).alloc _)
  have HN : Hid (Nw w (((w.alloc (.cells #[.slice none 0 0] 24)).alloc (.cells #[.int .i64 0] 31)).alloc (.cells #[.slice A l.length c] 262))) := Lib.hid ((((Kp.refl _ w).alloc _).alloc _).alloc _)
  have HZ3 : Hid (w.heap.size + 1 + 1 + 1 ≤ (((w.alloc (.cells #[.slice none 0 0] 24)).alloc (.cells #[.int .i64 0] 31)).alloc (.cells #[.slice A l.length c] 262)).heap.size) := Lib.hid (by simp)
  clear hr
  go_enter_defers Try.func233, Try.ntmps233
  go_wp2_with fail
  go_must (refine (get_command w.heap.size (w.heap.size + 1 + 1) l _ HG.out).mono ?_)
  rintro e w4 h
  rcases h.ways with ⟨a, r, x, hp, rfl, ⟨A1, rfl, ho1⟩, hg, hk⟩ | ⟨k, hp, rfl, hk⟩
  rotate_left
  · have HE := Lib.hid (pAll_err hp)
    have b0 := HB0.out.kp hk (by omega)
    have b1 := HB1.out.kp hk (by omega)
    have hn4 : Nw w w4 := HN.out.trans hk (fun i hi e => by omega)
    clear hp HB0 HB1 HN HG HZ3
    unfold wrongE
    go_wp2_with fail
    refine leaves_cons (f := 234) (args := #[.pointer (some ⟨w.heap.size, 0, none⟩), .pointer (some ⟨w.heap.size + 1, 0, none⟩)]) (by simp) (by simp [go_sem]) ?_
    refine (dget_caught_command w.heap.size (w.heap.size + 1) k _ _ w4 b0 b1 (by omega)).mono ?_
    rintro e u' w5 ⟨rfl, rfl, q0, q1, hk5⟩
    have hn5 : Nw w w5 := hn4.trans hk5 (fun i hi e => by omega)
    refine ⟨.tuple #[.agg #[.slice none 0 0], .int .i64 k], ?_, Got_.err HE.out hn5⟩
    exact res_cc rfl sS_command _ rfl q0 [.slice none 0 0] rfl rfl rfl (run_ld1 q1 Try.underlying31 rfl)
  · have HB1' := Lib.hid (HB1.out.kp hk (by omega))
    have HB0' := Lib.hid (HB0.out.kp hk (by omega))
    have HN4 : Hid (Nw w w4) := Lib.hid (HN.out.trans hk (fun i hi e => by omega))
    have HG4 := Lib.hid hg
    have HP := Lib.hid hp
    have Hho1 := Lib.hid (ho1.low (show w.heap.size + 1 + 1 + 1 ≤ _ from HZ3.out))
    clear hp HB0 HB1 HN HG hg hk ho1
    by_cases hr0 : r.length = 0
    · have hd0 : decide (0 < (r.length : Int)) = false := decide_eq_false (by omega)
      have hd1 : decide (0 < r.length) = false := decide_eq_false (by omega)
      have HE : Hid (pAll pCommand l = .ok a) := Lib.hid (pAll_ok (by rw [HP.out, List.eq_nil_of_length_eq_zero hr0]))
      replace hr0 := Lib.hid hr0
      clear HP
      go_wp2_with (first
        | ((with_reducible refine stopAt (.store 24 (.tmp 4) (.tmp 13)) rfl ?_); go_must (refine unStop (wpList_stS rfl 24 (.tmp 4) (.tmp 13) rfl [.slice A1 a.length a.length] sS_command w.heap.size 0 rfl rfl rfl HB0'.out [.slice A1 a.length a.length] (by simp) (by simp [Value.oneCell']) rfl ?_)); intro w5 q0 hk5; obtain ⟨_, A5, c5, hb5, _, _⟩ := HG4.out.kp hk5 (fun k e => by omega); have e5 : w5.cell? ⟨w.heap.size + 1 + 1, 0, none⟩ = some (.slice A5 r.length c5) := hb5.cell 0; have Q0 := Lib.hid q0; clear q0)
        | ((with_reducible refine stopAt (.load 24 (.tmp 4)) rfl ?_); go_must (refine unStop (wpList_ldS rfl 24 (.tmp 4) rfl sS_command w.heap.size 0 rfl Q0.out [.slice A1 a.length a.length] rfl rfl ?_)))
        | ((with_reducible refine stopAt (.store 24 (.tmp 4) (.tmp 22)) rfl ?_); go_must (refine unStop (wpList_stS rfl 24 (.tmp 4) (.tmp 22) rfl [.slice A1 a.length a.length] sS_command w.heap.size 0 rfl rfl rfl Q0.out [.slice A1 a.length a.length] (by simp) (by simp [Value.oneCell']) rfl ?_)); intro w6 q6 hk6; have HB6 := Lib.hid ((HB1'.out.kp hk5 (by omega)).kp hk6 (by omega)); have b6 := HB6.out.cell 0; have f6 := HB6.out.free 0))
      have HN5 : Hid (Nw w w5) := Lib.hid (HN4.out.trans hk5 (fun i hi e => by omega))
      replace Hho1 := Lib.hid (Hho1.out.kp hk5 (fun k hk e => by have := (Hho1.out.lt k hk).1; omega))
      have HN6 : Nw w w6 := HN5.out.trans hk6 (fun i hi e => by omega)
      have ho1 := ((Hho1.out.kp hk6 (fun k hk e => by have := (Hho1.out.lt k hk).1; omega)).setCell (p := ⟨w.heap.size + 1, 0, none⟩) (Hho1.out.fresh (show w.heap.size + 1 < w.heap.size + 1 + 1 + 1 by omega)) (.int .i64 0)).low (show w.heap.size ≤ w.heap.size + 1 + 1 + 1 by omega)
      refine leaves_cons (f := 234) (args := #[.pointer (some ⟨w.heap.size, 0, none⟩), .pointer (some ⟨w.heap.size + 1, 0, none⟩)]) (by simp) (by simp [go_sem]) ?_
      refine (dget_idle_command _ _ _).mono ?_
      rintro e u' w7 ⟨rfl, rfl, rfl⟩
      refine ⟨.tuple #[.agg #[.slice A1 a.length a.length], .int .i64 0], ?_, Got_.ok HE.out (HN6.setNew (p := ⟨w.heap.size + 1, 0, none⟩) (Nat.le_succ _) _) ⟨A1, rfl, ho1⟩⟩
      exact res_cc rfl sS_command _ rfl (q6.far (p := ⟨w.heap.size + 1, 0, none⟩) (by simp) _) [.slice A1 a.length a.length] rfl rfl rfl (run_ld1 (HB6.out.set_ 0 (.int .i64 0)) Try.underlying31 rfl)
    · have hd0 : decide (0 < (r.length : Int)) = true := decide_eq_true (by omega)
      have hd1 : decide (0 < r.length) = true := decide_eq_true (by omega)
      have HE : Hid (pAll pCommand l = .error 4) := Lib.hid (pAll_more HP.out (by omega))
      clear HP hr0
      go_wp2_with ((with_reducible refine stopAt (.store 24 (.tmp 4) (.tmp 13)) rfl ?_); go_must (refine unStop (wpList_stS rfl 24 (.tmp 4) (.tmp 13) rfl [.slice A1 a.length a.length] sS_command w.heap.size 0 rfl rfl rfl HB0'.out [.slice A1 a.length a.length] (by simp) (by simp [Value.oneCell']) rfl ?_)); intro w5 q0 hk5; obtain ⟨_, A5, c5, hb5, _, _⟩ := HG4.out.kp hk5 (fun k e => by omega); have e5 : w5.cell? ⟨w.heap.size + 1 + 1, 0, none⟩ = some (.slice A5 r.length c5) := hb5.cell 0)
      have HB5 := Lib.hid (HB1'.out.kp hk5 (by omega))
      have HN5 : Hid (Nw w w5) := Lib.hid (HN4.out.trans hk5 (fun i hi e => by omega))
      refine leaves_cons (f := 234) (args := #[.pointer (some ⟨w.heap.size, 0, none⟩), .pointer (some ⟨w.heap.size + 1, 0, none⟩)]) (by simp) (by simp [go_sem]) ?_
      refine (dget_caught_command w.heap.size (w.heap.size + 1) 4 _ _ w5 q0 HB5.out (by omega)).mono ?_
      rintro e u' w6 ⟨rfl, rfl, p0, p1, hk6⟩
      refine ⟨.tuple #[.agg #[.slice none 0 0], .int .i64 (4 : Nat)], ?_, Got_.err HE.out (HN5.out.trans hk6 (fun i hi e => by omega))⟩
      exact res_cc rfl sS_command _ rfl p0 [.slice none 0 0] rfl rfl rfl (run_ld1 p1 Try.underlying31 rfl)
set_option maxRecDepth 20000 in
set_option maxHeartbeats 1000000 in
theorem GetCommand_ (A : Option Addr) (c : Nat) (l : Bytes) (w : World) (hr : RdB w A c l) :
    Calls Try.prog 230 #[.slice A l.length c] w (Got_ w (VCommand w.heap.size) (.agg #[.slice none 0 0]) (pAll pCommand l)) := by
  have HR := Lib.hid (hr.alloc (.cells #[.slice none 0 0] 24))
  have HB0 : Hid (Blk (w.alloc (.cells #[.slice none 0 0] 24)) w.heap.size 24 #[.slice none 0 0]) := Lib.hid (Blk.new _ _ _)
  have HN0 : Hid (Nw w (w.alloc (.cells #[.slice none 0 0] 24))) := Lib.hid ((Kp.refl _ w).alloc _)
  have HZ0 : Hid ((w.alloc (.cells #[.slice none 0 0] 24)).heap.size = w.heap.size + 1) := Lib.hid (by simp)
  clear hr
  go_enter Try.func230, Try.ntmps230
  go_wp2_with fail
  go_must (refine (get1_command A c l _ HR.out).mono ?_)
  rintro e w1 h
  rcases h.ways with ⟨a, x, hp, rfl, ⟨A1, rfl, ho1⟩, hk⟩ | ⟨k, hp, rfl, hk⟩
  · have HP := Lib.hid hp
    have HB1 := Lib.hid (HB0.out.nw hk)
    have HN1 := Lib.hid (HN0.out.nw hk)
    have Hho1 := Lib.hid (ho1.low (show w.heap.size + 1 ≤ _ from Nat.le_of_eq HZ0.out.symm))
    clear hp hk ho1
    go_wp2_with ((with_reducible refine stopAt (.store 24 (.tmp 2) (.tmp 6)) rfl ?_); go_must (refine unStop (wpList_stS rfl 24 (.tmp 2) (.tmp 6) rfl [.slice A1 a.length a.length] sS_command w.heap.size 0 rfl rfl rfl HB1.out [.slice A1 a.length a.length] (by simp) (by simp [Value.oneCell']) rfl ?_)); intro w2 q2 hk2)
    have ho1 := (Hho1.out.kp hk2 (fun k hk e => by have := (Hho1.out.lt k hk).1; omega)).low (Nat.le_succ w.heap.size)
    exact bodyPost_ret (res_ct rfl sS_command _ rfl q2 [.slice A1 a.length a.length] rfl rfl) rfl (Got_.ok HP.out (HN1.out.trans hk2 (fun i hi e => by omega)) ⟨A1, rfl, ho1⟩)
  · have HP := Lib.hid hp
    have HB1 := Lib.hid (HB0.out.nw hk)
    have HN1 := Lib.hid (HN0.out.nw hk)
    clear hp hk
    go_wp2_with ((with_reducible refine stopAt (.store 24 (.tmp 2) (.tmp 6)) rfl ?_); go_must (refine unStop (wpList_stS rfl 24 (.tmp 2) (.tmp 6) rfl [.slice none 0 0] sS_command w.heap.size 0 rfl rfl rfl HB1.out [.slice none 0 0] (by simp) (by simp [Value.oneCell']) rfl ?_)); intro w2 q2 hk2)
    exact bodyPost_ret (res_ct rfl sS_command _ rfl q2 [.slice none 0 0] rfl rfl) rfl (Got_.err HP.out (HN1.out.trans hk2 (fun i hi e => by omega)))
set_option maxRecDepth 20000 in
set_option maxHeartbeats 1000000 in
theorem dget_idle_reply (v0 v1 : Value) (w : World) :
    CallsD Try.prog 155 #[v0, v1] .returning w (Idle w) := by
  refine callsD_of_wpS Try.func155 rfl fun c₀ cs hu => ?_
  apply wpS_seq
  apply wpS_region
  simp [wpOpsS, go_sem, recoverD, hu, Try.ntmps155, Exit.thenS]
  rw [eta_mode hu]
  refine wpS_of_wp_ rfl ?_
  clear hu
  simp only [Array.replicate_succ, Array.replicate_zero, List.push_toArray, List.append_toArray, List.nil_append, List.cons_append, List.setIfInBounds_toArray, List.set_cons_zero, List.set_cons_succ]
  go_wp2_with fail
  exact ⟨.inr rfl, rfl, rfl, rfl, rfl⟩
set_option maxRecDepth 20000 in
set_option maxHeartbeats 1000000 in
theorem dget_caught_reply (N0 N1 : Nat) (k : Nat) (x0 x1 x2 v1 : Value) (w : World) (h0 : Blk w N0 34 #[x0, x1, x2]) (h1 : Blk w N1 31 #[v1]) (hne : N0 ≠ N1) :
    CallsD Try.prog 155 #[.pointer (some ⟨N0, 0, none⟩), .pointer (some ⟨N1, 0, none⟩)] (.panicking [{ v := .iface 259 (.agg #[.int .i64 k]), recovered := false }]) w (Caught 34 N0 N1 k #[.int .i64 0, .int .i64 0, .slice none 0 0] w) := by
  refine callsD_of_wpS Try.func155 rfl fun c₀ cs hu => ?_
  apply wpS_seq
  apply wpS_region
  simp [wpOpsS, go_sem, recoverD, hu, Try.ntmps155, Exit.thenS]
  refine wpS_of_wp_ rfl ?_
  clear hu
  simp only [Array.replicate_succ, Array.replicate_zero, List.push_toArray, List.append_toArray, List.nil_append, List.cons_append, List.setIfInBounds_toArray, List.set_cons_zero, List.set_cons_succ]
  have hta := assert_wrong (.agg #[.int .i64 k])
  go_wp2_with fail
  clear hta
  have l0 := h0.lt
  have l1 := h1.lt
  have hk0 : Nw w ((w.alloc (.cells #[.int .i64 k] 259)).alloc (.cells #[.int .i64 0, .int .i64 0, .slice none 0 0] 34)) := ((Kp.refl _ w).alloc _).alloc _
  have g0 := Lib.hid (h0.nw hk0)
  have g1 := Lib.hid (h1.nw hk0)
  clear h0 h1
  obtain ⟨w1, hw1⟩ : ∃ w1, w1 = ((w.alloc (.cells #[.int .i64 k] 259)).alloc (.cells #[.int .i64 0, .int .i64 0, .slice none 0 0] 34)) := ⟨_, rfl⟩
  have b3 : Blk w1 w.heap.size 259 #[.int .i64 k] := by rw [hw1]; exact (Blk.new _ _ _).alloc _
  have b4 : Blk w1 (w.heap.size + 1) 34 #[.int .i64 0, .int .i64 0, .slice none 0 0] := by rw [hw1]; exact Blk.newAt (by simp) _ _
  have b0 : Blk w1 N0 34 #[x0, x1, x2] := by rw [hw1]; exact g0.out
  have b1 : Blk w1 N1 31 #[v1] := by rw [hw1]; exact g1.out
  rw [← hw1] at hk0 ⊢
  clear hw1 g0 g1
  have c3 : w1.cell? ⟨w.heap.size, 0, none⟩ = some (.int .i64 k) := b3.cell 0
  have c1 : w1.cell? ⟨N1, 0, none⟩ = some v1 := b1.cell 0
  have f1 := b1.free 0
  have d0 : w1.cell? ⟨w.heap.size + 1, 0, none⟩ = some (.int .i64 0) := b4.cell 0
  have c0_0 : w1.cell? ⟨N0, 0, none⟩ = some x0 := b0.cell 0
  have f0_0 := b0.free 0
  have d1 : w1.cell? ⟨w.heap.size + 1, 1, none⟩ = some (.int .i64 0) := b4.cell 1
  have c0_1 : w1.cell? ⟨N0, 1, none⟩ = some x1 := b0.cell 1
  have f0_1 := b0.free 1
  have d2 : w1.cell? ⟨w.heap.size + 1, 2, none⟩ = some (.slice none 0 0) := b4.cell 2
  have c0_2 : w1.cell? ⟨N0, 2, none⟩ = some x2 := b0.cell 2
  have f0_2 := b0.free 2
  have n1 : ¬ N0 = w.heap.size := by omega
  have n2 : ¬ N0 = w.heap.size + 1 := by omega
  have n3 : ¬ N1 = w.heap.size := by omega
  have n4 : ¬ N1 = w.heap.size + 1 := by omega
  have m1 : ¬ w.heap.size = N0 := by omega
  have m2 : ¬ w.heap.size + 1 = N0 := by omega
  have m3 : ¬ w.heap.size = N1 := by omega
  have m4 : ¬ w.heap.size + 1 = N1 := by omega
  have hne2 : ¬ N1 = N0 := Ne.symm hne
  go_region
  exact ⟨.inl rfl, rfl, rfl, rfl, ((((b0.set_ 0 (.int .i64 0)).set_ 1 (.int .i64 0)).set_ 2 (.slice none 0 0)).far (p := ⟨N1, 0, none⟩) hne (.int .i64 k)).drew, ((((b1.far (p := ⟨N0, 0, none⟩) (Ne.symm hne) (.int .i64 0)).far (p := ⟨N0, 1, none⟩) (Ne.symm hne) (.int .i64 0)).far (p := ⟨N0, 2, none⟩) (Ne.symm hne) (.slice none 0 0)).set_ 0 (.int .i64 k)).drew, (Kp.setCell (S := fun i => i = N0 ∨ i = N1) (p := ⟨N1, 0, none⟩) (Kp.setCell (p := ⟨N0, 2, none⟩) (Kp.setCell (p := ⟨N0, 1, none⟩) (Kp.setCell (p := ⟨N0, 0, none⟩) hk0.kp (fun _ => .inl rfl) (.int .i64 0)) (fun _ => .inl rfl) (.int .i64 0)) (fun _ => .inl rfl) (.slice none 0 0)) (fun _ => .inr rfl) _).drew⟩
set_option maxRecDepth 20000 in
set_option maxHeartbeats 1000000 in
theorem get1_reply (A : Option Addr) (c : Nat) (l : Bytes) (w : World) (hr : RdB w A c l) :
    Calls Try.prog 117 #[.slice A l.length c, .func (.func 118) #[] #[]] w (Got_ w (VReply w.heap.size) (.agg #[.int .i64 0, .int .i64 0, .slice none 0 0]) (pAll pReply l)) := by
  have hmf : ∀ (fn : Fn) (first cap : Array Value) (w : World), (Instr.makeFunc fn first cap).run Try.prog w = .ok (.func fn first cap) w := fun _ _ _ _ => rfl
  have HG : Hid (Gs w.heap.size (((w.alloc (.cells #[.int .i64 0, .int .i64 0, .slice none 0 0] 34)).alloc (.cells #[.int .i64 0] 31)).alloc (.cells #[.slice A l.length c] 262)) (w.heap.size + 1 + 1) l) := Lib.hid ⟨by omega, A, c, Blk.newAt (by simp) _ _, ((hr.alloc _).alloc _).alloc _, fun hn b hb => by
    obtain ⟨k', h1, h2⟩ := hr.blk_lt hn (by omega)
    rw [h1] at hb; injection hb with hb; omega⟩
  have HB0 : Hid (Blk (((w.alloc (.cells #[.int .i64 0, .int .i64 0, .slice none 0 0] 34)).alloc (.cells #[.int .i64 0] 31)).alloc (.cells #[.slice A l.length c] 262)) w.heap.size 34 #[.int .i64 0, .int .i64 0, .slice none 0 0]) := Lib.hid (((Blk.new _ _ _).alloc _).alloc _)
  have HB1 : Hid (Blk (((w.alloc (.cells #[.int .i64 0, .int .i64 0, .slice none 0 0] 34)).alloc (.cells #[.int .i64 0] 31)).alloc (.cells #[.slice A l.length c] 262)) (w.heap.size + 1) 31 #[.int .i64 0]) := Lib.hid ((Blk.newAt (by simp) _ _).alloc _)
  have HN : Hid (Nw w (((w.alloc (.cells #[.int .i64 0, .int .i64 0, .slice none 0 0] 34)).alloc (.cells #[.int .i64 0] 31)).alloc (.cells #[.slice A l.length c] 262))) := Lib.hid ((((Kp.refl _ w).alloc _).alloc _).alloc _)
  have HZ3 : Hid (w.heap.size + 1 + 1 + 1 ≤ (((w.alloc (.cells #[.int .i64 0, .int .i64 0, .slice none 0 0] 34)).alloc (.cells #[.int .i64 0] 31)).alloc (.cells #[.slice A l.length c] 262)).heap.size) := Lib.hid (by simp)
  clear hr
  go_enter_defers Try.func117, Try.ntmps117
  go_wp2_with fail
  go_must (refine (get_reply w.heap.size (w.heap.size + 1 + 1) l _ HG.out).mono ?_)
  rintro e w4 h
  rcases h.ways with ⟨a, r, x, hp, rfl, ⟨A1, rfl, ho1⟩, hg, hk⟩ | ⟨k, hp, rfl, hk⟩
  rotate_left
  · have HE := Lib.hid (pAll_err hp)
    have b0 := HB0.out.kp hk (by omega)
    have b1 := HB1.out.kp hk (by omega)
    have hn4 : Nw w w4 := HN.out.trans hk (fun i hi e => by omega)
    clear hp HB0 HB1 HN HG HZ3
    unfold wrongE
    go_wp2_with fail
    refine leaves_cons (f := 155) (args := #[.pointer (some ⟨w.heap.size, 0, none⟩), .pointer (some ⟨w.heap.size + 1, 0, none⟩)]) (by simp) (by simp [go_sem]) ?_
    refine (dget_caught_reply w.heap.size (w.heap.size + 1) k _ _ _ _ w4 b0 b1 (by omega)).mono ?_
    rintro e u' w5 ⟨rfl, rfl, q0, q1, hk5⟩
    have hn5 : Nw w w5 := hn4.trans hk5 (fun i hi e => by omega)
    refine ⟨.tuple #[.agg #[.int .i64 0, .int .i64 0, .slice none 0 0], .int .i64 k], ?_, Got_.err HE.out hn5⟩
    exact res_cc rfl sS_reply _ rfl q0 [.int .i64 0, .int .i64 0, .slice none 0 0] rfl rfl rfl (run_ld1 q1 Try.underlying31 rfl)
  · have HB1' := Lib.hid (HB1.out.kp hk (by omega))
    have HB0' := Lib.hid (HB0.out.kp hk (by omega))
    have HN4 : Hid (Nw w w4) := Lib.hid (HN.out.trans hk (fun i hi e => by omega))
    have HG4 := Lib.hid hg
    have HP := Lib.hid hp
    have Hho1 := Lib.hid (ho1.low (show w.heap.size + 1 + 1 + 1 ≤ _ from HZ3.out))
    clear hp HB0 HB1 HN HG hg hk ho1
    by_cases hr0 : r.length = 0
    · have hd0 : decide (0 < (r.length : Int)) = false := decide_eq_false (by omega)
      have hd1 : decide (0 < r.length) = false := decide_eq_false (by omega)
      have HE : Hid (pAll pReply l = .ok a) := Lib.hid (pAll_ok (by rw [HP.out, List.eq_nil_of_length_eq_zero hr0]))
      replace hr0 := Lib.hid hr0
      clear HP
      go_wp2_with (first
        | ((with_reducible refine stopAt (.store 34 (.tmp 4) (.tmp 13)) rfl ?_); go_must (refine unStop (wpList_stS rfl 34 (.tmp 4) (.tmp 13) rfl [iv a.e, iv a.at_, .slice A1 a.got.length a.got.length] sS_reply w.heap.size 0 rfl rfl rfl HB0'.out [iv a.e, iv a.at_, .slice A1 a.got.length a.got.length] (by simp) (by simp [iv, Value.oneCell']) rfl ?_)); intro w5 q0 hk5; obtain ⟨_, A5, c5, hb5, _, _⟩ := HG4.out.kp hk5 (fun k e => by omega); have e5 : w5.cell? ⟨w.heap.size + 1 + 1, 0, none⟩ = some (.slice A5 r.length c5) := hb5.cell 0; have Q0 := Lib.hid q0; clear q0)
        | ((with_reducible refine stopAt (.load 34 (.tmp 4)) rfl ?_); go_must (refine unStop (wpList_ldS rfl 34 (.tmp 4) rfl sS_reply w.heap.size 0 rfl Q0.out [iv a.e, iv a.at_, .slice A1 a.got.length a.got.length] rfl rfl ?_)))
        | ((with_reducible refine stopAt (.store 34 (.tmp 4) (.tmp 22)) rfl ?_); go_must (refine unStop (wpList_stS rfl 34 (.tmp 4) (.tmp 22) rfl [iv a.e, iv a.at_, .slice A1 a.got.length a.got.length] sS_reply w.heap.size 0 rfl rfl rfl Q0.out [iv a.e, iv a.at_, .slice A1 a.got.length a.got.length] (by simp) (by simp [iv, Value.oneCell']) rfl ?_)); intro w6 q6 hk6; have HB6 := Lib.hid ((HB1'.out.kp hk5 (by omega)).kp hk6 (by omega)); have b6 := HB6.out.cell 0; have f6 := HB6.out.free 0))
      have HN5 : Hid (Nw w w5) := Lib.hid (HN4.out.trans hk5 (fun i hi e => by omega))
      replace Hho1 := Lib.hid (Hho1.out.kp hk5 (fun k hk e => by have := (Hho1.out.lt k hk).1; omega))
      have HN6 : Nw w w6 := HN5.out.trans hk6 (fun i hi e => by omega)
      have ho1 := ((Hho1.out.kp hk6 (fun k hk e => by have := (Hho1.out.lt k hk).1; omega)).setCell (p := ⟨w.heap.size + 1, 0, none⟩) (Hho1.out.fresh (show w.heap.size + 1 < w.heap.size + 1 + 1 + 1 by omega)) (.int .i64 0)).low (show w.heap.size ≤ w.heap.size + 1 + 1 + 1 by omega)
      refine leaves_cons (f := 155) (args := #[.pointer (some ⟨w.heap.size, 0, none⟩), .pointer (some ⟨w.heap.size + 1, 0, none⟩)]) (by simp) (by simp [go_sem]) ?_
      refine (dget_idle_reply _ _ _).mono ?_
      rintro e u' w7 ⟨rfl, rfl, rfl⟩
      refine ⟨.tuple #[.agg #[iv a.e, iv a.at_, .slice A1 a.got.length a.got.length], .int .i64 0], ?_, Got_.ok HE.out (HN6.setNew (p := ⟨w.heap.size + 1, 0, none⟩) (Nat.le_succ _) _) ⟨A1, rfl, ho1⟩⟩
      exact res_cc rfl sS_reply _ rfl (q6.far (p := ⟨w.heap.size + 1, 0, none⟩) (by simp) _) [iv a.e, iv a.at_, .slice A1 a.got.length a.got.length] rfl rfl rfl (run_ld1 (HB6.out.set_ 0 (.int .i64 0)) Try.underlying31 rfl)
    · have hd0 : decide (0 < (r.length : Int)) = true := decide_eq_true (by omega)
      have hd1 : decide (0 < r.length) = true := decide_eq_true (by omega)
      have HE : Hid (pAll pReply l = .error 4) := Lib.hid (pAll_more HP.out (by omega))
      clear HP hr0
      go_wp2_with ((with_reducible refine stopAt (.store 34 (.tmp 4) (.tmp 13)) rfl ?_); go_must (refine unStop (wpList_stS rfl 34 (.tmp 4) (.tmp 13) rfl [iv a.e, iv a.at_, .slice A1 a.got.length a.got.length] sS_reply w.heap.size 0 rfl rfl rfl HB0'.out [iv a.e, iv a.at_, .slice A1 a.got.length a.got.length] (by simp) (by simp [iv, Value.oneCell']) rfl ?_)); intro w5 q0 hk5; obtain ⟨_, A5, c5, hb5, _, _⟩ := HG4.out.kp hk5 (fun k e => by omega); have e5 : w5.cell? ⟨w.heap.size + 1 + 1, 0, none⟩ = some (.slice A5 r.length c5) := hb5.cell 0)
      have HB5 := Lib.hid (HB1'.out.kp hk5 (by omega))
      have HN5 : Hid (Nw w w5) := Lib.hid (HN4.out.trans hk5 (fun i hi e => by omega))
      refine leaves_cons (f := 155) (args := #[.pointer (some ⟨w.heap.size, 0, none⟩), .pointer (some ⟨w.heap.size + 1, 0, none⟩)]) (by simp) (by simp [go_sem]) ?_
      refine (dget_caught_reply w.heap.size (w.heap.size + 1) 4 _ _ _ _ w5 q0 HB5.out (by omega)).mono ?_
      rintro e u' w6 ⟨rfl, rfl, p0, p1, hk6⟩
      refine ⟨.tuple #[.agg #[.int .i64 0, .int .i64 0, .slice none 0 0], .int .i64 (4 : Nat)], ?_, Got_.err HE.out (HN5.out.trans hk6 (fun i hi e => by omega))⟩
      exact res_cc rfl sS_reply _ rfl p0 [.int .i64 0, .int .i64 0, .slice none 0 0] rfl rfl rfl (run_ld1 p1 Try.underlying31 rfl)
set_option maxRecDepth 20000 in
set_option maxHeartbeats 1000000 in
theorem GetReply_ (A : Option Addr) (c : Nat) (l : Bytes) (w : World) (hr : RdB w A c l) :
    Calls Try.prog 68 #[.slice A l.length c] w (Got_ w (VReply w.heap.size) (.agg #[.int .i64 0, .int .i64 0, .slice none 0 0]) (pAll pReply l)) := by
  have HR := Lib.hid (hr.alloc (.cells #[.int .i64 0, .int .i64 0, .slice none 0 0] 34))
  have HB0 : Hid (Blk (w.alloc (.cells #[.int .i64 0, .int .i64 0, .slice none 0 0] 34)) w.heap.size 34 #[.int .i64 0, .int .i64 0, .slice none 0 0]) := Lib.hid (Blk.new _ _ _)
  have HN0 : Hid (Nw w (w.alloc (.cells #[.int .i64 0, .int .i64 0, .slice none 0 0] 34))) := Lib.hid ((Kp.refl _ w).alloc _)
  have HZ0 : Hid ((w.alloc (.cells #[.int .i64 0, .int .i64 0, .slice none 0 0] 34)).heap.size = w.heap.size + 1) := Lib.hid (by simp)
  clear hr
  go_enter Try.func68, Try.ntmps68
  go_wp2_with fail
  go_must (refine (get1_reply A c l _ HR.out).mono ?_)
  rintro e w1 h
  rcases h.ways with ⟨a, x, hp, rfl, ⟨A1, rfl, ho1⟩, hk⟩ | ⟨k, hp, rfl, hk⟩
  · have HP := Lib.hid hp
    have HB1 := Lib.hid (HB0.out.nw hk)
    have HN1 := Lib.hid (HN0.out.nw hk)
    have Hho1 := Lib.hid (ho1.low (show w.heap.size + 1 ≤ _ from Nat.le_of_eq HZ0.out.symm))
    clear hp hk ho1
    go_wp2_with ((with_reducible refine stopAt (.store 34 (.tmp 2) (.tmp 6)) rfl ?_); go_must (refine unStop (wpList_stS rfl 34 (.tmp 2) (.tmp 6) rfl [iv a.e, iv a.at_, .slice A1 a.got.length a.got.length] sS_reply w.heap.size 0 rfl rfl rfl HB1.out [iv a.e, iv a.at_, .slice A1 a.got.length a.got.length] (by simp) (by simp [iv, Value.oneCell']) rfl ?_)); intro w2 q2 hk2)
    have ho1 := (Hho1.out.kp hk2 (fun k hk e => by have := (Hho1.out.lt k hk).1; omega)).low (Nat.le_succ w.heap.size)
    exact bodyPost_ret (res_ct rfl sS_reply _ rfl q2 [iv a.e, iv a.at_, .slice A1 a.got.length a.got.length] rfl rfl) rfl (Got_.ok HP.out (HN1.out.trans hk2 (fun i hi e => by omega)) ⟨A1, rfl, ho1⟩)
  · have HP := Lib.hid hp
    have HB1 := Lib.hid (HB0.out.nw hk)
    have HN1 := Lib.hid (HN0.out.nw hk)
    clear hp hk
    go_wp2_with ((with_reducible refine stopAt (.store 34 (.tmp 2) (.tmp 6)) rfl ?_); go_must (refine unStop (wpList_stS rfl 34 (.tmp 2) (.tmp 6) rfl [.int .i64 0, .int .i64 0, .slice none 0 0] sS_reply w.heap.size 0 rfl rfl rfl HB1.out [.int .i64 0, .int .i64 0, .slice none 0 0] (by simp) (by simp [Value.oneCell']) rfl ?_)); intro w2 q2 hk2)
    exact bodyPost_ret (res_ct rfl sS_reply _ rfl q2 [.int .i64 0, .int .i64 0, .slice none 0 0] rfl rfl) rfl (Got_.err HP.out (HN1.out.trans hk2 (fun i hi e => by omega)))
set_option maxRecDepth 20000 in
set_option maxHeartbeats 1000000 in
theorem dget_idle_entry (v0 v1 : Value) (w : World) :
    CallsD Try.prog 151 #[v0, v1] .returning w (Idle w) := by
  refine callsD_of_wpS Try.func151 rfl fun c₀ cs hu => ?_
  apply wpS_seq
  apply wpS_region
  simp [wpOpsS, go_sem, recoverD, hu, Try.ntmps151, Exit.thenS]
  rw [eta_mode hu]
  refine wpS_of_wp_ rfl ?_
  clear hu
  simp only [Array.replicate_succ, Array.replicate_zero, List.push_toArray, List.append_toArray, List.nil_append, List.cons_append, List.setIfInBounds_toArray, List.set_cons_zero, List.set_cons_succ]
  go_wp2_with fail
  exact ⟨.inr rfl, rfl, rfl, rfl, rfl⟩
set_option maxRecDepth 20000 in
set_option maxHeartbeats 1000000 in
theorem dget_caught_entry (N0 N1 : Nat) (k : Nat) (x0 x1 x2 x3 x4 v1 : Value) (w : World) (h0 : Blk w N0 124 #[x0, x1, x2, x3, x4]) (h1 : Blk w N1 31 #[v1]) (hne : N0 ≠ N1) :
    CallsD Try.prog 151 #[.pointer (some ⟨N0, 0, none⟩), .pointer (some ⟨N1, 0, none⟩)] (.panicking [{ v := .iface 259 (.agg #[.int .i64 k]), recovered := false }]) w (Caught 124 N0 N1 k #[.int .u64 0, .int .u64 0, .int .u8 0, .int .u64 0, .slice none 0 0] w) := by
  refine callsD_of_wpS Try.func151 rfl fun c₀ cs hu => ?_
  apply wpS_seq
  apply wpS_region
  simp [wpOpsS, go_sem, recoverD, hu, Try.ntmps151, Exit.thenS]
  refine wpS_of_wp_ rfl ?_
  clear hu
  simp only [Array.replicate_succ, Array.replicate_zero, List.push_toArray, List.append_toArray, List.nil_append, List.cons_append, List.setIfInBounds_toArray, List.set_cons_zero, List.set_cons_succ]
  have hta := assert_wrong (.agg #[.int .i64 k])
  go_wp2_with fail
  clear hta
  have l0 := h0.lt
  have l1 := h1.lt
  have hk0 : Nw w ((w.alloc (.cells #[.int .i64 k] 259)).alloc (.cells #[.int .u64 0, .int .u64 0, .int .u8 0, .int .u64 0, .slice none 0 0] 124)) := ((Kp.refl _ w).alloc _).alloc _
  have g0 := Lib.hid (h0.nw hk0)
  have g1 := Lib.hid (h1.nw hk0)
  clear h0 h1
  obtain ⟨w1, hw1⟩ : ∃ w1, w1 = ((w.alloc (.cells #[.int .i64 k] 259)).alloc (.cells #[.int .u64 0, .int .u64 0, .int .u8 0, .int .u64 0, .slice none 0 0] 124)) := ⟨_, rfl⟩
  have b3 : Blk w1 w.heap.size 259 #[.int .i64 k] := by rw [hw1]; exact (Blk.new _ _ _).alloc _
  have b4 : Blk w1 (w.heap.size + 1) 124 #[.int .u64 0, .int .u64 0, .int .u8 0, .int .u64 0, .slice none 0 0] := by rw [hw1]; exact Blk.newAt (by simp) _ _
  have b0 : Blk w1 N0 124 #[x0, x1, x2, x3, x4] := by rw [hw1]; exact g0.out
  have b1 : Blk w1 N1 31 #[v1] := by rw [hw1]; exact g1.out
  rw [← hw1] at hk0 ⊢
  clear hw1 g0 g1
  have c3 : w1.cell? ⟨w.heap.size, 0, none⟩ = some (.int .i64 k) := b3.cell 0
  have c1 : w1.cell? ⟨N1, 0, none⟩ = some v1 := b1.cell 0
  have f1 := b1.free 0
  have d0 : w1.cell? ⟨w.heap.size + 1, 0, none⟩ = some (.int .u64 0) := b4.cell 0
  have c0_0 : w1.cell? ⟨N0, 0, none⟩ = some x0 := b0.cell 0
  have f0_0 := b0.free 0
  have d1 : w1.cell? ⟨w.heap.size + 1, 1, none⟩ = some (.int .u64 0) := b4.cell 1
  have c0_1 : w1.cell? ⟨N0, 1, none⟩ = some x1 := b0.cell 1
  have f0_1 := b0.free 1
  have d2 : w1.cell? ⟨w.heap.size + 1, 2, none⟩ = some (.int .u8 0) := b4.cell 2
  have c0_2 : w1.cell? ⟨N0, 2, none⟩ = some x2 := b0.cell 2
  have f0_2 := b0.free 2
  have d3 : w1.cell? ⟨w.heap.size + 1, 3, none⟩ = some (.int .u64 0) := b4.cell 3
  have c0_3 : w1.cell? ⟨N0, 3, none⟩ = some x3 := b0.cell 3
  have f0_3 := b0.free 3
  have d4 : w1.cell? ⟨w.heap.size + 1, 4, none⟩ = some (.slice none 0 0) := b4.cell 4
  have c0_4 : w1.cell? ⟨N0, 4, none⟩ = some x4 := b0.cell 4
  have f0_4 := b0.free 4
  have n1 : ¬ N0 = w.heap.size := by omega
  have n2 : ¬ N0 = w.heap.size + 1 := by omega
  have n3 : ¬ N1 = w.heap.size := by omega
  have n4 : ¬ N1 = w.heap.size + 1 := by omega
  have m1 : ¬ w.heap.size = N0 := by omega
  have m2 : ¬ w.heap.size + 1 = N0 := by omega
  have m3 : ¬ w.heap.size = N1 := by omega
  have m4 : ¬ w.heap.size + 1 = N1 := by omega
  have hne2 : ¬ N1 = N0 := Ne.symm hne
  go_region
  exact ⟨.inl rfl, rfl, rfl, rfl, ((((((b0.set_ 0 (.int .u64 0)).set_ 1 (.int .u64 0)).set_ 2 (.int .u8 0)).set_ 3 (.int .u64 0)).set_ 4 (.slice none 0 0)).far (p := ⟨N1, 0, none⟩) hne (.int .i64 k)).drew, ((((((b1.far (p := ⟨N0, 0, none⟩) (Ne.symm hne) (.int .u64 0)).far (p := ⟨N0, 1, none⟩) (Ne.symm hne) (.int .u64 0)).far (p := ⟨N0, 2, none⟩) (Ne.symm hne) (.int .u8 0)).far (p := ⟨N0, 3, none⟩) (Ne.symm hne) (.int .u64 0)).far (p := ⟨N0, 4, none⟩) (Ne.symm hne) (.slice none 0 0)).set_ 0 (.int .i64 k)).drew, (Kp.setCell (S := fun i => i = N0 ∨ i = N1) (p := ⟨N1, 0, none⟩) (Kp.setCell (p := ⟨N0, 4, none⟩) (Kp.setCell (p := ⟨N0, 3, none⟩) (Kp.setCell (p := ⟨N0, 2, none⟩) (Kp.setCell (p := ⟨N0, 1, none⟩) (Kp.setCell (p := ⟨N0, 0, none⟩) hk0.kp (fun _ => .inl rfl) (.int .u64 0)) (fun _ => .inl rfl) (.int .u64 0)) (fun _ => .inl rfl) (.int .u8 0)) (fun _ => .inl rfl) (.int .u64 0)) (fun _ => .inl rfl) (.slice none 0 0)) (fun _ => .inr rfl) _).drew⟩
set_option maxRecDepth 20000 in
set_option maxHeartbeats 1000000 in
theorem get1_entry (A : Option Addr) (c : Nat) (l : Bytes) (w : World) (hr : RdB w A c l) :
    Calls Try.prog 114 #[.slice A l.length c, .func (.func 115) #[] #[]] w (Got_ w (VEntry w.heap.size) (.agg #[.int .u64 0, .int .u64 0, .int .u8 0, .int .u64 0, .slice none 0 0]) (pAll pEntry l)) := by
  have hmf : ∀ (fn : Fn) (first cap : Array Value) (w : World), (Instr.makeFunc fn first cap).run Try.prog w = .ok (.func fn first cap) w := fun _ _ _ _ => rfl
  have HG : Hid (Gs w.heap.size (((w.alloc (.cells #[.int .u64 0, .int .u64 0, .int .u8 0, .int .u64 0, .slice none 0 0] 124)).alloc (.cells #[.int .i64 0] 31)).alloc (.cells #[.slice A l.length c] 262)) (w.heap.size + 1 + 1) l) := Lib.hid ⟨by omega, A, c, Blk.newAt (by simp) _ _, ((hr.alloc _).alloc _).alloc _, fun hn b hb => by
    obtain ⟨k', h1, h2⟩ := hr.blk_lt hn (by omega)
    rw [h1] at hb; injection hb with hb; omega⟩
  have HB0 : Hid (Blk (((w.alloc (.cells #[.int .u64 0, .int .u64 0, .int .u8 0, .int .u64 0, .slice none 0 0] 124)).alloc (.cells #[.int .i64 0] 31)).alloc (.cells #[.slice A l.length c] 262)) w.heap.size 124 #[.int .u64 0, .int .u64 0, .int .u8 0, .int .u64 0, .slice none 0 0]) := Lib.hid (((Blk.new _ _ _).alloc _).alloc _)
  have HB1 : Hid (Blk (((w.alloc (.cells #[.int .u64 0, .int .u64 0, .int .u8 0, .int .u64 0, .slice none 0 0] 124)).alloc (.cells #[.int .i64 0] 31)).alloc (.cells #[.slice A l.length c] 262)) (w.heap.size + 1) 31 #[.int .i64 0]) := Lib.hid ((Blk.newAt (by simp) _ _).alloc _)
  have HN : Hid (Nw w (((w.alloc (.cells #[.int .u64 0, .int .u64 0, .int .u8 0, .int .u64 0, .slice none 0 0] 124)).alloc (.cells #[.int .i64 0] 31)).alloc (.cells #[.slice A l.length c] 262))) := Lib.hid ((((Kp.refl _ w).alloc _).alloc _).alloc _)
  have HZ3 : Hid (w.heap.size + 1 + 1 + 1 ≤ (((w.alloc (.cells #[.int .u64 0, .int .u64 0, .int .u8 0, .int .u64 0, .slice none 0 0] 124)).alloc (.cells #[.int .i64 0] 31)).alloc (.cells #[.slice A l.length c] 262)).heap.size) := Lib.hid (by simp)
  clear hr
  go_enter_defers Try.func114, Try.ntmps114
  go_wp2_with fail
  go_must (refine (get_entry w.heap.size (w.heap.size + 1 + 1) l _ HG.out).mono ?_)
  rintro e w4 h
  rcases h.ways with ⟨a, r, x, hp, rfl, ⟨A1, rfl, ho1⟩, hg, hk⟩ | ⟨k, hp, rfl, hk⟩
  rotate_left
  · have HE := Lib.hid (pAll_err hp)
    have b0 := HB0.out.kp hk (by omega)
    have b1 := HB1.out.kp hk (by omega)
    have hn4 : Nw w w4 := HN.out.trans hk (fun i hi e => by omega)
    clear hp HB0 HB1 HN HG HZ3
    unfold wrongE
    go_wp2_with fail
    refine leaves_cons (f := 151) (args := #[.pointer (some ⟨w.heap.size, 0, none⟩), .pointer (some ⟨w.heap.size + 1, 0, none⟩)]) (by simp) (by simp [go_sem]) ?_
    refine (dget_caught_entry w.heap.size (w.heap.size + 1) k _ _ _ _ _ _ w4 b0 b1 (by omega)).mono ?_
    rintro e u' w5 ⟨rfl, rfl, q0, q1, hk5⟩
    have hn5 : Nw w w5 := hn4.trans hk5 (fun i hi e => by omega)
    refine ⟨.tuple #[.agg #[.int .u64 0, .int .u64 0, .int .u8 0, .int .u64 0, .slice none 0 0], .int .i64 k], ?_, Got_.err HE.out hn5⟩
    exact res_cc rfl sS_entry _ rfl q0 [.int .u64 0, .int .u64 0, .int .u8 0, .int .u64 0, .slice none 0 0] rfl rfl rfl (run_ld1 q1 Try.underlying31 rfl)
  · have HB1' := Lib.hid (HB1.out.kp hk (by omega))
    have HB0' := Lib.hid (HB0.out.kp hk (by omega))
    have HN4 : Hid (Nw w w4) := Lib.hid (HN.out.trans hk (fun i hi e => by omega))
    have HG4 := Lib.hid hg
    have HP := Lib.hid hp
    have Hho1 := Lib.hid (ho1.low (show w.heap.size + 1 + 1 + 1 ≤ _ from HZ3.out))
    clear hp HB0 HB1 HN HG hg hk ho1
    by_cases hr0 : r.length = 0
    · have hd0 : decide (0 < (r.length : Int)) = false := decide_eq_false (by omega)
      have hd1 : decide (0 < r.length) = false := decide_eq_false (by omega)
      have HE : Hid (pAll pEntry l = .ok a) := Lib.hid (pAll_ok (by rw [HP.out, List.eq_nil_of_length_eq_zero hr0]))
      replace hr0 := Lib.hid hr0
      clear HP
      go_wp2_with (first
        | ((with_reducible refine stopAt (.store 124 (.tmp 4) (.tmp 13)) rfl ?_); go_must (refine unStop (wpList_stS rfl 124 (.tmp 4) (.tmp 13) rfl [uv a.index, uv a.term, bv a.cl, uv a.num, .slice A1 a.steps.length a.steps.length] sS_entry w.heap.size 0 rfl rfl rfl HB0'.out [uv a.index, uv a.term, bv a.cl, uv a.num, .slice A1 a.steps.length a.steps.length] (by simp) (by simp [uv, bv, Value.oneCell']) rfl ?_)); intro w5 q0 hk5; obtain ⟨_, A5, c5, hb5, _, _⟩ := HG4.out.kp hk5 (fun k e => by omega); have e5 : w5.cell? ⟨w.heap.size + 1 + 1, 0, none⟩ = some (.slice A5 r.length c5) := hb5.cell 0; have Q0 := Lib.hid q0; clear q0)
        | ((with_reducible refine stopAt (.load 124 (.tmp 4)) rfl ?_); go_must (refine unStop (wpList_ldS rfl 124 (.tmp 4) rfl sS_entry w.heap.size 0 rfl Q0.out [uv a.index, uv a.term, bv a.cl, uv a.num, .slice A1 a.steps.length a.steps.length] rfl rfl ?_)))
        | ((with_reducible refine stopAt (.store 124 (.tmp 4) (.tmp 22)) rfl ?_); go_must (refine unStop (wpList_stS rfl 124 (.tmp 4) (.tmp 22) rfl [uv a.index, uv a.term, bv a.cl, uv a.num, .slice A1 a.steps.length a.steps.length] sS_entry w.heap.size 0 rfl rfl rfl Q0.out [uv a.index, uv a.term, bv a.cl, uv a.num, .slice A1 a.steps.length a.steps.length] (by simp) (by simp [uv, bv, Value.oneCell']) rfl ?_)); intro w6 q6 hk6; have HB6 := Lib.hid ((HB1'.out.kp hk5 (by omega)).kp hk6 (by omega)); have b6 := HB6.out.cell 0; have f6 := HB6.out.free 0))
      have HN5 : Hid (Nw w w5) := Lib.hid (HN4.out.trans hk5 (fun i hi e => by omega))
      replace Hho1 := Lib.hid (Hho1.out.kp hk5 (fun k hk e => by have := (Hho1.out.lt k hk).1; omega))
      have HN6 : Nw w w6 := HN5.out.trans hk6 (fun i hi e => by omega)
      have ho1 := ((Hho1.out.kp hk6 (fun k hk e => by have := (Hho1.out.lt k hk).1; omega)).setCell (p := ⟨w.heap.size + 1, 0, none⟩) (Hho1.out.fresh (show w.heap.size + 1 < w.heap.size + 1 + 1 + 1 by omega)) (.int .i64 0)).low (show w.heap.size ≤ w.heap.size + 1 + 1 + 1 by omega)
      refine leaves_cons (f := 151) (args := #[.pointer (some ⟨w.heap.size, 0, none⟩), .pointer (some ⟨w.heap.size + 1, 0, none⟩)]) (by simp) (by simp [go_sem]) ?_
      refine (dget_idle_entry _ _ _).mono ?_
      rintro e u' w7 ⟨rfl, rfl, rfl⟩
      refine ⟨.tuple #[.agg #[uv a.index, uv a.term, bv a.cl, uv a.num, .slice A1 a.steps.length a.steps.length], .int .i64 0], ?_, Got_.ok HE.out (HN6.setNew (p := ⟨w.heap.size + 1, 0, none⟩) (Nat.le_succ _) _) ⟨A1, rfl, ho1⟩⟩
      exact res_cc rfl sS_entry _ rfl (q6.far (p := ⟨w.heap.size + 1, 0, none⟩) (by simp) _) [uv a.index, uv a.term, bv a.cl, uv a.num, .slice A1 a.steps.length a.steps.length] rfl rfl rfl (run_ld1 (HB6.out.set_ 0 (.int .i64 0)) Try.underlying31 rfl)
    · have hd0 : decide (0 < (r.length : Int)) = true := decide_eq_true (by omega)
      have hd1 : decide (0 < r.length) = true := decide_eq_true (by omega)
      have HE : Hid (pAll pEntry l = .error 4) := Lib.hid (pAll_more HP.out (by omega))
      clear HP hr0
      go_wp2_with ((with_reducible refine stopAt (.store 124 (.tmp 4) (.tmp 13)) rfl ?_); go_must (refine unStop (wpList_stS rfl 124 (.tmp 4) (.tmp 13) rfl [uv a.index, uv a.term, bv a.cl, uv a.num, .slice A1 a.steps.length a.steps.length] sS_entry w.heap.size 0 rfl rfl rfl HB0'.out [uv a.index, uv a.term, bv a.cl, uv a.num, .slice A1 a.steps.length a.steps.length] (by simp) (by simp [uv, bv, Value.oneCell']) rfl ?_)); intro w5 q0 hk5; obtain ⟨_, A5, c5, hb5, _, _⟩ := HG4.out.kp hk5 (fun k e => by omega); have e5 : w5.cell? ⟨w.heap.size + 1 + 1, 0, none⟩ = some (.slice A5 r.length c5) := hb5.cell 0)
      have HB5 := Lib.hid (HB1'.out.kp hk5 (by omega))
      have HN5 : Hid (Nw w w5) := Lib.hid (HN4.out.trans hk5 (fun i hi e => by omega))
      refine leaves_cons (f := 151) (args := #[.pointer (some ⟨w.heap.size, 0, none⟩), .pointer (some ⟨w.heap.size + 1, 0, none⟩)]) (by simp) (by simp [go_sem]) ?_
      refine (dget_caught_entry w.heap.size (w.heap.size + 1) 4 _ _ _ _ _ _ w5 q0 HB5.out (by omega)).mono ?_
      rintro e u' w6 ⟨rfl, rfl, p0, p1, hk6⟩
      refine ⟨.tuple #[.agg #[.int .u64 0, .int .u64 0, .int .u8 0, .int .u64 0, .slice none 0 0], .int .i64 (4 : Nat)], ?_, Got_.err HE.out (HN5.out.trans hk6 (fun i hi e => by omega))⟩
      exact res_cc rfl sS_entry _ rfl p0 [.int .u64 0, .int .u64 0, .int .u8 0, .int .u64 0, .slice none 0 0] rfl rfl rfl (run_ld1 p1 Try.underlying31 rfl)
set_option maxRecDepth 20000 in
set_option maxHeartbeats 1000000 in
theorem GetEntry_ (A : Option Addr) (c : Nat) (l : Bytes) (w : World) (hr : RdB w A c l) :
    Calls Try.prog 66 #[.slice A l.length c] w (Got_ w (VEntry w.heap.size) (.agg #[.int .u64 0, .int .u64 0, .int .u8 0, .int .u64 0, .slice none 0 0]) (pAll pEntry l)) := by
  have HR := Lib.hid (hr.alloc (.cells #[.int .u64 0, .int .u64 0, .int .u8 0, .int .u64 0, .slice none 0 0] 124))
  have HB0 : Hid (Blk (w.alloc (.cells #[.int .u64 0, .int .u64 0, .int .u8 0, .int .u64 0, .slice none 0 0] 124)) w.heap.size 124 #[.int .u64 0, .int .u64 0, .int .u8 0, .int .u64 0, .slice none 0 0]) := Lib.hid (Blk.new _ _ _)
  have HN0 : Hid (Nw w (w.alloc (.cells #[.int .u64 0, .int .u64 0, .int .u8 0, .int .u64 0, .slice none 0 0] 124))) := Lib.hid ((Kp.refl _ w).alloc _)
  have HZ0 : Hid ((w.alloc (.cells #[.int .u64 0, .int .u64 0, .int .u8 0, .int .u64 0, .slice none 0 0] 124)).heap.size = w.heap.size + 1) := Lib.hid (by simp)
  clear hr
  go_enter Try.func66, Try.ntmps66
  go_wp2_with fail
  go_must (refine (get1_entry A c l _ HR.out).mono ?_)
  rintro e w1 h
  rcases h.ways with ⟨a, x, hp, rfl, ⟨A1, rfl, ho1⟩, hk⟩ | ⟨k, hp, rfl, hk⟩
  · have HP := Lib.hid hp
    have HB1 := Lib.hid (HB0.out.nw hk)
    have HN1 := Lib.hid (HN0.out.nw hk)
    have Hho1 := Lib.hid (ho1.low (show w.heap.size + 1 ≤ _ from Nat.le_of_eq HZ0.out.symm))
    clear hp hk ho1
    go_wp2_with ((with_reducible refine stopAt (.store 124 (.tmp 2) (.tmp 6)) rfl ?_); go_must (refine unStop (wpList_stS rfl 124 (.tmp 2) (.tmp 6) rfl [uv a.index, uv a.term, bv a.cl, uv a.num, .slice A1 a.steps.length a.steps.length] sS_entry w.heap.size 0 rfl rfl rfl HB1.out [uv a.index, uv a.term, bv a.cl, uv a.num, .slice A1 a.steps.length a.steps.length] (by simp) (by simp [uv, bv, Value.oneCell']) rfl ?_)); intro w2 q2 hk2)
    have ho1 := (Hho1.out.kp hk2 (fun k hk e => by have := (Hho1.out.lt k hk).1; omega)).low (Nat.le_succ w.heap.size)
    exact bodyPost_ret (res_ct rfl sS_entry _ rfl q2 [uv a.index, uv a.term, bv a.cl, uv a.num, .slice A1 a.steps.length a.steps.length] rfl rfl) rfl (Got_.ok HP.out (HN1.out.trans hk2 (fun i hi e => by omega)) ⟨A1, rfl, ho1⟩)
  · have HP := Lib.hid hp
    have HB1 := Lib.hid (HB0.out.nw hk)
    have HN1 := Lib.hid (HN0.out.nw hk)
    clear hp hk
    go_wp2_with ((with_reducible refine stopAt (.store 124 (.tmp 2) (.tmp 6)) rfl ?_); go_must (refine unStop (wpList_stS rfl 124 (.tmp 2) (.tmp 6) rfl [.int .u64 0, .int .u64 0, .int .u8 0, .int .u64 0, .slice none 0 0] sS_entry w.heap.size 0 rfl rfl rfl HB1.out [.int .u64 0, .int .u64 0, .int .u8 0, .int .u64 0, .slice none 0 0] (by simp) (by simp [Value.oneCell']) rfl ?_)); intro w2 q2 hk2)
    exact bodyPost_ret (res_ct rfl sS_entry _ rfl q2 [.int .u64 0, .int .u64 0, .int .u8 0, .int .u64 0, .slice none 0 0] rfl rfl) rfl (Got_.err HP.out (HN1.out.trans hk2 (fun i hi e => by omega)))
set_option maxRecDepth 20000 in
set_option maxHeartbeats 1000000 in
theorem dget_idle_state (v0 v1 : Value) (w : World) :
    CallsD Try.prog 168 #[v0, v1] .returning w (Idle w) := by
  refine callsD_of_wpS Try.func168 rfl fun c₀ cs hu => ?_
  apply wpS_seq
  apply wpS_region
  simp [wpOpsS, go_sem, recoverD, hu, Try.ntmps168, Exit.thenS]
  rw [eta_mode hu]
  refine wpS_of_wp_ rfl ?_
  clear hu
  simp only [Array.replicate_succ, Array.replicate_zero, List.push_toArray, List.append_toArray, List.nil_append, List.cons_append, List.setIfInBounds_toArray, List.set_cons_zero, List.set_cons_succ]
  go_wp2_with fail
  exact ⟨.inr rfl, rfl, rfl, rfl, rfl⟩
set_option maxRecDepth 20000 in
set_option maxHeartbeats 1000000 in
theorem dget_caught_state (N0 N1 : Nat) (k : Nat) (x0 x1 x2 x3 v1 : Value) (w : World) (h0 : Blk w N0 143 #[x0, x1, x2, x3]) (h1 : Blk w N1 31 #[v1]) (hne : N0 ≠ N1) :
    CallsD Try.prog 168 #[.pointer (some ⟨N0, 0, none⟩), .pointer (some ⟨N1, 0, none⟩)] (.panicking [{ v := .iface 259 (.agg #[.int .i64 k]), recovered := false }]) w (Caught 143 N0 N1 k #[.slice none 0 0, .slice none 0 0, .slice none 0 0, .int .u64 0] w) := by
  refine callsD_of_wpS Try.func168 rfl fun c₀ cs hu => ?_
  apply wpS_seq
  apply wpS_region
  simp [wpOpsS, go_sem, recoverD, hu, Try.ntmps168, Exit.thenS]
  refine wpS_of_wp_ rfl ?_
  clear hu
  simp only [Array.replicate_succ, Array.replicate_zero, List.push_toArray, List.append_toArray, List.nil_append, List.cons_append, List.setIfInBounds_toArray, List.set_cons_zero, List.set_cons_succ]
  have hta := assert_wrong (.agg #[.int .i64 k])
  go_wp2_with fail
  clear hta
  have l0 := h0.lt
  have l1 := h1.lt
  have hk0 : Nw w ((w.alloc (.cells #[.int .i64 k] 259)).alloc (.cells #[.slice none 0 0, .slice none 0 0, .slice none 0 0, .int .u64 0] 143)) := ((Kp.refl _ w).alloc _).alloc _
  have g0 := Lib.hid (h0.nw hk0)
  have g1 := Lib.hid (h1.nw hk0)
  clear h0 h1
  obtain ⟨w1, hw1⟩ : ∃ w1, w1 = ((w.alloc (.cells #[.int .i64 k] 259)).alloc (.cells #[.slice none 0 0, .slice none 0 0, .slice none 0 0, .int .u64 0] 143)) := ⟨_, rfl⟩
  have b3 : Blk w1 w.heap.size 259 #[.int .i64 k] := by rw [hw1]; exact (Blk.new _ _ _).alloc _
  have b4 : Blk w1 (w.heap.size + 1) 143 #[.slice none 0 0, .slice none 0 0, .slice none 0 0, .int .u64 0] := by rw [hw1]; exact Blk.newAt (by simp) _ _
  have b0 : Blk w1 N0 143 #[x0, x1, x2, x3] := by rw [hw1]; exact g0.out
  have b1 : Blk w1 N1 31 #[v1] := by rw [hw1]; exact g1.out
  rw [← hw1] at hk0 ⊢
  clear hw1 g0 g1
  have c3 : w1.cell? ⟨w.heap.size, 0, none⟩ = some (.int .i64 k) := b3.cell 0
  have c1 : w1.cell? ⟨N1, 0, none⟩ = some v1 := b1.cell 0
  have f1 := b1.free 0
  have d0 : w1.cell? ⟨w.heap.size + 1, 0, none⟩ = some (.slice none 0 0) := b4.cell 0
  have c0_0 : w1.cell? ⟨N0, 0, none⟩ = some x0 := b0.cell 0
  have f0_0 := b0.free 0
  have d1 : w1.cell? ⟨w.heap.size + 1, 1, none⟩ = some (.slice none 0 0) := b4.cell 1
  have c0_1 : w1.cell? ⟨N0, 1, none⟩ = some x1 := b0.cell 1
  have f0_1 := b0.free 1
  have d2 : w1.cell? ⟨w.heap.size + 1, 2, none⟩ = some (.slice none 0 0) := b4.cell 2
  have c0_2 : w1.cell? ⟨N0, 2, none⟩ = some x2 := b0.cell 2
  have f0_2 := b0.free 2
  have d3 : w1.cell? ⟨w.heap.size + 1, 3, none⟩ = some (.int .u64 0) := b4.cell 3
  have c0_3 : w1.cell? ⟨N0, 3, none⟩ = some x3 := b0.cell 3
  have f0_3 := b0.free 3
  have n1 : ¬ N0 = w.heap.size := by omega
  have n2 : ¬ N0 = w.heap.size + 1 := by omega
  have n3 : ¬ N1 = w.heap.size := by omega
  have n4 : ¬ N1 = w.heap.size + 1 := by omega
  have m1 : ¬ w.heap.size = N0 := by omega
  have m2 : ¬ w.heap.size + 1 = N0 := by omega
  have m3 : ¬ w.heap.size = N1 := by omega
  have m4 : ¬ w.heap.size + 1 = N1 := by omega
  have hne2 : ¬ N1 = N0 := Ne.symm hne
  go_region
  exact ⟨.inl rfl, rfl, rfl, rfl, (((((b0.set_ 0 (.slice none 0 0)).set_ 1 (.slice none 0 0)).set_ 2 (.slice none 0 0)).set_ 3 (.int .u64 0)).far (p := ⟨N1, 0, none⟩) hne (.int .i64 k)).drew, (((((b1.far (p := ⟨N0, 0, none⟩) (Ne.symm hne) (.slice none 0 0)).far (p := ⟨N0, 1, none⟩) (Ne.symm hne) (.slice none 0 0)).far (p := ⟨N0, 2, none⟩) (Ne.symm hne) (.slice none 0 0)).far (p := ⟨N0, 3, none⟩) (Ne.symm hne) (.int .u64 0)).set_ 0 (.int .i64 k)).drew, (Kp.setCell (S := fun i => i = N0 ∨ i = N1) (p := ⟨N1, 0, none⟩) (Kp.setCell (p := ⟨N0, 3, none⟩) (Kp.setCell (p := ⟨N0, 2, none⟩) (Kp.setCell (p := ⟨N0, 1, none⟩) (Kp.setCell (p := ⟨N0, 0, none⟩) hk0.kp (fun _ => .inl rfl) (.slice none 0 0)) (fun _ => .inl rfl) (.slice none 0 0)) (fun _ => .inl rfl) (.slice none 0 0)) (fun _ => .inl rfl) (.int .u64 0)) (fun _ => .inr rfl) _).drew⟩
set_option maxRecDepth 20000 in
set_option maxHeartbeats 1000000 in
theorem get1_state (A : Option Addr) (c : Nat) (l : Bytes) (w : World) (hr : RdB w A c l) :
    Calls Try.prog 128 #[.slice A l.length c, .func (.func 129) #[] #[]] w (Got_ w (VState w.heap.size) (.agg #[.slice none 0 0, .slice none 0 0, .slice none 0 0, .int .u64 0]) (pAll pState l)) := by
  have hmf : ∀ (fn : Fn) (first cap : Array Value) (w : World), (Instr.makeFunc fn first cap).run Try.prog w = .ok (.func fn first cap) w := fun _ _ _ _ => rfl
  have HG : Hid (Gs w.heap.size (((w.alloc (.cells #[.slice none 0 0, .slice none 0 0, .slice none 0 0, .int .u64 0] 143)).alloc (.cells #[.int .i64 0] 31)).alloc (.cells #[.slice A l.length c] 262)) (w.heap.size + 1 + 1) l) := Lib.hid ⟨by omega, A, c, Blk.newAt (by simp) _ _, ((hr.alloc _).alloc _).alloc _, fun hn b hb => by
    obtain ⟨k', h1, h2⟩ := hr.blk_lt hn (by omega)
    rw [h1] at hb; injection hb with hb; omega⟩
  have HB0 : Hid (Blk (((w.alloc (.cells #[.slice none 0 0, .slice none 0 0, .slice none 0 0, .int .u64 0] 143)).alloc (.cells #[.int .i64 0] 31)).alloc (.cells #[.slice A l.length c] 262)) w.heap.size 143 #[.slice none 0 0, .slice none 0 0, .slice none 0 0, .int .u64 0]) := Lib.hid (((Blk.new _ _ _).alloc _).alloc _)
  have HB1 : Hid (Blk (((w.alloc (.cells #[.slice none 0 0, .slice none 0 0, .slice none 0 0, .int .u64 0] 143)).alloc (.cells #[.int .i64 0] 31)).alloc (.cells #[.slice A l.length c] 262)) (w.heap.size + 1) 31 #[.int .i64 0]) := Lib.hid ((Blk.newAt (by simp) _ _).alloc _)
  have HN : Hid (Nw w (((w.alloc (.cells #[.slice none 0 0, .slice none 0 0, .slice none 0 0, .int .u64 0] 143)).alloc (.cells #[.int .i64 0] 31)).alloc (.cells #[.slice A l.length c] 262))) := Lib.hid ((((Kp.refl _ w).alloc _).alloc _).alloc _)
  have HZ3 : Hid (w.heap.size + 1 + 1 + 1 ≤ (((w.alloc (.cells #[.slice none 0 0, .slice none 0 0, .slice none 0 0, .int .u64 0] 143)).alloc (.cells #[.int .i64 0] 31)).alloc (.cells #[.slice A l.length c] 262)).heap.size) := Lib.hid (by simp)
  clear hr
  go_enter_defers Try.func128, Try.ntmps128
  go_wp2_with fail
  go_must (refine (get_state w.heap.size (w.heap.size + 1 + 1) l _ HG.out).mono ?_)
  rintro e w4 h
  rcases h.ways with ⟨a, r, x, hp, rfl, ⟨A1, A2, A3, rfl, ho1, ho2, ho3⟩, hg, hk⟩ | ⟨k, hp, rfl, hk⟩
  rotate_left
  · have HE := Lib.hid (pAll_err hp)
    have b0 := HB0.out.kp hk (by omega)
    have b1 := HB1.out.kp hk (by omega)
    have hn4 : Nw w w4 := HN.out.trans hk (fun i hi e => by omega)
    clear hp HB0 HB1 HN HG HZ3
    unfold wrongE
    go_wp2_with fail
    refine leaves_cons (f := 168) (args := #[.pointer (some ⟨w.heap.size, 0, none⟩), .pointer (some ⟨w.heap.size + 1, 0, none⟩)]) (by simp) (by simp [go_sem]) ?_
    refine (dget_caught_state w.heap.size (w.heap.size + 1) k _ _ _ _ _ w4 b0 b1 (by omega)).mono ?_
    rintro e u' w5 ⟨rfl, rfl, q0, q1, hk5⟩
    have hn5 : Nw w w5 := hn4.trans hk5 (fun i hi e => by omega)
    refine ⟨.tuple #[.agg #[.slice none 0 0, .slice none 0 0, .slice none 0 0, .int .u64 0], .int .i64 k], ?_, Got_.err HE.out hn5⟩
    exact res_cc rfl sS_state _ rfl q0 [.slice none 0 0, .slice none 0 0, .slice none 0 0, .int .u64 0] rfl rfl rfl (run_ld1 q1 Try.underlying31 rfl)
  · have HB1' := Lib.hid (HB1.out.kp hk (by omega))
    have HB0' := Lib.hid (HB0.out.kp hk (by omega))
    have HN4 : Hid (Nw w w4) := Lib.hid (HN.out.trans hk (fun i hi e => by omega))
    have HG4 := Lib.hid hg
    have HP := Lib.hid hp
    have Hho1 := Lib.hid (ho1.low (show w.heap.size + 1 + 1 + 1 ≤ _ from HZ3.out))
    have Hho2 := Lib.hid (ho2.low (show w.heap.size + 1 + 1 + 1 ≤ _ from HZ3.out))
    have Hho3 := Lib.hid (ho3.low (show w.heap.size + 1 + 1 + 1 ≤ _ from HZ3.out))
    clear hp HB0 HB1 HN HG hg hk ho1 ho2 ho3
    by_cases hr0 : r.length = 0
    · have hd0 : decide (0 < (r.length : Int)) = false := decide_eq_false (by omega)
      have hd1 : decide (0 < r.length) = false := decide_eq_false (by omega)
      have HE : Hid (pAll pState l = .ok a) := Lib.hid (pAll_ok (by rw [HP.out, List.eq_nil_of_length_eq_zero hr0]))
      replace hr0 := Lib.hid hr0
      clear HP
      go_wp2_with (first
        | ((with_reducible refine stopAt (.store 143 (.tmp 4) (.tmp 13)) rfl ?_); go_must (refine unStop (wpList_stS rfl 143 (.tmp 4) (.tmp 13) rfl [.slice A1 a.parties.length a.parties.length, .slice A2 a.lines.length a.lines.length, .slice A3 a.offers.length a.offers.length, uv a.next] sS_state w.heap.size 0 rfl rfl rfl HB0'.out [.slice A1 a.parties.length a.parties.length, .slice A2 a.lines.length a.lines.length, .slice A3 a.offers.length a.offers.length, uv a.next] (by simp) (by simp [uv, Value.oneCell']) rfl ?_)); intro w5 q0 hk5; obtain ⟨_, A5, c5, hb5, _, _⟩ := HG4.out.kp hk5 (fun k e => by omega); have e5 : w5.cell? ⟨w.heap.size + 1 + 1, 0, none⟩ = some (.slice A5 r.length c5) := hb5.cell 0; have Q0 := Lib.hid q0; clear q0)
        | ((with_reducible refine stopAt (.load 143 (.tmp 4)) rfl ?_); go_must (refine unStop (wpList_ldS rfl 143 (.tmp 4) rfl sS_state w.heap.size 0 rfl Q0.out [.slice A1 a.parties.length a.parties.length, .slice A2 a.lines.length a.lines.length, .slice A3 a.offers.length a.offers.length, uv a.next] rfl rfl ?_)))
        | ((with_reducible refine stopAt (.store 143 (.tmp 4) (.tmp 22)) rfl ?_); go_must (refine unStop (wpList_stS rfl 143 (.tmp 4) (.tmp 22) rfl [.slice A1 a.parties.length a.parties.length, .slice A2 a.lines.length a.lines.length, .slice A3 a.offers.length a.offers.length, uv a.next] sS_state w.heap.size 0 rfl rfl rfl Q0.out [.slice A1 a.parties.length a.parties.length, .slice A2 a.lines.length a.lines.length, .slice A3 a.offers.length a.offers.length, uv a.next] (by simp) (by simp [uv, Value.oneCell']) rfl ?_)); intro w6 q6 hk6; have HB6 := Lib.hid ((HB1'.out.kp hk5 (by omega)).kp hk6 (by omega)); have b6 := HB6.out.cell 0; have f6 := HB6.out.free 0))
      have HN5 : Hid (Nw w w5) := Lib.hid (HN4.out.trans hk5 (fun i hi e => by omega))
      replace Hho1 := Lib.hid (Hho1.out.kp hk5 (fun k hk e => by have := (Hho1.out.lt k hk).1; omega))
      replace Hho2 := Lib.hid (Hho2.out.kp hk5 (fun k hk e => by have := (Hho2.out.lt k hk).1; omega))
      replace Hho3 := Lib.hid (Hho3.out.kp hk5 (fun k hk e => by have := (Hho3.out.lt k hk).1; omega))
      have HN6 : Nw w w6 := HN5.out.trans hk6 (fun i hi e => by omega)
      have ho1 := ((Hho1.out.kp hk6 (fun k hk e => by have := (Hho1.out.lt k hk).1; omega)).setCell (p := ⟨w.heap.size + 1, 0, none⟩) (Hho1.out.fresh (show w.heap.size + 1 < w.heap.size + 1 + 1 + 1 by omega)) (.int .i64 0)).low (show w.heap.size ≤ w.heap.size + 1 + 1 + 1 by omega)
      have ho2 := ((Hho2.out.kp hk6 (fun k hk e => by have := (Hho2.out.lt k hk).1; omega)).setCell (p := ⟨w.heap.size + 1, 0, none⟩) (Hho2.out.fresh (show w.heap.size + 1 < w.heap.size + 1 + 1 + 1 by omega)) (.int .i64 0)).low (show w.heap.size ≤ w.heap.size + 1 + 1 + 1 by omega)
      have ho3 := ((Hho3.out.kp hk6 (fun k hk e => by have := (Hho3.out.lt k hk).1; omega)).setCell (p := ⟨w.heap.size + 1, 0, none⟩) (Hho3.out.fresh (show w.heap.size + 1 < w.heap.size + 1 + 1 + 1 by omega)) (.int .i64 0)).low (show w.heap.size ≤ w.heap.size + 1 + 1 + 1 by omega)
      refine leaves_cons (f := 168) (args := #[.pointer (some ⟨w.heap.size, 0, none⟩), .pointer (some ⟨w.heap.size + 1, 0, none⟩)]) (by simp) (by simp [go_sem]) ?_
      refine (dget_idle_state _ _ _).mono ?_
      rintro e u' w7 ⟨rfl, rfl, rfl⟩
      refine ⟨.tuple #[.agg #[.slice A1 a.parties.length a.parties.length, .slice A2 a.lines.length a.lines.length, .slice A3 a.offers.length a.offers.length, uv a.next], .int .i64 0], ?_, Got_.ok HE.out (HN6.setNew (p := ⟨w.heap.size + 1, 0, none⟩) (Nat.le_succ _) _) ⟨A1, A2, A3, rfl, ho1, ho2, ho3⟩⟩
      exact res_cc rfl sS_state _ rfl (q6.far (p := ⟨w.heap.size + 1, 0, none⟩) (by simp) _) [.slice A1 a.parties.length a.parties.length, .slice A2 a.lines.length a.lines.length, .slice A3 a.offers.length a.offers.length, uv a.next] rfl rfl rfl (run_ld1 (HB6.out.set_ 0 (.int .i64 0)) Try.underlying31 rfl)
    · have hd0 : decide (0 < (r.length : Int)) = true := decide_eq_true (by omega)
      have hd1 : decide (0 < r.length) = true := decide_eq_true (by omega)
      have HE : Hid (pAll pState l = .error 4) := Lib.hid (pAll_more HP.out (by omega))
      clear HP hr0
      go_wp2_with ((with_reducible refine stopAt (.store 143 (.tmp 4) (.tmp 13)) rfl ?_); go_must (refine unStop (wpList_stS rfl 143 (.tmp 4) (.tmp 13) rfl [.slice A1 a.parties.length a.parties.length, .slice A2 a.lines.length a.lines.length, .slice A3 a.offers.length a.offers.length, uv a.next] sS_state w.heap.size 0 rfl rfl rfl HB0'.out [.slice A1 a.parties.length a.parties.length, .slice A2 a.lines.length a.lines.length, .slice A3 a.offers.length a.offers.length, uv a.next] (by simp) (by simp [uv, Value.oneCell']) rfl ?_)); intro w5 q0 hk5; obtain ⟨_, A5, c5, hb5, _, _⟩ := HG4.out.kp hk5 (fun k e => by omega); have e5 : w5.cell? ⟨w.heap.size + 1 + 1, 0, none⟩ = some (.slice A5 r.length c5) := hb5.cell 0)
      have HB5 := Lib.hid (HB1'.out.kp hk5 (by omega))
      have HN5 : Hid (Nw w w5) := Lib.hid (HN4.out.trans hk5 (fun i hi e => by omega))
      refine leaves_cons (f := 168) (args := #[.pointer (some ⟨w.heap.size, 0, none⟩), .pointer (some ⟨w.heap.size + 1, 0, none⟩)]) (by simp) (by simp [go_sem]) ?_
      refine (dget_caught_state w.heap.size (w.heap.size + 1) 4 _ _ _ _ _ w5 q0 HB5.out (by omega)).mono ?_
      rintro e u' w6 ⟨rfl, rfl, p0, p1, hk6⟩
      refine ⟨.tuple #[.agg #[.slice none 0 0, .slice none 0 0, .slice none 0 0, .int .u64 0], .int .i64 (4 : Nat)], ?_, Got_.err HE.out (HN5.out.trans hk6 (fun i hi e => by omega))⟩
      exact res_cc rfl sS_state _ rfl p0 [.slice none 0 0, .slice none 0 0, .slice none 0 0, .int .u64 0] rfl rfl rfl (run_ld1 p1 Try.underlying31 rfl)
set_option maxRecDepth 20000 in
set_option maxHeartbeats 1000000 in
theorem GetState_ (A : Option Addr) (c : Nat) (l : Bytes) (w : World) (hr : RdB w A c l) :
    Calls Try.prog 79 #[.slice A l.length c] w (Got_ w (VState w.heap.size) (.agg #[.slice none 0 0, .slice none 0 0, .slice none 0 0, .int .u64 0]) (pAll pState l)) := by
  have HR := Lib.hid (hr.alloc (.cells #[.slice none 0 0, .slice none 0 0, .slice none 0 0, .int .u64 0] 143))
  have HB0 : Hid (Blk (w.alloc (.cells #[.slice none 0 0, .slice none 0 0, .slice none 0 0, .int .u64 0] 143)) w.heap.size 143 #[.slice none 0 0, .slice none 0 0, .slice none 0 0, .int .u64 0]) := Lib.hid (Blk.new _ _ _)
  have HN0 : Hid (Nw w (w.alloc (.cells #[.slice none 0 0, .slice none 0 0, .slice none 0 0, .int .u64 0] 143))) := Lib.hid ((Kp.refl _ w).alloc _)
  have HZ0 : Hid ((w.alloc (.cells #[.slice none 0 0, .slice none 0 0, .slice none 0 0, .int .u64 0] 143)).heap.size = w.heap.size + 1) := Lib.hid (by simp)
  clear hr
  go_enter Try.func79, Try.ntmps79
  go_wp2_with fail
  go_must (refine (get1_state A c l _ HR.out).mono ?_)
  rintro e w1 h
  rcases h.ways with ⟨a, x, hp, rfl, ⟨A1, A2, A3, rfl, ho1, ho2, ho3⟩, hk⟩ | ⟨k, hp, rfl, hk⟩
  · have HP := Lib.hid hp
    have HB1 := Lib.hid (HB0.out.nw hk)
    have HN1 := Lib.hid (HN0.out.nw hk)
    have Hho1 := Lib.hid (ho1.low (show w.heap.size + 1 ≤ _ from Nat.le_of_eq HZ0.out.symm))
    have Hho2 := Lib.hid (ho2.low (show w.heap.size + 1 ≤ _ from Nat.le_of_eq HZ0.out.symm))
    have Hho3 := Lib.hid (ho3.low (show w.heap.size + 1 ≤ _ from Nat.le_of_eq HZ0.out.symm))
    clear hp hk ho1 ho2 ho3
    go_wp2_with ((with_reducible refine stopAt (.store 143 (.tmp 2) (.tmp 6)) rfl ?_); go_must (refine unStop (wpList_stS rfl 143 (.tmp 2) (.tmp 6) rfl [.slice A1 a.parties.length a.parties.length, .slice A2 a.lines.length a.lines.length, .slice A3 a.offers.length a.offers.length, uv a.next] sS_state w.heap.size 0 rfl rfl rfl HB1.out [.slice A1 a.parties.length a.parties.length, .slice A2 a.lines.length a.lines.length, .slice A3 a.offers.length a.offers.length, uv a.next] (by simp) (by simp [uv, Value.oneCell']) rfl ?_)); intro w2 q2 hk2)
    have ho1 := (Hho1.out.kp hk2 (fun k hk e => by have := (Hho1.out.lt k hk).1; omega)).low (Nat.le_succ w.heap.size)
    have ho2 := (Hho2.out.kp hk2 (fun k hk e => by have := (Hho2.out.lt k hk).1; omega)).low (Nat.le_succ w.heap.size)
    have ho3 := (Hho3.out.kp hk2 (fun k hk e => by have := (Hho3.out.lt k hk).1; omega)).low (Nat.le_succ w.heap.size)
    exact bodyPost_ret (res_ct rfl sS_state _ rfl q2 [.slice A1 a.parties.length a.parties.length, .slice A2 a.lines.length a.lines.length, .slice A3 a.offers.length a.offers.length, uv a.next] rfl rfl) rfl (Got_.ok HP.out (HN1.out.trans hk2 (fun i hi e => by omega)) ⟨A1, A2, A3, rfl, ho1, ho2, ho3⟩)
  · have HP := Lib.hid hp
    have HB1 := Lib.hid (HB0.out.nw hk)
    have HN1 := Lib.hid (HN0.out.nw hk)
    clear hp hk
    go_wp2_with ((with_reducible refine stopAt (.store 143 (.tmp 2) (.tmp 6)) rfl ?_); go_must (refine unStop (wpList_stS rfl 143 (.tmp 2) (.tmp 6) rfl [.slice none 0 0, .slice none 0 0, .slice none 0 0, .int .u64 0] sS_state w.heap.size 0 rfl rfl rfl HB1.out [.slice none 0 0, .slice none 0 0, .slice none 0 0, .int .u64 0] (by simp) (by simp [Value.oneCell']) rfl ?_)); intro w2 q2 hk2)
    exact bodyPost_ret (res_ct rfl sS_state _ rfl q2 [.slice none 0 0, .slice none 0 0, .slice none 0 0, .int .u64 0] rfl rfl) rfl (Got_.err HP.out (HN1.out.trans hk2 (fun i hi e => by omega)))
end Go.Proofs.Ytiimdnachgkomaa
