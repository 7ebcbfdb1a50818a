import Derived.Test.YtiimdnachgkomaaClients
import Derived.Deep.QuietTactic
import Derived.BigQuiet
namespace Go.Proofs.Ytiimdnachgkomaa
open Go Go.RowKit

set_option maxRecDepth 20000 in
set_option maxHeartbeats 400000 in
theorem Open_nil (w : World) : Calls Try.prog 22 #[.pointer none] w fun e w' => e = .returned (.bool false) ∧ w' = w := by
  go_enter Try.func22, Try.ntmps22
  go_wp2
  go_ret
  exact ⟨rfl, rfl⟩
set_option maxRecDepth 20000 in
set_option maxHeartbeats 400000 in
theorem Open_void (g : Nat) (t : TypeId) (cs : Array Value) (w : World) (hb : Blk w g t cs) (h0 : cs[1]? = some (.int .i64 0)) :
    Calls Try.prog 22 #[.pointer (some ⟨g, 0, none⟩)] w fun e w' => e = .returned (.bool false) ∧ w' = w := by
  have hc1 : w.cell? ⟨g, 1, none⟩ = some (.int .i64 0) := (hb.cell 1).trans h0
  clear h0
  go_enter Try.func22, Try.ntmps22
  go_wp2
  go_ret
  exact ⟨rfl, rfl⟩
set_option maxRecDepth 20000 in
set_option maxHeartbeats 400000 in
theorem Open_is (g : Nat) (t : TypeId) (cs : Array Value) (n : Nat) (b : Bool) (w : World) (hb : Blk w g t cs) (h0 : cs[1]? = some (.int .i64 n)) (hn : 0 < n) (h22 : cs[22]? = some (.bool b)) :
    Calls Try.prog 22 #[.pointer (some ⟨g, 0, none⟩)] w fun e w' => e = .returned (.bool b) ∧ w' = w := by
  have hc1 : w.cell? ⟨g, 1, none⟩ = some (.int .i64 n) := (hb.cell 1).trans h0
  have hc22 : w.cell? ⟨g, 22, none⟩ = some (.bool b) := (hb.cell 22).trans h22
  clear h0 h22
  go_enter Try.func22, Try.ntmps22
  go_wp2
  go_ret
  exact ⟨rfl, rfl⟩
set_option maxRecDepth 20000 in
set_option maxHeartbeats 400000 in
theorem Num_nil (w : World) : Calls Try.prog 23 #[.pointer none] w fun e w' => e = .returned (.int .u64 0) ∧ w' = w := by
  go_enter Try.func23, Try.ntmps23
  go_wp2
  go_ret
  exact ⟨rfl, rfl⟩
set_option maxRecDepth 20000 in
set_option maxHeartbeats 400000 in
theorem Num_void (g : Nat) (t : TypeId) (cs : Array Value) (w : World) (hb : Blk w g t cs) (h0 : cs[1]? = some (.int .i64 0)) :
    Calls Try.prog 23 #[.pointer (some ⟨g, 0, none⟩)] w fun e w' => e = .returned (.int .u64 0) ∧ w' = w := by
  have hc1 : w.cell? ⟨g, 1, none⟩ = some (.int .i64 0) := (hb.cell 1).trans h0
  clear h0
  go_enter Try.func23, Try.ntmps23
  go_wp2
  go_ret
  exact ⟨rfl, rfl⟩
set_option maxRecDepth 20000 in
set_option maxHeartbeats 400000 in
theorem Num_is (g : Nat) (t : TypeId) (cs : Array Value) (n : Nat) (k : Int) (w : World) (hb : Blk w g t cs) (h0 : cs[1]? = some (.int .i64 n)) (hn : 0 < n) (h3 : cs[3]? = some (.int .u64 k)) :
    Calls Try.prog 23 #[.pointer (some ⟨g, 0, none⟩)] w fun e w' => e = .returned (.int .u64 k) ∧ w' = w := by
  have hc1 : w.cell? ⟨g, 1, none⟩ = some (.int .i64 n) := (hb.cell 1).trans h0
  have hc3 : w.cell? ⟨g, 3, none⟩ = some (.int .u64 k) := (hb.cell 3).trans h3
  clear h0 h3
  go_enter Try.func23, Try.ntmps23
  go_wp2
  go_ret
  exact ⟨rfl, rfl⟩

set_option maxRecDepth 20000 in
set_option maxHeartbeats 400000 in
theorem New_bad (id n : Int) (w : World) (h : id < 1 ∨ 8 < id ∨ n < 1 ∨ 7 < n) : Calls Try.prog 24 #[.int .i64 id, .int .i64 n] w fun e w' => e = .returned (.pointer none) ∧ w' = w := by
  by_cases h1 : id < 1
  · go_enter Try.func24, Try.ntmps24
    go_wp2
    go_ret
    exact ⟨rfl, rfl⟩
  · by_cases h2 : 8 < id
    · go_enter Try.func24, Try.ntmps24
      go_wp2
      go_ret
      exact ⟨rfl, rfl⟩
    · by_cases h3 : n < 1
      · go_enter Try.func24, Try.ntmps24
        go_wp2
        go_ret
        exact ⟨rfl, rfl⟩
      · have h4 : 7 < n := by omega
        go_enter Try.func24, Try.ntmps24
        go_wp2
        go_ret
        exact ⟨rfl, rfl⟩
set_option maxRecDepth 20000 in
set_option maxHeartbeats 400000 in
theorem New_ok (id : UInt8) (n : Nat) (w : World) (h1 : 1 ≤ id.toNat) (h2 : id.toNat ≤ 8) (h3 : 1 ≤ n) (h4 : n ≤ 7) :
    Calls Try.prog 24 #[.int .i64 (id.toNat : Int), .int .i64 (n : Int)] w fun e w' => e = .returned (.pointer (some ⟨w.heap.size, 0, none⟩)) ∧ w' = w.alloc (.cells (Cl.shut ⟨id, n, 1, 0, 0⟩) 45) := by
  go_enter Try.func24, Try.ntmps24
  go_wp2
  go_ret
  exact ⟨rfl, rfl⟩

set_option maxRecDepth 20000 in
set_option maxHeartbeats 400000 in
theorem Take_not (A : Option Addr) (L : Array Value) (w : World)
    (ho : ∀ w1, Nw w w1 → Calls Try.prog 22 #[.pointer A] w1 fun e w' => e = .returned (.bool false) ∧ w' = w1) :
    Calls Try.prog 20 #[.pointer A, .agg L] w fun e w' => e = .returned (.tuple #[.agg #[.int .i64 0, .int .i64 0, .slice none 0 0], .bool false, .slice none 0 0]) ∧ Nw w w' := by
  have hn : ∀ o1 o2 o3 k, Nw w ((((w.alloc o1).alloc o2).alloc o3).drewN k) := fun o1 o2 o3 k => ((((Kp.refl _ w).alloc o1).alloc o2).alloc o3).drewN k
  have HN := (show Hid (∀ o1 o2 o3 k, Nw w ((((w.alloc o1).alloc o2).alloc o3).drewN k)) from hn)
  have HO := (show Hid (∀ w1, Nw w w1 → Calls Try.prog 22 #[.pointer A] w1 fun e w' => e = .returned (.bool false) ∧ w' = w1) from ho)
  clear hn ho
  go_enter_defers Try.func20, Try.ntmps20
  go_wp2_with fail
  go_quiet ((go_at_call 22; exact Calls.quiet_of_same (HO.out _ (HN.out _ _ _ _))))
  go_wp2
  refine ⟨_, res_ctt rfl isS_reply _ rfl (((((Blk.newAt (by simp) 34 _).drewN nq).set_ 0 _).set_ 1 _).set_ 2 _) [.int .i64 0, .int .i64 0, .slice none 0 0] rfl rfl, rfl, ?_⟩
  exact (((HN.out _ _ _ _).setNew (by simp; omega) _).setNew (by simp; omega) _).setNew (by simp; omega) _

set_option maxRecDepth 20000 in
set_option maxHeartbeats 400000 in
theorem Take1_deferred (N g : Nat) (s : Cl) (to' : Nat) (A : Option Addr) (c k : Nat) (u : FrameMode) (w : World) (hN : w.cell? ⟨N, 0, none⟩ = some (.pointer (some ⟨g, 0, none⟩))) (hb : Blk w g 45 (s.opn to' A c k)) :
    CallsD Try.prog 88 #[.pointer (some ⟨N, 0, none⟩)] u w fun e u' w' => u' = u ∧ (e = .returned (.tuple #[]) ∧ Blk w' g 45 s.shut ∧ Kp (fun k => k = g) w w') := by
  go_enter_d Try.func88, Try.ntmps88
  go_wp2_with ((with_reducible refine stopAt (.store 43 (.tmp 4) (.tmp 2)) rfl ?_); go_must (refine unStop (wpList_stS rfl 43 (.tmp 4) (.tmp 2) rfl (noLtr ++ [Value.bool false]) isS_open g 5 rfl rfl rfl hb s.shut.toList (by simp [Cl.ltr, Cl.opn, Cl.head, noLtr]) (by simp [noLtr, Value.oneCell']) rfl ?_)); intro w2 hb2 hk2)
  go_end0
  exact ⟨rfl, hb2, hk2⟩

set_option maxRecDepth 20000 in
set_option maxHeartbeats 1000000 in
theorem Take_done (g : Nat) (s : Cl) (A : Option Addr) (c : Nat) (l : List Step) (frm to : UInt8) (term index mark commit : UInt64) (yes : Bool) (ents data steps : Value) (rE rAt : Int) (Ag : Option Addr) (cg : Nat) (gl : List Got) (w : World)
    (hi : IsO w g s A c l) (hn : 0 < s.n) (hto : to.toNat = 100 + s.id.toNat) (h1 : 1 ≤ frm.toNat) (h2 : frm.toNat ≤ s.n) (hid : s.id.toNat ≤ 8) (hr : RdG w Ag cg gl) (hgl : gl.length ≤ 1000) :
    Calls Try.prog 20 #[.pointer (some ⟨g, 0, none⟩), .agg #[.int .u8 7, .int .u8 frm.toNat, .int .u8 to.toNat, .int .u64 term.toNat, .int .u64 index.toNat, .int .u64 mark.toNat, .int .u64 commit.toNat, .bool yes, ents, data, .int .u8 s.id.toNat, .int .u64 s.num.toNat, steps, .int .i64 0, .int .i64 rE, .int .i64 rAt, .slice Ag gl.length cg]] w fun e w' =>
      ∃ A2, e = .returned (.tuple #[.agg #[.int .i64 rE, .int .i64 rAt, .slice A2 gl.length gl.length], .bool true, .slice none 0 0]) ∧ OwnG w' w.heap.size A2 gl.length gl ∧ Blk w' g 45 s.shut ∧ Kp (fun k => k = g) w w' := by
  have hb := hi.blk
  have hg : g < w.heap.size := hb.lt
  have hg1 : g < w.heap.size + 1 := by omega
  have hg2 : g < w.heap.size + 1 + 1 := by omega
  have hc0 : w.cell? ⟨g, 0, none⟩ = some (.int .u8 s.id.toNat) := hb.cell 0
  have hc1 : w.cell? ⟨g, 1, none⟩ = some (.int .i64 s.n) := hb.cell 1
  have hc3 : w.cell? ⟨g, 3, none⟩ = some (.int .u64 s.num.toNat) := hb.cell 3
  have hW8 : IntKind.u8.wrap (100 + (s.id.toNat : Int)) = 100 + (s.id.toNat : Int) := by rw [IntKind.wrap_u8]; omega
  have ht : (((to.toNat : Int)) != 100 + (s.id.toNat : Int)) = false := by rw [bne_eq_false_iff_eq]; omega
  have hd : (((s.id.toNat : Int)) != (s.id.toNat : Int)) = false := by simp
  have hm : (((s.num.toNat : Int)) != (s.num.toNat : Int)) = false := by simp
  have hfb : (frm.toNat : Int) ≤ 255 := by have := frm.toNat_lt; omega
  have hf1 : decide ((frm.toNat : Int) < 1) = false := decide_eq_false (by omega)
  have hf2 : decide ((s.n : Int) < (frm.toNat : Int)) = false := decide_eq_false (by omega)
  have HB := Lib.hid hb
  have HI := Lib.hid hi
  have HR := Lib.hid hr
  clear hb hi hr hto
  go_enter_defers Try.func20, Try.ntmps20
  go_wp2_with fail
  go_quiet ((go_at_call 22; refine Calls.quiet_of_same (Open_is g 45 (s.opn s.to A c l.length) s.n true _ ((((HB.out.alloc _).alloc _).alloc _).drewN _) rfl hn rfl)))
  have hmf : ∀ (fn : Fn) (first cap : Array Value) (w : World), (Instr.makeFunc fn first cap).run Try.prog w = .ok (.func fn first cap) w := fun _ _ _ _ => rfl
  go_wp2_with fail
  have HW : ∀ (o1 o2 o3 : Obj) (k : Nat) (u1 u2 u3 : Value), Nw w ((((((((w.alloc o1).alloc o2).alloc o3).drewN k).setCell ⟨w.heap.size + 1 + 1, 0, none⟩ u1).setCell ⟨w.heap.size + 1 + 1, 1, none⟩ u2).setCell ⟨w.heap.size + 1 + 1, 2, none⟩ u3)) :=
    fun o1 o2 o3 k u1 u2 u3 => (((((((Kp.refl _ w).alloc o1).alloc o2).alloc o3).drewN k).setNew (by simp; omega) _).setNew (by simp; omega) _).setNew (by simp; omega) _
  generalize hw3 : World.setCell _ _ _ = w3
  have hn3 : Nw w w3 := by rw [← hw3]; exact HW _ _ _ _ _ _ _
  have hN : w3.cell? ⟨w.heap.size, 0, none⟩ = some (.pointer (some ⟨g, 0, none⟩)) := by rw [← hw3]; exact (((((((Blk.new w _ _).alloc _).alloc _).drewN nq).far (p := ⟨w.heap.size + 1 + 1, 0, none⟩) (by simp; omega) _).far (p := ⟨w.heap.size + 1 + 1, 1, none⟩) (by simp; omega) _).far (p := ⟨w.heap.size + 1 + 1, 2, none⟩) (by simp; omega) _).cell 0
  have hR : Blk w3 (w.heap.size + 1 + 1) 34 #[.int .i64 rE, .int .i64 rAt, .slice Ag gl.length cg] := by rw [← hw3]; exact ((((Blk.newAt (by simp) _ _).drewN nq).set_ 0 _).set_ 1 _).set_ 2 _
  clear hw3 HW hc0 hc1 hc3 hW8 ht hd hm hf1 hf2
  have hb3 := HB.out.nw hn3
  have hr3 := HR.out.nw hn3
  have hlt3 : w.heap.size + 1 + 1 < w3.heap.size := hR.lt
  go_wp2_with (first
    | (go_at_call 90; go_must (refine (clone_got _ _ _ _ _ hr3 (got_one gl) (by unfold big; omega)).mono ?_); rintro e w4 ⟨A1, c1, rfl, ho4, hk4⟩; have hb4 := hb3.nw hk4; have hN4 := Nw.cell hk4 hN; have hR4 := hR.nw hk4; have r0 : w4.cell? ⟨w.heap.size + 1 + 1, 0, none⟩ = some (.int .i64 rE) := hR4.cell 0; have r1 : w4.cell? ⟨w.heap.size + 1 + 1, 1, none⟩ = some (.int .i64 rAt) := hR4.cell 1; have r2 : w4.cell? ⟨w.heap.size + 1 + 1, 2, none⟩ = some (.slice Ag gl.length cg) := hR4.cell 2; have f0 := hR4.free 0; have f1 := hR4.free 1; have f2 := hR4.free 2)
    | (go_at_call 89; go_must (refine (clip_got _ _ _ _ ho4.cap).mono ?_); rintro e w5 ⟨rfl, rfl⟩))
  have HS : ∀ (u0 u1 u2 u3 : Value), Nw w5 w5 → Kp (fun k => k = w.heap.size + 1 + 1) w5 ((((w5.setCell ⟨w.heap.size + 1 + 1, 2, none⟩ u3).setCell ⟨w.heap.size + 1 + 1, 0, none⟩ u0).setCell ⟨w.heap.size + 1 + 1, 1, none⟩ u1).setCell ⟨w.heap.size + 1 + 1, 2, none⟩ u2) :=
    fun u0 u1 u2 u3 _ => ((((Kp.refl (fun k => k = w.heap.size + 1 + 1) w5).setCell (p := ⟨w.heap.size + 1 + 1, 2, none⟩) (fun _ => rfl) _).setCell (p := ⟨w.heap.size + 1 + 1, 0, none⟩) (fun _ => rfl) _).setCell (p := ⟨w.heap.size + 1 + 1, 1, none⟩) (fun _ => rfl) _).setCell (p := ⟨w.heap.size + 1 + 1, 2, none⟩) (fun _ => rfl) _
  generalize hw6 : World.setCell _ _ _ = w6
  have hk6 : Kp (fun k => k = w.heap.size + 1 + 1) w5 w6 := by rw [← hw6]; exact HS _ _ _ _ (Kp.refl _ _)
  have hR6 : Blk w6 (w.heap.size + 1 + 1) 34 #[.int .i64 rE, .int .i64 rAt, .slice A1 gl.length gl.length] := by rw [← hw6]; exact (((hR4.set_ 2 _).set_ 0 _).set_ 1 _).set_ 2 _
  have hb6 := hb4.kp hk6 (by have := hn3.size; omega)
  have hN6 : w6.cell? ⟨w.heap.size, 0, none⟩ = some (.pointer (some ⟨g, 0, none⟩)) := hk6.cell hN4 (by simp; omega)
  have ho6 : Own w6 w3.heap.size 93 2 A1 gl.length gl.length _ := ho4.clip.kp hk6 (fun k hk e => by have := (ho4.lt k hk).1; omega)
  clear hw6 HS r0 r1 r2 f0 f1 f2
  refine leaves_cons (f := 88) (args := #[.pointer (some ⟨w.heap.size, 0, none⟩)]) (by simp) (by simp [go_sem]) ?_
  refine (Take1_deferred w.heap.size g s s.to A c l.length .returning w6 hN6 hb6).mono ?_
  rintro e u' w7 ⟨rfl, rfl, hb7, hk7⟩
  have hw7 : Kp (fun k => k = g) w w7 := ((Nw.kp (S := fun k => k = g) (hn3.nw hk4)).trans hk6 (fun i hi e => by omega)).trans hk7 (fun i hi e => e)
  refine ⟨_, res_ctt rfl isS_reply _ rfl (hR6.kp hk7 (show ¬ w.heap.size + 1 + 1 = g by omega)) [.int .i64 rE, .int .i64 rAt, .slice A1 gl.length gl.length] rfl rfl, A1, rfl, ?_, hb7, hw7⟩
  exact (ho6.kp hk7 (fun k hk e => by have := (ho4.lt k hk).1; omega)).low hn3.size
end Go.Proofs.Ytiimdnachgkomaa
