/- Package clients: walks of Take, more. -/
import Derived.Test.YtiimdnachgkomaaClients2
namespace Go.Proofs.Ytiimdnachgkomaa
open Go Go.RowKit

set_option maxRecDepth 20000 in
set_option maxHeartbeats 1000000 in
theorem Take_miss0 (g : Nat) (s : Cl) (A : Option Addr) (c : Nat) (l : List Step) (kind frm to cl : UInt8) (term index mark commit cn : UInt64) (yes : Bool) (ents data steps got : Value) (E rE rAt : Int) (w : World)
    (hi : IsO w g s A c l) (hn : 0 < s.n) (_hid : s.id.toNat ≤ 8) (hk : ((kind.toNat : Int) != 7) = true) :
    Calls Try.prog 20 #[.pointer (some ⟨g, 0, none⟩), .agg #[.int .u8 kind.toNat, .int .u8 frm.toNat, .int .u8 to.toNat, .int .u64 term.toNat, .int .u64 index.toNat, .int .u64 mark.toNat, .int .u64 commit.toNat, .bool yes, ents, data, .int .u8 cl.toNat, .int .u64 cn.toNat, steps, .int .i64 E, .int .i64 rE, .int .i64 rAt, got]] w fun e w' =>
      e = .returned (.tuple #[.agg #[.int .i64 0, .int .i64 0, .slice none 0 0], .bool false, .slice none 0 0]) ∧ Nw w w' := by
  have HN := (show Hid (∀ o1 o2 o3 k, Nw w ((((w.alloc o1).alloc o2).alloc o3).drewN k)) from fun o1 o2 o3 k => ((((Kp.refl _ w).alloc o1).alloc o2).alloc o3).drewN k)
  have hb := hi.blk
  have hg : g < w.heap.size := hb.lt
  have hg1 : g < w.heap.size + 1 := by omega
  have hg2 : g < w.heap.size + 1 + 1 := by omega
  have hc0 : w.cell? ⟨g, 0, none⟩ = some (.int .u8 s.id.toNat) := hb.cell 0
  have hc1 : w.cell? ⟨g, 1, none⟩ = some (.int .i64 s.n) := hb.cell 1
  have hc3 : w.cell? ⟨g, 3, none⟩ = some (.int .u64 s.num.toNat) := hb.cell 3
  have hW8 : IntKind.u8.wrap (100 + (s.id.toNat : Int)) = 100 + (s.id.toNat : Int) := by rw [IntKind.wrap_u8]; omega
  have hfb : (frm.toNat : Int) ≤ 255 := by have := frm.toNat_lt; omega
  have HB := Lib.hid hb
  clear hb hi
  go_enter_defers Try.func20, Try.ntmps20
  go_wp2_with fail
  go_quiet ((go_at_call 22; refine Calls.quiet_of_same (Open_is g 45 (s.opn s.to A c l.length) s.n true _ ((((HB.out.alloc _).alloc _).alloc _).drewN _) rfl hn rfl)))
  go_wp2
  refine ⟨_, res_ctt rfl isS_reply _ rfl (((((Blk.newAt (by simp) 34 _).drewN nq).set_ 0 _).set_ 1 _).set_ 2 _) [.int .i64 0, .int .i64 0, .slice none 0 0] rfl rfl, rfl, ?_⟩
  exact (((HN.out _ _ _ _).setNew (by simp; omega) _).setNew (by simp; omega) _).setNew (by simp; omega) _

set_option maxRecDepth 20000 in
set_option maxHeartbeats 1000000 in
theorem Take_miss1 (g : Nat) (s : Cl) (A : Option Addr) (c : Nat) (l : List Step) (kind frm to cl : UInt8) (term index mark commit cn : UInt64) (yes : Bool) (ents data steps got : Value) (E rE rAt : Int) (w : World)
    (hi : IsO w g s A c l) (hn : 0 < s.n) (_hid : s.id.toNat ≤ 8) (hk : ((kind.toNat : Int) != 7) = false) (ht : ((to.toNat : Int) != 100 + (s.id.toNat : Int)) = true) :
    Calls Try.prog 20 #[.pointer (some ⟨g, 0, none⟩), .agg #[.int .u8 kind.toNat, .int .u8 frm.toNat, .int .u8 to.toNat, .int .u64 term.toNat, .int .u64 index.toNat, .int .u64 mark.toNat, .int .u64 commit.toNat, .bool yes, ents, data, .int .u8 cl.toNat, .int .u64 cn.toNat, steps, .int .i64 E, .int .i64 rE, .int .i64 rAt, got]] w fun e w' =>
      e = .returned (.tuple #[.agg #[.int .i64 0, .int .i64 0, .slice none 0 0], .bool false, .slice none 0 0]) ∧ Nw w w' := by
  have HN := (show Hid (∀ o1 o2 o3 k, Nw w ((((w.alloc o1).alloc o2).alloc o3).drewN k)) from fun o1 o2 o3 k => ((((Kp.refl _ w).alloc o1).alloc o2).alloc o3).drewN k)
  have hb := hi.blk
  have hg : g < w.heap.size := hb.lt
  have hg1 : g < w.heap.size + 1 := by omega
  have hg2 : g < w.heap.size + 1 + 1 := by omega
  have hc0 : w.cell? ⟨g, 0, none⟩ = some (.int .u8 s.id.toNat) := hb.cell 0
  have hc1 : w.cell? ⟨g, 1, none⟩ = some (.int .i64 s.n) := hb.cell 1
  have hc3 : w.cell? ⟨g, 3, none⟩ = some (.int .u64 s.num.toNat) := hb.cell 3
  have hW8 : IntKind.u8.wrap (100 + (s.id.toNat : Int)) = 100 + (s.id.toNat : Int) := by rw [IntKind.wrap_u8]; omega
  have hfb : (frm.toNat : Int) ≤ 255 := by have := frm.toNat_lt; omega
  have HB := Lib.hid hb
  clear hb hi
  go_enter_defers Try.func20, Try.ntmps20
  go_wp2_with fail
  go_quiet ((go_at_call 22; refine Calls.quiet_of_same (Open_is g 45 (s.opn s.to A c l.length) s.n true _ ((((HB.out.alloc _).alloc _).alloc _).drewN _) rfl hn rfl)))
  go_wp2
  refine ⟨_, res_ctt rfl isS_reply _ rfl (((((Blk.newAt (by simp) 34 _).drewN nq).set_ 0 _).set_ 1 _).set_ 2 _) [.int .i64 0, .int .i64 0, .slice none 0 0] rfl rfl, rfl, ?_⟩
  exact (((HN.out _ _ _ _).setNew (by simp; omega) _).setNew (by simp; omega) _).setNew (by simp; omega) _

set_option maxRecDepth 20000 in
set_option maxHeartbeats 1000000 in
theorem Take_miss2 (g : Nat) (s : Cl) (A : Option Addr) (c : Nat) (l : List Step) (kind frm to cl : UInt8) (term index mark commit cn : UInt64) (yes : Bool) (ents data steps got : Value) (E rE rAt : Int) (w : World)
    (hi : IsO w g s A c l) (hn : 0 < s.n) (_hid : s.id.toNat ≤ 8) (hk : ((kind.toNat : Int) != 7) = false) (ht : ((to.toNat : Int) != 100 + (s.id.toNat : Int)) = false) (hd : ((cl.toNat : Int) != (s.id.toNat : Int)) = true) :
    Calls Try.prog 20 #[.pointer (some ⟨g, 0, none⟩), .agg #[.int .u8 kind.toNat, .int .u8 frm.toNat, .int .u8 to.toNat, .int .u64 term.toNat, .int .u64 index.toNat, .int .u64 mark.toNat, .int .u64 commit.toNat, .bool yes, ents, data, .int .u8 cl.toNat, .int .u64 cn.toNat, steps, .int .i64 E, .int .i64 rE, .int .i64 rAt, got]] w fun e w' =>
      e = .returned (.tuple #[.agg #[.int .i64 0, .int .i64 0, .slice none 0 0], .bool false, .slice none 0 0]) ∧ Nw w w' := by
  have HN := (show Hid (∀ o1 o2 o3 k, Nw w ((((w.alloc o1).alloc o2).alloc o3).drewN k)) from fun o1 o2 o3 k => ((((Kp.refl _ w).alloc o1).alloc o2).alloc o3).drewN k)
  have hb := hi.blk
  have hg : g < w.heap.size := hb.lt
  have hg1 : g < w.heap.size + 1 := by omega
  have hg2 : g < w.heap.size + 1 + 1 := by omega
  have hc0 : w.cell? ⟨g, 0, none⟩ = some (.int .u8 s.id.toNat) := hb.cell 0
  have hc1 : w.cell? ⟨g, 1, none⟩ = some (.int .i64 s.n) := hb.cell 1
  have hc3 : w.cell? ⟨g, 3, none⟩ = some (.int .u64 s.num.toNat) := hb.cell 3
  have hW8 : IntKind.u8.wrap (100 + (s.id.toNat : Int)) = 100 + (s.id.toNat : Int) := by rw [IntKind.wrap_u8]; omega
  have hfb : (frm.toNat : Int) ≤ 255 := by have := frm.toNat_lt; omega
  have HB := Lib.hid hb
  clear hb hi
  go_enter_defers Try.func20, Try.ntmps20
  go_wp2_with fail
  go_quiet ((go_at_call 22; refine Calls.quiet_of_same (Open_is g 45 (s.opn s.to A c l.length) s.n true _ ((((HB.out.alloc _).alloc _).alloc _).drewN _) rfl hn rfl)))
  go_wp2
  refine ⟨_, res_ctt rfl isS_reply _ rfl (((((Blk.newAt (by simp) 34 _).drewN nq).set_ 0 _).set_ 1 _).set_ 2 _) [.int .i64 0, .int .i64 0, .slice none 0 0] rfl rfl, rfl, ?_⟩
  exact (((HN.out _ _ _ _).setNew (by simp; omega) _).setNew (by simp; omega) _).setNew (by simp; omega) _

set_option maxRecDepth 20000 in
set_option maxHeartbeats 1000000 in
theorem Take_miss3 (g : Nat) (s : Cl) (A : Option Addr) (c : Nat) (l : List Step) (kind frm to cl : UInt8) (term index mark commit cn : UInt64) (yes : Bool) (ents data steps got : Value) (E rE rAt : Int) (w : World)
    (hi : IsO w g s A c l) (hn : 0 < s.n) (_hid : s.id.toNat ≤ 8) (hk : ((kind.toNat : Int) != 7) = false) (ht : ((to.toNat : Int) != 100 + (s.id.toNat : Int)) = false) (hd : ((cl.toNat : Int) != (s.id.toNat : Int)) = false) (hm : ((cn.toNat : Int) != (s.num.toNat : Int)) = true) :
    Calls Try.prog 20 #[.pointer (some ⟨g, 0, none⟩), .agg #[.int .u8 kind.toNat, .int .u8 frm.toNat, .int .u8 to.toNat, .int .u64 term.toNat, .int .u64 index.toNat, .int .u64 mark.toNat, .int .u64 commit.toNat, .bool yes, ents, data, .int .u8 cl.toNat, .int .u64 cn.toNat, steps, .int .i64 E, .int .i64 rE, .int .i64 rAt, got]] w fun e w' =>
      e = .returned (.tuple #[.agg #[.int .i64 0, .int .i64 0, .slice none 0 0], .bool false, .slice none 0 0]) ∧ Nw w w' := by
  have HN := (show Hid (∀ o1 o2 o3 k, Nw w ((((w.alloc o1).alloc o2).alloc o3).drewN k)) from fun o1 o2 o3 k => ((((Kp.refl _ w).alloc o1).alloc o2).alloc o3).drewN k)
  have hb := hi.blk
  have hg : g < w.heap.size := hb.lt
  have hg1 : g < w.heap.size + 1 := by omega
  have hg2 : g < w.heap.size + 1 + 1 := by omega
  have hc0 : w.cell? ⟨g, 0, none⟩ = some (.int .u8 s.id.toNat) := hb.cell 0
  have hc1 : w.cell? ⟨g, 1, none⟩ = some (.int .i64 s.n) := hb.cell 1
  have hc3 : w.cell? ⟨g, 3, none⟩ = some (.int .u64 s.num.toNat) := hb.cell 3
  have hW8 : IntKind.u8.wrap (100 + (s.id.toNat : Int)) = 100 + (s.id.toNat : Int) := by rw [IntKind.wrap_u8]; omega
  have hfb : (frm.toNat : Int) ≤ 255 := by have := frm.toNat_lt; omega
  have HB := Lib.hid hb
  clear hb hi
  go_enter_defers Try.func20, Try.ntmps20
  go_wp2_with fail
  go_quiet ((go_at_call 22; refine Calls.quiet_of_same (Open_is g 45 (s.opn s.to A c l.length) s.n true _ ((((HB.out.alloc _).alloc _).alloc _).drewN _) rfl hn rfl)))
  go_wp2
  refine ⟨_, res_ctt rfl isS_reply _ rfl (((((Blk.newAt (by simp) 34 _).drewN nq).set_ 0 _).set_ 1 _).set_ 2 _) [.int .i64 0, .int .i64 0, .slice none 0 0] rfl rfl, rfl, ?_⟩
  exact (((HN.out _ _ _ _).setNew (by simp; omega) _).setNew (by simp; omega) _).setNew (by simp; omega) _

set_option maxRecDepth 20000 in
set_option maxHeartbeats 1000000 in
theorem Take_miss4 (g : Nat) (s : Cl) (A : Option Addr) (c : Nat) (l : List Step) (kind frm to cl : UInt8) (term index mark commit cn : UInt64) (yes : Bool) (ents data steps got : Value) (E rE rAt : Int) (w : World)
    (hi : IsO w g s A c l) (hn : 0 < s.n) (_hid : s.id.toNat ≤ 8) (hk : ((kind.toNat : Int) != 7) = false) (ht : ((to.toNat : Int) != 100 + (s.id.toNat : Int)) = false) (hd : ((cl.toNat : Int) != (s.id.toNat : Int)) = false) (hm : ((cn.toNat : Int) != (s.num.toNat : Int)) = false) (hf1 : decide ((frm.toNat : Int) < 1) = true) :
    Calls Try.prog 20 #[.pointer (some ⟨g, 0, none⟩), .agg #[.int .u8 kind.toNat, .int .u8 frm.toNat, .int .u8 to.toNat, .int .u64 term.toNat, .int .u64 index.toNat, .int .u64 mark.toNat, .int .u64 commit.toNat, .bool yes, ents, data, .int .u8 cl.toNat, .int .u64 cn.toNat, steps, .int .i64 E, .int .i64 rE, .int .i64 rAt, got]] w fun e w' =>
      e = .returned (.tuple #[.agg #[.int .i64 0, .int .i64 0, .slice none 0 0], .bool false, .slice none 0 0]) ∧ Nw w w' := by
  have HN := (show Hid (∀ o1 o2 o3 k, Nw w ((((w.alloc o1).alloc o2).alloc o3).drewN k)) from fun o1 o2 o3 k => ((((Kp.refl _ w).alloc o1).alloc o2).alloc o3).drewN k)
  have hb := hi.blk
  have hg : g < w.heap.size := hb.lt
  have hg1 : g < w.heap.size + 1 := by omega
  have hg2 : g < w.heap.size + 1 + 1 := by omega
  have hc0 : w.cell? ⟨g, 0, none⟩ = some (.int .u8 s.id.toNat) := hb.cell 0
  have hc1 : w.cell? ⟨g, 1, none⟩ = some (.int .i64 s.n) := hb.cell 1
  have hc3 : w.cell? ⟨g, 3, none⟩ = some (.int .u64 s.num.toNat) := hb.cell 3
  have hW8 : IntKind.u8.wrap (100 + (s.id.toNat : Int)) = 100 + (s.id.toNat : Int) := by rw [IntKind.wrap_u8]; omega
  have hfb : (frm.toNat : Int) ≤ 255 := by have := frm.toNat_lt; omega
  have HB := Lib.hid hb
  clear hb hi
  go_enter_defers Try.func20, Try.ntmps20
  go_wp2_with fail
  go_quiet ((go_at_call 22; refine Calls.quiet_of_same (Open_is g 45 (s.opn s.to A c l.length) s.n true _ ((((HB.out.alloc _).alloc _).alloc _).drewN _) rfl hn rfl)))
  go_wp2
  refine ⟨_, res_ctt rfl isS_reply _ rfl (((((Blk.newAt (by simp) 34 _).drewN nq).set_ 0 _).set_ 1 _).set_ 2 _) [.int .i64 0, .int .i64 0, .slice none 0 0] rfl rfl, rfl, ?_⟩
  exact (((HN.out _ _ _ _).setNew (by simp; omega) _).setNew (by simp; omega) _).setNew (by simp; omega) _

set_option maxRecDepth 20000 in
set_option maxHeartbeats 1000000 in
theorem Take_miss5 (g : Nat) (s : Cl) (A : Option Addr) (c : Nat) (l : List Step) (kind frm to cl : UInt8) (term index mark commit cn : UInt64) (yes : Bool) (ents data steps got : Value) (E rE rAt : Int) (w : World)
    (hi : IsO w g s A c l) (hn : 0 < s.n) (_hid : s.id.toNat ≤ 8) (hk : ((kind.toNat : Int) != 7) = false) (ht : ((to.toNat : Int) != 100 + (s.id.toNat : Int)) = false) (hd : ((cl.toNat : Int) != (s.id.toNat : Int)) = false) (hm : ((cn.toNat : Int) != (s.num.toNat : Int)) = false) (hf1 : decide ((frm.toNat : Int) < 1) = false) (hf2 : (s.n : Int) < (frm.toNat : Int)) :
    Calls Try.prog 20 #[.pointer (some ⟨g, 0, none⟩), .agg #[.int .u8 kind.toNat, .int .u8 frm.toNat, .int .u8 to.toNat, .int .u64 term.toNat, .int .u64 index.toNat, .int .u64 mark.toNat, .int .u64 commit.toNat, .bool yes, ents, data, .int .u8 cl.toNat, .int .u64 cn.toNat, steps, .int .i64 E, .int .i64 rE, .int .i64 rAt, got]] w fun e w' =>
      e = .returned (.tuple #[.agg #[.int .i64 0, .int .i64 0, .slice none 0 0], .bool false, .slice none 0 0]) ∧ Nw w w' := by
  have HN := (show Hid (∀ o1 o2 o3 k, Nw w ((((w.alloc o1).alloc o2).alloc o3).drewN k)) from fun o1 o2 o3 k => ((((Kp.refl _ w).alloc o1).alloc o2).alloc o3).drewN k)
  have hb := hi.blk
  have hg : g < w.heap.size := hb.lt
  have hg1 : g < w.heap.size + 1 := by omega
  have hg2 : g < w.heap.size + 1 + 1 := by omega
  have hc0 : w.cell? ⟨g, 0, none⟩ = some (.int .u8 s.id.toNat) := hb.cell 0
  have hc1 : w.cell? ⟨g, 1, none⟩ = some (.int .i64 s.n) := hb.cell 1
  have hc3 : w.cell? ⟨g, 3, none⟩ = some (.int .u64 s.num.toNat) := hb.cell 3
  have hW8 : IntKind.u8.wrap (100 + (s.id.toNat : Int)) = 100 + (s.id.toNat : Int) := by rw [IntKind.wrap_u8]; omega
  have hfb : (frm.toNat : Int) ≤ 255 := by have := frm.toNat_lt; omega
  have HB := Lib.hid hb
  clear hb hi
  go_enter_defers Try.func20, Try.ntmps20
  go_wp2_with fail
  go_quiet ((go_at_call 22; refine Calls.quiet_of_same (Open_is g 45 (s.opn s.to A c l.length) s.n true _ ((((HB.out.alloc _).alloc _).alloc _).drewN _) rfl hn rfl)))
  go_wp2
  refine ⟨_, res_ctt rfl isS_reply _ rfl (((((Blk.newAt (by simp) 34 _).drewN nq).set_ 0 _).set_ 1 _).set_ 2 _) [.int .i64 0, .int .i64 0, .slice none 0 0] rfl rfl, rfl, ?_⟩
  exact (((HN.out _ _ _ _).setNew (by simp; omega) _).setNew (by simp; omega) _).setNew (by simp; omega) _

/-- The letter is the open call's answer. -/
def Answers (s : Cl) (kind frm to cl : UInt8) (cn : UInt64) : Prop := kind.toNat = 7 ∧ to.toNat = 100 + s.id.toNat ∧ cl = s.id ∧ cn = s.num ∧ 1 ≤ frm.toNat ∧ frm.toNat ≤ s.n

theorem Take_miss (g : Nat) (s : Cl) (A : Option Addr) (c : Nat) (l : List Step) (kind frm to cl : UInt8) (term index mark commit cn : UInt64) (yes : Bool) (ents data steps got : Value) (E rE rAt : Int) (w : World)
    (hi : IsO w g s A c l) (hn : 0 < s.n) (hid : s.id.toNat ≤ 8) (h : ¬ Answers s kind frm to cl cn) :
    Calls Try.prog 20 #[.pointer (some ⟨g, 0, none⟩), .agg #[.int .u8 kind.toNat, .int .u8 frm.toNat, .int .u8 to.toNat, .int .u64 term.toNat, .int .u64 index.toNat, .int .u64 mark.toNat, .int .u64 commit.toNat, .bool yes, ents, data, .int .u8 cl.toNat, .int .u64 cn.toNat, steps, .int .i64 E, .int .i64 rE, .int .i64 rAt, got]] w fun e w' =>
      e = .returned (.tuple #[.agg #[.int .i64 0, .int .i64 0, .slice none 0 0], .bool false, .slice none 0 0]) ∧ Nw w w' := by
  have tt : ∀ (a b : Int), a ≠ b → (a != b) = true := fun a b h => bne_iff_ne.2 h
  have ff : ∀ (a b : Int), a = b → (a != b) = false := fun a b h => by rw [bne_eq_false_iff_eq]; exact h
  by_cases h0 : kind.toNat = 7
  · by_cases h1 : to.toNat = 100 + s.id.toNat
    · by_cases h2 : cl = s.id
      · by_cases h3 : cn = s.num
        · by_cases h4 : 1 ≤ frm.toNat
          · exact Take_miss5 g s A c l kind frm to cl term index mark commit cn yes ents data steps got E rE rAt w hi hn hid (ff _ _ (by omega)) (ff _ _ (by omega)) (ff _ _ (by rw [h2])) (ff _ _ (by rw [h3])) (decide_eq_false (by omega)) (by
              have : ¬ frm.toNat ≤ s.n := fun h5 => h ⟨h0, h1, h2, h3, h4, h5⟩
              omega)
          · exact Take_miss4 g s A c l kind frm to cl term index mark commit cn yes ents data steps got E rE rAt w hi hn hid (ff _ _ (by omega)) (ff _ _ (by omega)) (ff _ _ (by rw [h2])) (ff _ _ (by rw [h3])) (decide_eq_true (by omega))
        · exact Take_miss3 g s A c l kind frm to cl term index mark commit cn yes ents data steps got E rE rAt w hi hn hid (ff _ _ (by omega)) (ff _ _ (by omega)) (ff _ _ (by rw [h2])) (tt _ _ (fun e => h3 (UInt64.toNat.inj (by omega))))
      · exact Take_miss2 g s A c l kind frm to cl term index mark commit cn yes ents data steps got E rE rAt w hi hn hid (ff _ _ (by omega)) (ff _ _ (by omega)) (tt _ _ (fun e => h2 (UInt8.toNat.inj (by omega))))
    · exact Take_miss1 g s A c l kind frm to cl term index mark commit cn yes ents data steps got E rE rAt w hi hn hid (ff _ _ (by omega)) (tt _ _ (by omega))
  · exact Take_miss0 g s A c l kind frm to cl term index mark commit cn yes ents data steps got E rE rAt w hi hn hid (tt _ _ (by omega))
end Go.Proofs.Ytiimdnachgkomaa
