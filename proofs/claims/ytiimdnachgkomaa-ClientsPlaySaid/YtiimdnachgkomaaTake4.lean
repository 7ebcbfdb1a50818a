/- Package clients: a letter is taken, more. -/
import Derived.Test.YtiimdnachgkomaaClients3
import Derived.Test.YtiimdnachgkomaaSameAll
namespace Go.Proofs.Ytiimdnachgkomaa
open Go Go.RowKit
/-- Nothing was taken. -/
def TakeNoP (w : World) (e : Ending) (w' : World) : Prop := e = .returned (.tuple #[.agg #[.int .i64 0, .int .i64 0, .slice none 0 0], .bool false, .slice none 0 0]) ∧ Nw w w'
set_option maxRecDepth 20000 in
set_option maxHeartbeats 1000000 in
theorem Take_no0 (g : Nat) (s : Cl) (A : Option Addr) (c : Nat) (l : List Step) (kind frm to cl : UInt8) (term index mark commit cn : UInt64) (yes : Bool) (ents data steps got : Value) (E rE rAt : Int) (w : World) (hi : IsO w g s A c l) (hn : 0 < s.n) (hn7 : s.n ≤ 7) (hid : s.id.toNat ≤ 8) (hk : ((kind.toNat : Int) != 7) = false) (ht : ((to.toNat : Int) != 100 + (s.id.toNat : Int)) = false) (hd : ((cl.toNat : Int) != (s.id.toNat : Int)) = false) (hm : ((cn.toNat : Int) != (s.num.toNat : Int)) = false) (hf1 : decide ((frm.toNat : Int) < 1) = false) (hf2 : decide ((s.n : Int) < (frm.toNat : Int)) = false) (he0 : (E == 0) = false) (he1 : (E == 16) = false) :
    Calls Try.prog 20 #[.pointer (some ⟨g, 0, none⟩), .agg #[.int .u8 kind.toNat, .int .u8 frm.toNat, .int .u8 to.toNat, .int .u64 term.toNat, .int .u64 index.toNat, .int .u64 mark.toNat, .int .u64 commit.toNat, .bool yes, ents, data, .int .u8 cl.toNat, .int .u64 cn.toNat, steps, .int .i64 E, .int .i64 rE, .int .i64 rAt, got]] w (TakeNoP w) := by
  have HN := (show Hid (∀ o1 o2 o3 k, Nw w ((((w.alloc o1).alloc o2).alloc o3).drewN k)) from fun o1 o2 o3 k => ((((Kp.refl _ w).alloc o1).alloc o2).alloc o3).drewN k)
  have hb := hi.blk
  have hg : g < w.heap.size := hb.lt
  have hg1 : g < w.heap.size + 1 := by omega
  have hg2 : g < w.heap.size + 1 + 1 := by omega
  have hc0 : w.cell? ⟨g, 0, none⟩ = some (.int .u8 s.id.toNat) := hb.cell 0
  have hc1 : w.cell? ⟨g, 1, none⟩ = some (.int .i64 s.n) := hb.cell 1
  have hc3 : w.cell? ⟨g, 3, none⟩ = some (.int .u64 s.num.toNat) := hb.cell 3
  have hf2f : w.frozen? ⟨g, 2, none⟩ = false := hb.free 2
  have hc2 : w.cell? ⟨g, 2, none⟩ = some (.int .i64 s.to) := hb.cell 2
  have hW8 : IntKind.u8.wrap (100 + (s.id.toNat : Int)) = 100 + (s.id.toNat : Int) := by rw [IntKind.wrap_u8]; omega
  have hfb : (frm.toNat : Int) ≤ 255 := by have := frm.toNat_lt; omega
  have hnb : (s.n : Int) ≤ 7 := by omega
  have HB := Lib.hid hb
  have HI := Lib.hid hi
  clear hb hi
  have hf2' : decide (s.n < frm.toNat) = false := decide_eq_false (by have := of_decide_eq_false hf2; omega)
  go_enter_defers Try.func20, Try.ntmps20
  go_wp2_with fail
  go_quiet ((go_at_call 22; refine Calls.quiet_of_same (Open_is g 45 (s.opn s.to A c l.length) s.n true _ ((((HB.out.alloc _).alloc _).alloc _).drewN _) rfl hn rfl)))
  go_wp2_with fail
  refine ⟨_, res_ctt rfl isS_reply _ rfl (((((Blk.newAt (by simp) 34 _).drewN nq).set_ 0 _).set_ 1 _).set_ 2 _) [.int .i64 0, .int .i64 0, .slice none 0 0] rfl rfl, rfl, ?_⟩
  exact (((HN.out _ _ _ _).setNew (by simp; omega) _).setNew (by simp; omega) _).setNew (by simp; omega) _
set_option maxRecDepth 20000 in
set_option maxHeartbeats 1000000 in
theorem Take_no1 (g : Nat) (s : Cl) (A : Option Addr) (c : Nat) (l : List Step) (kind frm to cl : UInt8) (term index mark commit cn : UInt64) (yes : Bool) (ents data steps got : Value) (rE rAt : Int) (w : World) (hi : IsO w g s A c l) (hn : 0 < s.n) (hn7 : s.n ≤ 7) (hid : s.id.toNat ≤ 8) (hk : ((kind.toNat : Int) != 7) = false) (ht : ((to.toNat : Int) != 100 + (s.id.toNat : Int)) = false) (hd : ((cl.toNat : Int) != (s.id.toNat : Int)) = false) (hm : ((cn.toNat : Int) != (s.num.toNat : Int)) = false) (hf1 : decide ((frm.toNat : Int) < 1) = false) (hf2 : decide ((s.n : Int) < (frm.toNat : Int)) = false) (hi1 : decide ((1 : Int) ≤ (index.toNat : Int)) = false) :
    Calls Try.prog 20 #[.pointer (some ⟨g, 0, none⟩), .agg #[.int .u8 kind.toNat, .int .u8 frm.toNat, .int .u8 to.toNat, .int .u64 term.toNat, .int .u64 index.toNat, .int .u64 mark.toNat, .int .u64 commit.toNat, .bool yes, ents, data, .int .u8 cl.toNat, .int .u64 cn.toNat, steps, .int .i64 16, .int .i64 rE, .int .i64 rAt, got]] w (TakeNoP w) := by
  have HN := (show Hid (∀ o1 o2 o3 k, Nw w ((((w.alloc o1).alloc o2).alloc o3).drewN k)) from fun o1 o2 o3 k => ((((Kp.refl _ w).alloc o1).alloc o2).alloc o3).drewN k)
  have hb := hi.blk
  have hg : g < w.heap.size := hb.lt
  have hg1 : g < w.heap.size + 1 := by omega
  have hg2 : g < w.heap.size + 1 + 1 := by omega
  have hc0 : w.cell? ⟨g, 0, none⟩ = some (.int .u8 s.id.toNat) := hb.cell 0
  have hc1 : w.cell? ⟨g, 1, none⟩ = some (.int .i64 s.n) := hb.cell 1
  have hc3 : w.cell? ⟨g, 3, none⟩ = some (.int .u64 s.num.toNat) := hb.cell 3
  have hf2f : w.frozen? ⟨g, 2, none⟩ = false := hb.free 2
  have hc2 : w.cell? ⟨g, 2, none⟩ = some (.int .i64 s.to) := hb.cell 2
  have hW8 : IntKind.u8.wrap (100 + (s.id.toNat : Int)) = 100 + (s.id.toNat : Int) := by rw [IntKind.wrap_u8]; omega
  have hfb : (frm.toNat : Int) ≤ 255 := by have := frm.toNat_lt; omega
  have hnb : (s.n : Int) ≤ 7 := by omega
  have HB := Lib.hid hb
  have HI := Lib.hid hi
  clear hb hi
  have hf2' : decide (s.n < frm.toNat) = false := decide_eq_false (by have := of_decide_eq_false hf2; omega)
  go_enter_defers Try.func20, Try.ntmps20
  go_wp2_with fail
  go_quiet ((go_at_call 22; refine Calls.quiet_of_same (Open_is g 45 (s.opn s.to A c l.length) s.n true _ ((((HB.out.alloc _).alloc _).alloc _).drewN _) rfl hn rfl)))
  go_wp2_with fail
  obtain ⟨n1, hn1⟩ : ∃ n1, n1 = nq := ⟨_, rfl⟩
  subst hn1
  go_quiet (fail)
  go_wp2_with fail
  refine ⟨_, res_ctt rfl isS_reply _ rfl (((((Blk.newAt (by simp) 34 _).drewN (n1 + nq)).set_ 0 _).set_ 1 _).set_ 2 _) [.int .i64 0, .int .i64 0, .slice none 0 0] rfl rfl, rfl, ?_⟩
  exact (((HN.out _ _ _ _).setNew (by simp; omega) _).setNew (by simp; omega) _).setNew (by simp; omega) _
set_option maxRecDepth 20000 in
set_option maxHeartbeats 1000000 in
theorem Take_no2 (g : Nat) (s : Cl) (A : Option Addr) (c : Nat) (l : List Step) (kind frm to cl : UInt8) (term index mark commit cn : UInt64) (yes : Bool) (ents data steps got : Value) (rE rAt : Int) (w : World) (hi : IsO w g s A c l) (hn : 0 < s.n) (hn7 : s.n ≤ 7) (hid : s.id.toNat ≤ 8) (hk : ((kind.toNat : Int) != 7) = false) (ht : ((to.toNat : Int) != 100 + (s.id.toNat : Int)) = false) (hd : ((cl.toNat : Int) != (s.id.toNat : Int)) = false) (hm : ((cn.toNat : Int) != (s.num.toNat : Int)) = false) (hf1 : decide ((frm.toNat : Int) < 1) = false) (hf2 : decide ((s.n : Int) < (frm.toNat : Int)) = false) (hi1 : decide ((1 : Int) ≤ (index.toNat : Int)) = true) (hi2 : decide ((index.toNat : Int) ≤ (s.n : Int)) = false) :
    Calls Try.prog 20 #[.pointer (some ⟨g, 0, none⟩), .agg #[.int .u8 kind.toNat, .int .u8 frm.toNat, .int .u8 to.toNat, .int .u64 term.toNat, .int .u64 index.toNat, .int .u64 mark.toNat, .int .u64 commit.toNat, .bool yes, ents, data, .int .u8 cl.toNat, .int .u64 cn.toNat, steps, .int .i64 16, .int .i64 rE, .int .i64 rAt, got]] w (TakeNoP w) := by
  have HN := (show Hid (∀ o1 o2 o3 k, Nw w ((((w.alloc o1).alloc o2).alloc o3).drewN k)) from fun o1 o2 o3 k => ((((Kp.refl _ w).alloc o1).alloc o2).alloc o3).drewN k)
  have hb := hi.blk
  have hg : g < w.heap.size := hb.lt
  have hg1 : g < w.heap.size + 1 := by omega
  have hg2 : g < w.heap.size + 1 + 1 := by omega
  have hc0 : w.cell? ⟨g, 0, none⟩ = some (.int .u8 s.id.toNat) := hb.cell 0
  have hc1 : w.cell? ⟨g, 1, none⟩ = some (.int .i64 s.n) := hb.cell 1
  have hc3 : w.cell? ⟨g, 3, none⟩ = some (.int .u64 s.num.toNat) := hb.cell 3
  have hf2f : w.frozen? ⟨g, 2, none⟩ = false := hb.free 2
  have hc2 : w.cell? ⟨g, 2, none⟩ = some (.int .i64 s.to) := hb.cell 2
  have hW8 : IntKind.u8.wrap (100 + (s.id.toNat : Int)) = 100 + (s.id.toNat : Int) := by rw [IntKind.wrap_u8]; omega
  have hfb : (frm.toNat : Int) ≤ 255 := by have := frm.toNat_lt; omega
  have hnb : (s.n : Int) ≤ 7 := by omega
  have HB := Lib.hid hb
  have HI := Lib.hid hi
  clear hb hi
  have hf2' : decide (s.n < frm.toNat) = false := decide_eq_false (by have := of_decide_eq_false hf2; omega)
  have hi2' : decide (index.toNat ≤ s.n) = false := decide_eq_false (by have := of_decide_eq_false hi2; omega)
  go_enter_defers Try.func20, Try.ntmps20
  go_wp2_with fail
  go_quiet ((go_at_call 22; refine Calls.quiet_of_same (Open_is g 45 (s.opn s.to A c l.length) s.n true _ ((((HB.out.alloc _).alloc _).alloc _).drewN _) rfl hn rfl)))
  go_wp2_with fail
  obtain ⟨n1, hn1⟩ : ∃ n1, n1 = nq := ⟨_, rfl⟩
  subst hn1
  go_quiet (fail)
  go_wp2_with fail
  refine ⟨_, res_ctt rfl isS_reply _ rfl (((((Blk.newAt (by simp) 34 _).drewN (n1 + nq)).set_ 0 _).set_ 1 _).set_ 2 _) [.int .i64 0, .int .i64 0, .slice none 0 0] rfl rfl, rfl, ?_⟩
  exact (((HN.out _ _ _ _).setNew (by simp; omega) _).setNew (by simp; omega) _).setNew (by simp; omega) _
set_option maxRecDepth 20000 in
set_option maxHeartbeats 1000000 in
theorem Take_no3 (g : Nat) (s : Cl) (A : Option Addr) (c : Nat) (l : List Step) (kind frm to cl : UInt8) (term index mark commit cn : UInt64) (yes : Bool) (ents data steps got : Value) (rE rAt : Int) (w : World) (hi : IsO w g s A c l) (hn : 0 < s.n) (hn7 : s.n ≤ 7) (hid : s.id.toNat ≤ 8) (hk : ((kind.toNat : Int) != 7) = false) (ht : ((to.toNat : Int) != 100 + (s.id.toNat : Int)) = false) (hd : ((cl.toNat : Int) != (s.id.toNat : Int)) = false) (hm : ((cn.toNat : Int) != (s.num.toNat : Int)) = false) (hf1 : decide ((frm.toNat : Int) < 1) = false) (hf2 : decide ((s.n : Int) < (frm.toNat : Int)) = false) (hi1 : decide ((1 : Int) ≤ (index.toNat : Int)) = true) (hi2 : decide ((index.toNat : Int) ≤ (s.n : Int)) = true) (hi3 : ((index.toNat : Int) != (frm.toNat : Int)) = false) :
    Calls Try.prog 20 #[.pointer (some ⟨g, 0, none⟩), .agg #[.int .u8 kind.toNat, .int .u8 frm.toNat, .int .u8 to.toNat, .int .u64 term.toNat, .int .u64 index.toNat, .int .u64 mark.toNat, .int .u64 commit.toNat, .bool yes, ents, data, .int .u8 cl.toNat, .int .u64 cn.toNat, steps, .int .i64 16, .int .i64 rE, .int .i64 rAt, got]] w (TakeNoP w) := by
  have HN := (show Hid (∀ o1 o2 o3 k, Nw w ((((w.alloc o1).alloc o2).alloc o3).drewN k)) from fun o1 o2 o3 k => ((((Kp.refl _ w).alloc o1).alloc o2).alloc o3).drewN k)
  have hb := hi.blk
  have hg : g < w.heap.size := hb.lt
  have hg1 : g < w.heap.size + 1 := by omega
  have hg2 : g < w.heap.size + 1 + 1 := by omega
  have hc0 : w.cell? ⟨g, 0, none⟩ = some (.int .u8 s.id.toNat) := hb.cell 0
  have hc1 : w.cell? ⟨g, 1, none⟩ = some (.int .i64 s.n) := hb.cell 1
  have hc3 : w.cell? ⟨g, 3, none⟩ = some (.int .u64 s.num.toNat) := hb.cell 3
  have hf2f : w.frozen? ⟨g, 2, none⟩ = false := hb.free 2
  have hc2 : w.cell? ⟨g, 2, none⟩ = some (.int .i64 s.to) := hb.cell 2
  have hW8 : IntKind.u8.wrap (100 + (s.id.toNat : Int)) = 100 + (s.id.toNat : Int) := by rw [IntKind.wrap_u8]; omega
  have hfb : (frm.toNat : Int) ≤ 255 := by have := frm.toNat_lt; omega
  have hnb : (s.n : Int) ≤ 7 := by omega
  have HB := Lib.hid hb
  have HI := Lib.hid hi
  clear hb hi
  have hf2' : decide (s.n < frm.toNat) = false := decide_eq_false (by have := of_decide_eq_false hf2; omega)
  have hi2' : decide (index.toNat ≤ s.n) = true := decide_eq_true (by have := of_decide_eq_true hi2; omega)
  have hi3' : (index.toNat != frm.toNat) = false := by rw [bne_eq_false_iff_eq] at hi3 ⊢; omega
  go_enter_defers Try.func20, Try.ntmps20
  go_wp2_with fail
  go_quiet ((go_at_call 22; refine Calls.quiet_of_same (Open_is g 45 (s.opn s.to A c l.length) s.n true _ ((((HB.out.alloc _).alloc _).alloc _).drewN _) rfl hn rfl)))
  go_wp2_with fail
  obtain ⟨n1, hn1⟩ : ∃ n1, n1 = nq := ⟨_, rfl⟩
  subst hn1
  go_quiet (fail)
  go_wp2_with fail
  refine ⟨_, res_ctt rfl isS_reply _ rfl (((((Blk.newAt (by simp) 34 _).drewN (n1 + nq)).set_ 0 _).set_ 1 _).set_ 2 _) [.int .i64 0, .int .i64 0, .slice none 0 0] rfl rfl, rfl, ?_⟩
  exact (((HN.out _ _ _ _).setNew (by simp; omega) _).setNew (by simp; omega) _).setNew (by simp; omega) _
/-- The leader was told: it is called. -/
def Led (g : Nat) (s : Cl) (A : Option Addr) (c : Nat) (l : List Step) (to : Nat) (w : World) (e : Ending) (w' : World) : Prop := ∃ b, e = .returned (.tuple #[.agg #[.int .i64 0, .int .i64 0, .slice none 0 0], .bool false, .slice (some ⟨b, 0, none⟩) 1 1]) ∧ Sends w w' { s with to := to } l b ∧ IsO w' g { s with to := to, waits := 0 } A c l ∧ Kp (fun j => j = g) w w'
set_option maxRecDepth 20000 in
set_option maxHeartbeats 1000000 in
theorem Take_lead (g : Nat) (s : Cl) (A : Option Addr) (c : Nat) (l : List Step) (kind frm to cl : UInt8) (term index mark commit cn : UInt64) (yes : Bool) (ents data steps got : Value) (rE rAt : Int) (w : World) (hi : IsO w g s A c l) (hn : 0 < s.n) (hn7 : s.n ≤ 7) (hid : s.id.toNat ≤ 8) (hk : ((kind.toNat : Int) != 7) = false) (ht : ((to.toNat : Int) != 100 + (s.id.toNat : Int)) = false) (hd : ((cl.toNat : Int) != (s.id.toNat : Int)) = false) (hm : ((cn.toNat : Int) != (s.num.toNat : Int)) = false) (hf1 : decide ((frm.toNat : Int) < 1) = false) (hf2 : decide ((s.n : Int) < (frm.toNat : Int)) = false) (hi1 : decide ((1 : Int) ≤ (index.toNat : Int)) = true) (hi2 : decide ((index.toNat : Int) ≤ (s.n : Int)) = true) (hi3 : ((index.toNat : Int) != (frm.toNat : Int)) = true) :
    Calls Try.prog 20 #[.pointer (some ⟨g, 0, none⟩), .agg #[.int .u8 kind.toNat, .int .u8 frm.toNat, .int .u8 to.toNat, .int .u64 term.toNat, .int .u64 index.toNat, .int .u64 mark.toNat, .int .u64 commit.toNat, .bool yes, ents, data, .int .u8 cl.toNat, .int .u64 cn.toNat, steps, .int .i64 16, .int .i64 rE, .int .i64 rAt, got]] w (Led g s A c l index.toNat w) := by
  have hb := hi.blk
  have hg : g < w.heap.size := hb.lt
  have hg1 : g < w.heap.size + 1 := by omega
  have hg2 : g < w.heap.size + 1 + 1 := by omega
  have hc0 : w.cell? ⟨g, 0, none⟩ = some (.int .u8 s.id.toNat) := hb.cell 0
  have hc1 : w.cell? ⟨g, 1, none⟩ = some (.int .i64 s.n) := hb.cell 1
  have hc3 : w.cell? ⟨g, 3, none⟩ = some (.int .u64 s.num.toNat) := hb.cell 3
  have hf2f : w.frozen? ⟨g, 2, none⟩ = false := hb.free 2
  have hc2 : w.cell? ⟨g, 2, none⟩ = some (.int .i64 s.to) := hb.cell 2
  have hW8 : IntKind.u8.wrap (100 + (s.id.toNat : Int)) = 100 + (s.id.toNat : Int) := by rw [IntKind.wrap_u8]; omega
  have hfb : (frm.toNat : Int) ≤ 255 := by have := frm.toNat_lt; omega
  have hnb : (s.n : Int) ≤ 7 := by omega
  have HB := Lib.hid hb
  have HI := Lib.hid hi
  clear hb hi
  have hf2' : decide (s.n < frm.toNat) = false := decide_eq_false (by have := of_decide_eq_false hf2; omega)
  have hi2' : decide (index.toNat ≤ s.n) = true := decide_eq_true (by have := of_decide_eq_true hi2; omega)
  have hi3' : (index.toNat != frm.toNat) = true := by rw [bne_iff_ne] at hi3 ⊢; omega
  have hib : (index.toNat : Int) ≤ 7 := by have := of_decide_eq_true hi2; omega
  have HI7 : Hid (index.toNat ≤ 7) := Lib.hid (by omega)
  go_enter_defers Try.func20, Try.ntmps20
  go_wp2_with fail
  go_quiet ((go_at_call 22; refine Calls.quiet_of_same (Open_is g 45 (s.opn s.to A c l.length) s.n true _ ((((HB.out.alloc _).alloc _).alloc _).drewN _) rfl hn rfl)))
  go_wp2_with fail
  obtain ⟨n1, hn1⟩ : ∃ n1, n1 = nq := ⟨_, rfl⟩
  subst hn1
  go_quiet (fail)
  go_wp2_with fail
  have hbW := (((((HB.out.alloc (.cells #[.pointer (some ⟨g, 0, none⟩)] 46)).alloc (.cells #[.int .u8 kind.toNat, .int .u8 frm.toNat, .int .u8 to.toNat, .int .u64 term.toNat, .int .u64 index.toNat, .int .u64 mark.toNat, .int .u64 commit.toNat, .bool yes, ents, data, .int .u8 cl.toNat, .int .u64 cn.toNat, steps, .int .i64 16, .int .i64 rE, .int .i64 rAt, got] 36)).alloc (.cells #[.int .i64 0, .int .i64 0, .slice none 0 0] 34)).drewN (n1 + nq)).set_ 2 (.int .i64 (index.toNat : Int)))
  have hkW := ((((((Kp.refl (fun j => j = g) w).alloc (.cells #[.pointer (some ⟨g, 0, none⟩)] 46)).alloc (.cells #[.int .u8 kind.toNat, .int .u8 frm.toNat, .int .u8 to.toNat, .int .u64 term.toNat, .int .u64 index.toNat, .int .u64 mark.toNat, .int .u64 commit.toNat, .bool yes, ents, data, .int .u8 cl.toNat, .int .u64 cn.toNat, steps, .int .i64 16, .int .i64 rE, .int .i64 rAt, got] 36)).alloc (.cells #[.int .i64 0, .int .i64 0, .slice none 0 0] 34)).drewN (n1 + nq)).setCell (p := ⟨g, 2, none⟩) (fun _ => rfl) (.int .i64 (index.toNat : Int)))
  have hpW := (((((Blk.new w 46 #[.pointer (some ⟨g, 0, none⟩)]).alloc (.cells #[.int .u8 kind.toNat, .int .u8 frm.toNat, .int .u8 to.toNat, .int .u64 term.toNat, .int .u64 index.toNat, .int .u64 mark.toNat, .int .u64 commit.toNat, .bool yes, ents, data, .int .u8 cl.toNat, .int .u64 cn.toNat, steps, .int .i64 16, .int .i64 rE, .int .i64 rAt, got] 36)).alloc (.cells #[.int .i64 0, .int .i64 0, .slice none 0 0] 34)).drewN (n1 + nq)).far (p := ⟨g, 2, none⟩) (by show w.heap.size ≠ g; omega) (.int .i64 (index.toNat : Int)))
  have hrW := (((Blk.newAt (W := (w.alloc (.cells #[.pointer (some ⟨g, 0, none⟩)] 46)).alloc (.cells #[.int .u8 kind.toNat, .int .u8 frm.toNat, .int .u8 to.toNat, .int .u64 term.toNat, .int .u64 index.toNat, .int .u64 mark.toNat, .int .u64 commit.toNat, .bool yes, ents, data, .int .u8 cl.toNat, .int .u64 cn.toNat, steps, .int .i64 16, .int .i64 rE, .int .i64 rAt, got] 36)) (N := w.heap.size + 2) (by simp) 34 #[.int .i64 0, .int .i64 0, .slice none 0 0]).drewN (n1 + nq)).far (p := ⟨g, 2, none⟩) (by show w.heap.size + 2 ≠ g; omega) (.int .i64 (index.toNat : Int)))
  have hsz := hkW.size
  have hrlt := hrW.lt
  clear hc0 hc1 hc2 hc3 hf2f
  generalize World.setCell _ _ _ = W at *
  have HBW := Lib.hid hbW
  have HKW := Lib.hid hkW
  have p0 : W.cell? ⟨w.heap.size, 0, none⟩ = some (.pointer (some ⟨g, 0, none⟩)) := hpW.cell 0
  have HRl : Hid (RdSt W A c l) := Lib.hid (HI.out.rd.kp hkW (fun hl k hk e => HI.out.off hl (by rw [hk, e])))
  have HRW := Lib.hid hrW
  have HS : Hid (∀ w', Kp (fun j => j = g ∨ j = w.heap.size + 2) W w' → Blk w' (w.heap.size + 2) 34 #[.int .i64 0, .int .i64 0, .slice none 0 0] → (Kp (fun j => j = g ∨ j = w.heap.size + 2) W w' ∧ w'.cell? ⟨w.heap.size, 0, none⟩ = some (.pointer (some ⟨g, 0, none⟩)) ∧ w'.cell? ⟨w.heap.size + 2, 0, none⟩ = some (.int .i64 0) ∧ w'.cell? ⟨w.heap.size + 2, 1, none⟩ = some (.int .i64 0) ∧ w'.cell? ⟨w.heap.size + 2, 2, none⟩ = some (.slice none 0 0))) := Lib.hid (fun w' hk hb => ⟨hk, hk.cell p0 (by show ¬ (w.heap.size = g ∨ w.heap.size = w.heap.size + 2); omega), hb.cell 0, hb.cell 1, hb.cell 2⟩)
  have HC : Hid (Calls Try.prog 87 #[.pointer (some ⟨g, 0, none⟩)] W.drew fun e w' => ∃ b, e = .returned (.slice (some ⟨b, 0, none⟩) 1 1) ∧ Sends W.drew w' { s with to := index.toNat } l b ∧ IsO w' g { s with to := index.toNat, waits := 0 } A c l ∧ Kp (fun k => k = g) W.drew w') := Lib.hid (calls_calls g { s with to := index.toNat } s.to A c l W.drew HBW.out.drew HRl.out.drew HI.out.len HI.out.off HI7.out)
  clear hbW hkW hpW hrW
  go_region_held3 (fun w' => Kp (fun j => j = g ∨ j = w.heap.size + 2) W w' ∧ w'.cell? ⟨w.heap.size, 0, none⟩ = some (.pointer (some ⟨g, 0, none⟩)) ∧ w'.cell? ⟨w.heap.size + 2, 0, none⟩ = some (.int .i64 0) ∧ w'.cell? ⟨w.heap.size + 2, 1, none⟩ = some (.int .i64 0) ∧ w'.cell? ⟨w.heap.size + 2, 2, none⟩ = some (.slice none 0 0)) (first | exact HS.out _ (((hs5.setCell (p := ⟨w.heap.size + 2, 0, none⟩) (fun _ => .inr rfl) _).setCell (p := ⟨w.heap.size + 2, 1, none⟩) (fun _ => .inr rfl) _).setCell (p := ⟨w.heap.size + 2, 2, none⟩) (fun _ => .inr rfl) _) (((hr5.set_ 0 _).set_ 1 _).set_ 2 _) | exact HS.out _ hs5 hr5 | exact HS.out _ (Kp.drew (Kp.refl _ _)) HRW.out.drew)
    ((go_at_call 87; have hy := HC.out; refine Calls.mono hy ?_; intro e w5 hn; clear hy; obtain ⟨b, rfl, hse, hio, hk5⟩ := hn; have hs5 : Kp (fun j => j = g ∨ j = w.heap.size + 2) W w5 := (Kp.refl _ W).drew.trans hk5 (fun _ _ e => .inl e); have hr5 := HRW.out.drew.kp hk5 (by show ¬ w.heap.size + 2 = g; omega); have f0 := hr5.free 0; have f1 := hr5.free 1; have f2 := hr5.free 2; dsimp only))
  have hkF : Kp (fun j => j = w.heap.size + 2) w5 (((w5.setCell ⟨w.heap.size + 2, 0, none⟩ (.int .i64 0)).setCell ⟨w.heap.size + 2, 1, none⟩ (.int .i64 0)).setCell ⟨w.heap.size + 2, 2, none⟩ (.slice none 0 0)) := ((((Kp.refl (fun j => j = w.heap.size + 2) w5).setCell (p := ⟨w.heap.size + 2, 0, none⟩) (fun _ => rfl) _).setCell (p := ⟨w.heap.size + 2, 1, none⟩) (fun _ => rfl) _).setCell (p := ⟨w.heap.size + 2, 2, none⟩) (fun _ => rfl) _)
  obtain ⟨A1, u1, u2, u3⟩ := hse
  have u1' : W.heap.size ≤ b := u1
  have u3' : ∀ k, blkOf A1 = some k → W.heap.size ≤ k := fun k hk => (u3.lt k hk).1
  have hAw : 0 < l.length → ∀ k, blkOf A = some k → k < w.heap.size := fun hl k hk => by
    obtain ⟨k', h1, h2⟩ := HI.out.rd.blk_lt hl (by omega)
    rw [h1] at hk; injection hk with hk; omega
  have hF1 : Sends w (((w5.setCell ⟨w.heap.size + 2, 0, none⟩ (.int .i64 0)).setCell ⟨w.heap.size + 2, 1, none⟩ (.int .i64 0)).setCell ⟨w.heap.size + 2, 2, none⟩ (.slice none 0 0)) { s with to := index.toNat } l b := ⟨A1, by omega, u2.kp hkF (by omega), ((u3.low (base' := w.heap.size) hsz).kp hkF (fun k hk e => by have := u3' k hk; omega))⟩
  have hF2 : IsO (((w5.setCell ⟨w.heap.size + 2, 0, none⟩ (.int .i64 0)).setCell ⟨w.heap.size + 2, 1, none⟩ (.int .i64 0)).setCell ⟨w.heap.size + 2, 2, none⟩ (.slice none 0 0)) g { s with to := index.toNat, waits := 0 } A c l := ⟨hio.blk.kp hkF (by omega), hio.rd.kp hkF (fun hl k hk e => by have := hAw hl k hk; omega), hio.len, hio.off⟩
  have hF3 : Kp (fun j => j = g) w (((w5.setCell ⟨w.heap.size + 2, 0, none⟩ (.int .i64 0)).setCell ⟨w.heap.size + 2, 1, none⟩ (.int .i64 0)).setCell ⟨w.heap.size + 2, 2, none⟩ (.slice none 0 0)) := (HKW.out.drew.trans hk5 (fun _ _ e => e)).trans hkF (fun k hk e => by omega)
  have hF4 := ((hr5.set_ 0 (.int .i64 0)).set_ 1 (.int .i64 0)).set_ 2 (.slice none 0 0)
  clear u1 u1' u2 u3 u3' hAw hio hk5 hr5 f0 f1 f2 HS HC
  go_wp2_with fail
  exact ⟨_, res_ctt rfl isS_reply _ rfl hF4 [.int .i64 0, .int .i64 0, .slice none 0 0] rfl rfl, b, rfl, hF1, hF2, hF3⟩
end Go.Proofs.Ytiimdnachgkomaa
