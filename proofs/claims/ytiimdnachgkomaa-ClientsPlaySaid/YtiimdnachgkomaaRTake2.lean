/- The document's client takes a letter. -/
import Derived.Test.YtiimdnachgkomaaRTake
namespace Go.Proofs.Ytiimdnachgkomaa
open Go Go.RowKit
theorem isS_reply' : IsS Try.prog 34 3 := ⟨⟨_, Try.underlying34, rfl⟩, by kernel_rfl⟩
/-- Nothing was taken. -/
def TakeNo (w : World) (e : Ending) (w' : World) : Prop := e = .returned (.tuple #[.agg #[.int .i64 0, .int .i64 0, .slice none 0 0], .bool false, .slice none 0 0]) ∧ Nw w w'
set_option maxRecDepth 20000 in
set_option maxHeartbeats 1000000 in
theorem RTake_miss0 (g : Nat) (s : RC) (A : Option Addr) (k c : Nat) (kind frm to cl : UInt8) (term index mark commit cn : UInt64) (yes : Bool) (ents data steps got : Value) (E rE rAt : Int) (w : World) (hb : Blk w g 72 (s.cells true A k c)) (hn7 : s.n ≤ 7) (hid : s.id.toNat ≤ 8) (hk : ((kind.toNat : Int) != 7) = true) :
    Calls Try.prog 33 #[.pointer (some ⟨g, 0, none⟩), .agg #[.int .i64 kind.toNat, .int .u8 frm.toNat, .int .u8 to.toNat, .int .u64 term.toNat, .int .u64 index.toNat, .int .u64 mark.toNat, .int .u64 commit.toNat, .bool yes, ents, data, .int .u8 cl.toNat, .int .u64 cn.toNat, steps, .int .i64 E, .int .i64 rE, .int .i64 rAt, got]] w (TakeNo w) := by
  have hg := hb.lt
  have hg1 : g < w.heap.size + 1 := by omega
  have hg2 : g < w.heap.size + 1 + 1 := by omega
  have hc0 : w.cell? ⟨g, 0, none⟩ = some (.int .u8 s.id.toNat) := hb.cell 0
  have hc1 : w.cell? ⟨g, 1, none⟩ = some (.int .i64 s.n) := hb.cell 1
  have hc3 : w.cell? ⟨g, 3, none⟩ = some (.int .u64 s.num.toNat) := hb.cell 3
  have hc4 : w.cell? ⟨g, 4, none⟩ = some (.bool true) := hb.cell 4
  have hW8 : IntKind.u8.wrap (100 + (s.id.toNat : Int)) = 100 + (s.id.toNat : Int) := by rw [IntKind.wrap_u8]; omega
  have hfb : (frm.toNat : Int) ≤ 255 := by have := frm.toNat_lt; omega
  have hnb : (s.n : Int) ≤ 7 := by omega
  have HB := Lib.hid hb
  clear hb
  have hx := hid
  go_enter Try.func33, Try.ntmps33
  go_wp2_with fail
  go_quiet (fail)
  go_wp2_with fail
  exact bodyPost_ret (res_ctt rfl isS_reply' _ rfl (((((Blk.newAt (by simp) 34 _).drewN nq).set_ 0 _).set_ 1 _).set_ 2 _) [.int .i64 0, .int .i64 0, .slice none 0 0] rfl rfl) rfl
    ⟨rfl, (((((((Kp.refl _ w).alloc _).alloc _).drewN nq).setNew (by simp) _).setNew (by simp) _).setNew (by simp) _)⟩
set_option maxRecDepth 20000 in
set_option maxHeartbeats 1000000 in
theorem RTake_miss1 (g : Nat) (s : RC) (A : Option Addr) (k c : Nat) (kind frm to cl : UInt8) (term index mark commit cn : UInt64) (yes : Bool) (ents data steps got : Value) (E rE rAt : Int) (w : World) (hb : Blk w g 72 (s.cells true A k c)) (hn7 : s.n ≤ 7) (hid : s.id.toNat ≤ 8) (hk : ((kind.toNat : Int) != 7) = false) (ht : ((to.toNat : Int) != 100 + (s.id.toNat : Int)) = true) :
    Calls Try.prog 33 #[.pointer (some ⟨g, 0, none⟩), .agg #[.int .i64 kind.toNat, .int .u8 frm.toNat, .int .u8 to.toNat, .int .u64 term.toNat, .int .u64 index.toNat, .int .u64 mark.toNat, .int .u64 commit.toNat, .bool yes, ents, data, .int .u8 cl.toNat, .int .u64 cn.toNat, steps, .int .i64 E, .int .i64 rE, .int .i64 rAt, got]] w (TakeNo w) := by
  have hg := hb.lt
  have hg1 : g < w.heap.size + 1 := by omega
  have hg2 : g < w.heap.size + 1 + 1 := by omega
  have hc0 : w.cell? ⟨g, 0, none⟩ = some (.int .u8 s.id.toNat) := hb.cell 0
  have hc1 : w.cell? ⟨g, 1, none⟩ = some (.int .i64 s.n) := hb.cell 1
  have hc3 : w.cell? ⟨g, 3, none⟩ = some (.int .u64 s.num.toNat) := hb.cell 3
  have hc4 : w.cell? ⟨g, 4, none⟩ = some (.bool true) := hb.cell 4
  have hW8 : IntKind.u8.wrap (100 + (s.id.toNat : Int)) = 100 + (s.id.toNat : Int) := by rw [IntKind.wrap_u8]; omega
  have hfb : (frm.toNat : Int) ≤ 255 := by have := frm.toNat_lt; omega
  have hnb : (s.n : Int) ≤ 7 := by omega
  have HB := Lib.hid hb
  clear hb
  have hx := hid
  go_enter Try.func33, Try.ntmps33
  go_wp2_with fail
  go_quiet (fail)
  go_wp2_with fail
  exact bodyPost_ret (res_ctt rfl isS_reply' _ rfl (((((Blk.newAt (by simp) 34 _).drewN nq).set_ 0 _).set_ 1 _).set_ 2 _) [.int .i64 0, .int .i64 0, .slice none 0 0] rfl rfl) rfl
    ⟨rfl, (((((((Kp.refl _ w).alloc _).alloc _).drewN nq).setNew (by simp) _).setNew (by simp) _).setNew (by simp) _)⟩
set_option maxRecDepth 20000 in
set_option maxHeartbeats 1000000 in
theorem RTake_miss2 (g : Nat) (s : RC) (A : Option Addr) (k c : Nat) (kind frm to cl : UInt8) (term index mark commit cn : UInt64) (yes : Bool) (ents data steps got : Value) (E rE rAt : Int) (w : World) (hb : Blk w g 72 (s.cells true A k c)) (hn7 : s.n ≤ 7) (hid : s.id.toNat ≤ 8) (hk : ((kind.toNat : Int) != 7) = false) (ht : ((to.toNat : Int) != 100 + (s.id.toNat : Int)) = false) (hd : ((cl.toNat : Int) != (s.id.toNat : Int)) = true) :
    Calls Try.prog 33 #[.pointer (some ⟨g, 0, none⟩), .agg #[.int .i64 kind.toNat, .int .u8 frm.toNat, .int .u8 to.toNat, .int .u64 term.toNat, .int .u64 index.toNat, .int .u64 mark.toNat, .int .u64 commit.toNat, .bool yes, ents, data, .int .u8 cl.toNat, .int .u64 cn.toNat, steps, .int .i64 E, .int .i64 rE, .int .i64 rAt, got]] w (TakeNo w) := by
  have hg := hb.lt
  have hg1 : g < w.heap.size + 1 := by omega
  have hg2 : g < w.heap.size + 1 + 1 := by omega
  have hc0 : w.cell? ⟨g, 0, none⟩ = some (.int .u8 s.id.toNat) := hb.cell 0
  have hc1 : w.cell? ⟨g, 1, none⟩ = some (.int .i64 s.n) := hb.cell 1
  have hc3 : w.cell? ⟨g, 3, none⟩ = some (.int .u64 s.num.toNat) := hb.cell 3
  have hc4 : w.cell? ⟨g, 4, none⟩ = some (.bool true) := hb.cell 4
  have hW8 : IntKind.u8.wrap (100 + (s.id.toNat : Int)) = 100 + (s.id.toNat : Int) := by rw [IntKind.wrap_u8]; omega
  have hfb : (frm.toNat : Int) ≤ 255 := by have := frm.toNat_lt; omega
  have hnb : (s.n : Int) ≤ 7 := by omega
  have HB := Lib.hid hb
  clear hb
  have hx := hid
  go_enter Try.func33, Try.ntmps33
  go_wp2_with fail
  go_quiet (fail)
  go_wp2_with fail
  exact bodyPost_ret (res_ctt rfl isS_reply' _ rfl (((((Blk.newAt (by simp) 34 _).drewN nq).set_ 0 _).set_ 1 _).set_ 2 _) [.int .i64 0, .int .i64 0, .slice none 0 0] rfl rfl) rfl
    ⟨rfl, (((((((Kp.refl _ w).alloc _).alloc _).drewN nq).setNew (by simp) _).setNew (by simp) _).setNew (by simp) _)⟩
set_option maxRecDepth 20000 in
set_option maxHeartbeats 1000000 in
theorem RTake_miss3 (g : Nat) (s : RC) (A : Option Addr) (k c : Nat) (kind frm to cl : UInt8) (term index mark commit cn : UInt64) (yes : Bool) (ents data steps got : Value) (E rE rAt : Int) (w : World) (hb : Blk w g 72 (s.cells true A k c)) (hn7 : s.n ≤ 7) (hid : s.id.toNat ≤ 8) (hk : ((kind.toNat : Int) != 7) = false) (ht : ((to.toNat : Int) != 100 + (s.id.toNat : Int)) = false) (hd : ((cl.toNat : Int) != (s.id.toNat : Int)) = false) (hm : ((cn.toNat : Int) != (s.num.toNat : Int)) = true) :
    Calls Try.prog 33 #[.pointer (some ⟨g, 0, none⟩), .agg #[.int .i64 kind.toNat, .int .u8 frm.toNat, .int .u8 to.toNat, .int .u64 term.toNat, .int .u64 index.toNat, .int .u64 mark.toNat, .int .u64 commit.toNat, .bool yes, ents, data, .int .u8 cl.toNat, .int .u64 cn.toNat, steps, .int .i64 E, .int .i64 rE, .int .i64 rAt, got]] w (TakeNo w) := by
  have hg := hb.lt
  have hg1 : g < w.heap.size + 1 := by omega
  have hg2 : g < w.heap.size + 1 + 1 := by omega
  have hc0 : w.cell? ⟨g, 0, none⟩ = some (.int .u8 s.id.toNat) := hb.cell 0
  have hc1 : w.cell? ⟨g, 1, none⟩ = some (.int .i64 s.n) := hb.cell 1
  have hc3 : w.cell? ⟨g, 3, none⟩ = some (.int .u64 s.num.toNat) := hb.cell 3
  have hc4 : w.cell? ⟨g, 4, none⟩ = some (.bool true) := hb.cell 4
  have hW8 : IntKind.u8.wrap (100 + (s.id.toNat : Int)) = 100 + (s.id.toNat : Int) := by rw [IntKind.wrap_u8]; omega
  have hfb : (frm.toNat : Int) ≤ 255 := by have := frm.toNat_lt; omega
  have hnb : (s.n : Int) ≤ 7 := by omega
  have HB := Lib.hid hb
  clear hb
  have hx := hid
  go_enter Try.func33, Try.ntmps33
  go_wp2_with fail
  go_quiet (fail)
  go_wp2_with fail
  exact bodyPost_ret (res_ctt rfl isS_reply' _ rfl (((((Blk.newAt (by simp) 34 _).drewN nq).set_ 0 _).set_ 1 _).set_ 2 _) [.int .i64 0, .int .i64 0, .slice none 0 0] rfl rfl) rfl
    ⟨rfl, (((((((Kp.refl _ w).alloc _).alloc _).drewN nq).setNew (by simp) _).setNew (by simp) _).setNew (by simp) _)⟩
set_option maxRecDepth 20000 in
set_option maxHeartbeats 1000000 in
theorem RTake_miss4 (g : Nat) (s : RC) (A : Option Addr) (k c : Nat) (kind frm to cl : UInt8) (term index mark commit cn : UInt64) (yes : Bool) (ents data steps got : Value) (E rE rAt : Int) (w : World) (hb : Blk w g 72 (s.cells true A k c)) (hn7 : s.n ≤ 7) (hid : s.id.toNat ≤ 8) (hk : ((kind.toNat : Int) != 7) = false) (ht : ((to.toNat : Int) != 100 + (s.id.toNat : Int)) = false) (hd : ((cl.toNat : Int) != (s.id.toNat : Int)) = false) (hm : ((cn.toNat : Int) != (s.num.toNat : Int)) = false) (hf1 : decide ((frm.toNat : Int) < 1) = true) :
    Calls Try.prog 33 #[.pointer (some ⟨g, 0, none⟩), .agg #[.int .i64 kind.toNat, .int .u8 frm.toNat, .int .u8 to.toNat, .int .u64 term.toNat, .int .u64 index.toNat, .int .u64 mark.toNat, .int .u64 commit.toNat, .bool yes, ents, data, .int .u8 cl.toNat, .int .u64 cn.toNat, steps, .int .i64 E, .int .i64 rE, .int .i64 rAt, got]] w (TakeNo w) := by
  have hg := hb.lt
  have hg1 : g < w.heap.size + 1 := by omega
  have hg2 : g < w.heap.size + 1 + 1 := by omega
  have hc0 : w.cell? ⟨g, 0, none⟩ = some (.int .u8 s.id.toNat) := hb.cell 0
  have hc1 : w.cell? ⟨g, 1, none⟩ = some (.int .i64 s.n) := hb.cell 1
  have hc3 : w.cell? ⟨g, 3, none⟩ = some (.int .u64 s.num.toNat) := hb.cell 3
  have hc4 : w.cell? ⟨g, 4, none⟩ = some (.bool true) := hb.cell 4
  have hW8 : IntKind.u8.wrap (100 + (s.id.toNat : Int)) = 100 + (s.id.toNat : Int) := by rw [IntKind.wrap_u8]; omega
  have hfb : (frm.toNat : Int) ≤ 255 := by have := frm.toNat_lt; omega
  have hnb : (s.n : Int) ≤ 7 := by omega
  have HB := Lib.hid hb
  clear hb
  have hx := hid
  go_enter Try.func33, Try.ntmps33
  go_wp2_with fail
  go_quiet (fail)
  go_wp2_with fail
  exact bodyPost_ret (res_ctt rfl isS_reply' _ rfl (((((Blk.newAt (by simp) 34 _).drewN nq).set_ 0 _).set_ 1 _).set_ 2 _) [.int .i64 0, .int .i64 0, .slice none 0 0] rfl rfl) rfl
    ⟨rfl, (((((((Kp.refl _ w).alloc _).alloc _).drewN nq).setNew (by simp) _).setNew (by simp) _).setNew (by simp) _)⟩
set_option maxRecDepth 20000 in
set_option maxHeartbeats 1000000 in
theorem RTake_miss5 (g : Nat) (s : RC) (A : Option Addr) (k c : Nat) (kind frm to cl : UInt8) (term index mark commit cn : UInt64) (yes : Bool) (ents data steps got : Value) (E rE rAt : Int) (w : World) (hb : Blk w g 72 (s.cells true A k c)) (hn7 : s.n ≤ 7) (hid : s.id.toNat ≤ 8) (hk : ((kind.toNat : Int) != 7) = false) (ht : ((to.toNat : Int) != 100 + (s.id.toNat : Int)) = false) (hd : ((cl.toNat : Int) != (s.id.toNat : Int)) = false) (hm : ((cn.toNat : Int) != (s.num.toNat : Int)) = false) (hf1 : decide ((frm.toNat : Int) < 1) = false) (hf2 : decide ((s.n : Int) < (frm.toNat : Int)) = true) :
    Calls Try.prog 33 #[.pointer (some ⟨g, 0, none⟩), .agg #[.int .i64 kind.toNat, .int .u8 frm.toNat, .int .u8 to.toNat, .int .u64 term.toNat, .int .u64 index.toNat, .int .u64 mark.toNat, .int .u64 commit.toNat, .bool yes, ents, data, .int .u8 cl.toNat, .int .u64 cn.toNat, steps, .int .i64 E, .int .i64 rE, .int .i64 rAt, got]] w (TakeNo w) := by
  have hg := hb.lt
  have hg1 : g < w.heap.size + 1 := by omega
  have hg2 : g < w.heap.size + 1 + 1 := by omega
  have hc0 : w.cell? ⟨g, 0, none⟩ = some (.int .u8 s.id.toNat) := hb.cell 0
  have hc1 : w.cell? ⟨g, 1, none⟩ = some (.int .i64 s.n) := hb.cell 1
  have hc3 : w.cell? ⟨g, 3, none⟩ = some (.int .u64 s.num.toNat) := hb.cell 3
  have hc4 : w.cell? ⟨g, 4, none⟩ = some (.bool true) := hb.cell 4
  have hW8 : IntKind.u8.wrap (100 + (s.id.toNat : Int)) = 100 + (s.id.toNat : Int) := by rw [IntKind.wrap_u8]; omega
  have hfb : (frm.toNat : Int) ≤ 255 := by have := frm.toNat_lt; omega
  have hnb : (s.n : Int) ≤ 7 := by omega
  have HB := Lib.hid hb
  clear hb
  have hf2' : decide (s.n < frm.toNat) = true := decide_eq_true (by have := of_decide_eq_true hf2; omega)
  go_enter Try.func33, Try.ntmps33
  go_wp2_with fail
  go_quiet (fail)
  go_wp2_with fail
  exact bodyPost_ret (res_ctt rfl isS_reply' _ rfl (((((Blk.newAt (by simp) 34 _).drewN nq).set_ 0 _).set_ 1 _).set_ 2 _) [.int .i64 0, .int .i64 0, .slice none 0 0] rfl rfl) rfl
    ⟨rfl, (((((((Kp.refl _ w).alloc _).alloc _).drewN nq).setNew (by simp) _).setNew (by simp) _).setNew (by simp) _)⟩
set_option maxRecDepth 20000 in
set_option maxHeartbeats 1000000 in
theorem RTake_no0 (g : Nat) (s : RC) (A : Option Addr) (k c : Nat) (kind frm to cl : UInt8) (term index mark commit cn : UInt64) (yes : Bool) (ents data steps got : Value) (E rE rAt : Int) (w : World) (hb : Blk w g 72 (s.cells true A k c)) (hn7 : s.n ≤ 7) (hid : s.id.toNat ≤ 8) (hk : ((kind.toNat : Int) != 7) = false) (ht : ((to.toNat : Int) != 100 + (s.id.toNat : Int)) = false) (hd : ((cl.toNat : Int) != (s.id.toNat : Int)) = false) (hm : ((cn.toNat : Int) != (s.num.toNat : Int)) = false) (hf1 : decide ((frm.toNat : Int) < 1) = false) (hf2 : decide ((s.n : Int) < (frm.toNat : Int)) = false) (he0 : (E == 0) = false) (he1 : (E == 16) = false) :
    Calls Try.prog 33 #[.pointer (some ⟨g, 0, none⟩), .agg #[.int .i64 kind.toNat, .int .u8 frm.toNat, .int .u8 to.toNat, .int .u64 term.toNat, .int .u64 index.toNat, .int .u64 mark.toNat, .int .u64 commit.toNat, .bool yes, ents, data, .int .u8 cl.toNat, .int .u64 cn.toNat, steps, .int .i64 E, .int .i64 rE, .int .i64 rAt, got]] w (TakeNo w) := by
  have hg := hb.lt
  have hg1 : g < w.heap.size + 1 := by omega
  have hg2 : g < w.heap.size + 1 + 1 := by omega
  have hc0 : w.cell? ⟨g, 0, none⟩ = some (.int .u8 s.id.toNat) := hb.cell 0
  have hc1 : w.cell? ⟨g, 1, none⟩ = some (.int .i64 s.n) := hb.cell 1
  have hc3 : w.cell? ⟨g, 3, none⟩ = some (.int .u64 s.num.toNat) := hb.cell 3
  have hc4 : w.cell? ⟨g, 4, none⟩ = some (.bool true) := hb.cell 4
  have hW8 : IntKind.u8.wrap (100 + (s.id.toNat : Int)) = 100 + (s.id.toNat : Int) := by rw [IntKind.wrap_u8]; omega
  have hfb : (frm.toNat : Int) ≤ 255 := by have := frm.toNat_lt; omega
  have hnb : (s.n : Int) ≤ 7 := by omega
  have HB := Lib.hid hb
  clear hb
  have hf2' : decide (s.n < frm.toNat) = false := decide_eq_false (by have := of_decide_eq_false hf2; omega)
  go_enter Try.func33, Try.ntmps33
  go_wp2_with fail
  go_quiet (fail)
  go_wp2_with fail
  obtain ⟨n1, hn1⟩ : ∃ n1, n1 = nq := ⟨_, rfl⟩
  subst hn1
  go_quiet (fail)
  go_wp2_with fail
  exact bodyPost_ret (res_ctt rfl isS_reply' _ rfl (((((Blk.newAt (by simp) 34 _).drewN (n1 + nq)).set_ 0 _).set_ 1 _).set_ 2 _) [.int .i64 0, .int .i64 0, .slice none 0 0] rfl rfl) rfl
    ⟨rfl, (((((((Kp.refl _ w).alloc _).alloc _).drewN (n1 + nq)).setNew (by simp) _).setNew (by simp) _).setNew (by simp) _)⟩
set_option maxRecDepth 20000 in
set_option maxHeartbeats 1000000 in
theorem RTake_no1 (g : Nat) (s : RC) (A : Option Addr) (k c : Nat) (kind frm to cl : UInt8) (term index mark commit cn : UInt64) (yes : Bool) (ents data steps got : Value) (rE rAt : Int) (w : World) (hb : Blk w g 72 (s.cells true A k c)) (hn7 : s.n ≤ 7) (hid : s.id.toNat ≤ 8) (hk : ((kind.toNat : Int) != 7) = false) (ht : ((to.toNat : Int) != 100 + (s.id.toNat : Int)) = false) (hd : ((cl.toNat : Int) != (s.id.toNat : Int)) = false) (hm : ((cn.toNat : Int) != (s.num.toNat : Int)) = false) (hf1 : decide ((frm.toNat : Int) < 1) = false) (hf2 : decide ((s.n : Int) < (frm.toNat : Int)) = false) (hi1 : decide ((1 : Int) ≤ (index.toNat : Int)) = false) :
    Calls Try.prog 33 #[.pointer (some ⟨g, 0, none⟩), .agg #[.int .i64 kind.toNat, .int .u8 frm.toNat, .int .u8 to.toNat, .int .u64 term.toNat, .int .u64 index.toNat, .int .u64 mark.toNat, .int .u64 commit.toNat, .bool yes, ents, data, .int .u8 cl.toNat, .int .u64 cn.toNat, steps, .int .i64 16, .int .i64 rE, .int .i64 rAt, got]] w (TakeNo w) := by
  have hg := hb.lt
  have hg1 : g < w.heap.size + 1 := by omega
  have hg2 : g < w.heap.size + 1 + 1 := by omega
  have hc0 : w.cell? ⟨g, 0, none⟩ = some (.int .u8 s.id.toNat) := hb.cell 0
  have hc1 : w.cell? ⟨g, 1, none⟩ = some (.int .i64 s.n) := hb.cell 1
  have hc3 : w.cell? ⟨g, 3, none⟩ = some (.int .u64 s.num.toNat) := hb.cell 3
  have hc4 : w.cell? ⟨g, 4, none⟩ = some (.bool true) := hb.cell 4
  have hW8 : IntKind.u8.wrap (100 + (s.id.toNat : Int)) = 100 + (s.id.toNat : Int) := by rw [IntKind.wrap_u8]; omega
  have hfb : (frm.toNat : Int) ≤ 255 := by have := frm.toNat_lt; omega
  have hnb : (s.n : Int) ≤ 7 := by omega
  have HB := Lib.hid hb
  clear hb
  have hf2' : decide (s.n < frm.toNat) = false := decide_eq_false (by have := of_decide_eq_false hf2; omega)
  go_enter Try.func33, Try.ntmps33
  go_wp2_with fail
  go_quiet (fail)
  go_wp2_with fail
  obtain ⟨n1, hn1⟩ : ∃ n1, n1 = nq := ⟨_, rfl⟩
  subst hn1
  go_quiet (fail)
  go_wp2_with fail
  exact bodyPost_ret (res_ctt rfl isS_reply' _ rfl (((((Blk.newAt (by simp) 34 _).drewN (n1 + nq)).set_ 0 _).set_ 1 _).set_ 2 _) [.int .i64 0, .int .i64 0, .slice none 0 0] rfl rfl) rfl
    ⟨rfl, (((((((Kp.refl _ w).alloc _).alloc _).drewN (n1 + nq)).setNew (by simp) _).setNew (by simp) _).setNew (by simp) _)⟩
set_option maxRecDepth 20000 in
set_option maxHeartbeats 1000000 in
theorem RTake_no2 (g : Nat) (s : RC) (A : Option Addr) (k c : Nat) (kind frm to cl : UInt8) (term index mark commit cn : UInt64) (yes : Bool) (ents data steps got : Value) (rE rAt : Int) (w : World) (hb : Blk w g 72 (s.cells true A k c)) (hn7 : s.n ≤ 7) (hid : s.id.toNat ≤ 8) (hk : ((kind.toNat : Int) != 7) = false) (ht : ((to.toNat : Int) != 100 + (s.id.toNat : Int)) = false) (hd : ((cl.toNat : Int) != (s.id.toNat : Int)) = false) (hm : ((cn.toNat : Int) != (s.num.toNat : Int)) = false) (hf1 : decide ((frm.toNat : Int) < 1) = false) (hf2 : decide ((s.n : Int) < (frm.toNat : Int)) = false) (hi1 : decide ((1 : Int) ≤ (index.toNat : Int)) = true) (hi2 : decide ((index.toNat : Int) ≤ (s.n : Int)) = false) :
    Calls Try.prog 33 #[.pointer (some ⟨g, 0, none⟩), .agg #[.int .i64 kind.toNat, .int .u8 frm.toNat, .int .u8 to.toNat, .int .u64 term.toNat, .int .u64 index.toNat, .int .u64 mark.toNat, .int .u64 commit.toNat, .bool yes, ents, data, .int .u8 cl.toNat, .int .u64 cn.toNat, steps, .int .i64 16, .int .i64 rE, .int .i64 rAt, got]] w (TakeNo w) := by
  have hg := hb.lt
  have hg1 : g < w.heap.size + 1 := by omega
  have hg2 : g < w.heap.size + 1 + 1 := by omega
  have hc0 : w.cell? ⟨g, 0, none⟩ = some (.int .u8 s.id.toNat) := hb.cell 0
  have hc1 : w.cell? ⟨g, 1, none⟩ = some (.int .i64 s.n) := hb.cell 1
  have hc3 : w.cell? ⟨g, 3, none⟩ = some (.int .u64 s.num.toNat) := hb.cell 3
  have hc4 : w.cell? ⟨g, 4, none⟩ = some (.bool true) := hb.cell 4
  have hW8 : IntKind.u8.wrap (100 + (s.id.toNat : Int)) = 100 + (s.id.toNat : Int) := by rw [IntKind.wrap_u8]; omega
  have hfb : (frm.toNat : Int) ≤ 255 := by have := frm.toNat_lt; omega
  have hnb : (s.n : Int) ≤ 7 := by omega
  have HB := Lib.hid hb
  clear hb
  have hf2' : decide (s.n < frm.toNat) = false := decide_eq_false (by have := of_decide_eq_false hf2; omega)
  have hi2' : decide (index.toNat ≤ s.n) = false := decide_eq_false (by have := of_decide_eq_false hi2; omega)
  go_enter Try.func33, Try.ntmps33
  go_wp2_with fail
  go_quiet (fail)
  go_wp2_with fail
  obtain ⟨n1, hn1⟩ : ∃ n1, n1 = nq := ⟨_, rfl⟩
  subst hn1
  go_quiet (fail)
  go_wp2_with fail
  exact bodyPost_ret (res_ctt rfl isS_reply' _ rfl (((((Blk.newAt (by simp) 34 _).drewN (n1 + nq)).set_ 0 _).set_ 1 _).set_ 2 _) [.int .i64 0, .int .i64 0, .slice none 0 0] rfl rfl) rfl
    ⟨rfl, (((((((Kp.refl _ w).alloc _).alloc _).drewN (n1 + nq)).setNew (by simp) _).setNew (by simp) _).setNew (by simp) _)⟩
set_option maxRecDepth 20000 in
set_option maxHeartbeats 1000000 in
theorem RTake_no3 (g : Nat) (s : RC) (A : Option Addr) (k c : Nat) (kind frm to cl : UInt8) (term index mark commit cn : UInt64) (yes : Bool) (ents data steps got : Value) (rE rAt : Int) (w : World) (hb : Blk w g 72 (s.cells true A k c)) (hn7 : s.n ≤ 7) (hid : s.id.toNat ≤ 8) (hk : ((kind.toNat : Int) != 7) = false) (ht : ((to.toNat : Int) != 100 + (s.id.toNat : Int)) = false) (hd : ((cl.toNat : Int) != (s.id.toNat : Int)) = false) (hm : ((cn.toNat : Int) != (s.num.toNat : Int)) = false) (hf1 : decide ((frm.toNat : Int) < 1) = false) (hf2 : decide ((s.n : Int) < (frm.toNat : Int)) = false) (hi1 : decide ((1 : Int) ≤ (index.toNat : Int)) = true) (hi2 : decide ((index.toNat : Int) ≤ (s.n : Int)) = true) (hi3 : ((index.toNat : Int) != (frm.toNat : Int)) = false) :
    Calls Try.prog 33 #[.pointer (some ⟨g, 0, none⟩), .agg #[.int .i64 kind.toNat, .int .u8 frm.toNat, .int .u8 to.toNat, .int .u64 term.toNat, .int .u64 index.toNat, .int .u64 mark.toNat, .int .u64 commit.toNat, .bool yes, ents, data, .int .u8 cl.toNat, .int .u64 cn.toNat, steps, .int .i64 16, .int .i64 rE, .int .i64 rAt, got]] w (TakeNo w) := by
  have hg := hb.lt
  have hg1 : g < w.heap.size + 1 := by omega
  have hg2 : g < w.heap.size + 1 + 1 := by omega
  have hc0 : w.cell? ⟨g, 0, none⟩ = some (.int .u8 s.id.toNat) := hb.cell 0
  have hc1 : w.cell? ⟨g, 1, none⟩ = some (.int .i64 s.n) := hb.cell 1
  have hc3 : w.cell? ⟨g, 3, none⟩ = some (.int .u64 s.num.toNat) := hb.cell 3
  have hc4 : w.cell? ⟨g, 4, none⟩ = some (.bool true) := hb.cell 4
  have hW8 : IntKind.u8.wrap (100 + (s.id.toNat : Int)) = 100 + (s.id.toNat : Int) := by rw [IntKind.wrap_u8]; omega
  have hfb : (frm.toNat : Int) ≤ 255 := by have := frm.toNat_lt; omega
  have hnb : (s.n : Int) ≤ 7 := by omega
  have HB := Lib.hid hb
  clear hb
  have hf2' : decide (s.n < frm.toNat) = false := decide_eq_false (by have := of_decide_eq_false hf2; omega)
  have hi2' : decide (index.toNat ≤ s.n) = true := decide_eq_true (by have := of_decide_eq_true hi2; omega)
  have hi3' : (index.toNat != frm.toNat) = false := by rw [bne_eq_false_iff_eq] at hi3 ⊢; omega
  go_enter Try.func33, Try.ntmps33
  go_wp2_with fail
  go_quiet (fail)
  go_wp2_with fail
  obtain ⟨n1, hn1⟩ : ∃ n1, n1 = nq := ⟨_, rfl⟩
  subst hn1
  go_quiet (fail)
  go_wp2_with fail
  exact bodyPost_ret (res_ctt rfl isS_reply' _ rfl (((((Blk.newAt (by simp) 34 _).drewN (n1 + nq)).set_ 0 _).set_ 1 _).set_ 2 _) [.int .i64 0, .int .i64 0, .slice none 0 0] rfl rfl) rfl
    ⟨rfl, (((((((Kp.refl _ w).alloc _).alloc _).drewN (n1 + nq)).setNew (by simp) _).setNew (by simp) _).setNew (by simp) _)⟩
/-- The answer was taken. -/
def RTaken (g : Nat) (s : RC) (A : Option Addr) (k c : Nat) (rE rAt : Int) (Ag : Option Addr) (gn cg : Nat) (w : World) (e : Ending) (w' : World) : Prop := e = .returned (.tuple #[.agg #[.int .i64 rE, .int .i64 rAt, .slice Ag gn cg], .bool true, .slice none 0 0]) ∧ Blk w' g 72 (s.cells false A k c) ∧ Kp (fun j => j = g) w w'
set_option maxRecDepth 20000 in
set_option maxHeartbeats 1000000 in
theorem RTake_done (g : Nat) (s : RC) (A : Option Addr) (k c : Nat) (kind frm to cl : UInt8) (term index mark commit cn : UInt64) (yes : Bool) (ents data steps : Value) (Ag : Option Addr) (gn cg : Nat) (rE rAt : Int) (w : World) (hb : Blk w g 72 (s.cells true A k c)) (hn7 : s.n ≤ 7) (hid : s.id.toNat ≤ 8) (hk : ((kind.toNat : Int) != 7) = false) (ht : ((to.toNat : Int) != 100 + (s.id.toNat : Int)) = false) (hd : ((cl.toNat : Int) != (s.id.toNat : Int)) = false) (hm : ((cn.toNat : Int) != (s.num.toNat : Int)) = false) (hf1 : decide ((frm.toNat : Int) < 1) = false) (hf2 : decide ((s.n : Int) < (frm.toNat : Int)) = false) :
    Calls Try.prog 33 #[.pointer (some ⟨g, 0, none⟩), .agg #[.int .i64 kind.toNat, .int .u8 frm.toNat, .int .u8 to.toNat, .int .u64 term.toNat, .int .u64 index.toNat, .int .u64 mark.toNat, .int .u64 commit.toNat, .bool yes, ents, data, .int .u8 cl.toNat, .int .u64 cn.toNat, steps, .int .i64 0, .int .i64 rE, .int .i64 rAt, .slice Ag gn cg]] w (RTaken g s A k c rE rAt Ag gn cg w) := by
  have hg := hb.lt
  have hg1 : g < w.heap.size + 1 := by omega
  have hg2 : g < w.heap.size + 1 + 1 := by omega
  have hc0 : w.cell? ⟨g, 0, none⟩ = some (.int .u8 s.id.toNat) := hb.cell 0
  have hc1 : w.cell? ⟨g, 1, none⟩ = some (.int .i64 s.n) := hb.cell 1
  have hc3 : w.cell? ⟨g, 3, none⟩ = some (.int .u64 s.num.toNat) := hb.cell 3
  have hc4 : w.cell? ⟨g, 4, none⟩ = some (.bool true) := hb.cell 4
  have hW8 : IntKind.u8.wrap (100 + (s.id.toNat : Int)) = 100 + (s.id.toNat : Int) := by rw [IntKind.wrap_u8]; omega
  have hfb : (frm.toNat : Int) ≤ 255 := by have := frm.toNat_lt; omega
  have hnb : (s.n : Int) ≤ 7 := by omega
  have hf4 : w.frozen? ⟨g, 4, none⟩ = false := hb.free 4
  have hf2f : w.frozen? ⟨g, 2, none⟩ = false := hb.free 2
  have hc2 : w.cell? ⟨g, 2, none⟩ = some (.int .i64 s.to) := hb.cell 2
  have HB := Lib.hid hb
  clear hb
  have hf2' : decide (s.n < frm.toNat) = false := decide_eq_false (by have := of_decide_eq_false hf2; omega)
  go_enter Try.func33, Try.ntmps33
  go_wp2_with fail
  go_quiet (fail)
  go_wp2_with fail
  refine bodyPost_ret (res_ctt rfl isS_reply' _ rfl (((((((Blk.newAt (by simp) 34 _).drewN nq).far (p := ⟨g, 4, none⟩) (by simp; omega) _).set_ 0 _).set_ 1 _).set_ 2 _)) [.int .i64 rE, .int .i64 rAt, .slice Ag gn cg] rfl rfl) rfl ⟨rfl, ?_, ?_⟩
  · exact (((((((HB.out.alloc _).alloc _).drewN nq).set_ 4 (.bool false)).far (p := ⟨w.heap.size + 1, 0, none⟩) (by simp; omega) _).far (p := ⟨w.heap.size + 1, 1, none⟩) (by simp; omega) _).far (p := ⟨w.heap.size + 1, 2, none⟩) (by simp; omega) _)
  · exact ((((((((Kp.refl (fun j => j = g) w).alloc _).alloc _).drewN nq).setCell (p := ⟨g, 4, none⟩) (fun _ => rfl) _).setNew (by simp) _).setNew (by simp) _).setNew (by simp) _)
/-- The leader was told: it is called. -/
def RLed (g : Nat) (s : RC) (A : Option Addr) (k c : Nat) (to : Nat) (w : World) (e : Ending) (w' : World) : Prop := ∃ b, e = .returned (.tuple #[.agg #[.int .i64 0, .int .i64 0, .slice none 0 0], .bool false, .slice (some ⟨b, 0, none⟩) 1 1]) ∧ w.heap.size ≤ b ∧ Blk w' b 76 (RC.ltr { s with to := to } A k c).toArray ∧ Blk w' g 72 (RC.cells { s with to := to, waits := 0 } true A k c) ∧ Kp (fun j => j = g) w w'
set_option maxRecDepth 20000 in
set_option maxHeartbeats 1000000 in
theorem RTake_lead (g : Nat) (s : RC) (A : Option Addr) (k c : Nat) (kind frm to cl : UInt8) (term index mark commit cn : UInt64) (yes : Bool) (ents data steps got : Value) (rE rAt : Int) (w : World) (hb : Blk w g 72 (s.cells true A k c)) (hn7 : s.n ≤ 7) (hid : s.id.toNat ≤ 8) (hk : ((kind.toNat : Int) != 7) = false) (ht : ((to.toNat : Int) != 100 + (s.id.toNat : Int)) = false) (hd : ((cl.toNat : Int) != (s.id.toNat : Int)) = false) (hm : ((cn.toNat : Int) != (s.num.toNat : Int)) = false) (hf1 : decide ((frm.toNat : Int) < 1) = false) (hf2 : decide ((s.n : Int) < (frm.toNat : Int)) = false) (hi1 : decide ((1 : Int) ≤ (index.toNat : Int)) = true) (hi2 : decide ((index.toNat : Int) ≤ (s.n : Int)) = true) (hi3 : ((index.toNat : Int) != (frm.toNat : Int)) = true) :
    Calls Try.prog 33 #[.pointer (some ⟨g, 0, none⟩), .agg #[.int .i64 kind.toNat, .int .u8 frm.toNat, .int .u8 to.toNat, .int .u64 term.toNat, .int .u64 index.toNat, .int .u64 mark.toNat, .int .u64 commit.toNat, .bool yes, ents, data, .int .u8 cl.toNat, .int .u64 cn.toNat, steps, .int .i64 16, .int .i64 rE, .int .i64 rAt, got]] w (RLed g s A k c index.toNat w) := by
  have hg := hb.lt
  have hg1 : g < w.heap.size + 1 := by omega
  have hg2 : g < w.heap.size + 1 + 1 := by omega
  have hc0 : w.cell? ⟨g, 0, none⟩ = some (.int .u8 s.id.toNat) := hb.cell 0
  have hc1 : w.cell? ⟨g, 1, none⟩ = some (.int .i64 s.n) := hb.cell 1
  have hc3 : w.cell? ⟨g, 3, none⟩ = some (.int .u64 s.num.toNat) := hb.cell 3
  have hc4 : w.cell? ⟨g, 4, none⟩ = some (.bool true) := hb.cell 4
  have hW8 : IntKind.u8.wrap (100 + (s.id.toNat : Int)) = 100 + (s.id.toNat : Int) := by rw [IntKind.wrap_u8]; omega
  have hfb : (frm.toNat : Int) ≤ 255 := by have := frm.toNat_lt; omega
  have hnb : (s.n : Int) ≤ 7 := by omega
  have hf4 : w.frozen? ⟨g, 4, none⟩ = false := hb.free 4
  have hf2f : w.frozen? ⟨g, 2, none⟩ = false := hb.free 2
  have hc2 : w.cell? ⟨g, 2, none⟩ = some (.int .i64 s.to) := hb.cell 2
  have HB := Lib.hid hb
  have hib : (index.toNat : Int) ≤ 7 := by have := of_decide_eq_true hi2; omega
  have HI7 : Hid (index.toNat ≤ 7) := Lib.hid (by omega)
  clear hb
  have hf2' : decide (s.n < frm.toNat) = false := decide_eq_false (by have := of_decide_eq_false hf2; omega)
  have hi2' : decide (index.toNat ≤ s.n) = true := decide_eq_true (by have := of_decide_eq_true hi2; omega)
  have hi3' : (index.toNat != frm.toNat) = true := by rw [bne_iff_ne] at hi3 ⊢; omega
  go_enter Try.func33, Try.ntmps33
  go_wp2_with fail
  go_quiet (fail)
  go_wp2_with fail
  obtain ⟨n1, hn1⟩ : ∃ n1, n1 = nq := ⟨_, rfl⟩
  subst hn1
  go_quiet (fail)
  go_wp2_with fail
  have hbW := ((((HB.out.alloc (.cells #[.int .i64 kind.toNat, .int .u8 frm.toNat, .int .u8 to.toNat, .int .u64 term.toNat, .int .u64 index.toNat, .int .u64 mark.toNat, .int .u64 commit.toNat, .bool yes, ents, data, .int .u8 cl.toNat, .int .u64 cn.toNat, steps, .int .i64 16, .int .i64 rE, .int .i64 rAt, got] 76)).alloc (.cells #[.int .i64 0, .int .i64 0, .slice none 0 0] 34)).drewN (n1 + nq)).set_ 2 (.int .i64 (index.toNat : Int)))
  have hrW := (Blk.newAt (W := w.alloc (.cells #[.int .i64 kind.toNat, .int .u8 frm.toNat, .int .u8 to.toNat, .int .u64 term.toNat, .int .u64 index.toNat, .int .u64 mark.toNat, .int .u64 commit.toNat, .bool yes, ents, data, .int .u8 cl.toNat, .int .u64 cn.toNat, steps, .int .i64 16, .int .i64 rE, .int .i64 rAt, got] 76)) (N := w.heap.size + 1) (by simp) 34 #[.int .i64 0, .int .i64 0, .slice none 0 0]).drewN (n1 + nq)
  have hrW2 := hrW.far (p := ⟨g, 2, none⟩) (by show w.heap.size + 1 ≠ g; omega) (.int .i64 (index.toNat : Int))
  have hkW := (((((Kp.refl (fun j => j = g) w).alloc (.cells #[.int .i64 kind.toNat, .int .u8 frm.toNat, .int .u8 to.toNat, .int .u64 term.toNat, .int .u64 index.toNat, .int .u64 mark.toNat, .int .u64 commit.toNat, .bool yes, ents, data, .int .u8 cl.toNat, .int .u64 cn.toNat, steps, .int .i64 16, .int .i64 rE, .int .i64 rAt, got] 76)).alloc (.cells #[.int .i64 0, .int .i64 0, .slice none 0 0] 34)).drewN (n1 + nq)).setCell (p := ⟨g, 2, none⟩) (fun _ => rfl) (.int .i64 (index.toNat : Int)))
  have HRW := Lib.hid hrW2
  have HKW := Lib.hid hkW
  clear hrW hrW2 hkW hc0 hc1 hc2 hc3 hc4 hf4 hf2f
  go_must (refine (rcalls g { s with to := index.toNat } true A k c _ hbW HI7.out hid).mono ?_)
  rintro e w3 ⟨b, rfl, q1, q2, q3, q4⟩
  have hr3 := HRW.out.kp q4 (by omega)
  have f0 := hr3.free 0
  have f1 := hr3.free 1
  have f2 := hr3.free 2
  have x0 : w3.cell? ⟨w.heap.size + 1, 0, none⟩ = some (.int .i64 0) := hr3.cell 0
  have x1 : w3.cell? ⟨w.heap.size + 1, 1, none⟩ = some (.int .i64 0) := hr3.cell 1
  have x2 : w3.cell? ⟨w.heap.size + 1, 2, none⟩ = some (.slice none 0 0) := hr3.cell 2
  have HQ1 := Lib.hid (Nat.le_trans HKW.out.size q1)
  have HQ2 := Lib.hid q2
  have HQ3 := Lib.hid q3
  have HQ4 : Hid (Kp (fun j => j = g) w w3) := Lib.hid (HKW.out.trans q4 (fun _ _ e => e))
  have hbl : w.heap.size + 2 ≤ b := by simpa using q1
  have HR3 := Lib.hid hr3
  clear q1 q2 q3 q4 hbW hr3
  go_wp2_with fail
  refine bodyPost_ret (res_ctt rfl isS_reply' _ rfl (((HR3.out.set_ 0 _).set_ 1 _).set_ 2 _) [.int .i64 0, .int .i64 0, .slice none 0 0] rfl rfl) rfl ⟨b, rfl, HQ1.out, ?_, ?_, ?_⟩
  · exact (((HQ2.out.far (p := ⟨w.heap.size + 1, 0, none⟩) (by show b ≠ w.heap.size + 1; omega) _).far (p := ⟨w.heap.size + 1, 1, none⟩) (by show b ≠ w.heap.size + 1; omega) _).far (p := ⟨w.heap.size + 1, 2, none⟩) (by show b ≠ w.heap.size + 1; omega) _)
  · exact (((HQ3.out.far (p := ⟨w.heap.size + 1, 0, none⟩) (by show g ≠ w.heap.size + 1; omega) _).far (p := ⟨w.heap.size + 1, 1, none⟩) (by show g ≠ w.heap.size + 1; omega) _).far (p := ⟨w.heap.size + 1, 2, none⟩) (by show g ≠ w.heap.size + 1; omega) _)
  · exact (((HQ4.out.setNew (p := ⟨w.heap.size + 1, 0, none⟩) (Nat.le_succ _) _).setNew (p := ⟨w.heap.size + 1, 1, none⟩) (Nat.le_succ _) _).setNew (p := ⟨w.heap.size + 1, 2, none⟩) (Nat.le_succ _) _)
end Go.Proofs.Ytiimdnachgkomaa
