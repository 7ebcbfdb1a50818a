/- Package sessions: Ask, Note, Last, of a book. -/
import Derived.Test.YtiimdnachgkomaaSess
namespace Go.Proofs.Ytiimdnachgkomaa
open Go Go.RowKit
def zeroRep : Value := .agg #[.int .i64 0, .int .i64 0, .slice none 0 0]
set_option maxRecDepth 20000 in
set_option maxHeartbeats 400000 in
/-- Whoever has no page is asked for in vain. -/
theorem Ask_err (A : Option Addr) (c : UInt8) (num : Int) (k : Nat) (hk0 : k = 1 ∨ k = 2) (w : World)
    (hp : ∀ w1, Nw w w1 → Calls Try.prog 96 #[.pointer A, .int .u8 c.toNat] w1 fun e w' => e = .returned (.tuple #[.pointer none, .int .i64 k]) ∧ w' = w1) :
    Calls Try.prog 43 #[.pointer A, .int .u8 c.toNat, .int .u64 num] w fun e w' => e = .returned (.tuple #[.agg #[.int .i64 0, .int .i64 0, .slice none 0 0], .bool false, .int .i64 k]) ∧ Nw w w' := by
  have HPg := Lib.hid (hp (w.alloc (.cells #[.int .i64 0, .int .i64 0, .slice none 0 0] 34)) ((Kp.refl _ w).alloc _))
  clear hp
  have hb : Blk (w.alloc (.cells #[.int .i64 0, .int .i64 0, .slice none 0 0] 34)) w.heap.size 34 #[.int .i64 0, .int .i64 0, .slice none 0 0] := Blk.new _ _ _
  have hk1 : ((k : Int) != 0) = true := by rw [bne_iff_ne]; omega
  clear hk0
  go_enter Try.func43, Try.ntmps43
  go_wp2_with (first
    | (go_at_call 96; go_must (refine HPg.out.mono ?_); rintro e w2 ⟨rfl, rfl⟩)
    | ((with_reducible refine stopAt (.load 34 (.tmp 6)) rfl ?_); go_must (refine unStop (wpList_ldS rfl 34 (.tmp 6) rfl sS_reply w.heap.size 0 rfl hb [.int .i64 0, .int .i64 0, .slice none 0 0] rfl rfl ?_)))
    | ((with_reducible refine stopAt (.store 34 (.tmp 6) (.tmp 19)) rfl ?_); go_must (refine unStop (wpList_stS rfl 34 (.tmp 6) (.tmp 19) rfl [.int .i64 0, .int .i64 0, .slice none 0 0] sS_reply w.heap.size 0 rfl rfl rfl hb [.int .i64 0, .int .i64 0, .slice none 0 0] (by simp) (by simp [Value.oneCell']) rfl ?_)); intro w3 hb3 hk3))
  exact bodyPost_ret (res_ctt rfl sS_reply _ rfl hb3 [.int .i64 0, .int .i64 0, .slice none 0 0] rfl rfl) rfl ⟨rfl, ((Kp.refl _ w).alloc _).trans hk3 (fun i hi e => by omega)⟩
/-- What a number is: it is asked for the first time, or too late. -/
def AskSmall (w : World) (k : Nat) (e : Ending) (w' : World) : Prop := e = .returned (.tuple #[.agg #[.int .i64 0, .int .i64 0, .slice none 0 0], .bool false, .int .i64 k]) ∧ Nw w w'
def AskIs (w : World) (p : Pg) (e : Ending) (w' : World) : Prop := ∃ A2, e = .returned (.tuple #[.agg #[.int .i64 p.e.toInt, .int .i64 p.at_.toInt, .slice A2 p.got.l.length p.got.l.length], .bool true, .int .i64 0]) ∧ OwnG w' w.heap.size A2 p.got.l.length p.got.l ∧ Nw w w'
set_option maxRecDepth 20000 in
set_option maxHeartbeats 1000000 in
theorem Ask_new (g : Nat) (ps : List Pg) (i : Nat) (p : Pg) (hp : ps[i]? = some p) (num : UInt64) (w : World) (hb : Bk w g ps) (h : p.num.toNat < num.toNat) :
    Calls Try.prog 43 #[.pointer (some ⟨g, 0, none⟩), .int .u8 ((i + 1 : Nat) : Int), .int .u64 num.toNat] w (AskSmall w 0) := by
  have hi : i < 8 := by rw [← hb.len]; exact (List.getElem?_eq_some_iff.1 hp).1
  have HPg := Lib.hid (page_ok g ps i (w.alloc (.cells #[.int .i64 0, .int .i64 0, .slice none 0 0] 34)) (hb.nw ((Kp.refl _ w).alloc _)) hi)
  have hg := hb.blk.lt
  have c0 : w.cell? ⟨g, i * 4, none⟩ = some (.int .u64 p.num.toNat) := hb.cell hp (j := 0) (by omega)
  have hbN : Blk (w.alloc (.cells #[.int .i64 0, .int .i64 0, .slice none 0 0] 34)) w.heap.size 34 #[.int .i64 0, .int .i64 0, .slice none 0 0] := Blk.new _ _ _
  have t1 : decide ((p.num.toNat : Int) < (num.toNat : Int)) = true := decide_eq_true (by omega)
  have t2 : decide (p.num.toNat < num.toNat) = true := decide_eq_true h
  replace hp := Lib.hid hp
  clear hb h hi
  go_enter Try.func43, Try.ntmps43
  go_wp2_with (first
    | (go_at_call 96; go_must (refine HPg.out.mono ?_); rintro e w2 ⟨rfl, rfl⟩)
    | ((with_reducible refine stopAt (.load 34 (.tmp 6)) rfl ?_); go_must (refine unStop (wpList_ldS rfl 34 (.tmp 6) rfl sS_reply w.heap.size 0 rfl hbN [.int .i64 0, .int .i64 0, .slice none 0 0] rfl rfl ?_)))
    | ((with_reducible refine stopAt (.store 34 (.tmp 6) (.tmp 28)) rfl ?_); go_must (refine unStop (wpList_stS rfl 34 (.tmp 6) (.tmp 28) rfl [.int .i64 0, .int .i64 0, .slice none 0 0] sS_reply w.heap.size 0 rfl rfl rfl hbN [.int .i64 0, .int .i64 0, .slice none 0 0] (by simp) (by simp [Value.oneCell']) rfl ?_)); intro w3 hb3 hk3))
  exact bodyPost_ret (res_ctt rfl sS_reply _ rfl hb3 [.int .i64 0, .int .i64 0, .slice none 0 0] rfl rfl) rfl ⟨rfl, ((Kp.refl _ w).alloc _).trans hk3 (fun i hi e => by omega)⟩
set_option maxRecDepth 20000 in
set_option maxHeartbeats 1000000 in
theorem Ask_old (g : Nat) (ps : List Pg) (i : Nat) (p : Pg) (hp : ps[i]? = some p) (num : UInt64) (w : World) (hb : Bk w g ps) (h : num.toNat < p.num.toNat ∨ num.toNat = 0) :
    Calls Try.prog 43 #[.pointer (some ⟨g, 0, none⟩), .int .u8 ((i + 1 : Nat) : Int), .int .u64 num.toNat] w (AskSmall w 18) := by
  have hi : i < 8 := by rw [← hb.len]; exact (List.getElem?_eq_some_iff.1 hp).1
  have HPg := Lib.hid (page_ok g ps i (w.alloc (.cells #[.int .i64 0, .int .i64 0, .slice none 0 0] 34)) (hb.nw ((Kp.refl _ w).alloc _)) hi)
  have hg := hb.blk.lt
  have c0 : w.cell? ⟨g, i * 4, none⟩ = some (.int .u64 p.num.toNat) := hb.cell hp (j := 0) (by omega)
  have hbN : Blk (w.alloc (.cells #[.int .i64 0, .int .i64 0, .slice none 0 0] 34)) w.heap.size 34 #[.int .i64 0, .int .i64 0, .slice none 0 0] := Blk.new _ _ _
  have t1 : decide ((p.num.toNat : Int) < (num.toNat : Int)) = false := decide_eq_false (by omega)
  have t2 : decide (p.num.toNat < num.toNat) = false := decide_eq_false (by omega)
  replace hp := Lib.hid hp
  clear hb hi
  by_cases h0 : num.toNat < p.num.toNat
  · have t3 : decide ((num.toNat : Int) < (p.num.toNat : Int)) = true := decide_eq_true (by omega)
    have t4 : decide (num.toNat < p.num.toNat) = true := decide_eq_true h0
    clear h h0
    go_enter Try.func43, Try.ntmps43
    go_wp2_with (first
      | (go_at_call 96; go_must (refine HPg.out.mono ?_); rintro e w2 ⟨rfl, rfl⟩)
      | ((with_reducible refine stopAt (.load 34 (.tmp 6)) rfl ?_); go_must (refine unStop (wpList_ldS rfl 34 (.tmp 6) rfl sS_reply w.heap.size 0 rfl hbN [.int .i64 0, .int .i64 0, .slice none 0 0] rfl rfl ?_)))
      | ((with_reducible refine stopAt (.store 34 (.tmp 6) (.tmp 38)) rfl ?_); go_must (refine unStop (wpList_stS rfl 34 (.tmp 6) (.tmp 38) rfl [.int .i64 0, .int .i64 0, .slice none 0 0] sS_reply w.heap.size 0 rfl rfl rfl hbN [.int .i64 0, .int .i64 0, .slice none 0 0] (by simp) (by simp [Value.oneCell']) rfl ?_)); intro w3 hb3 hk3))
    exact bodyPost_ret (res_ctt rfl sS_reply _ rfl hb3 [.int .i64 0, .int .i64 0, .slice none 0 0] rfl rfl) rfl ⟨rfl, ((Kp.refl _ w).alloc _).trans hk3 (fun i hi e => by omega)⟩
  · have t3 : decide ((num.toNat : Int) < (p.num.toNat : Int)) = false := decide_eq_false (by omega)
    have t4 : decide (num.toNat < p.num.toNat) = false := decide_eq_false h0
    have t5 : ((num.toNat : Int) == 0) = true := beq_iff_eq.2 (by omega)
    clear h h0
    go_enter Try.func43, Try.ntmps43
    go_wp2_with (first
      | (go_at_call 96; go_must (refine HPg.out.mono ?_); rintro e w2 ⟨rfl, rfl⟩)
      | ((with_reducible refine stopAt (.load 34 (.tmp 6)) rfl ?_); go_must (refine unStop (wpList_ldS rfl 34 (.tmp 6) rfl sS_reply w.heap.size 0 rfl hbN [.int .i64 0, .int .i64 0, .slice none 0 0] rfl rfl ?_)))
      | ((with_reducible refine stopAt (.store 34 (.tmp 6) (.tmp 38)) rfl ?_); go_must (refine unStop (wpList_stS rfl 34 (.tmp 6) (.tmp 38) rfl [.int .i64 0, .int .i64 0, .slice none 0 0] sS_reply w.heap.size 0 rfl rfl rfl hbN [.int .i64 0, .int .i64 0, .slice none 0 0] (by simp) (by simp [Value.oneCell']) rfl ?_)); intro w3 hb3 hk3))
    exact bodyPost_ret (res_ctt rfl sS_reply _ rfl hb3 [.int .i64 0, .int .i64 0, .slice none 0 0] rfl rfl) rfl ⟨rfl, ((Kp.refl _ w).alloc _).trans hk3 (fun i hi e => by omega)⟩
set_option maxRecDepth 20000 in
set_option maxHeartbeats 1000000 in
theorem Ask_is (g : Nat) (ps : List Pg) (i : Nat) (p : Pg) (hp : ps[i]? = some p) (num : UInt64) (w : World) (hb : Bk w g ps) (h : num = p.num) (h0 : num.toNat ≠ 0) :
    Calls Try.prog 43 #[.pointer (some ⟨g, 0, none⟩), .int .u8 ((i + 1 : Nat) : Int), .int .u64 num.toNat] w (AskIs w p) := by
  have hi : i < 8 := by rw [← hb.len]; exact (List.getElem?_eq_some_iff.1 hp).1
  have HPg := Lib.hid (page_ok g ps i (w.alloc (.cells #[.int .i64 0, .int .i64 0, .slice none 0 0] 34)) (hb.nw ((Kp.refl _ w).alloc _)) hi)
  have hg := hb.blk.lt
  subst h
  have c0 : w.cell? ⟨g, i * 4, none⟩ = some (.int .u64 p.num.toNat) := hb.cell hp (j := 0) (by omega)
  have c1 : w.cell? ⟨g, i * 4 + 1, none⟩ = some (.int .i64 p.e.toInt) := hb.cell hp (j := 1) (by omega)
  have c2 : w.cell? ⟨g, i * 4 + 1 + 1, none⟩ = some (.int .i64 p.at_.toInt) := hb.cell hp (j := 2) (by omega)
  have c3 : w.cell? ⟨g, i * 4 + 1 + 2, none⟩ = some (.slice p.got.A p.got.l.length p.got.c) := hb.cell hp (j := 3) (by omega)
  have hbN : Blk (w.alloc (.cells #[.int .i64 0, .int .i64 0, .slice none 0 0] 34)) w.heap.size 34 #[.int .i64 0, .int .i64 0, .slice none 0 0] := Blk.new _ _ _
  have t5 : ((p.num.toNat : Int) == 0) = false := beq_eq_false_iff_ne.2 (by omega)
  have HRd : Hid (RdG (w.alloc (.cells #[.int .i64 0, .int .i64 0, .slice none 0 0] 34)) p.got.A p.got.c p.got.l) := Lib.hid ((hb.each i p hp).1.alloc _)
  have HL : Hid (p.got.l.length ≤ 8) := Lib.hid (hb.each i p hp).2.1
  have HCs : Hid (∀ j v, ([.int .i64 p.e.toInt, .int .i64 p.at_.toInt, .slice p.got.A p.got.l.length p.got.c] : List Value)[j]? = some v → (w.alloc (.cells #[.int .i64 0, .int .i64 0, .slice none 0 0] 34)).cell? ⟨g, i * 4 + 1 + j, none⟩ = some v) := Lib.hid (fun j v hv => by
    have hn : Nw w (w.alloc (.cells #[.int .i64 0, .int .i64 0, .slice none 0 0] 34)) := (Kp.refl _ w).alloc _
    refine Nw.cell hn ?_
    match j, hv with
    | 0, hv => cases hv; exact c1
    | 1, hv => cases hv; exact c2
    | 2, hv => cases hv; exact c3)
  replace hp := Lib.hid hp
  clear hb hi h0 c1 c2 c3
  go_enter Try.func43, Try.ntmps43
  go_wp2_with (first
    | (go_at_call 96; go_must (refine HPg.out.mono ?_); rintro e w2 ⟨rfl, rfl⟩)
    | ((with_reducible refine stopAt (.load 34 (.tmp 41)) rfl ?_); go_must (refine unStop (wpList_ldA rfl 34 (.tmp 41) rfl sS_reply g (i * 4 + 1) rfl [.int .i64 p.e.toInt, .int .i64 p.at_.toInt, .slice p.got.A p.got.l.length p.got.c] HCs.out rfl ?_)))
    | (go_at_call 97; go_must (refine (own_ _ _ _ _ _ _ HRd.out (by have := HL.out; omega)).mono ?_); rintro e w3 ⟨A2, rfl, ho3, hk3⟩; have hb4 := hbN.nw hk3; have HO3 := Lib.hid ho3; have HK3 := Lib.hid hk3; clear ho3 hk3)
    | ((with_reducible refine stopAt (.store 34 (.tmp 6) (.tmp 43)) rfl ?_); go_must (refine unStop (wpList_stS rfl 34 (.tmp 6) (.tmp 43) rfl [.int .i64 p.e.toInt, .int .i64 p.at_.toInt, .slice A2 p.got.l.length p.got.l.length] sS_reply w.heap.size 0 rfl rfl rfl hb4 [.int .i64 p.e.toInt, .int .i64 p.at_.toInt, .slice A2 p.got.l.length p.got.l.length] (by simp) (by simp [Value.oneCell']) rfl ?_)); intro w4 hb5 hk4))
  have ho := HO3.out.low (base' := w.heap.size + 1) (by simp)
  refine bodyPost_ret (res_ctt rfl sS_reply _ rfl hb5 [.int .i64 p.e.toInt, .int .i64 p.at_.toInt, .slice A2 p.got.l.length p.got.l.length] rfl rfl) rfl ⟨A2, rfl, ?_, (((Kp.refl _ w).alloc _).nw HK3.out).trans hk4 (fun i hi e => by omega)⟩
  exact (ho.kp hk4 (fun k hk e => by have := (ho.lt k hk).1; omega)).low (Nat.le_succ _)
end Go.Proofs.Ytiimdnachgkomaa
