/- Package sessions: Note, Last, New. -/
import Derived.Test.YtiimdnachgkomaaSess2
namespace Go.Proofs.Ytiimdnachgkomaa
open Go Go.RowKit
def Err (w : World) (k : Nat) (e : Ending) (w' : World) : Prop := e = .returned (.int .i64 k) ∧ Nw w w'
set_option maxRecDepth 20000 in
set_option maxHeartbeats 400000 in
theorem Note_err (A : Option Addr) (c : UInt8) (num : Int) (re rat : Int) (B : Option Addr) (n d : Nat) (k : Nat) (hk0 : k = 1 ∨ k = 2) (w : World)
    (hp : ∀ w1, Nw w w1 → Calls Try.prog 96 #[.pointer A, .int .u8 c.toNat] w1 fun e w' => e = .returned (.tuple #[.pointer none, .int .i64 k]) ∧ w' = w1) :
    Calls Try.prog 39 #[.pointer A, .int .u8 c.toNat, .int .u64 num, .agg #[.int .i64 re, .int .i64 rat, .slice B n d]] w (Err w k) := by
  have HPg := Lib.hid (hp (w.alloc (.cells #[.int .i64 re, .int .i64 rat, .slice B n d] 34)) ((Kp.refl _ w).alloc _))
  clear hp
  have hk1 : ((k : Int) != 0) = true := by rw [bne_iff_ne]; omega
  clear hk0
  go_enter Try.func39, Try.ntmps39
  go_wp2_with (go_at_call 96; go_must (refine HPg.out.mono ?_); rintro e w2 ⟨rfl, rfl⟩)
  go_ret
  exact ⟨rfl, (Kp.refl _ w).alloc _⟩
set_option maxRecDepth 20000 in
set_option maxHeartbeats 400000 in
theorem Note_arg (g : Nat) (ps : List Pg) (i : Nat) (hi : i < 8) (num : Int) (re rat : Int) (B : Option Addr) (n d : Nat) (w : World) (hb : Bk w g ps) (h : 8 < n) :
    Calls Try.prog 39 #[.pointer (some ⟨g, 0, none⟩), .int .u8 ((i + 1 : Nat) : Int), .int .u64 num, .agg #[.int .i64 re, .int .i64 rat, .slice B n d]] w (Err w 1) := by
  have HPg := Lib.hid (page_ok g ps i (w.alloc (.cells #[.int .i64 re, .int .i64 rat, .slice B n d] 34)) (hb.nw ((Kp.refl _ w).alloc _)) hi)
  have t1 : decide ((8 : Int) < (n : Int)) = true := decide_eq_true (by omega)
  clear hb hi
  go_enter Try.func39, Try.ntmps39
  go_wp2_with (go_at_call 96; go_must (refine HPg.out.mono ?_); rintro e w2 ⟨rfl, rfl⟩)
  go_ret
  exact ⟨rfl, (Kp.refl _ w).alloc _⟩
set_option maxRecDepth 20000 in
set_option maxHeartbeats 400000 in
theorem Note_old (g : Nat) (ps : List Pg) (i : Nat) (p : Pg) (hp : ps[i]? = some p) (num : UInt64) (re rat : Int) (B : Option Addr) (n d : Nat) (w : World) (hb : Bk w g ps) (h : n ≤ 8) (hn : num.toNat ≤ p.num.toNat) :
    Calls Try.prog 39 #[.pointer (some ⟨g, 0, none⟩), .int .u8 ((i + 1 : Nat) : Int), .int .u64 num.toNat, .agg #[.int .i64 re, .int .i64 rat, .slice B n d]] w (Err w 18) := by
  have hi : i < 8 := by rw [← hb.len]; exact (List.getElem?_eq_some_iff.1 hp).1
  have HPg := Lib.hid (page_ok g ps i (w.alloc (.cells #[.int .i64 re, .int .i64 rat, .slice B n d] 34)) (hb.nw ((Kp.refl _ w).alloc _)) hi)
  have hg := hb.blk.lt
  have c0 : w.cell? ⟨g, i * 4, none⟩ = some (.int .u64 p.num.toNat) := hb.cell hp (j := 0) (by omega)
  have t1 : decide ((8 : Int) < (n : Int)) = false := decide_eq_false (by omega)
  have t2 : decide ((num.toNat : Int) ≤ (p.num.toNat : Int)) = true := decide_eq_true (by omega)
  have t3 : decide (num.toNat ≤ p.num.toNat) = true := decide_eq_true hn
  replace hp := Lib.hid hp
  clear hb hi hn
  go_enter Try.func39, Try.ntmps39
  go_wp2_with (go_at_call 96; go_must (refine HPg.out.mono ?_); rintro e w2 ⟨rfl, rfl⟩)
  go_ret
  exact ⟨rfl, (Kp.refl _ w).alloc _⟩
/-- A client was answered: the page behind. -/
def Noted (w : World) (g : Nat) (ps : List Pg) (i : Nat) (num : UInt64) (re rat : Int64) (l : List Got) (e : Ending) (w' : World) : Prop :=
  ∃ A2, e = .returned (.int .i64 0) ∧ Bk w' g (ps.set i ⟨num, re, rat, ⟨l, A2, l.length⟩⟩) ∧ OwnG w' w.heap.size A2 l.length l ∧ Kp (fun k => k = g) w w'
set_option maxRecDepth 20000 in
set_option maxHeartbeats 1000000 in
theorem Note_ok (g : Nat) (ps : List Pg) (i : Nat) (p : Pg) (hp : ps[i]? = some p) (num : UInt64) (re rat : Int64) (B : Option Addr) (d : Nat) (l : List Got) (w : World) (hb : Bk w g ps) (hr : RdG w B d l) (h : l.length ≤ 8) (hn : p.num.toNat < num.toNat) :
    Calls Try.prog 39 #[.pointer (some ⟨g, 0, none⟩), .int .u8 ((i + 1 : Nat) : Int), .int .u64 num.toNat, .agg #[.int .i64 re.toInt, .int .i64 rat.toInt, .slice B l.length d]] w (Noted w g ps i num re rat l) := by
  have hi' : i < ps.length := (List.getElem?_eq_some_iff.1 hp).1
  have hi : i < 8 := by rw [← hb.len]; exact hi'
  have HPg := Lib.hid (page_ok g ps i (w.alloc (.cells #[.int .i64 re.toInt, .int .i64 rat.toInt, .slice B l.length d] 34)) (hb.nw ((Kp.refl _ w).alloc _)) hi)
  have hg := hb.blk.lt
  have c0 : w.cell? ⟨g, i * 4, none⟩ = some (.int .u64 p.num.toNat) := hb.cell hp (j := 0) (by omega)
  have t1 : decide ((8 : Int) < (l.length : Int)) = false := decide_eq_false (by omega)
  have t2 : decide ((num.toNat : Int) ≤ (p.num.toNat : Int)) = false := decide_eq_false (by omega)
  have t3 : decide (num.toNat ≤ p.num.toNat) = false := decide_eq_false (by omega)
  have hbN : Blk (w.alloc (.cells #[.int .i64 re.toInt, .int .i64 rat.toInt, .slice B l.length d] 34)) w.heap.size 34 #[.int .i64 re.toInt, .int .i64 rat.toInt, .slice B l.length d] := Blk.new _ _ _
  have HR := Lib.hid (hr.alloc (.cells #[.int .i64 re.toInt, .int .i64 rat.toInt, .slice B l.length d] 34))
  have HBk := Lib.hid hb
  have HI := Lib.hid hi'
  have HP := Lib.hid hp
  clear hb hi hi' hn hp hr
  go_enter Try.func39, Try.ntmps39
  go_wp2_with (first
    | (go_at_call 96; go_must (refine HPg.out.mono ?_); rintro e w2 ⟨rfl, rfl⟩)
    | ((with_reducible refine stopAt (.load 34 (.tmp 7)) rfl ?_); go_must (refine unStop (wpList_ldS rfl 34 (.tmp 7) rfl sS_reply w.heap.size 0 rfl hbN [.int .i64 re.toInt, .int .i64 rat.toInt, .slice B l.length d] rfl rfl ?_)))
    | (go_at_call 97; go_must (refine (own_ _ _ _ _ _ _ HR.out (by omega)).mono ?_); rintro e w3 ⟨A2, rfl, ho3, hk3⟩; have HO3 := Lib.hid ho3; have hk4 := ((Kp.refl (fun _ => False) w).alloc (.cells #[.int .i64 re.toInt, .int .i64 rat.toInt, .slice B l.length d] 34)).nw hk3; have HK3 := Lib.hid hk4; clear ho3 hk3; have HB3 := Lib.hid (HBk.out.nw hk4); clear hk4)
    | ((with_reducible refine stopAt (.store 112 (.tmp 38) (.tmp 37)) rfl ?_); go_must (refine unStop (wpList_stS rfl 112 (.tmp 38) (.tmp 37) rfl (Pg.cells ⟨num, re, rat, ⟨l, A2, l.length⟩⟩) isS_page g (i * 4) rfl rfl rfl HB3.out.blk (bookCells (ps.set i ⟨num, re, rat, ⟨l, A2, l.length⟩⟩) true).toList (by rw [bookCells_size]; have := HI.out; show i * 4 + 4 ≤ _; omega) (by simp [Pg.cells, Value.oneCell']) (book_lay ps true i _ HI.out) ?_)); intro w4 hb4 hk4))
  go_ret
  have hne : blkOf A2 ≠ some g := HO3.out.fresh (by simp; omega)
  have ho : OwnG w4 w.heap.size A2 l.length l := (HO3.out.low (base' := w.heap.size) (by simp)).kp hk4 (fun k hk e => hne (by rw [hk, e]))
  refine ⟨A2, rfl, ⟨by rw [Array.toArray_toList] at hb4; exact hb4, by rw [List.length_set]; exact HB3.out.len, fun j q hq => ?_⟩, ho, (Nw.kp HK3.out).trans hk4 (fun _ _ e => e)⟩
  rw [List.getElem?_set] at hq
  split at hq
  · split at hq
    · injection hq with hq
      subst hq
      exact ⟨ho.rd, h, fun _ => hne⟩
    · cases hq
  · obtain ⟨q1, q2, q3⟩ := HB3.out.each j q hq
    exact ⟨q1.kp hk4 (fun hn k hk e => q3 hn (by rw [hk, e])), q2, q3⟩
set_option maxRecDepth 20000 in
theorem Last_err (A : Option Addr) (c : UInt8) (k : Nat) (hk0 : k = 1 ∨ k = 2) (w : World)
    (hp : Calls Try.prog 96 #[.pointer A, .int .u8 c.toNat] w fun e w' => e = .returned (.tuple #[.pointer none, .int .i64 k]) ∧ w' = w) :
    Calls Try.prog 42 #[.pointer A, .int .u8 c.toNat] w fun e w' => e = .returned (.int .u64 0) ∧ w' = w := by
  have HPg := Lib.hid hp
  clear hp
  have hk1 : ((k : Int) != 0) = true := by rw [bne_iff_ne]; omega
  clear hk0
  go_enter Try.func42, Try.ntmps42
  go_wp2_with (go_at_call 96; go_must (refine HPg.out.mono ?_); rintro e w2 ⟨rfl, rfl⟩)
  go_ret
  exact ⟨rfl, rfl⟩
set_option maxRecDepth 20000 in
theorem Last_ok (g : Nat) (ps : List Pg) (i : Nat) (p : Pg) (hp : ps[i]? = some p) (w : World) (hb : Bk w g ps) :
    Calls Try.prog 42 #[.pointer (some ⟨g, 0, none⟩), .int .u8 ((i + 1 : Nat) : Int)] w fun e w' => e = .returned (.int .u64 p.num.toNat) ∧ w' = w := by
  have hi : i < 8 := by rw [← hb.len]; exact (List.getElem?_eq_some_iff.1 hp).1
  have HPg := Lib.hid (page_ok g ps i w hb hi)
  have c0 : w.cell? ⟨g, i * 4, none⟩ = some (.int .u64 p.num.toNat) := hb.cell hp (j := 0) (by omega)
  replace hp := Lib.hid hp
  clear hb hi
  go_enter Try.func42, Try.ntmps42
  go_wp2_with (go_at_call 96; go_must (refine HPg.out.mono ?_); rintro e w2 ⟨rfl, rfl⟩)
  go_ret
  exact ⟨rfl, rfl⟩
def noPages : List Pg := List.replicate 8 Pg.none
set_option maxRecDepth 20000 in
theorem SNew (w : World) : Calls Try.prog 38 #[] w fun e w' => ∃ g, e = .returned (.pointer (some ⟨g, 0, none⟩)) ∧ w.heap.size ≤ g ∧ Bk w' g noPages ∧ Nw w w' := by
  go_enter Try.func38, Try.ntmps38
  go_wp2
  go_ret
  refine ⟨w.heap.size, rfl, Nat.le_refl _, ⟨Blk.newAt rfl _ _, rfl, fun i p hp => ?_⟩, (Kp.refl _ w).alloc _⟩
  have hp' : p = Pg.none := List.eq_of_mem_replicate (List.mem_of_getElem? hp)
  subst hp'
  exact ⟨Rd.nil _ _, Nat.zero_le _, fun h => absurd h (by simp [Pg.none])⟩
end Go.Proofs.Ytiimdnachgkomaa
