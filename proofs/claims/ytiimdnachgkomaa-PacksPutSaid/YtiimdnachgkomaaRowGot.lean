/- law01's row[Got]: write, writeBehind, stands. -/
import Derived.Test.YtiimdnachgkomaaPage
import Derived.Test.YtiimdnachgkomaaTypes
import Derived.Test.YtiimdnachgkomaaPk3
import Derived.Deep.QuietTactic
import Derived.BigQuiet
import Derived.Test.YtiimdnachgkomaaSame
namespace Go.Proofs.Ytiimdnachgkomaa
open Go Go.RowKit
theorem isS_got_ : IsS Try.prog 93 2 := ⟨⟨_, Try.underlying93, rfl⟩, by kernel_rfl⟩
set_option maxRecDepth 20000 in
set_option maxHeartbeats 1000000 in
theorem rowGot_write (A : Option Addr) (n c : Nat) (m b : Got) (w : World) (h : Row w 93 2 A n c (fun _ => True)) :
    Calls Try.prog 213 #[.agg #[Value.slice A n c, Value.int IntKind.i64 m.x.toInt, Value.int IntKind.i64 m.y.toInt, Value.int IntKind.i64 b.x.toInt, Value.int IntKind.i64 b.y.toInt]] w (WroteR w 93 2 A n c (fun cs => Std cs 2 0 n (m.cells))) := by
  obtain ⟨hnc, hmx, h⟩ := h
  unfold maxLen at hmx
  have HB0 : Hid (Blk (w.alloc (.cells #[Value.slice A n c, Value.int IntKind.i64 m.x.toInt, Value.int IntKind.i64 m.y.toInt, Value.int IntKind.i64 b.x.toInt, Value.int IntKind.i64 b.y.toInt] 182)) w.heap.size 182 #[Value.slice A n c, Value.int IntKind.i64 m.x.toInt, Value.int IntKind.i64 m.y.toInt, Value.int IntKind.i64 b.x.toInt, Value.int IntKind.i64 b.y.toInt]) := Lib.hid (Blk.new _ _ _)
  have HN0 : Hid (Nw w (w.alloc (.cells #[Value.slice A n c, Value.int IntKind.i64 m.x.toInt, Value.int IntKind.i64 m.y.toInt, Value.int IntKind.i64 b.x.toInt, Value.int IntKind.i64 b.y.toInt] 182))) := Lib.hid ((Kp.refl _ w).alloc _)
  rcases h with ⟨rfl, hc0⟩ | ⟨g, cur, rfl, hb, hsz, hp⟩
  · subst hc0
    obtain rfl : n = 0 := by omega
    have e0 : (w.alloc (.cells #[Value.slice none 0 0, Value.int IntKind.i64 m.x.toInt, Value.int IntKind.i64 m.y.toInt, Value.int IntKind.i64 b.x.toInt, Value.int IntKind.i64 b.y.toInt] 182)).cell? ⟨w.heap.size, 0, none⟩ = some (.slice none 0 0) := HB0.out.cell 0
    go_enter Try.func213, Try.ntmps213
    go_wp2_with fail
    generalize (w.alloc (.cells #[Value.slice none 0 0, Value.int IntKind.i64 m.x.toInt, Value.int IntKind.i64 m.y.toInt, Value.int IntKind.i64 b.x.toInt, Value.int IntKind.i64 b.y.toInt] 182)) = w0 at *
    go_loopw [2] (fun i wr => i = .int .i64 0 ∧ wr = w0) (fun _ _ => 0)
    case atStart => exact ⟨rfl, rfl⟩
    case round =>
      obtain ⟨rfl, rfl⟩ := hrel
      go_wp2_with fail
      go_end0
      exact ⟨rfl, ⟨by omega, by simp [maxLen], .inl ⟨rfl, rfl⟩⟩, HN0.out.kp⟩
  · have hg := hb.lt
    have e0 : (w.alloc (.cells #[Value.slice (some ⟨g, 0, none⟩) n c, Value.int IntKind.i64 m.x.toInt, Value.int IntKind.i64 m.y.toInt, Value.int IntKind.i64 b.x.toInt, Value.int IntKind.i64 b.y.toInt] 182)).cell? ⟨w.heap.size, 0, none⟩ = some (.slice (some ⟨g, 0, none⟩) n c) := HB0.out.cell 0
    have HBG := Lib.hid (hb.alloc (.cells #[Value.slice (some ⟨g, 0, none⟩) n c, Value.int IntKind.i64 m.x.toInt, Value.int IntKind.i64 m.y.toInt, Value.int IntKind.i64 b.x.toInt, Value.int IntKind.i64 b.y.toInt] 182))
    have HP := Lib.hid hp
    have HNC := Lib.hid hnc
    clear hb hp
    go_enter Try.func213, Try.ntmps213
    go_wp2_with fail
    generalize (w.alloc (.cells #[Value.slice (some ⟨g, 0, none⟩) n c, Value.int IntKind.i64 m.x.toInt, Value.int IntKind.i64 m.y.toInt, Value.int IntKind.i64 b.x.toInt, Value.int IntKind.i64 b.y.toInt] 182)) = w0 at *
    go_loopw [2] (fun i wr => ∃ (q : Nat) (cs : Array Value), i = .int .i64 q ∧ 0 ≤ q ∧ q ≤ n ∧ Blk wr g 93 cs ∧ cs.size = cur.size ∧ True ∧ Std cs 2 0 q (m.cells) ∧ Kp (fun j => j = g) w0 wr) (fun i _ => n - (intOf i).toNat)
    case atStart => exact ⟨0, cur, rfl, by omega, by omega, HBG.out, rfl, trivial, Std.none _ _ _ _, Kp.refl _ _⟩
    case round =>
      obtain ⟨q, cs, rfl, hq0, hq, hb, hcs, hst0, hst, hk⟩ := hrel
      have hB := HB0.out.kp hk (show ¬ w.heap.size = g by omega)
      have e0 : wr.cell? ⟨w.heap.size, 0, none⟩ = some (.slice (some ⟨g, 0, none⟩) n c) := hB.cell 0
      have HB := Lib.hid hb
      have HBr := Lib.hid hB
      have HK := Lib.hid hk
      have HST := Lib.hid hst
      have HST0 := Lib.hid hst0
      have HCS := Lib.hid hcs
      by_cases hlt : q < n
      · have hd1 : decide ((q : Int) < (n : Int)) = true := decide_eq_true (by omega)
        have hd2 : decide (q < n) = true := decide_eq_true hlt
        have HSz : Hid (q * 2 + 2 ≤ cs.size) := Lib.hid (by have := Nat.mul_le_mul_right 2 (show q + 1 ≤ c by omega); rw [Nat.add_mul] at this; omega)
        clear hb hB hk hst hst0 hcs
        go_wp2_with (first
          | ((with_reducible refine stopAt (.load 93 (.tmp 13)) rfl ?_); go_must (refine unStop (wpList_ldS rfl 93 (.tmp 13) rfl isS_got_ w.heap.size 1 rfl HBr.out m.cells rfl rfl ?_)))
          | ((with_reducible refine stopAt (.store 93 (.tmp 15) (.tmp 14)) rfl ?_); go_must (refine unStop (wpList_stS rfl 93 (.tmp 15) (.tmp 14) rfl m.cells isS_got_ g (q * 2) rfl rfl rfl HB.out (lay cs (q * 2) m.cells) HSz.out (by simp [Value.oneCell', Got.cells, iv]) rfl ?_)); intro w2 hb2 hk2; have HB2 := Lib.hid hb2; have HK2 := Lib.hid hk2; clear hb2 hk2))
        refine ⟨⟨q + 1, (lay cs (q * 2) m.cells).toArray, by go_num, by omega, by omega, HB2.out, by rw [lay_size _ _ _ HSz.out]; exact HCS.out, trivial, HST.out.more rfl HSz.out, HK.out.trans HK2.out (fun _ _ e => e)⟩, ?_⟩
        simp [intOf]
        omega
      · obtain rfl : q = n := by omega
        have hd1 : decide ((q : Int) < (q : Int)) = false := decide_eq_false (by omega)
        clear hb hB hk hst hst0 hcs
        go_wp2_with fail
        go_end0
        refine ⟨rfl, ⟨HNC.out, hmx, .inr ⟨g, cs, rfl, HB.out, by rw [HCS.out]; exact hsz, HST.out⟩⟩, ?_⟩
        exact HN0.out.kp.trans (HK.out.more (S' := fun j => blkOf (some ⟨g, 0, none⟩) = some j) (fun i _ e => by subst e; rfl)) (fun _ _ e => e)
set_option maxRecDepth 20000 in
set_option maxHeartbeats 1000000 in
theorem rowGot_writeBehind (A : Option Addr) (n c : Nat) (m b : Got) (w : World) (h : Row w 93 2 A n c (fun cs => Std cs 2 0 n (m.cells))) :
    Calls Try.prog 214 #[.agg #[Value.slice A n c, Value.int IntKind.i64 m.x.toInt, Value.int IntKind.i64 m.y.toInt, Value.int IntKind.i64 b.x.toInt, Value.int IntKind.i64 b.y.toInt]] w (WroteR w 93 2 A n c (fun cs => Std cs 2 0 n (m.cells) ∧ Std cs 2 n c (b.cells))) := by
  obtain ⟨hnc, hmx, h⟩ := h
  unfold maxLen at hmx
  have HB0 : Hid (Blk (w.alloc (.cells #[Value.slice A n c, Value.int IntKind.i64 m.x.toInt, Value.int IntKind.i64 m.y.toInt, Value.int IntKind.i64 b.x.toInt, Value.int IntKind.i64 b.y.toInt] 182)) w.heap.size 182 #[Value.slice A n c, Value.int IntKind.i64 m.x.toInt, Value.int IntKind.i64 m.y.toInt, Value.int IntKind.i64 b.x.toInt, Value.int IntKind.i64 b.y.toInt]) := Lib.hid (Blk.new _ _ _)
  have HN0 : Hid (Nw w (w.alloc (.cells #[Value.slice A n c, Value.int IntKind.i64 m.x.toInt, Value.int IntKind.i64 m.y.toInt, Value.int IntKind.i64 b.x.toInt, Value.int IntKind.i64 b.y.toInt] 182))) := Lib.hid ((Kp.refl _ w).alloc _)
  rcases h with ⟨rfl, hc0⟩ | ⟨g, cur, rfl, hb, hsz, hp⟩
  · subst hc0
    obtain rfl : n = 0 := by omega
    have e0 : (w.alloc (.cells #[Value.slice none 0 0, Value.int IntKind.i64 m.x.toInt, Value.int IntKind.i64 m.y.toInt, Value.int IntKind.i64 b.x.toInt, Value.int IntKind.i64 b.y.toInt] 182)).cell? ⟨w.heap.size, 0, none⟩ = some (.slice none 0 0) := HB0.out.cell 0
    go_enter Try.func214, Try.ntmps214
    go_wp2_with fail
    generalize (w.alloc (.cells #[Value.slice none 0 0, Value.int IntKind.i64 m.x.toInt, Value.int IntKind.i64 m.y.toInt, Value.int IntKind.i64 b.x.toInt, Value.int IntKind.i64 b.y.toInt] 182)) = w0 at *
    go_loopw [3] (fun i wr => i = .int .i64 0 ∧ wr = w0) (fun _ _ => 0)
    case atStart => exact ⟨rfl, rfl⟩
    case round =>
      obtain ⟨rfl, rfl⟩ := hrel
      go_wp2_with fail
      go_end0
      exact ⟨rfl, ⟨by omega, by simp [maxLen], .inl ⟨rfl, rfl⟩⟩, HN0.out.kp⟩
  · have hg := hb.lt
    have e0 : (w.alloc (.cells #[Value.slice (some ⟨g, 0, none⟩) n c, Value.int IntKind.i64 m.x.toInt, Value.int IntKind.i64 m.y.toInt, Value.int IntKind.i64 b.x.toInt, Value.int IntKind.i64 b.y.toInt] 182)).cell? ⟨w.heap.size, 0, none⟩ = some (.slice (some ⟨g, 0, none⟩) n c) := HB0.out.cell 0
    have HBG := Lib.hid (hb.alloc (.cells #[Value.slice (some ⟨g, 0, none⟩) n c, Value.int IntKind.i64 m.x.toInt, Value.int IntKind.i64 m.y.toInt, Value.int IntKind.i64 b.x.toInt, Value.int IntKind.i64 b.y.toInt] 182))
    have HP := Lib.hid hp
    have HNC := Lib.hid hnc
    clear hb hp
    go_enter Try.func214, Try.ntmps214
    go_wp2_with fail
    generalize (w.alloc (.cells #[Value.slice (some ⟨g, 0, none⟩) n c, Value.int IntKind.i64 m.x.toInt, Value.int IntKind.i64 m.y.toInt, Value.int IntKind.i64 b.x.toInt, Value.int IntKind.i64 b.y.toInt] 182)) = w0 at *
    go_loopw [3] (fun i wr => ∃ (q : Nat) (cs : Array Value), i = .int .i64 q ∧ n ≤ q ∧ q ≤ c ∧ Blk wr g 93 cs ∧ cs.size = cur.size ∧ Std cs 2 0 n (m.cells) ∧ Std cs 2 n q (b.cells) ∧ Kp (fun j => j = g) w0 wr) (fun i _ => c - (intOf i).toNat)
    case atStart => exact ⟨n, cur, rfl, by omega, by omega, HBG.out, rfl, HP.out, Std.none _ _ _ _, Kp.refl _ _⟩
    case round =>
      obtain ⟨q, cs, rfl, hq0, hq, hb, hcs, hst0, hst, hk⟩ := hrel
      have hB := HB0.out.kp hk (show ¬ w.heap.size = g by omega)
      have e0 : wr.cell? ⟨w.heap.size, 0, none⟩ = some (.slice (some ⟨g, 0, none⟩) n c) := hB.cell 0
      have HB := Lib.hid hb
      have HBr := Lib.hid hB
      have HK := Lib.hid hk
      have HST := Lib.hid hst
      have HST0 := Lib.hid hst0
      have HCS := Lib.hid hcs
      by_cases hlt : q < c
      · have hd1 : decide ((q : Int) < (c : Int)) = true := decide_eq_true (by omega)
        have hd2 : decide (q < c) = true := decide_eq_true hlt
        have HSz : Hid (q * 2 + 2 ≤ cs.size) := Lib.hid (by have := Nat.mul_le_mul_right 2 (show q + 1 ≤ c by omega); rw [Nat.add_mul] at this; omega)
        clear hb hB hk hst hst0 hcs
        go_wp2_with (first
          | ((with_reducible refine stopAt (.load 93 (.tmp 21)) rfl ?_); go_must (refine unStop (wpList_ldS rfl 93 (.tmp 21) rfl isS_got_ w.heap.size 3 rfl HBr.out b.cells rfl rfl ?_)))
          | ((with_reducible refine stopAt (.store 93 (.tmp 23) (.tmp 22)) rfl ?_); go_must (refine unStop (wpList_stS rfl 93 (.tmp 23) (.tmp 22) rfl b.cells isS_got_ g (q * 2) rfl rfl rfl HB.out (lay cs (q * 2) b.cells) HSz.out (by simp [Value.oneCell', Got.cells, iv]) rfl ?_)); intro w2 hb2 hk2; have HB2 := Lib.hid hb2; have HK2 := Lib.hid hk2; clear hb2 hk2))
        refine ⟨⟨q + 1, (lay cs (q * 2) b.cells).toArray, by go_num, by omega, by omega, HB2.out, by rw [lay_size _ _ _ HSz.out]; exact HCS.out, HST0.out.keep (by omega) rfl rfl HSz.out, HST.out.more rfl HSz.out, HK.out.trans HK2.out (fun _ _ e => e)⟩, ?_⟩
        simp [intOf]
        omega
      · obtain rfl : q = c := by omega
        have hd1 : decide ((q : Int) < (q : Int)) = false := decide_eq_false (by omega)
        clear hb hB hk hst hst0 hcs
        go_wp2_with fail
        go_end0
        refine ⟨rfl, ⟨HNC.out, hmx, .inr ⟨g, cs, rfl, HB.out, by rw [HCS.out]; exact hsz, ⟨HST0.out, HST.out⟩⟩⟩, ?_⟩
        exact HN0.out.kp.trans (HK.out.more (S' := fun j => blkOf (some ⟨g, 0, none⟩) = some j) (fun i _ e => by subst e; rfl)) (fun _ _ e => e)
set_option maxRecDepth 20000 in
set_option maxHeartbeats 1000000 in
theorem rowGot_stands (A : Option Addr) (n c : Nat) (m b : Got) (w : World) (h : Row w 93 2 A n c (fun cs => Std cs 2 0 n (m.cells) ∧ Std cs 2 n c (b.cells))) :
    Calls Try.prog 212 #[.agg #[Value.slice A n c, Value.int IntKind.i64 m.x.toInt, Value.int IntKind.i64 m.y.toInt, Value.int IntKind.i64 b.x.toInt, Value.int IntKind.i64 b.y.toInt]] w fun e w' => e = .returned (.bool true) ∧ Nw w w' := by
  obtain ⟨hnc, hmx, h⟩ := h
  unfold maxLen at hmx
  have HB0 : Hid (Blk (w.alloc (.cells #[Value.slice A n c, Value.int IntKind.i64 m.x.toInt, Value.int IntKind.i64 m.y.toInt, Value.int IntKind.i64 b.x.toInt, Value.int IntKind.i64 b.y.toInt] 182)) w.heap.size 182 #[Value.slice A n c, Value.int IntKind.i64 m.x.toInt, Value.int IntKind.i64 m.y.toInt, Value.int IntKind.i64 b.x.toInt, Value.int IntKind.i64 b.y.toInt]) := Lib.hid (Blk.new _ _ _)
  have HN0 : Hid (Nw w (w.alloc (.cells #[Value.slice A n c, Value.int IntKind.i64 m.x.toInt, Value.int IntKind.i64 m.y.toInt, Value.int IntKind.i64 b.x.toInt, Value.int IntKind.i64 b.y.toInt] 182))) := Lib.hid ((Kp.refl _ w).alloc _)
  rcases h with ⟨rfl, hc0⟩ | ⟨g, cur, rfl, hb, hsz, hp⟩
  · subst hc0
    obtain rfl : n = 0 := by omega
    have e0 : (w.alloc (.cells #[Value.slice none 0 0, Value.int IntKind.i64 m.x.toInt, Value.int IntKind.i64 m.y.toInt, Value.int IntKind.i64 b.x.toInt, Value.int IntKind.i64 b.y.toInt] 182)).cell? ⟨w.heap.size, 0, none⟩ = some (.slice none 0 0) := HB0.out.cell 0
    go_enter Try.func212, Try.ntmps212
    go_wp2_with fail
    generalize (w.alloc (.cells #[Value.slice none 0 0, Value.int IntKind.i64 m.x.toInt, Value.int IntKind.i64 m.y.toInt, Value.int IntKind.i64 b.x.toInt, Value.int IntKind.i64 b.y.toInt] 182)) = w0 at *
    go_loopw [4] (fun i wr => i = .int .i64 0 ∧ wr = w0) (fun _ _ => 0)
    case atStart => exact ⟨rfl, rfl⟩
    case round =>
      obtain ⟨rfl, rfl⟩ := hrel
      go_wp2_with fail
      go_ret
      exact ⟨rfl, HN0.out⟩
  · have hg := hb.lt
    have e0 : (w.alloc (.cells #[Value.slice (some ⟨g, 0, none⟩) n c, Value.int IntKind.i64 m.x.toInt, Value.int IntKind.i64 m.y.toInt, Value.int IntKind.i64 b.x.toInt, Value.int IntKind.i64 b.y.toInt] 182)).cell? ⟨w.heap.size, 0, none⟩ = some (.slice (some ⟨g, 0, none⟩) n c) := HB0.out.cell 0
    have HBG := Lib.hid (hb.alloc (.cells #[Value.slice (some ⟨g, 0, none⟩) n c, Value.int IntKind.i64 m.x.toInt, Value.int IntKind.i64 m.y.toInt, Value.int IntKind.i64 b.x.toInt, Value.int IntKind.i64 b.y.toInt] 182))
    have HP := Lib.hid hp
    clear hb hp
    go_enter Try.func212, Try.ntmps212
    go_wp2_with fail
    generalize (w.alloc (.cells #[Value.slice (some ⟨g, 0, none⟩) n c, Value.int IntKind.i64 m.x.toInt, Value.int IntKind.i64 m.y.toInt, Value.int IntKind.i64 b.x.toInt, Value.int IntKind.i64 b.y.toInt] 182)) = w0 at *
    go_loopw [4] (fun i wr => ∃ q : Nat, i = .int .i64 q ∧ q ≤ c ∧ Nw w0 wr) (fun i _ => c - (intOf i).toNat)
    case atStart => exact ⟨0, rfl, by omega, Kp.refl _ _⟩
    case round =>
      obtain ⟨q, rfl, hq, hk⟩ := hrel
      have hB := HB0.out.nw hk
      have hb := HBG.out.nw hk
      have e0 : wr.cell? ⟨w.heap.size, 0, none⟩ = some (.slice (some ⟨g, 0, none⟩) n c) := hB.cell 0
      have HK := Lib.hid hk
      by_cases hlt : q < c
      · have hd1 : decide ((q : Int) < (c : Int)) = true := decide_eq_true (by omega)
        have hd2 : decide (q < c) = true := decide_eq_true hlt
        by_cases hn : q < n
        · have hd3 : decide ((q : Int) < (n : Int)) = true := decide_eq_true (by omega)
          have hd4 : decide (q < n) = true := decide_eq_true (by omega)
          have hd5 : decide ((n : Int) ≤ (q : Int)) = false := decide_eq_false (by omega)
          have hd6 : decide (n ≤ q) = false := decide_eq_false (by omega)
          have r0 : wr.cell? ⟨w.heap.size, 1, none⟩ = some (iv m.x) := hB.cell 1
          have s0 : wr.cell? ⟨g, q * 2, none⟩ = some (iv m.x) := by rw [hb.cell]; have := HP.out.1 q (by omega) hn 0 _ rfl; simpa using this
          have r1 : wr.cell? ⟨w.heap.size, 2, none⟩ = some (iv m.y) := hB.cell 2
          have s1 : wr.cell? ⟨g, q * 2 + 1, none⟩ = some (iv m.y) := by rw [hb.cell]; have := HP.out.1 q (by omega) hn 1 _ rfl; simpa using this
          clear hb hB hk
          go_wp2_with fail
          go_quiet (fail)
          go_wp2_with fail
          exact ⟨⟨q + 1, by go_num, by omega, HK.out.drewN _⟩, by
            simp [intOf]
            omega⟩
        · have hd3 : decide ((q : Int) < (n : Int)) = false := decide_eq_false (by omega)
          have hd4 : decide (q < n) = false := decide_eq_false (by omega)
          have hd5 : decide ((n : Int) ≤ (q : Int)) = true := decide_eq_true (by omega)
          have hd6 : decide (n ≤ q) = true := decide_eq_true (by omega)
          have r0 : wr.cell? ⟨w.heap.size, 3, none⟩ = some (iv b.x) := hB.cell 3
          have s0 : wr.cell? ⟨g, q * 2, none⟩ = some (iv b.x) := by rw [hb.cell]; have := HP.out.2 q (by omega) hlt 0 _ rfl; simpa using this
          have r1 : wr.cell? ⟨w.heap.size, 4, none⟩ = some (iv b.y) := hB.cell 4
          have s1 : wr.cell? ⟨g, q * 2 + 1, none⟩ = some (iv b.y) := by rw [hb.cell]; have := HP.out.2 q (by omega) hlt 1 _ rfl; simpa using this
          clear hb hB hk
          go_wp2_with fail
          go_quiet (fail)
          go_wp2_with fail
          exact ⟨⟨q + 1, by go_num, by omega, HK.out.drewN _⟩, by
            simp [intOf]
            omega⟩
      · have hd1 : decide ((q : Int) < (c : Int)) = false := decide_eq_false (by omega)
        have hd2 : decide (q < c) = false := decide_eq_false hlt
        clear hb hB hk
        go_wp2_with fail
        go_ret
        exact ⟨rfl, HN0.out.trans HK.out (fun _ _ e => e)⟩
end Go.Proofs.Ytiimdnachgkomaa
