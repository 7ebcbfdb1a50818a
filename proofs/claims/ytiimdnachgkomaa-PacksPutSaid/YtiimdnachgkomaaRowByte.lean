/- law01's row[Byte]: write, writeBehind, stands. -/
import Derived.Test.YtiimdnachgkomaaPage
import Derived.Test.YtiimdnachgkomaaTypes
import Derived.Test.YtiimdnachgkomaaPk3
import Derived.Deep.QuietTactic
import Derived.BigQuiet
import Derived.Test.YtiimdnachgkomaaSame
namespace Go.Proofs.Ytiimdnachgkomaa
open Go Go.RowKit
set_option maxRecDepth 20000 in
set_option maxHeartbeats 1000000 in
theorem rowByte_write (A : Option Addr) (n c : Nat) (m b : UInt8) (w : World) (h : Row w 5 1 A n c (fun _ => True)) :
    Calls Try.prog 236 #[.agg #[Value.slice A n c, Value.int IntKind.u8 m.toNat, Value.int IntKind.u8 b.toNat]] w (WroteR w 5 1 A n c (fun cs => Std cs 1 0 n ([bv m]))) := by
  obtain ⟨hnc, hmx, h⟩ := h
  unfold maxLen at hmx
  have HB0 : Hid (Blk (w.alloc (.cells #[Value.slice A n c, Value.int IntKind.u8 m.toNat, Value.int IntKind.u8 b.toNat] 205)) w.heap.size 205 #[Value.slice A n c, Value.int IntKind.u8 m.toNat, Value.int IntKind.u8 b.toNat]) := Lib.hid (Blk.new _ _ _)
  have HN0 : Hid (Nw w (w.alloc (.cells #[Value.slice A n c, Value.int IntKind.u8 m.toNat, Value.int IntKind.u8 b.toNat] 205))) := Lib.hid ((Kp.refl _ w).alloc _)
  rcases h with ⟨rfl, hc0⟩ | ⟨g, cur, rfl, hb, hsz, hp⟩
  · subst hc0
    obtain rfl : n = 0 := by omega
    have e0 : (w.alloc (.cells #[Value.slice none 0 0, Value.int IntKind.u8 m.toNat, Value.int IntKind.u8 b.toNat] 205)).cell? ⟨w.heap.size, 0, none⟩ = some (.slice none 0 0) := HB0.out.cell 0
    go_enter Try.func236, Try.ntmps236
    go_wp2_with fail
    generalize (w.alloc (.cells #[Value.slice none 0 0, Value.int IntKind.u8 m.toNat, Value.int IntKind.u8 b.toNat] 205)) = w0 at *
    go_loopw [2] (fun i wr => i = .int .i64 0 ∧ wr = w0) (fun _ _ => 0)
    case atStart => exact ⟨rfl, rfl⟩
    case round =>
      obtain ⟨rfl, rfl⟩ := hrel
      go_wp2_with fail
      go_end0
      exact ⟨rfl, ⟨by omega, by simp [maxLen], .inl ⟨rfl, rfl⟩⟩, HN0.out.kp⟩
  · have hg := hb.lt
    have e0 : (w.alloc (.cells #[Value.slice (some ⟨g, 0, none⟩) n c, Value.int IntKind.u8 m.toNat, Value.int IntKind.u8 b.toNat] 205)).cell? ⟨w.heap.size, 0, none⟩ = some (.slice (some ⟨g, 0, none⟩) n c) := HB0.out.cell 0
    have HBG := Lib.hid (hb.alloc (.cells #[Value.slice (some ⟨g, 0, none⟩) n c, Value.int IntKind.u8 m.toNat, Value.int IntKind.u8 b.toNat] 205))
    have HP := Lib.hid hp
    have HNC := Lib.hid hnc
    clear hb hp
    go_enter Try.func236, Try.ntmps236
    go_wp2_with fail
    generalize (w.alloc (.cells #[Value.slice (some ⟨g, 0, none⟩) n c, Value.int IntKind.u8 m.toNat, Value.int IntKind.u8 b.toNat] 205)) = w0 at *
    go_loopw [2] (fun i wr => ∃ (q : Nat) (cs : Array Value), i = .int .i64 q ∧ 0 ≤ q ∧ q ≤ n ∧ Blk wr g 5 cs ∧ cs.size = cur.size ∧ True ∧ Std cs 1 0 q ([bv m]) ∧ Kp (fun j => j = g) w0 wr) (fun i _ => n - (intOf i).toNat)
    case atStart => exact ⟨0, cur, rfl, by omega, by omega, HBG.out, rfl, trivial, Std.none _ _ _ _, Kp.refl _ _⟩
    case round =>
      obtain ⟨q, cs, rfl, hq0, hq, hb, hcs, hst0, hst, hk⟩ := hrel
      have hB := HB0.out.kp hk (show ¬ w.heap.size = g by omega)
      have e0 : wr.cell? ⟨w.heap.size, 0, none⟩ = some (.slice (some ⟨g, 0, none⟩) n c) := hB.cell 0
      have HB := Lib.hid hb
      have HBr := Lib.hid hB
      have HK := Lib.hid hk
      have HST := Lib.hid hst
      have HST0 := Lib.hid hst0
      have HCS := Lib.hid hcs
      by_cases hlt : q < n
      · have hd1 : decide ((q : Int) < (n : Int)) = true := decide_eq_true (by omega)
        have hd2 : decide (q < n) = true := decide_eq_true hlt
        have HSz : Hid (q * 1 + 1 ≤ cs.size) := Lib.hid (by have := Nat.mul_le_mul_right 1 (show q + 1 ≤ c by omega); rw [Nat.add_mul] at this; omega)
        have hv : wr.cell? ⟨w.heap.size, 1, none⟩ = some (bv m) := hB.cell 1
        have hc1 : wr.cell? ⟨g, q, none⟩ = cs[q]? := hb.cell q
        obtain ⟨old, hold⟩ : ∃ old, cs[q]? = some old := ⟨_, Array.getElem?_eq_getElem (by have := HSz.out; omega)⟩
        rw [hold] at hc1
        have hf1 : wr.frozen? ⟨g, q, none⟩ = false := hb.free q
        clear hb hB hk hst hst0 hcs hold
        go_wp2_with fail
        refine ⟨⟨q + 1, (lay cs (q * 1) [bv m]).toArray, by go_num, by omega, by omega, ?_, by rw [lay_size _ _ _ (by have := HSz.out; simpa using this)]; exact HCS.out, trivial, HST.out.more rfl HSz.out, HK.out.setCell (p := ⟨g, q, none⟩) (fun _ => rfl) _⟩, ?_⟩
        · rw [Nat.mul_one, lay_one cs q _ (by have := HSz.out; omega)]
          exact HB.out.set_ q (bv m)
        simp [intOf]
        omega
      · obtain rfl : q = n := by omega
        have hd1 : decide ((q : Int) < (q : Int)) = false := decide_eq_false (by omega)
        clear hb hB hk hst hst0 hcs
        go_wp2_with fail
        go_end0
        refine ⟨rfl, ⟨HNC.out, hmx, .inr ⟨g, cs, rfl, HB.out, by rw [HCS.out]; exact hsz, HST.out⟩⟩, ?_⟩
        exact HN0.out.kp.trans (HK.out.more (S' := fun j => blkOf (some ⟨g, 0, none⟩) = some j) (fun i _ e => by subst e; rfl)) (fun _ _ e => e)
set_option maxRecDepth 20000 in
set_option maxHeartbeats 1000000 in
theorem rowByte_writeBehind (A : Option Addr) (n c : Nat) (m b : UInt8) (w : World) (h : Row w 5 1 A n c (fun cs => Std cs 1 0 n ([bv m]))) :
    Calls Try.prog 237 #[.agg #[Value.slice A n c, Value.int IntKind.u8 m.toNat, Value.int IntKind.u8 b.toNat]] w (WroteR w 5 1 A n c (fun cs => Std cs 1 0 n ([bv m]) ∧ Std cs 1 n c ([bv b]))) := by
  obtain ⟨hnc, hmx, h⟩ := h
  unfold maxLen at hmx
  have HB0 : Hid (Blk (w.alloc (.cells #[Value.slice A n c, Value.int IntKind.u8 m.toNat, Value.int IntKind.u8 b.toNat] 205)) w.heap.size 205 #[Value.slice A n c, Value.int IntKind.u8 m.toNat, Value.int IntKind.u8 b.toNat]) := Lib.hid (Blk.new _ _ _)
  have HN0 : Hid (Nw w (w.alloc (.cells #[Value.slice A n c, Value.int IntKind.u8 m.toNat, Value.int IntKind.u8 b.toNat] 205))) := Lib.hid ((Kp.refl _ w).alloc _)
  rcases h with ⟨rfl, hc0⟩ | ⟨g, cur, rfl, hb, hsz, hp⟩
  · subst hc0
    obtain rfl : n = 0 := by omega
    have e0 : (w.alloc (.cells #[Value.slice none 0 0, Value.int IntKind.u8 m.toNat, Value.int IntKind.u8 b.toNat] 205)).cell? ⟨w.heap.size, 0, none⟩ = some (.slice none 0 0) := HB0.out.cell 0
    go_enter Try.func237, Try.ntmps237
    go_wp2_with fail
    generalize (w.alloc (.cells #[Value.slice none 0 0, Value.int IntKind.u8 m.toNat, Value.int IntKind.u8 b.toNat] 205)) = w0 at *
    go_loopw [3] (fun i wr => i = .int .i64 0 ∧ wr = w0) (fun _ _ => 0)
    case atStart => exact ⟨rfl, rfl⟩
    case round =>
      obtain ⟨rfl, rfl⟩ := hrel
      go_wp2_with fail
      go_end0
      exact ⟨rfl, ⟨by omega, by simp [maxLen], .inl ⟨rfl, rfl⟩⟩, HN0.out.kp⟩
  · have hg := hb.lt
    have e0 : (w.alloc (.cells #[Value.slice (some ⟨g, 0, none⟩) n c, Value.int IntKind.u8 m.toNat, Value.int IntKind.u8 b.toNat] 205)).cell? ⟨w.heap.size, 0, none⟩ = some (.slice (some ⟨g, 0, none⟩) n c) := HB0.out.cell 0
    have HBG := Lib.hid (hb.alloc (.cells #[Value.slice (some ⟨g, 0, none⟩) n c, Value.int IntKind.u8 m.toNat, Value.int IntKind.u8 b.toNat] 205))
    have HP := Lib.hid hp
    have HNC := Lib.hid hnc
    clear hb hp
    go_enter Try.func237, Try.ntmps237
    go_wp2_with fail
    generalize (w.alloc (.cells #[Value.slice (some ⟨g, 0, none⟩) n c, Value.int IntKind.u8 m.toNat, Value.int IntKind.u8 b.toNat] 205)) = w0 at *
    go_loopw [3] (fun i wr => ∃ (q : Nat) (cs : Array Value), i = .int .i64 q ∧ n ≤ q ∧ q ≤ c ∧ Blk wr g 5 cs ∧ cs.size = cur.size ∧ Std cs 1 0 n ([bv m]) ∧ Std cs 1 n q ([bv b]) ∧ Kp (fun j => j = g) w0 wr) (fun i _ => c - (intOf i).toNat)
    case atStart => exact ⟨n, cur, rfl, by omega, by omega, HBG.out, rfl, HP.out, Std.none _ _ _ _, Kp.refl _ _⟩
    case round =>
      obtain ⟨q, cs, rfl, hq0, hq, hb, hcs, hst0, hst, hk⟩ := hrel
      have hB := HB0.out.kp hk (show ¬ w.heap.size = g by omega)
      have e0 : wr.cell? ⟨w.heap.size, 0, none⟩ = some (.slice (some ⟨g, 0, none⟩) n c) := hB.cell 0
      have HB := Lib.hid hb
      have HBr := Lib.hid hB
      have HK := Lib.hid hk
      have HST := Lib.hid hst
      have HST0 := Lib.hid hst0
      have HCS := Lib.hid hcs
      by_cases hlt : q < c
      · have hd1 : decide ((q : Int) < (c : Int)) = true := decide_eq_true (by omega)
        have hd2 : decide (q < c) = true := decide_eq_true hlt
        have HSz : Hid (q * 1 + 1 ≤ cs.size) := Lib.hid (by have := Nat.mul_le_mul_right 1 (show q + 1 ≤ c by omega); rw [Nat.add_mul] at this; omega)
        have hv : wr.cell? ⟨w.heap.size, 2, none⟩ = some (bv b) := hB.cell 2
        have hc1 : wr.cell? ⟨g, q, none⟩ = cs[q]? := hb.cell q
        obtain ⟨old, hold⟩ : ∃ old, cs[q]? = some old := ⟨_, Array.getElem?_eq_getElem (by have := HSz.out; omega)⟩
        rw [hold] at hc1
        have hf1 : wr.frozen? ⟨g, q, none⟩ = false := hb.free q
        clear hb hB hk hst hst0 hcs hold
        go_wp2_with fail
        refine ⟨⟨q + 1, (lay cs (q * 1) [bv b]).toArray, by go_num, by omega, by omega, ?_, by rw [lay_size _ _ _ (by have := HSz.out; simpa using this)]; exact HCS.out, HST0.out.keep (by omega) rfl rfl HSz.out, HST.out.more rfl HSz.out, HK.out.setCell (p := ⟨g, q, none⟩) (fun _ => rfl) _⟩, ?_⟩
        · rw [Nat.mul_one, lay_one cs q _ (by have := HSz.out; omega)]
          exact HB.out.set_ q (bv b)
        simp [intOf]
        omega
      · obtain rfl : q = c := by omega
        have hd1 : decide ((q : Int) < (q : Int)) = false := decide_eq_false (by omega)
        clear hb hB hk hst hst0 hcs
        go_wp2_with fail
        go_end0
        refine ⟨rfl, ⟨HNC.out, hmx, .inr ⟨g, cs, rfl, HB.out, by rw [HCS.out]; exact hsz, ⟨HST0.out, HST.out⟩⟩⟩, ?_⟩
        exact HN0.out.kp.trans (HK.out.more (S' := fun j => blkOf (some ⟨g, 0, none⟩) = some j) (fun i _ e => by subst e; rfl)) (fun _ _ e => e)
set_option maxRecDepth 20000 in
set_option maxHeartbeats 1000000 in
theorem rowByte_stands (A : Option Addr) (n c : Nat) (m b : UInt8) (w : World) (h : Row w 5 1 A n c (fun cs => Std cs 1 0 n ([bv m]) ∧ Std cs 1 n c ([bv b]))) :
    Calls Try.prog 235 #[.agg #[Value.slice A n c, Value.int IntKind.u8 m.toNat, Value.int IntKind.u8 b.toNat]] w fun e w' => e = .returned (.bool true) ∧ Nw w w' := by
  obtain ⟨hnc, hmx, h⟩ := h
  unfold maxLen at hmx
  have HB0 : Hid (Blk (w.alloc (.cells #[Value.slice A n c, Value.int IntKind.u8 m.toNat, Value.int IntKind.u8 b.toNat] 205)) w.heap.size 205 #[Value.slice A n c, Value.int IntKind.u8 m.toNat, Value.int IntKind.u8 b.toNat]) := Lib.hid (Blk.new _ _ _)
  have HN0 : Hid (Nw w (w.alloc (.cells #[Value.slice A n c, Value.int IntKind.u8 m.toNat, Value.int IntKind.u8 b.toNat] 205))) := Lib.hid ((Kp.refl _ w).alloc _)
  rcases h with ⟨rfl, hc0⟩ | ⟨g, cur, rfl, hb, hsz, hp⟩
  · subst hc0
    obtain rfl : n = 0 := by omega
    have e0 : (w.alloc (.cells #[Value.slice none 0 0, Value.int IntKind.u8 m.toNat, Value.int IntKind.u8 b.toNat] 205)).cell? ⟨w.heap.size, 0, none⟩ = some (.slice none 0 0) := HB0.out.cell 0
    go_enter Try.func235, Try.ntmps235
    go_wp2_with fail
    generalize (w.alloc (.cells #[Value.slice none 0 0, Value.int IntKind.u8 m.toNat, Value.int IntKind.u8 b.toNat] 205)) = w0 at *
    go_loopw [4] (fun i wr => i = .int .i64 0 ∧ wr = w0) (fun _ _ => 0)
    case atStart => exact ⟨rfl, rfl⟩
    case round =>
      obtain ⟨rfl, rfl⟩ := hrel
      go_wp2_with fail
      go_ret
      exact ⟨rfl, HN0.out⟩
  · have hg := hb.lt
    have e0 : (w.alloc (.cells #[Value.slice (some ⟨g, 0, none⟩) n c, Value.int IntKind.u8 m.toNat, Value.int IntKind.u8 b.toNat] 205)).cell? ⟨w.heap.size, 0, none⟩ = some (.slice (some ⟨g, 0, none⟩) n c) := HB0.out.cell 0
    have HBG := Lib.hid (hb.alloc (.cells #[Value.slice (some ⟨g, 0, none⟩) n c, Value.int IntKind.u8 m.toNat, Value.int IntKind.u8 b.toNat] 205))
    have HP := Lib.hid hp
    clear hb hp
    go_enter Try.func235, Try.ntmps235
    go_wp2_with fail
    generalize (w.alloc (.cells #[Value.slice (some ⟨g, 0, none⟩) n c, Value.int IntKind.u8 m.toNat, Value.int IntKind.u8 b.toNat] 205)) = w0 at *
    go_loopw [4] (fun i wr => ∃ q : Nat, i = .int .i64 q ∧ q ≤ c ∧ Nw w0 wr) (fun i _ => c - (intOf i).toNat)
    case atStart => exact ⟨0, rfl, by omega, Kp.refl _ _⟩
    case round =>
      obtain ⟨q, rfl, hq, hk⟩ := hrel
      have hB := HB0.out.nw hk
      have hb := HBG.out.nw hk
      have e0 : wr.cell? ⟨w.heap.size, 0, none⟩ = some (.slice (some ⟨g, 0, none⟩) n c) := hB.cell 0
      have HK := Lib.hid hk
      by_cases hlt : q < c
      · have hd1 : decide ((q : Int) < (c : Int)) = true := decide_eq_true (by omega)
        have hd2 : decide (q < c) = true := decide_eq_true hlt
        by_cases hn : q < n
        · have hd3 : decide ((q : Int) < (n : Int)) = true := decide_eq_true (by omega)
          have hd4 : decide (q < n) = true := decide_eq_true (by omega)
          have hd5 : decide ((n : Int) ≤ (q : Int)) = false := decide_eq_false (by omega)
          have hd6 : decide (n ≤ q) = false := decide_eq_false (by omega)
          have r0 : wr.cell? ⟨w.heap.size, 1, none⟩ = some (bv m) := hB.cell 1
          have s0 : wr.cell? ⟨g, q, none⟩ = some (bv m) := by rw [hb.cell]; have := HP.out.1 q (by omega) hn 0 _ rfl; simpa using this
          clear hb hB hk
          go_wp2_with fail
          go_quiet (fail)
          go_wp2_with fail
          exact ⟨⟨q + 1, by go_num, by omega, HK.out.drewN _⟩, by
            simp [intOf]
            omega⟩
        · have hd3 : decide ((q : Int) < (n : Int)) = false := decide_eq_false (by omega)
          have hd4 : decide (q < n) = false := decide_eq_false (by omega)
          have hd5 : decide ((n : Int) ≤ (q : Int)) = true := decide_eq_true (by omega)
          have hd6 : decide (n ≤ q) = true := decide_eq_true (by omega)
          have r0 : wr.cell? ⟨w.heap.size, 2, none⟩ = some (bv b) := hB.cell 2
          have s0 : wr.cell? ⟨g, q, none⟩ = some (bv b) := by rw [hb.cell]; have := HP.out.2 q (by omega) hlt 0 _ rfl; simpa using this
          clear hb hB hk
          go_wp2_with fail
          go_quiet (fail)
          go_wp2_with fail
          exact ⟨⟨q + 1, by go_num, by omega, HK.out.drewN _⟩, by
            simp [intOf]
            omega⟩
      · have hd1 : decide ((q : Int) < (c : Int)) = false := decide_eq_false (by omega)
        have hd2 : decide (q < c) = false := decide_eq_false hlt
        clear hb hB hk
        go_wp2_with fail
        go_ret
        exact ⟨rfl, HN0.out.trans HK.out (fun _ _ e => e)⟩
end Go.Proofs.Ytiimdnachgkomaa
