/- The document's book of sessions: what a client is; the book in memory; Ask. -/
import Derived.Test.YtiimdnachgkomaaSess3
import Derived.Test.YtiimdnachgkomaaRead25
import Derived.Test.YtiimdnachgkomaaStill
namespace Go.Proofs.Ytiimdnachgkomaa
open Go Go.RowKit
/-- Is a client one? -/
def isCl (c : UInt8) : Bool := decide (1 ≤ c.toNat ∧ c.toNat ≤ 8)
set_option maxRecDepth 20000 in
theorem Is25 (c : UInt8) (w : World) :
    Calls Try.prog 41 #[.int .u8 c.toNat] w fun e w' => e = .returned (.bool (isCl c)) ∧ w' = w := by
  by_cases h1 : 1 ≤ c.toNat
  · have t1 : decide ((1 : Int) ≤ (c.toNat : Int)) = true := decide_eq_true (by omega)
    by_cases h8 : c.toNat ≤ 8
    · have t2 : decide ((c.toNat : Int) ≤ 8) = true := decide_eq_true (by omega)
      have he : Hid (isCl c = true) := Lib.hid (decide_eq_true ⟨h1, h8⟩)
      clear h1 h8
      go_enter Try.func41, Try.ntmps41
      go_wp2_with fail
      go_ret
      exact ⟨by rw [he.out]; rfl, rfl⟩
    · have t2 : decide ((c.toNat : Int) ≤ 8) = false := decide_eq_false (by omega)
      have he : Hid (isCl c = false) := Lib.hid (decide_eq_false (fun h => h8 h.2))
      clear h1 h8
      go_enter Try.func41, Try.ntmps41
      go_wp2_with fail
      go_ret
      exact ⟨by rw [he.out]; rfl, rfl⟩
  · have t1 : decide ((1 : Int) ≤ (c.toNat : Int)) = false := decide_eq_false (by omega)
    have he : Hid (isCl c = false) := Lib.hid (decide_eq_false (fun h => h1 h.1))
    clear h1
    go_enter Try.func41, Try.ntmps41
    go_wp2_with fail
    go_ret
    exact ⟨by rw [he.out]; rfl, rfl⟩
/-- The cells of the document's book: nine numbers, nine replies. -/
def rbCells (ns : List UInt64) (rs : List RepV) : Array Value := (ns.map (fun n => Value.int .u64 n.toNat) ++ rs.flatMap RepV.cells).toArray
structure RBk (w : World) (g : Nat) (ns : List UInt64) (rs : List RepV) : Prop where
  blk : Blk w g 88 (rbCells ns rs)
  nl : ns.length = 9
  rl : rs.length = 9
  each : ∀ (i : Nat) (r : RepV), rs[i]? = some r → RdG w r.got.A r.got.c r.got.l ∧ r.got.l.length ≤ 8 ∧ (0 < r.got.l.length → blkOf r.got.A ≠ some g)
theorem RBk.num {w : World} {g : Nat} {ns : List UInt64} {rs : List RepV} (h : RBk w g ns rs) {i : Nat} {n : UInt64} (hn : ns[i]? = some n) : w.cell? ⟨g, i, none⟩ = some (.int .u64 n.toNat) := by
  rw [h.blk.cell]
  unfold rbCells
  have hi := (List.getElem?_eq_some_iff.1 hn).1
  simp [List.getElem?_append_left (show i < (ns.map (fun n => Value.int .u64 n.toNat)).length by simpa using hi), hn]
theorem RBk.rep {w : World} {g : Nat} {ns : List UInt64} {rs : List RepV} (h : RBk w g ns rs) {i : Nat} {r : RepV} (hr : rs[i]? = some r) {j : Nat} (hj : j < 3) : w.cell? ⟨g, 9 + i * 3 + j, none⟩ = r.cells[j]? := by
  rw [h.blk.cell]
  unfold rbCells
  have e := flat_at RepV.cells 3 (fun _ => rfl) rs i j r hr hj
  rw [← e]
  have hl : (ns.map (fun n => Value.int .u64 n.toNat)).length = 9 := by rw [List.length_map, h.nl]
  rw [List.getElem?_toArray, List.getElem?_append_right (by omega), hl]
  congr 1
  omega
theorem RBk.nw {w w' : World} {g : Nat} {ns : List UInt64} {rs : List RepV} (h : RBk w g ns rs) (hk : Nw w w') : RBk w' g ns rs :=
  ⟨h.blk.nw hk, h.nl, h.rl, fun i r hr => ⟨(h.each i r hr).1.nw hk, (h.each i r hr).2⟩⟩
/-- The document's answer of nobody. -/
def RAskSmall (w : World) (k : Nat) (e : Ending) (w' : World) : Prop := e = .returned (.tuple #[.agg #[.int .i64 0, .int .i64 0, .slice none 0 0], .bool false, .int .i64 k]) ∧ Nw w w'
set_option maxRecDepth 20000 in
set_option maxHeartbeats 400000 in
theorem RAsk_err (A : Option Addr) (c : UInt8) (num : Int) (w : World) (h : isCl c = false) :
    Calls Try.prog 44 #[.pointer A, .int .u8 c.toNat, .int .u64 num] w (RAskSmall w 1) := by
  have HI := Lib.hid (Is25 c (w.alloc (.cells #[.int .i64 0, .int .i64 0, .slice none 0 0] 34)))
  rw [h] at HI
  have hbN : Blk (w.alloc (.cells #[.int .i64 0, .int .i64 0, .slice none 0 0] 34)) w.heap.size 34 #[.int .i64 0, .int .i64 0, .slice none 0 0] := Blk.new _ _ _
  clear h
  go_enter Try.func44, Try.ntmps44
  go_wp2_with (first
    | (go_at_call 41; go_must (refine HI.out.mono ?_); rintro e w2 ⟨rfl, rfl⟩)
    | ((with_reducible refine stopAt (.store 34 (.tmp 6) (.tmp 12)) rfl ?_); go_must (refine unStop (wpList_stS rfl 34 (.tmp 6) (.tmp 12) rfl [.int .i64 0, .int .i64 0, .slice none 0 0] sS_reply w.heap.size 0 rfl rfl rfl hbN [.int .i64 0, .int .i64 0, .slice none 0 0] (by simp) (by simp [Value.oneCell']) rfl ?_)); intro w3 hb3 hk3))
  exact bodyPost_ret (res_ctt rfl sS_reply _ rfl hb3 [.int .i64 0, .int .i64 0, .slice none 0 0] rfl rfl) rfl ⟨rfl, ((Kp.refl _ w).alloc _).trans hk3 (fun i hi e => by omega)⟩
set_option maxRecDepth 20000 in
set_option maxHeartbeats 1000000 in
theorem RAsk_new (g : Nat) (ns : List UInt64) (rs : List RepV) (c : UInt8) (num n : UInt64) (w : World) (hb : RBk w g ns rs) (h : isCl c = true) (hn : ns[c.toNat]? = some n) (hlt : n.toNat < num.toNat) :
    Calls Try.prog 44 #[.pointer (some ⟨g, 0, none⟩), .int .u8 c.toNat, .int .u64 num.toNat] w (RAskSmall w 0) := by
  have HI := Lib.hid (Is25 c (w.alloc (.cells #[.int .i64 0, .int .i64 0, .slice none 0 0] 34)))
  rw [h] at HI
  have hc8 : c.toNat ≤ 8 := (of_decide_eq_true h).2
  have hci : (c.toNat : Int) ≤ 8 := by omega
  have hg := hb.blk.lt
  have c0 := hb.num hn
  have t1 : decide ((n.toNat : Int) < (num.toNat : Int)) = true := decide_eq_true (by omega)
  have t2 : decide (n.toNat < num.toNat) = true := decide_eq_true hlt
  have hbN : Blk (w.alloc (.cells #[.int .i64 0, .int .i64 0, .slice none 0 0] 34)) w.heap.size 34 #[.int .i64 0, .int .i64 0, .slice none 0 0] := Blk.new _ _ _
  have z0 := Nw.cell ((Kp.refl _ w).alloc (.cells #[.int .i64 0, .int .i64 0, .slice none 0 0] 34)) c0
  clear h hb hn hlt hc8
  go_enter Try.func44, Try.ntmps44
  go_wp2_with (first
    | (go_at_call 41; go_must (refine HI.out.mono ?_); rintro e w2 ⟨rfl, rfl⟩)
    | ((with_reducible refine stopAt (.store 34 (.tmp 6) (.tmp 21)) rfl ?_); go_must (refine unStop (wpList_stS rfl 34 (.tmp 6) (.tmp 21) rfl [.int .i64 0, .int .i64 0, .slice none 0 0] sS_reply w.heap.size 0 rfl rfl rfl hbN [.int .i64 0, .int .i64 0, .slice none 0 0] (by simp) (by simp [Value.oneCell']) rfl ?_)); intro w3 hb3 hk3))
  exact bodyPost_ret (res_ctt rfl sS_reply _ rfl hb3 [.int .i64 0, .int .i64 0, .slice none 0 0] rfl rfl) rfl ⟨rfl, ((Kp.refl _ w).alloc _).trans hk3 (fun i hi e => by omega)⟩
set_option maxRecDepth 20000 in
set_option maxHeartbeats 1000000 in
theorem RAsk_old (g : Nat) (ns : List UInt64) (rs : List RepV) (c : UInt8) (num n : UInt64) (w : World) (hb : RBk w g ns rs) (h : isCl c = true) (hn : ns[c.toNat]? = some n) (hlt : num.toNat < n.toNat ∨ (num.toNat = n.toNat ∧ num.toNat = 0)) :
    Calls Try.prog 44 #[.pointer (some ⟨g, 0, none⟩), .int .u8 c.toNat, .int .u64 num.toNat] w (RAskSmall w 18) := by
  have HI := Lib.hid (Is25 c (w.alloc (.cells #[.int .i64 0, .int .i64 0, .slice none 0 0] 34)))
  rw [h] at HI
  have hc8 : c.toNat ≤ 8 := (of_decide_eq_true h).2
  have hci : (c.toNat : Int) ≤ 8 := by omega
  have hg := hb.blk.lt
  have c0 := hb.num hn
  have hbN : Blk (w.alloc (.cells #[.int .i64 0, .int .i64 0, .slice none 0 0] 34)) w.heap.size 34 #[.int .i64 0, .int .i64 0, .slice none 0 0] := Blk.new _ _ _
  have z0 := Nw.cell ((Kp.refl _ w).alloc (.cells #[.int .i64 0, .int .i64 0, .slice none 0 0] 34)) c0
  have t1 : decide ((n.toNat : Int) < (num.toNat : Int)) = false := decide_eq_false (by omega)
  have t2 : decide (n.toNat < num.toNat) = false := decide_eq_false (by omega)
  rcases hlt with hlt | ⟨h1, h2⟩
  · have t3 : ((num.toNat : Int) == (n.toNat : Int)) = false := beq_eq_false_iff_ne.2 (by omega)
    have t4 : (num.toNat == n.toNat) = false := beq_eq_false_iff_ne.2 (by omega)
    clear h hb hn hlt hc8
    go_enter Try.func44, Try.ntmps44
    go_wp2_with (first
      | (go_at_call 41; go_must (refine HI.out.mono ?_); rintro e w2 ⟨rfl, rfl⟩)
      | ((with_reducible refine stopAt (.store 34 (.tmp 6) (.tmp 40)) rfl ?_); go_must (refine unStop (wpList_stS rfl 34 (.tmp 6) (.tmp 40) rfl [.int .i64 0, .int .i64 0, .slice none 0 0] sS_reply w.heap.size 0 rfl rfl rfl hbN [.int .i64 0, .int .i64 0, .slice none 0 0] (by simp) (by simp [Value.oneCell']) rfl ?_)); intro w3 hb3 hk3))
    exact bodyPost_ret (res_ctt rfl sS_reply _ rfl hb3 [.int .i64 0, .int .i64 0, .slice none 0 0] rfl rfl) rfl ⟨rfl, ((Kp.refl _ w).alloc _).trans hk3 (fun i hi e => by omega)⟩
  · have t3 : ((num.toNat : Int) == (n.toNat : Int)) = true := beq_iff_eq.2 (by omega)
    have t4 : (num.toNat == n.toNat) = true := beq_iff_eq.2 h1
    have t5 : ((num.toNat : Int) != 0) = false := by rw [h2]; rfl
    clear h hb hn hc8 h1 h2
    go_enter Try.func44, Try.ntmps44
    go_wp2_with (first
      | (go_at_call 41; go_must (refine HI.out.mono ?_); rintro e w2 ⟨rfl, rfl⟩)
      | ((with_reducible refine stopAt (.store 34 (.tmp 6) (.tmp 40)) rfl ?_); go_must (refine unStop (wpList_stS rfl 34 (.tmp 6) (.tmp 40) rfl [.int .i64 0, .int .i64 0, .slice none 0 0] sS_reply w.heap.size 0 rfl rfl rfl hbN [.int .i64 0, .int .i64 0, .slice none 0 0] (by simp) (by simp [Value.oneCell']) rfl ?_)); intro w3 hb3 hk3))
    exact bodyPost_ret (res_ctt rfl sS_reply _ rfl hb3 [.int .i64 0, .int .i64 0, .slice none 0 0] rfl rfl) rfl ⟨rfl, ((Kp.refl _ w).alloc _).trans hk3 (fun i hi e => by omega)⟩
/-- The document's answer of a number that was noted: its own list. -/
def RAskIs (w : World) (r : RepV) (e : Ending) (w' : World) : Prop := e = .returned (.tuple #[.agg #[.int .i64 r.e.toInt, .int .i64 r.at_.toInt, .slice r.got.A r.got.l.length r.got.c], .bool true, .int .i64 0]) ∧ Nw w w'
set_option maxRecDepth 20000 in
set_option maxHeartbeats 1000000 in
theorem RAsk_is (g : Nat) (ns : List UInt64) (rs : List RepV) (c : UInt8) (num : UInt64) (r : RepV) (w : World) (hb : RBk w g ns rs) (h : isCl c = true) (hn : ns[c.toNat]? = some num) (h0 : num.toNat ≠ 0) (hr : rs[c.toNat]? = some r) :
    Calls Try.prog 44 #[.pointer (some ⟨g, 0, none⟩), .int .u8 c.toNat, .int .u64 num.toNat] w (RAskIs w r) := by
  have HI := Lib.hid (Is25 c (w.alloc (.cells #[.int .i64 0, .int .i64 0, .slice none 0 0] 34)))
  rw [h] at HI
  have hc8 : c.toNat ≤ 8 := (of_decide_eq_true h).2
  have hci : (c.toNat : Int) ≤ 8 := by omega
  have hg := hb.blk.lt
  have c0 := hb.num hn
  have hbN : Blk (w.alloc (.cells #[.int .i64 0, .int .i64 0, .slice none 0 0] 34)) w.heap.size 34 #[.int .i64 0, .int .i64 0, .slice none 0 0] := Blk.new _ _ _
  have z0 := Nw.cell ((Kp.refl _ w).alloc (.cells #[.int .i64 0, .int .i64 0, .slice none 0 0] 34)) c0
  have HCs : Hid (∀ j v, ([.int .i64 r.e.toInt, .int .i64 r.at_.toInt, .slice r.got.A r.got.l.length r.got.c] : List Value)[j]? = some v → (w.alloc (.cells #[.int .i64 0, .int .i64 0, .slice none 0 0] 34)).cell? ⟨g, 9 + c.toNat * 3 + j, none⟩ = some v) := Lib.hid (fun j v hv => by
    have hj : j < 3 := (List.getElem?_eq_some_iff.1 hv).1
    refine Nw.cell ((Kp.refl _ w).alloc _) ?_
    rw [hb.rep hr hj]
    exact hv)
  have t1 : decide ((num.toNat : Int) < (num.toNat : Int)) = false := decide_eq_false (by omega)
  have t5 : ((num.toNat : Int) != 0) = true := by rw [bne_iff_ne]; omega
  clear h hb hn hc8 hr h0
  go_enter Try.func44, Try.ntmps44
  go_wp2_with (first
    | (go_at_call 41; go_must (refine HI.out.mono ?_); rintro e w2 ⟨rfl, rfl⟩)
    | ((with_reducible refine stopAt (.load 34 (.tmp 38)) rfl ?_); go_must (refine unStop (wpList_ldA rfl 34 (.tmp 38) rfl sS_reply g (9 + c.toNat * 3) rfl [.int .i64 r.e.toInt, .int .i64 r.at_.toInt, .slice r.got.A r.got.l.length r.got.c] HCs.out rfl ?_)))
    | ((with_reducible refine stopAt (.store 34 (.tmp 6) (.tmp 39)) rfl ?_); go_must (refine unStop (wpList_stS rfl 34 (.tmp 6) (.tmp 39) rfl [.int .i64 r.e.toInt, .int .i64 r.at_.toInt, .slice r.got.A r.got.l.length r.got.c] sS_reply w.heap.size 0 rfl rfl rfl hbN [.int .i64 r.e.toInt, .int .i64 r.at_.toInt, .slice r.got.A r.got.l.length r.got.c] (by simp) (by simp [Value.oneCell']) rfl ?_)); intro w3 hb3 hk3))
  exact bodyPost_ret (res_ctt rfl sS_reply _ rfl hb3 [.int .i64 r.e.toInt, .int .i64 r.at_.toInt, .slice r.got.A r.got.l.length r.got.c] rfl rfl) rfl ⟨rfl, ((Kp.refl _ w).alloc _).trans hk3 (fun i hi e => by omega)⟩
end Go.Proofs.Ytiimdnachgkomaa
