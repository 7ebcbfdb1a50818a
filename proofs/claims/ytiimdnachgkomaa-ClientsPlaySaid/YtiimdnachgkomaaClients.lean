/- Package clients: walks. -/
import Derived.Test.YtiimdnachgkomaaTypes
import Derived.StillTailTactics
namespace Go.Proofs.Ytiimdnachgkomaa
open Go Go.RowKit

theorem isS_letter : IsS Try.prog 36 17 := ⟨⟨_, Try.underlying36, rfl⟩, by kernel_rfl⟩
theorem isS_client : IsS Try.prog 45 23 := ⟨⟨_, Try.underlying45, rfl⟩, by kernel_rfl⟩
theorem isS_open : IsS Try.prog 43 18 := ⟨⟨_, Try.underlying43, rfl⟩, by kernel_rfl⟩
theorem isS_reply : IsS Try.prog 34 3 := ⟨⟨_, Try.underlying34, rfl⟩, by kernel_rfl⟩

theorem info_letter : (Try.prog.info? 36).map (fun i => (i.zero, i.size, i.bytes)) = some (some (.agg #[.int .u8 0, .int .u8 0, .int .u8 0, .int .u64 0, .int .u64 0, .int .u64 0, .int .u64 0, .bool false, .slice none 0 0, .slice none 0 0, .int .u8 0, .int .u64 0, .slice none 0 0, .int .i64 0, .int .i64 0, .int .i64 0, .slice none 0 0]), 17, 184) := by kernel_rfl

/-- What a client is, besides its open call. -/
structure Cl where
  id : UInt8
  n : Nat
  to : Nat
  waits : Nat
  num : UInt64
/-- The letter of a call: to whom, the steps. -/
def Cl.ltr (s : Cl) (to : Nat) (A : Option Addr) (c k : Nat) : List Value :=
  [.int .u8 6, .int .u8 (100 + (s.id.toNat : Int)), .int .u8 (to : Int), .int .u64 0, .int .u64 0, .int .u64 0, .int .u64 0, .bool false, .slice none 0 0, .slice none 0 0,
    .int .u8 (s.id.toNat : Int), .int .u64 (s.num.toNat : Int), .slice A k c, .int .i64 0, .int .i64 0, .int .i64 0, .slice none 0 0]
def Cl.head (s : Cl) : List Value := [.int .u8 (s.id.toNat : Int), .int .i64 (s.n : Int), .int .i64 (s.to : Int), .int .u64 (s.num.toNat : Int), .int .i64 (s.waits : Int)]
def noLtr : List Value := [.int .u8 0, .int .u8 0, .int .u8 0, .int .u64 0, .int .u64 0, .int .u64 0, .int .u64 0, .bool false, .slice none 0 0, .slice none 0 0, .int .u8 0, .int .u64 0, .slice none 0 0, .int .i64 0, .int .i64 0, .int .i64 0, .slice none 0 0]
def Cl.opn (s : Cl) (to : Nat) (A : Option Addr) (c k : Nat) : Array Value := (s.head ++ s.ltr to A c k ++ [Value.bool true]).toArray
def Cl.shut (s : Cl) : Array Value := (s.head ++ noLtr ++ [Value.bool false]).toArray

/-- A client with an open call of these steps. -/
structure IsO (w : World) (g : Nat) (s : Cl) (A : Option Addr) (c : Nat) (l : List Step) : Prop where
  blk : Blk w g 45 (s.opn s.to A c l.length)
  rd : RdSt w A c l
  len : l.length ≤ 8
  off : 0 < l.length → blkOf A ≠ some g
/-- One letter was made, of these steps. -/
def Sends (w w' : World) (s : Cl) (l : List Step) (b : Nat) : Prop :=
  ∃ A1, w.heap.size ≤ b ∧ Blk w' b 36 (s.ltr s.to A1 l.length l.length).toArray ∧ OwnSt w' w.heap.size A1 l.length l

set_option maxRecDepth 20000 in
set_option maxHeartbeats 400000 in
theorem calls_calls (g : Nat) (s : Cl) (to' : Nat) (A : Option Addr) (c : Nat) (l : List Step) (w : World)
    (hb : Blk w g 45 (s.opn to' A c l.length)) (hr : RdSt w A c l) (hl : l.length ≤ 8) (hA : 0 < l.length → blkOf A ≠ some g) (hto : s.to ≤ 7) :
    Calls Try.prog 87 #[.pointer (some ⟨g, 0, none⟩)] w fun e w' =>
      ∃ b, e = .returned (.slice (some ⟨b, 0, none⟩) 1 1) ∧ Sends w w' s l b ∧ IsO w' g { s with waits := 0 } A c l ∧ Kp (fun k => k = g) w w' := by
  have hc2 : w.cell? ⟨g, 2, none⟩ = some (.int .i64 s.to) := hb.cell 2
  have hc4 : w.cell? ⟨g, 4, none⟩ = some (.int .i64 s.waits) := hb.cell 4
  have hc7 : w.cell? ⟨g, 7, none⟩ = some (.int .u8 (to' : Int)) := hb.cell 7
  have hf4 : w.frozen? ⟨g, 4, none⟩ = false := hb.free 4
  have hf7 : w.frozen? ⟨g, 7, none⟩ = false := hb.free 7
  have hb1 : Blk ((w.setCell ⟨g, 4, none⟩ (.int .i64 0)).setCell ⟨g, 7, none⟩ (.int .u8 s.to)) g 45 (Cl.opn { s with waits := 0 } s.to A c l.length) := (hb.set_ 4 _).set_ 7 _
  have hr1 := ((hr.setCell (p := ⟨g, 4, none⟩) hA (.int .i64 0)).setCell (p := ⟨g, 7, none⟩) hA (.int .u8 s.to)).alloc (.cells (s.ltr s.to A c l.length).toArray 36)
  have e12 : ((((w.setCell ⟨g, 4, none⟩ (.int .i64 0)).setCell ⟨g, 7, none⟩ (.int .u8 s.to)).alloc (.cells (s.ltr s.to A c l.length).toArray 36)).cell? ⟨w.heap.size, 12, none⟩) = some (.slice A l.length c) := (Blk.newAt (by simp) _ _).cell 12
  go_enter Try.func87, Try.ntmps87
  go_wp2_with (first
    | ((with_reducible refine stopAt (.load 36 (.tmp 20)) rfl ?_); go_must (refine unStop (wpList_ldS rfl 36 (.tmp 20) rfl isS_letter g 5 rfl hb1 (s.ltr s.to A c l.length) rfl rfl ?_)))
    | ((with_reducible refine stopAt (.store 36 (.tmp 3) (.tmp 21)) rfl ?_); go_must (refine unStop (wpList_stN rfl 36 (.tmp 3) (.tmp 21) rfl (s.ltr s.to A c l.length) isS_letter rfl rfl rfl (by simp) rfl (by simp [Cl.ltr, Value.oneCell']) ?_)))
    | (go_at_call 86; go_must (refine (clone_step _ _ _ _ _ hr1 (st_one l) (by unfold big; omega)).mono ?_); rintro e w1 ⟨A1, c1, rfl, ho1, hk1⟩; have hb2 : Blk w1 w.heap.size 36 (s.ltr s.to A c l.length).toArray := (Blk.newAt (by simp) _ _).nw hk1; have c12 : w1.cell? ⟨w.heap.size, 12, none⟩ = some (.slice A l.length c) := hb2.cell 12; have f12 : w1.frozen? ⟨w.heap.size, 12, none⟩ = false := hb2.free 12)
    | (go_at_call 140; go_must (refine (clip_step _ _ _ _ ho1.cap).mono ?_); rintro e w2 ⟨rfl, rfl⟩)
    | ((with_reducible refine stopAt (.load 36 (.tmp 3)) rfl ?_); go_must (refine unStop (wpList_ldS rfl 36 (.tmp 3) rfl isS_letter w.heap.size 0 rfl (hb2.set_ 12 _) (s.ltr s.to A1 l.length l.length) rfl rfl ?_)))
    | ((with_reducible refine stopAt (.buildSlice 48 1 #[(0, .tmp 31)]) rfl ?_); go_must (refine unStop (wpList_bs1 rfl 48 36 (.tmp 31) rfl (s.ltr s.to A1 l.length l.length) Try.underlying48 info_letter rfl rfl (by omega) (by omega) ?_))))
  go_ret
  have hg : g < w.heap.size := hb.lt
  have hkw : Kp (fun k => k = g) w w2 := (Kp.alloc (Kp.setCell (p := ⟨g, 7, none⟩) (Kp.setCell (p := ⟨g, 4, none⟩) (Kp.refl (fun k => k = g) w) (fun _ => rfl) _) (fun _ => rfl) _) _).nw hk1
  have ho2 := ho1.clip.low (base' := w.heap.size) (by simp)
  have hne : blkOf A1 ≠ some w.heap.size := ho1.fresh (by simp)
  have hr2 : RdSt w2 A c l := hr1.nw hk1
  have hA2 := hr.apart (by omega) (Nat.le_refl w.heap.size)
  refine ⟨w2.heap.size, rfl, ⟨A1, ?_, Blk.newAt (by simp) _ _, (ho2.setCell (p := ⟨w.heap.size, 12, none⟩) hne _).alloc _⟩, ⟨?_, (hr2.setCell (p := ⟨w.heap.size, 12, none⟩) hA2 _).alloc _, hl, hA⟩, (hkw.setNew (p := ⟨w.heap.size, 12, none⟩) (Nat.le_refl _) _).alloc _⟩
  · exact hkw.size
  · exact (((hb1.alloc _).nw hk1).far (p := ⟨w.heap.size, 12, none⟩) (by simp; omega) _).alloc _

set_option maxRecDepth 20000 in
set_option maxHeartbeats 400000 in
theorem Call_ok (g : Nat) (s : Cl) (A : Option Addr) (c : Nat) (l : List Step) (w : World)
    (hb : Blk w g 45 s.shut) (hr : RdSt w A c l) (hl : l.length ≤ 8) (hl1 : 0 < l.length) (hn : 0 < s.n) (hto : s.to ≤ 7) (hid : s.id.toNat ≤ 8) (hA : 0 < l.length → blkOf A ≠ some g) :
    Calls Try.prog 19 #[.pointer (some ⟨g, 0, none⟩), .agg #[.slice A l.length c]] w fun e w' =>
      ∃ b A1 c1, e = .returned (.tuple #[.slice (some ⟨b, 0, none⟩) 1 1, .int .i64 0]) ∧ Sends w w' { s with num := s.num + 1 } l b ∧ IsO w' g { s with num := s.num + 1, waits := 0 } A1 c1 l ∧ Kp (fun k => k = g) w w' := by
  have hg : g < w.heap.size := hb.lt
  have hc0 : w.cell? ⟨g, 0, none⟩ = some (.int .u8 s.id.toNat) := hb.cell 0
  have hc1 : w.cell? ⟨g, 1, none⟩ = some (.int .i64 s.n) := hb.cell 1
  have hc3 : w.cell? ⟨g, 3, none⟩ = some (.int .u64 s.num.toNat) := hb.cell 3
  have hc22 : w.cell? ⟨g, 22, none⟩ = some (.bool false) := hb.cell 22
  have hf3 : w.frozen? ⟨g, 3, none⟩ = false := hb.free 3
  go_enter Try.func19, Try.ntmps19
  have hz : ((l.length : Int) == 0) = false := beq_eq_false_iff_ne.2 (by omega)
  have h8 : decide (8 < (l.length : Int)) = false := decide_eq_false (by omega)
  have hW := wrap_u64_succ s.num
  have hW8 : IntKind.u8.wrap (100 + (s.id.toNat : Int)) = 100 + (s.id.toNat : Int) := by rw [IntKind.wrap_u8]; omega
  have hr1 := (hr.setCell (p := ⟨g, 3, none⟩) hA (.int .u64 ((s.num + 1).toNat : Int))).alloc (.cells #[.slice A l.length c] 24)
  go_wp2_with (first
    | (go_at_call 85; go_in)
    | (go_at_call 86; go_must (refine (clone_step _ _ _ _ _ hr1 (st_one l) (by unfold big; omega)).mono ?_); rintro e w1 ⟨A1, c1, rfl, ho1, hk1⟩; have hb2 : Blk w1 w.heap.size 24 #[.slice A l.length c] := (Blk.newAt (by simp) _ _).nw hk1; have d0 : w1.cell? ⟨w.heap.size, 0, none⟩ = some (.slice A l.length c) := hb2.cell 0; have df0 : w1.frozen? ⟨w.heap.size, 0, none⟩ = false := hb2.free 0))
  have hb3 : Blk (w1.setCell ⟨w.heap.size, 0, none⟩ (.slice A1 l.length c1)) g 45 (Cl.shut { s with num := s.num + 1 }) := (((hb.set_ 3 (.int .u64 ((s.num + 1).toNat : Int))).alloc _).nw hk1).far (p := ⟨w.heap.size, 0, none⟩) (by simp; omega) _
  have hb4 := hb2.set_ 0 (.slice A1 l.length c1)
  have hk3 : Kp (fun k => k = g) w (w1.setCell ⟨w.heap.size, 0, none⟩ (.slice A1 l.length c1)) := (((Kp.setCell (p := ⟨g, 3, none⟩) (Kp.refl (fun k => k = g) w) (fun _ => rfl) _).alloc _).nw hk1).setNew (p := ⟨w.heap.size, 0, none⟩) (Nat.le_refl _) _
  have ho3 := (ho1.low (base' := w.heap.size) (by simp)).setCell (p := ⟨w.heap.size, 0, none⟩) (ho1.fresh (by simp)) (.slice A1 l.length c1)
  generalize w1.setCell ⟨w.heap.size, 0, none⟩ (.slice A1 l.length c1) = w3 at hb3 hb4 hk3 ho3 ⊢
  have e0 : w3.cell? ⟨g, 0, none⟩ = some (.int .u8 s.id.toNat) := hb3.cell 0
  have e3 : w3.cell? ⟨g, 3, none⟩ = some (.int .u64 ((s.num + 1).toNat : Int)) := hb3.cell 3
  have e4 : w3.cell? ⟨w.heap.size, 0, none⟩ = some (.slice A1 l.length c1) := hb4.cell 0
  clear hc0 hc1 hc3 hc22 hf3 hk1 hb2 d0 df0 ho1 hr1
  go_still_tail 20, (by kernel_rfl)
  go_wp2_with (first
    | ((with_reducible refine stopAt (.store 43 (.tmp 57) (.tmp 55)) rfl ?_); go_must (refine unStop (wpList_stS rfl 43 (.tmp 57) (.tmp 55) rfl (Cl.ltr { s with num := s.num + 1 } 0 A1 c1 l.length ++ [Value.bool true]) isS_open g 5 rfl rfl rfl hb3.drew (Cl.opn { s with num := s.num + 1 } 0 A1 c1 l.length).toList (by simp [Cl.ltr, Cl.shut, Cl.head, noLtr]) (by simp [Cl.ltr, Value.oneCell']) rfl ?_)); intro w4 hb5 hk5; clear e0 e3 e4; have hk6 : Kp (fun k => k = g) w w4 := hk3.drew.trans hk5 (fun _ _ e => e); have ho6 : OwnSt w4 w.heap.size A1 c1 l := ho3.drew.kp hk5 (fun k hk e => by have := (ho3.lt k hk).1; omega); have hA6 : 0 < l.length → blkOf A1 ≠ some g := fun _ => ho3.fresh hg)
    | (go_at_call 87; go_must (refine (calls_calls g { s with num := s.num + 1 } 0 A1 c1 l w4 hb5 ho6.rd hl hA6 hto).mono ?_); rintro e w5 ⟨b, rfl, hse, hio, hk7⟩))
  go_ret2
  obtain ⟨A2, h1, h2, h3⟩ := hse
  exact ⟨b, A1, c1, rfl, ⟨A2, Nat.le_trans hk6.size h1, h2, h3.low hk6.size⟩, hio, hk6.trans hk7 (fun _ _ e => e)⟩

set_option maxRecDepth 20000 in
set_option maxHeartbeats 400000 in
/-- A client that is not there calls nobody. -/
theorem Call_nil (A : Option Addr) (c k : Nat) (w : World) :
    Calls Try.prog 19 #[.pointer none, .agg #[.slice A k c]] w fun e w' => e = .returned (.tuple #[.slice none 0 0, .int .i64 2]) ∧ Nw w w' := by
  go_enter Try.func19, Try.ntmps19
  go_wp2
  go_ret2
  exact ⟨rfl, (Kp.refl _ w).alloc _⟩

set_option maxRecDepth 20000 in
set_option maxHeartbeats 400000 in
theorem Call_void (g : Nat) (t : TypeId) (cs : Array Value) (A : Option Addr) (c k : Nat) (w : World) (hb : Blk w g t cs) (h0 : cs[1]? = some (.int .i64 0)) :
    Calls Try.prog 19 #[.pointer (some ⟨g, 0, none⟩), .agg #[.slice A k c]] w fun e w' => e = .returned (.tuple #[.slice none 0 0, .int .i64 2]) ∧ Nw w w' := by
  have hg : g < w.heap.size := hb.lt
  have hc1 : w.cell? ⟨g, 1, none⟩ = some (.int .i64 0) := (hb.cell 1).trans h0
  clear h0
  go_enter Try.func19, Try.ntmps19
  go_wp2
  go_ret2
  exact ⟨rfl, (Kp.refl _ w).alloc _⟩

set_option maxRecDepth 20000 in
set_option maxHeartbeats 400000 in
theorem Call_open (g : Nat) (s : Cl) (to' : Nat) (A' : Option Addr) (c' k' : Nat) (A : Option Addr) (c k : Nat) (w : World) (hb : Blk w g 45 (s.opn to' A' c' k')) (hn : 0 < s.n) :
    Calls Try.prog 19 #[.pointer (some ⟨g, 0, none⟩), .agg #[.slice A k c]] w fun e w' => e = .returned (.tuple #[.slice none 0 0, .int .i64 17]) ∧ Nw w w' := by
  have hg : g < w.heap.size := hb.lt
  have hc1 : w.cell? ⟨g, 1, none⟩ = some (.int .i64 s.n) := hb.cell 1
  have hc22 : w.cell? ⟨g, 22, none⟩ = some (.bool true) := hb.cell 22
  go_enter Try.func19, Try.ntmps19
  go_wp2
  go_ret2
  exact ⟨rfl, (Kp.refl _ w).alloc _⟩

set_option maxRecDepth 20000 in
set_option maxHeartbeats 400000 in
theorem Call_arg (g : Nat) (s : Cl) (A : Option Addr) (c k : Nat) (w : World) (hb : Blk w g 45 s.shut) (hn : 0 < s.n) (hk : k = 0 ∨ 8 < k) :
    Calls Try.prog 19 #[.pointer (some ⟨g, 0, none⟩), .agg #[.slice A k c]] w fun e w' => e = .returned (.tuple #[.slice none 0 0, .int .i64 1]) ∧ Nw w w' := by
  have hg : g < w.heap.size := hb.lt
  have hc1 : w.cell? ⟨g, 1, none⟩ = some (.int .i64 s.n) := hb.cell 1
  have hc22 : w.cell? ⟨g, 22, none⟩ = some (.bool false) := hb.cell 22
  rcases hk with hk | hk
  · subst hk
    go_enter Try.func19, Try.ntmps19
    go_wp2
    go_ret2
    exact ⟨rfl, (Kp.refl _ w).alloc _⟩
  · have hz : ((k : Int) == 0) = false := beq_eq_false_iff_ne.2 (by omega)
    have h8 : decide (8 < (k : Int)) = true := decide_eq_true (by omega)
    go_enter Try.func19, Try.ntmps19
    go_wp2
    go_ret2
    exact ⟨rfl, (Kp.refl _ w).alloc _⟩

set_option maxRecDepth 20000 in
set_option maxHeartbeats 400000 in
theorem Tick_nil (w : World) :
    Calls Try.prog 21 #[.pointer none] w fun e w' => e = .returned (.slice none 0 0) ∧ w' = w := by
  go_enter Try.func21, Try.ntmps21
  go_wp2
  go_ret
  exact ⟨rfl, rfl⟩

set_option maxRecDepth 20000 in
set_option maxHeartbeats 400000 in
theorem Tick_void (g : Nat) (t : TypeId) (cs : Array Value) (w : World) (hb : Blk w g t cs) (h0 : cs[1]? = some (.int .i64 0)) :
    Calls Try.prog 21 #[.pointer (some ⟨g, 0, none⟩)] w fun e w' => e = .returned (.slice none 0 0) ∧ w' = w := by
  have hc1 : w.cell? ⟨g, 1, none⟩ = some (.int .i64 0) := (hb.cell 1).trans h0
  clear h0
  go_enter Try.func21, Try.ntmps21
  go_wp2
  go_ret
  exact ⟨rfl, rfl⟩

set_option maxRecDepth 20000 in
set_option maxHeartbeats 400000 in
theorem Tick_shut (g : Nat) (s : Cl) (w : World) (hb : Blk w g 45 s.shut) (hn : 0 < s.n) :
    Calls Try.prog 21 #[.pointer (some ⟨g, 0, none⟩)] w fun e w' => e = .returned (.slice none 0 0) ∧ w' = w := by
  have hc1 : w.cell? ⟨g, 1, none⟩ = some (.int .i64 s.n) := hb.cell 1
  have hc22 : w.cell? ⟨g, 22, none⟩ = some (.bool false) := hb.cell 22
  go_enter Try.func21, Try.ntmps21
  go_wp2
  go_ret
  exact ⟨rfl, rfl⟩

set_option maxRecDepth 20000 in
set_option maxHeartbeats 400000 in
theorem Tick_wait (g : Nat) (s : Cl) (A : Option Addr) (c : Nat) (l : List Step) (w : World) (hi : IsO w g s A c l) (hn : 0 < s.n) (hw : s.waits < 4) :
    Calls Try.prog 21 #[.pointer (some ⟨g, 0, none⟩)] w fun e w' => e = .returned (.slice none 0 0) ∧ IsO w' g { s with waits := s.waits + 1 } A c l ∧ Kp (fun k => k = g) w w' := by
  have hb := hi.blk
  have hc1 : w.cell? ⟨g, 1, none⟩ = some (.int .i64 s.n) := hb.cell 1
  have hc4 : w.cell? ⟨g, 4, none⟩ = some (.int .i64 s.waits) := hb.cell 4
  have hf4 : w.frozen? ⟨g, 4, none⟩ = false := hb.free 4
  have hc22 : w.cell? ⟨g, 22, none⟩ = some (.bool true) := hb.cell 22
  go_enter Try.func21, Try.ntmps21
  go_wp2
  go_ret
  exact ⟨rfl, ⟨hb.set_ 4 _, hi.rd.setCell (p := ⟨g, 4, none⟩) hi.off _, hi.len, hi.off⟩, Kp.setCell (p := ⟨g, 4, none⟩) (Kp.refl (fun k => k = g) w) (fun _ => rfl) _⟩

set_option maxRecDepth 20000 in
set_option maxHeartbeats 400000 in
theorem Tick_call (g : Nat) (s : Cl) (A : Option Addr) (c : Nat) (l : List Step) (w : World) (hi : IsO w g s A c l) (hn : 0 < s.n) (hn7 : s.n ≤ 7) (hw : s.waits = 4) :
    Calls Try.prog 21 #[.pointer (some ⟨g, 0, none⟩)] w fun e w' =>
      ∃ b, e = .returned (.slice (some ⟨b, 0, none⟩) 1 1) ∧ Sends w w' { s with to := s.to % s.n + 1 } l b ∧ IsO w' g { s with to := s.to % s.n + 1, waits := 0 } A c l ∧ Kp (fun k => k = g) w w' := by
  have hb := hi.blk
  have hc1 : w.cell? ⟨g, 1, none⟩ = some (.int .i64 s.n) := hb.cell 1
  have hc2 : w.cell? ⟨g, 2, none⟩ = some (.int .i64 s.to) := hb.cell 2
  have hc4 : w.cell? ⟨g, 4, none⟩ = some (.int .i64 4) := (hb.cell 4).trans (by show some (Value.int .i64 (s.waits : Int)) = _; rw [hw]; rfl)
  have hf4 : w.frozen? ⟨g, 4, none⟩ = false := hb.free 4
  have hf2 : w.frozen? ⟨g, 2, none⟩ = false := hb.free 2
  have hc22 : w.cell? ⟨g, 22, none⟩ = some (.bool true) := hb.cell 22
  go_enter Try.func21, Try.ntmps21
  go_wp2
  have hb1 : Blk (w.setCell ⟨g, 4, none⟩ (.int .i64 5)) g 45 (Cl.opn { s with waits := 5 } s.to A c l.length) := hb.set_ 4 _
  have hr1 := hi.rd.setCell (p := ⟨g, 4, none⟩) hi.off (.int .i64 5)
  have hk1 : Kp (fun k => k = g) w (w.setCell ⟨g, 4, none⟩ (.int .i64 5)) := Kp.setCell (p := ⟨g, 4, none⟩) (Kp.refl (fun k => k = g) w) (fun _ => rfl) _
  generalize w.setCell ⟨g, 4, none⟩ (.int .i64 5) = w1 at hb1 hr1 hk1 ⊢
  clear hc1 hc2 hc4 hf4 hf2 hc22
  have e1 : w1.cell? ⟨g, 1, none⟩ = some (.int .i64 s.n) := hb1.cell 1
  have e2 : w1.cell? ⟨g, 2, none⟩ = some (.int .i64 s.to) := hb1.cell 2
  have f2 : w1.frozen? ⟨g, 2, none⟩ = false := hb1.free 2
  have hn0 : ¬ s.n = 0 := by omega
  have hm : (s.to : Int).tmod (s.n : Int) = ((s.to % s.n : Nat) : Int) := rfl
  have hlt := Nat.mod_lt s.to hn
  go_still_tail 13, (by kernel_rfl)
  have hb2 : Blk (w1.setCell ⟨g, 2, none⟩ (.int .i64 ((s.to : Int) % (s.n : Int) + 1))).drew g 45 (Cl.opn { s with to := s.to % s.n + 1, waits := 5 } s.to A c l.length) := (hb1.set_ 2 _).drew
  have hr2 := (hr1.setCell (p := ⟨g, 2, none⟩) hi.off (.int .i64 ((s.to : Int) % (s.n : Int) + 1))).drew
  have hk2 := (hk1.setCell (p := ⟨g, 2, none⟩) (fun _ => rfl) (.int .i64 ((s.to : Int) % (s.n : Int) + 1))).drew
  go_wp2_with (go_at_call 87; go_must (refine (calls_calls g { s with to := s.to % s.n + 1, waits := 5 } s.to A c l _ hb2 hr2 hi.len hi.off (by simp only []; omega)).mono ?_); rintro e w5 ⟨b, rfl, hse, hio, hk7⟩)
  go_ret
  obtain ⟨A2, h1, h2, h3⟩ := hse
  exact ⟨b, rfl, ⟨A2, Nat.le_trans hk2.size h1, h2, h3.low hk2.size⟩, hio, hk2.trans hk7 (fun _ _ e => e)⟩
end Go.Proofs.Ytiimdnachgkomaa
