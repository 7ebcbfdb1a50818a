/- ClientsPlay: both clients, of the same state: a call, a tick, a letter. -/
import Derived.Test.YtiimdnachgkomaaTake4
import Derived.Test.YtiimdnachgkomaaRTake2
import Derived.Test.YtiimdnachgkomaaResume
import Derived.Test.YtiimdnachgkomaaRef27c
import Derived.Test.YtiimdnachgkomaaSameAll
namespace Go.Proofs.Ytiimdnachgkomaa
open Go Go.RowKit
def Cl.rc (s : Cl) : RC := ⟨s.id, s.n, s.to, s.num, s.waits⟩
/-- The program's client in block g1: no call, or one of these steps; its list is not in block g2. -/
def PA (w : World) (g1 g2 : Nat) (s : Cl) : Option (List Step) → Prop
  | none => Blk w g1 45 s.shut
  | some l => ∃ A c, IsO w g1 s A c l ∧ (0 < l.length → blkOf A ≠ some g2)
/-- The document's client in block g2. -/
def PB (w : World) (g1 g2 : Nat) (s : Cl) : Option (List Step) → Prop
  | none => ∃ A k c, Blk w g2 72 (s.rc.cells false A k c)
  | some l => ∃ A c, Blk w g2 72 (s.rc.cells true A l.length c) ∧ RdSt w A c l ∧ (0 < l.length → blkOf A ≠ some g2 ∧ blkOf A ≠ some g1)
structure ClOk (s : Cl) (o : Option (List Step)) : Prop where
  id1 : 1 ≤ s.id.toNat
  id8 : s.id.toNat ≤ 8
  n1 : 1 ≤ s.n
  n7 : s.n ≤ 7
  to1 : 1 ≤ s.to
  ton : s.to ≤ s.n
  waits : o ≠ none → s.waits ≤ 4
section
variable {w w' : World} {g1 g2 : Nat} {S : Nat → Prop} {s : Cl} {o : Option (List Step)}
theorem PA.kp (h : PA w g1 g2 s o) (hk : Kp S w w') (hs : ∀ k, S k → k < w.heap.size → k = g2 ∧ k ≠ g1) : PA w' g1 g2 s o := by
  cases o with
  | none => exact Blk.kp h hk (fun e => (hs g1 e (Blk.lt h)).2 rfl)
  | some l =>
    obtain ⟨A, c, hi, hf⟩ := h
    refine ⟨A, c, ⟨hi.blk.kp hk (fun e => (hs g1 e hi.blk.lt).2 rfl), hi.rd.kp hk (fun hl k hk' e => ?_), hi.len, hi.off⟩, hf⟩
    obtain ⟨k', e1, e2⟩ := hi.rd.blk_lt hl (by omega)
    rw [e1] at hk'; injection hk' with hk'; subst hk'
    exact hf hl (by rw [e1, (hs _ e e2).1])
theorem PB.kp (h : PB w g1 g2 s o) (hk : Kp S w w') (hs : ∀ k, S k → k < w.heap.size → k = g1 ∧ k ≠ g2) : PB w' g1 g2 s o := by
  cases o with
  | none =>
    obtain ⟨A, k, c, hb⟩ := h
    exact ⟨A, k, c, hb.kp hk (fun e => (hs g2 e hb.lt).2 rfl)⟩
  | some l =>
    obtain ⟨A, c, hb, hr, hf⟩ := h
    refine ⟨A, c, hb.kp hk (fun e => (hs g2 e hb.lt).2 rfl), hr.kp hk (fun hl k hk' e => ?_), hf⟩
    obtain ⟨k', e1, e2⟩ := hr.blk_lt hl (by omega)
    rw [e1] at hk'; injection hk' with hk'; subst hk'
    exact (hf hl).2 (by rw [e1, (hs _ e e2).1])
theorem PA.nw (h : PA w g1 g2 s o) (hk : Nw w w') : PA w' g1 g2 s o := h.kp hk (fun _ e => e.elim)
theorem PB.nw (h : PB w g1 g2 s o) (hk : Nw w w') : PB w' g1 g2 s o := h.kp hk (fun _ e => e.elim)
theorem PA.lt (h : PA w g1 g2 s o) : g1 < w.heap.size := by
  cases o with
  | none => exact Blk.lt h
  | some l => obtain ⟨A, c, hi, _⟩ := h; exact hi.blk.lt
theorem PB.lt (h : PB w g1 g2 s o) : g2 < w.heap.size := by
  cases o with
  | none => obtain ⟨A, k, c, hb⟩ := h; exact hb.lt
  | some l => obtain ⟨A, c, hb, _⟩ := h; exact hb.lt
end
/-- A letter is sent, or none. -/
def OutA (w w' : World) (v : Value) : Option (Cl × List Step) → Prop
  | none => v = .slice none 0 0
  | some (s, l) => ∃ b, v = .slice (some ⟨b, 0, none⟩) 1 1 ∧ Sends w w' s l b
def OutB (w' : World) (v : Value) : Option (Cl × List Step) → Prop
  | none => v = .slice none 0 0
  | some (s, l) => ∃ b A c, v = .slice (some ⟨b, 0, none⟩) 1 1 ∧ Blk w' b 76 (s.rc.ltr A l.length c).toArray ∧ RdSt w' A c l
/-- The letter of a call, as the statements have it. -/
def ltrV (s : Cl) (l : List Step) (A : Option Addr) (c : Nat) : LV := ⟨6, UInt8.ofNat (100 + s.id.toNat), UInt8.ofNat s.to, 0, 0, 0, 0, false, ⟨[], none, 0⟩, ⟨[], none, 0⟩, s.id, s.num, ⟨l, A, c⟩, 0, 0, 0, ⟨[], none, 0⟩⟩
theorem ltrV_cells (s : Cl) (l : List Step) (A : Option Addr) (c : Nat) (hid : s.id.toNat ≤ 8) (hto : s.to ≤ 7) : (ltrV s l A c).cells = s.ltr s.to A c l.length ∧ (ltrV s l A c).rcells = s.rc.ltr A l.length c := by
  have e1 : ((UInt8.ofNat (100 + s.id.toNat)).toNat : Int) = 100 + (s.id.toNat : Int) := by rw [UInt8.toNat_ofNat', Nat.mod_eq_of_lt (by omega)]; omega
  have e2 : ((UInt8.ofNat s.to).toNat : Int) = (s.to : Int) := by rw [UInt8.toNat_ofNat', Nat.mod_eq_of_lt (by omega)]
  constructor
  · simp only [ltrV, LV.cells, Cl.ltr, e1, e2]; rfl
  · simp only [ltrV, LV.rcells, LV.cells, RC.ltr, Cl.rc, e1, e2]; rfl
theorem ltrV_ok {w : World} (s : Cl) (l : List Step) (A : Option Addr) (c : Nat) (h : RdSt w A c l) (hl : l.length ≤ 8) : (ltrV s l A c).Ok w :=
  ⟨⟨Rd.nil w 5, fun i r hr => by simp [ltrV] at hr, by simp [Reach, ltrV]⟩, Rd.nil w 1, by simp [Reach, ltrV], h, by show l.length ≤ _; omega, Rd.nil w 2, by simp [Reach, ltrV]⟩
theorem ltrV_like (s : Cl) (l : List Step) (A B : Option Addr) (c d : Nat) : (ltrV s l A c).Like (ltrV s l B d) :=
  ⟨rfl, rfl, rfl, rfl, rfl, rfl, rfl, rfl, ⟨rfl, fun i a b ha => by simp [ltrV] at ha⟩, rfl, rfl, rfl, rfl, rfl, rfl, rfl, rfl⟩
theorem SameAll_o {w0 w1 w : World} {v v' : Value} {out : Option (Cl × List Step)} (ha : OutA w0 w1 v out) (hk : Nw w1 w) (hb : OutB w v' out) (ho : ∀ s l, out = some (s, l) → s.id.toNat ≤ 8 ∧ s.to ≤ 7 ∧ l.length ≤ 8) :
    Calls Try.prog 30 #[v, v'] w fun e w' => e = .returned (.bool true) ∧ Nw w w' := by
  cases out with
  | none => rw [show v = .slice none 0 0 from ha, show v' = .slice none 0 0 from hb]; exact SameAll_nil w
  | some p =>
    obtain ⟨s, l⟩ := p
    obtain ⟨b, rfl, A1, _, h2, h3⟩ := ha
    obtain ⟨b', B, d, rfl, k1, k2⟩ := hb
    obtain ⟨q1, q2, q3⟩ := ho s l rfl
    exact SameAll_one b b' (ltrV s l A1 l.length) (ltrV s l B d) w (by rw [(ltrV_cells s l A1 l.length q1 q2).1]; exact h2.nw hk) (by rw [(ltrV_cells s l B d q1 q2).2]; exact k1) (ltrV_ok s l _ _ (h3.nw hk).rd q3) (ltrV_ok s l _ _ k2 q3) (ltrV_like s l _ _ _ _)
theorem OutB.nw {w w' : World} {v : Value} {out : Option (Cl × List Step)} (h : OutB w v out) (hk : Nw w w') : OutB w' v out := by
  cases out with
  | none => exact h
  | some p => obtain ⟨s, l⟩ := p; obtain ⟨b, A, c, h1, h2, h3⟩ := h; exact ⟨b, A, c, h1, h2.nw hk, h3.nw hk⟩
theorem OutA.nw {w0 w w' : World} {v : Value} {out : Option (Cl × List Step)} (h : OutA w0 w v out) (hk : Nw w w') : OutA w0 w' v out := by
  cases out with
  | none => exact h
  | some p => obtain ⟨s, l⟩ := p; obtain ⟨b, h1, A1, h2, h3, h4⟩ := h; exact ⟨b, h1, A1, h2, h3.nw hk, h4.nw hk⟩
/-! A call. -/
set_option maxRecDepth 20000 in
set_option maxHeartbeats 400000 in
theorem Call_okF (g : Nat) (s : Cl) (A : Option Addr) (c : Nat) (l : List Step) (w : World)
    (hb : Blk w g 45 s.shut) (hr : RdSt w A c l) (hl : l.length ≤ 8) (hl1 : 0 < l.length) (hn : 0 < s.n) (hto : s.to ≤ 7) (hid : s.id.toNat ≤ 8) (hA : 0 < l.length → blkOf A ≠ some g) :
    Calls Try.prog 19 #[.pointer (some ⟨g, 0, none⟩), .agg #[.slice A l.length c]] w fun e w' =>
      ∃ b A1 c1, e = .returned (.tuple #[.slice (some ⟨b, 0, none⟩) 1 1, .int .i64 0]) ∧ Sends w w' { s with num := s.num + 1 } l b ∧ IsO w' g { s with num := s.num + 1, waits := 0 } A1 c1 l ∧ Kp (fun k => k = g) w w' ∧ ∀ k, blkOf A1 = some k → w.heap.size ≤ k := by
  have hg : g < w.heap.size := hb.lt
  have hc0 : w.cell? ⟨g, 0, none⟩ = some (.int .u8 s.id.toNat) := hb.cell 0
  have hc1 : w.cell? ⟨g, 1, none⟩ = some (.int .i64 s.n) := hb.cell 1
  have hc3 : w.cell? ⟨g, 3, none⟩ = some (.int .u64 s.num.toNat) := hb.cell 3
  have hc22 : w.cell? ⟨g, 22, none⟩ = some (.bool false) := hb.cell 22
  have hf3 : w.frozen? ⟨g, 3, none⟩ = false := hb.free 3
  go_enter Try.func19, Try.ntmps19
  have hz : ((l.length : Int) == 0) = false := beq_eq_false_iff_ne.2 (by omega)
  have h8 : decide (8 < (l.length : Int)) = false := decide_eq_false (by omega)
  have hW := wrap_u64_succ s.num
  have hW8 : IntKind.u8.wrap (100 + (s.id.toNat : Int)) = 100 + (s.id.toNat : Int) := by rw [IntKind.wrap_u8]; omega
  have hr1 := (hr.setCell (p := ⟨g, 3, none⟩) hA (.int .u64 ((s.num + 1).toNat : Int))).alloc (.cells #[.slice A l.length c] 24)
  go_wp2_with (first
    | (go_at_call 85; go_in)
    | (go_at_call 86; go_must (refine (clone_step _ _ _ _ _ hr1 (st_one l) (by unfold big; omega)).mono ?_); rintro e w1 ⟨A1, c1, rfl, ho1, hk1⟩; have hb2 : Blk w1 w.heap.size 24 #[.slice A l.length c] := (Blk.newAt (by simp) _ _).nw hk1; have d0 : w1.cell? ⟨w.heap.size, 0, none⟩ = some (.slice A l.length c) := hb2.cell 0; have df0 : w1.frozen? ⟨w.heap.size, 0, none⟩ = false := hb2.free 0))
  have hb3 : Blk (w1.setCell ⟨w.heap.size, 0, none⟩ (.slice A1 l.length c1)) g 45 (Cl.shut { s with num := s.num + 1 }) := (((hb.set_ 3 (.int .u64 ((s.num + 1).toNat : Int))).alloc _).nw hk1).far (p := ⟨w.heap.size, 0, none⟩) (by simp; omega) _
  have hb4 := hb2.set_ 0 (.slice A1 l.length c1)
  have hk3 : Kp (fun k => k = g) w (w1.setCell ⟨w.heap.size, 0, none⟩ (.slice A1 l.length c1)) := (((Kp.setCell (p := ⟨g, 3, none⟩) (Kp.refl (fun k => k = g) w) (fun _ => rfl) _).alloc _).nw hk1).setNew (p := ⟨w.heap.size, 0, none⟩) (Nat.le_refl _) _
  have ho3 := (ho1.low (base' := w.heap.size) (by simp)).setCell (p := ⟨w.heap.size, 0, none⟩) (ho1.fresh (by simp)) (.slice A1 l.length c1)
  generalize w1.setCell ⟨w.heap.size, 0, none⟩ (.slice A1 l.length c1) = w3 at hb3 hb4 hk3 ho3 ⊢
  have e0 : w3.cell? ⟨g, 0, none⟩ = some (.int .u8 s.id.toNat) := hb3.cell 0
  have e3 : w3.cell? ⟨g, 3, none⟩ = some (.int .u64 ((s.num + 1).toNat : Int)) := hb3.cell 3
  have e4 : w3.cell? ⟨w.heap.size, 0, none⟩ = some (.slice A1 l.length c1) := hb4.cell 0
  clear hc0 hc1 hc3 hc22 hf3 hk1 hb2 d0 df0 ho1 hr1
  go_still_tail 20, (by kernel_rfl)
  go_wp2_with (first
    | ((with_reducible refine stopAt (.store 43 (.tmp 57) (.tmp 55)) rfl ?_); go_must (refine unStop (wpList_stS rfl 43 (.tmp 57) (.tmp 55) rfl (Cl.ltr { s with num := s.num + 1 } 0 A1 c1 l.length ++ [Value.bool true]) isS_open g 5 rfl rfl rfl hb3.drew (Cl.opn { s with num := s.num + 1 } 0 A1 c1 l.length).toList (by simp [Cl.ltr, Cl.shut, Cl.head, noLtr]) (by simp [Cl.ltr, Value.oneCell']) rfl ?_)); intro w4 hb5 hk5; clear e0 e3 e4; have hk6 : Kp (fun k => k = g) w w4 := hk3.drew.trans hk5 (fun _ _ e => e); have ho6 : OwnSt w4 w.heap.size A1 c1 l := ho3.drew.kp hk5 (fun k hk e => by have := (ho3.lt k hk).1; omega); have hA6 : 0 < l.length → blkOf A1 ≠ some g := fun _ => ho3.fresh hg)
    | (go_at_call 87; go_must (refine (calls_calls g { s with num := s.num + 1 } 0 A1 c1 l w4 hb5 ho6.rd hl hA6 hto).mono ?_); rintro e w5 ⟨b, rfl, hse, hio, hk7⟩))
  go_ret2
  obtain ⟨A2, h1, h2, h3⟩ := hse
  exact ⟨b, A1, c1, rfl, ⟨A2, Nat.le_trans hk6.size h1, h2, h3.low hk6.size⟩, hio, hk6.trans hk7 (fun _ _ e => e), fun k hk => (ho3.lt k hk).1⟩
def callS (s : Cl) (o : Option (List Step)) (l : List Step) : Nat × Cl × Option (List Step) × Option (Cl × List Step) :=
  if o ≠ none then (17, s, o, none) else if l.length = 0 ∨ 8 < l.length then (1, s, o, none) else (0, { s with num := s.num + 1, waits := 0 }, some l, some ({ s with num := s.num + 1 }, l))
def CallA (g1 g2 : Nat) (r : Nat × Cl × Option (List Step) × Option (Cl × List Step)) (w : World) (e : Ending) (w' : World) : Prop :=
  ∃ v, e = .returned (.tuple #[v, .int .i64 r.1]) ∧ PA w' g1 g2 r.2.1 r.2.2.1 ∧ OutA w w' v r.2.2.2 ∧ Kp (fun j => j = g1) w w'
def CallB (g1 g2 : Nat) (r : Nat × Cl × Option (List Step) × Option (Cl × List Step)) (w : World) (e : Ending) (w' : World) : Prop :=
  ∃ v, e = .returned (.tuple #[v, .int .i64 r.1]) ∧ PB w' g1 g2 r.2.1 r.2.2.1 ∧ OutB w' v r.2.2.2 ∧ Kp (fun j => j = g2) w w'
theorem Call_A {w : World} {g1 g2 : Nat} {s : Cl} {o : Option (List Step)} (h : PA w g1 g2 s o) (hok : ClOk s o) (h2 : g2 < w.heap.size) (B : Option Addr) (d : Nat) (l : List Step) (hr : RdSt w B d l) (hB : 0 < l.length → blkOf B ≠ some g1) :
    Calls Try.prog 19 #[.pointer (some ⟨g1, 0, none⟩), .agg #[.slice B l.length d]] w (CallA g1 g2 (callS s o l) w) := by
  cases o with
  | some l0 =>
    have e : callS s (some l0) l = (17, s, some l0, none) := by unfold callS; rw [if_pos (by simp)]
    rw [e]
    obtain ⟨A, c, hi, hf⟩ := h
    refine (Call_open g1 s s.to A c l0.length B d l.length w hi.blk (by have := hok.n1; omega)).mono ?_
    rintro e w' ⟨rfl, hk⟩
    exact ⟨_, rfl, PA.nw (o := some l0) ⟨A, c, hi, hf⟩ hk, rfl, hk.kp⟩
  | none =>
    by_cases hl : l.length = 0 ∨ 8 < l.length
    · have e : callS s none l = (1, s, none, none) := by unfold callS; rw [if_neg (by simp), if_pos hl]
      rw [e]
      refine (Call_arg g1 s B d l.length w h (by have := hok.n1; omega) hl).mono ?_
      rintro e w' ⟨rfl, hk⟩
      exact ⟨_, rfl, PA.nw (o := none) h hk, rfl, hk.kp⟩
    · have e : callS s none l = (0, { s with num := s.num + 1, waits := 0 }, some l, some ({ s with num := s.num + 1 }, l)) := by unfold callS; rw [if_neg (by simp), if_neg hl]
      rw [e]
      refine (Call_okF g1 s B d l w h hr (by omega) (by omega) (by have := hok.n1; omega) (by have := hok.ton; have := hok.n7; omega) hok.id8 hB).mono ?_
      rintro e w' ⟨b, A1, c1, rfl, hse, hio, hk, hfr⟩
      exact ⟨_, rfl, ⟨A1, c1, hio, fun hl0 e => by have := hfr g2 e; omega⟩, ⟨b, rfl, hse⟩, hk⟩
theorem Call_B {w : World} {g1 g2 : Nat} {s : Cl} {o : Option (List Step)} (h : PB w g1 g2 s o) (hok : ClOk s o) (h1 : g1 < w.heap.size) (B : Option Addr) (d : Nat) (l : List Step) (hr : RdSt w B d l) (hB : 0 < l.length → blkOf B ≠ some g2) :
    Calls Try.prog 29 #[.pointer (some ⟨g2, 0, none⟩), .agg #[.slice B l.length d]] w (CallB g1 g2 (callS s o l) w) := by
  cases o with
  | some l0 =>
    have e : callS s (some l0) l = (17, s, some l0, none) := by unfold callS; rw [if_pos (by simp)]
    rw [e]
    obtain ⟨A, c, hb, hf⟩ := h
    refine (RCall_open g2 s.rc A l0.length c B l.length d w hb).mono ?_
    rintro e w' ⟨rfl, hk⟩
    exact ⟨_, rfl, PB.nw (o := some l0) ⟨A, c, hb, hf⟩ hk, rfl, hk.kp⟩
  | none =>
    obtain ⟨A, k, c, hb⟩ := h
    by_cases hl : l.length = 0 ∨ 8 < l.length
    · have e : callS s none l = (1, s, none, none) := by unfold callS; rw [if_neg (by simp), if_pos hl]
      rw [e]
      refine (RCall_arg g2 s.rc A k c B l.length d w hb hl).mono ?_
      rintro e w' ⟨rfl, hk⟩
      exact ⟨_, rfl, ⟨A, k, c, hb.nw hk⟩, rfl, hk.kp⟩
    · have e : callS s none l = (0, { s with num := s.num + 1, waits := 0 }, some l, some ({ s with num := s.num + 1 }, l)) := by unfold callS; rw [if_neg (by simp), if_neg hl]
      rw [e]
      refine (RCall_ok g2 s.rc A k c B d l w hb hr (by omega) (by omega) (by have := hok.ton; have := hok.n7; show s.to ≤ 7; omega) hok.id8 hB).mono ?_
      rintro e w' ⟨b, A1, c1, rfl, _, q2, q3, q4, hk⟩
      exact ⟨_, rfl, ⟨A1, c1, q4, q3.rd, fun hl0 => ⟨q3.fresh hb.lt, q3.fresh h1⟩⟩, ⟨b, A1, c1, rfl, q2, q3.rd⟩, hk⟩
/-! A tick. -/
def tickS (s : Cl) (o : Option (List Step)) : Cl × Option (List Step) × Option (Cl × List Step) := match o with
  | none => (s, none, none)
  | some l => if s.waits < 4 then ({ s with waits := s.waits + 1 }, some l, none) else ({ s with to := s.to % s.n + 1, waits := 0 }, some l, some ({ s with to := s.to % s.n + 1 }, l))
def TickA (g1 g2 : Nat) (r : Cl × Option (List Step) × Option (Cl × List Step)) (w : World) (e : Ending) (w' : World) : Prop :=
  ∃ v, e = .returned v ∧ PA w' g1 g2 r.1 r.2.1 ∧ OutA w w' v r.2.2 ∧ Kp (fun j => j = g1) w w'
def TickB (g1 g2 : Nat) (r : Cl × Option (List Step) × Option (Cl × List Step)) (w : World) (e : Ending) (w' : World) : Prop :=
  ∃ v, e = .returned v ∧ PB w' g1 g2 r.1 r.2.1 ∧ OutB w' v r.2.2 ∧ Kp (fun j => j = g2) w w'
theorem Tick_A {w : World} {g1 g2 : Nat} {s : Cl} {o : Option (List Step)} (h : PA w g1 g2 s o) (hok : ClOk s o) :
    Calls Try.prog 21 #[.pointer (some ⟨g1, 0, none⟩)] w (TickA g1 g2 (tickS s o) w) := by
  have hn : 0 < s.n := by have := hok.n1; omega
  cases o with
  | none =>
    refine (Tick_shut g1 s w h hn).mono ?_
    rintro e w' ⟨rfl, rfl⟩
    exact ⟨_, rfl, h, rfl, Kp.refl _ _⟩
  | some l =>
    obtain ⟨A, c, hi, hf⟩ := h
    by_cases hw : s.waits < 4
    · rw [show tickS s (some l) = ({ s with waits := s.waits + 1 }, some l, none) from if_pos hw]
      refine (Tick_wait g1 s A c l w hi hn hw).mono ?_
      rintro e w' ⟨rfl, hi2, hk⟩
      exact ⟨_, rfl, ⟨A, c, hi2, hf⟩, rfl, hk⟩
    · rw [show tickS s (some l) = ({ s with to := s.to % s.n + 1, waits := 0 }, some l, some ({ s with to := s.to % s.n + 1 }, l)) from if_neg hw]
      refine (Tick_call g1 s A c l w hi hn hok.n7 (by have := hok.waits (by simp); omega)).mono ?_
      rintro e w' ⟨b, rfl, hse, hi2, hk⟩
      exact ⟨_, rfl, ⟨A, c, hi2, hf⟩, ⟨b, rfl, hse⟩, hk⟩
theorem Tick_B {w : World} {g1 g2 : Nat} {s : Cl} {o : Option (List Step)} (h : PB w g1 g2 s o) (hok : ClOk s o) :
    Calls Try.prog 32 #[.pointer (some ⟨g2, 0, none⟩)] w (TickB g1 g2 (tickS s o) w) := by
  have hn : 0 < s.n := by have := hok.n1; omega
  cases o with
  | none =>
    obtain ⟨A, k, c, hb⟩ := h
    refine (RTick_shut g2 s.rc A k c w hb).mono ?_
    rintro e w' ⟨rfl, rfl⟩
    exact ⟨_, rfl, ⟨A, k, c, hb⟩, rfl, Kp.refl _ _⟩
  | some l =>
    obtain ⟨A, c, hb, hr, hf⟩ := h
    by_cases hw : s.waits < 4
    · rw [show tickS s (some l) = ({ s with waits := s.waits + 1 }, some l, none) from if_pos hw]
      refine (RTick_wait g2 s.rc A l.length c w hb hw).mono ?_
      rintro e w' ⟨rfl, hb2, hk⟩
      exact ⟨_, rfl, ⟨A, c, hb2, hr.kp hk (fun hl k hk e => (hf hl).1 (by rw [hk, e])), hf⟩, rfl, hk⟩
    · rw [show tickS s (some l) = ({ s with to := s.to % s.n + 1, waits := 0 }, some l, some ({ s with to := s.to % s.n + 1 }, l)) from if_neg hw]
      refine (RTick_call g2 s.rc A l.length c w hb hn hok.n7 hok.to1 hok.ton hok.id8 (by have := hok.waits (by simp); show s.waits = 4; omega)).mono ?_
      rintro e w' ⟨b, rfl, _, hl2, hb2, hk⟩
      have hr2 := hr.kp hk (fun hl k hk e => (hf hl).1 (by rw [hk, e]))
      exact ⟨_, rfl, ⟨A, c, hb2, hr2, hf⟩, ⟨b, A, c, rfl, hl2, hr2⟩, hk⟩
/-! A letter. -/
def leads (s : Cl) (x : LV) : Prop := x.e.toInt = 16 ∧ 1 ≤ x.index.toNat ∧ x.index.toNat ≤ s.n ∧ x.index.toNat ≠ x.frm.toNat
instance (s : Cl) (x : LV) : Decidable (leads s x) := by unfold leads; exact inferInstance
instance (s : Cl) (kind frm to cl : UInt8) (cn : UInt64) : Decidable (Answers s kind frm to cl cn) := by unfold Answers; exact inferInstance
structure RpC where
  e : Int64
  at_ : Int64
  got : List Got
structure TkR where
  rep : RpC
  done : Bool
  s : Cl
  o : Option (List Step)
  out : Option (Cl × List Step)
def takeS (s : Cl) (o : Option (List Step)) (x : LV) : TkR := match o with
  | none => ⟨⟨0, 0, []⟩, false, s, none, none⟩
  | some l => if Answers s x.kind x.frm x.to x.cl x.cn then
      if x.e.toInt = 0 then ⟨⟨x.rE, x.rAt, x.got.l⟩, true, s, none, none⟩ else
      if leads s x then ⟨⟨0, 0, []⟩, false, { s with to := x.index.toNat, waits := 0 }, some l, some ({ s with to := x.index.toNat }, l)⟩ else ⟨⟨0, 0, []⟩, false, s, some l, none⟩
    else ⟨⟨0, 0, []⟩, false, s, some l, none⟩
def TakeA (g1 g2 : Nat) (r : TkR) (w : World) (e : Ending) (w' : World) : Prop :=
  ∃ v A2 c2, e = .returned (.tuple #[.agg #[.int .i64 r.rep.e.toInt, .int .i64 r.rep.at_.toInt, .slice A2 r.rep.got.length c2], .bool r.done, v]) ∧ RdG w' A2 c2 r.rep.got ∧ (0 < r.rep.got.length → ∀ k, blkOf A2 = some k → w.heap.size ≤ k) ∧ PA w' g1 g2 r.s r.o ∧ OutA w w' v r.out ∧ Kp (fun j => j = g1) w w'
def TakeB (g1 g2 : Nat) (r : TkR) (w : World) (e : Ending) (w' : World) : Prop :=
  ∃ v A2 c2, e = .returned (.tuple #[.agg #[.int .i64 r.rep.e.toInt, .int .i64 r.rep.at_.toInt, .slice A2 r.rep.got.length c2], .bool r.done, v]) ∧ RdG w' A2 c2 r.rep.got ∧ PB w' g1 g2 r.s r.o ∧ OutB w' v r.out ∧ Kp (fun j => j = g2) w w'
set_option maxRecDepth 20000 in
set_option maxHeartbeats 1000000 in
theorem Take_doneF (g : Nat) (s : Cl) (A : Option Addr) (c : Nat) (l : List Step) (frm to : UInt8) (term index mark commit : UInt64) (yes : Bool) (ents data steps : Value) (rE rAt : Int) (Ag : Option Addr) (cg : Nat) (gl : List Got) (w : World)
    (hi : IsO w g s A c l) (hn : 0 < s.n) (hto : to.toNat = 100 + s.id.toNat) (h1 : 1 ≤ frm.toNat) (h2 : frm.toNat ≤ s.n) (hid : s.id.toNat ≤ 8) (hr : RdG w Ag cg gl) (hgl : gl.length ≤ 100000) :
    Calls Try.prog 20 #[.pointer (some ⟨g, 0, none⟩), .agg #[.int .u8 7, .int .u8 frm.toNat, .int .u8 to.toNat, .int .u64 term.toNat, .int .u64 index.toNat, .int .u64 mark.toNat, .int .u64 commit.toNat, .bool yes, ents, data, .int .u8 s.id.toNat, .int .u64 s.num.toNat, steps, .int .i64 0, .int .i64 rE, .int .i64 rAt, .slice Ag gl.length cg]] w fun e w' =>
      ∃ A2, e = .returned (.tuple #[.agg #[.int .i64 rE, .int .i64 rAt, .slice A2 gl.length gl.length], .bool true, .slice none 0 0]) ∧ OwnG w' w.heap.size A2 gl.length gl ∧ Blk w' g 45 s.shut ∧ Kp (fun k => k = g) w w' := by
  have hb := hi.blk
  have hg : g < w.heap.size := hb.lt
  have hg1 : g < w.heap.size + 1 := by omega
  have hg2 : g < w.heap.size + 1 + 1 := by omega
  have hc0 : w.cell? ⟨g, 0, none⟩ = some (.int .u8 s.id.toNat) := hb.cell 0
  have hc1 : w.cell? ⟨g, 1, none⟩ = some (.int .i64 s.n) := hb.cell 1
  have hc3 : w.cell? ⟨g, 3, none⟩ = some (.int .u64 s.num.toNat) := hb.cell 3
  have hW8 : IntKind.u8.wrap (100 + (s.id.toNat : Int)) = 100 + (s.id.toNat : Int) := by rw [IntKind.wrap_u8]; omega
  have ht : (((to.toNat : Int)) != 100 + (s.id.toNat : Int)) = false := by rw [bne_eq_false_iff_eq]; omega
  have hd : (((s.id.toNat : Int)) != (s.id.toNat : Int)) = false := by simp
  have hm : (((s.num.toNat : Int)) != (s.num.toNat : Int)) = false := by simp
  have hfb : (frm.toNat : Int) ≤ 255 := by have := frm.toNat_lt; omega
  have hf1 : decide ((frm.toNat : Int) < 1) = false := decide_eq_false (by omega)
  have hf2 : decide ((s.n : Int) < (frm.toNat : Int)) = false := decide_eq_false (by omega)
  have HB := Lib.hid hb
  have HI := Lib.hid hi
  have HR := Lib.hid hr
  clear hb hi hr hto
  go_enter_defers Try.func20, Try.ntmps20
  go_wp2_with fail
  go_quiet ((go_at_call 22; refine Calls.quiet_of_same (Open_is g 45 (s.opn s.to A c l.length) s.n true _ ((((HB.out.alloc _).alloc _).alloc _).drewN _) rfl hn rfl)))
  have hmf : ∀ (fn : Fn) (first cap : Array Value) (w : World), (Instr.makeFunc fn first cap).run Try.prog w = .ok (.func fn first cap) w := fun _ _ _ _ => rfl
  go_wp2_with fail
  have HW : ∀ (o1 o2 o3 : Obj) (k : Nat) (u1 u2 u3 : Value), Nw w ((((((((w.alloc o1).alloc o2).alloc o3).drewN k).setCell ⟨w.heap.size + 1 + 1, 0, none⟩ u1).setCell ⟨w.heap.size + 1 + 1, 1, none⟩ u2).setCell ⟨w.heap.size + 1 + 1, 2, none⟩ u3)) :=
    fun o1 o2 o3 k u1 u2 u3 => (((((((Kp.refl _ w).alloc o1).alloc o2).alloc o3).drewN k).setNew (by simp; omega) _).setNew (by simp; omega) _).setNew (by simp; omega) _
  generalize hw3 : World.setCell _ _ _ = w3
  have hn3 : Nw w w3 := by rw [← hw3]; exact HW _ _ _ _ _ _ _
  have hN : w3.cell? ⟨w.heap.size, 0, none⟩ = some (.pointer (some ⟨g, 0, none⟩)) := by rw [← hw3]; exact (((((((Blk.new w _ _).alloc _).alloc _).drewN nq).far (p := ⟨w.heap.size + 1 + 1, 0, none⟩) (by simp; omega) _).far (p := ⟨w.heap.size + 1 + 1, 1, none⟩) (by simp; omega) _).far (p := ⟨w.heap.size + 1 + 1, 2, none⟩) (by simp; omega) _).cell 0
  have hR : Blk w3 (w.heap.size + 1 + 1) 34 #[.int .i64 rE, .int .i64 rAt, .slice Ag gl.length cg] := by rw [← hw3]; exact ((((Blk.newAt (by simp) _ _).drewN nq).set_ 0 _).set_ 1 _).set_ 2 _
  clear hw3 HW hc0 hc1 hc3 hW8 ht hd hm hf1 hf2
  have hb3 := HB.out.nw hn3
  have hr3 := HR.out.nw hn3
  have hlt3 : w.heap.size + 1 + 1 < w3.heap.size := hR.lt
  go_wp2_with (first
    | (go_at_call 90; go_must (refine (clone_got _ _ _ _ _ hr3 (got_one gl) (by unfold big; omega)).mono ?_); rintro e w4 ⟨A1, c1, rfl, ho4, hk4⟩; have hb4 := hb3.nw hk4; have hN4 := Nw.cell hk4 hN; have hR4 := hR.nw hk4; have r0 : w4.cell? ⟨w.heap.size + 1 + 1, 0, none⟩ = some (.int .i64 rE) := hR4.cell 0; have r1 : w4.cell? ⟨w.heap.size + 1 + 1, 1, none⟩ = some (.int .i64 rAt) := hR4.cell 1; have r2 : w4.cell? ⟨w.heap.size + 1 + 1, 2, none⟩ = some (.slice Ag gl.length cg) := hR4.cell 2; have f0 := hR4.free 0; have f1 := hR4.free 1; have f2 := hR4.free 2)
    | (go_at_call 89; go_must (refine (clip_got _ _ _ _ ho4.cap).mono ?_); rintro e w5 ⟨rfl, rfl⟩))
  have HS : ∀ (u0 u1 u2 u3 : Value), Nw w5 w5 → Kp (fun k => k = w.heap.size + 1 + 1) w5 ((((w5.setCell ⟨w.heap.size + 1 + 1, 2, none⟩ u3).setCell ⟨w.heap.size + 1 + 1, 0, none⟩ u0).setCell ⟨w.heap.size + 1 + 1, 1, none⟩ u1).setCell ⟨w.heap.size + 1 + 1, 2, none⟩ u2) :=
    fun u0 u1 u2 u3 _ => ((((Kp.refl (fun k => k = w.heap.size + 1 + 1) w5).setCell (p := ⟨w.heap.size + 1 + 1, 2, none⟩) (fun _ => rfl) _).setCell (p := ⟨w.heap.size + 1 + 1, 0, none⟩) (fun _ => rfl) _).setCell (p := ⟨w.heap.size + 1 + 1, 1, none⟩) (fun _ => rfl) _).setCell (p := ⟨w.heap.size + 1 + 1, 2, none⟩) (fun _ => rfl) _
  generalize hw6 : World.setCell _ _ _ = w6
  have hk6 : Kp (fun k => k = w.heap.size + 1 + 1) w5 w6 := by rw [← hw6]; exact HS _ _ _ _ (Kp.refl _ _)
  have hR6 : Blk w6 (w.heap.size + 1 + 1) 34 #[.int .i64 rE, .int .i64 rAt, .slice A1 gl.length gl.length] := by rw [← hw6]; exact (((hR4.set_ 2 _).set_ 0 _).set_ 1 _).set_ 2 _
  have hb6 := hb4.kp hk6 (by have := hn3.size; omega)
  have hN6 : w6.cell? ⟨w.heap.size, 0, none⟩ = some (.pointer (some ⟨g, 0, none⟩)) := hk6.cell hN4 (by simp; omega)
  have ho6 : Own w6 w3.heap.size 93 2 A1 gl.length gl.length _ := ho4.clip.kp hk6 (fun k hk e => by have := (ho4.lt k hk).1; omega)
  clear hw6 HS r0 r1 r2 f0 f1 f2
  refine leaves_cons (f := 88) (args := #[.pointer (some ⟨w.heap.size, 0, none⟩)]) (by simp) (by simp [go_sem]) ?_
  refine (Take1_deferred w.heap.size g s s.to A c l.length .returning w6 hN6 hb6).mono ?_
  rintro e u' w7 ⟨rfl, rfl, hb7, hk7⟩
  have hw7 : Kp (fun k => k = g) w w7 := ((Nw.kp (S := fun k => k = g) (hn3.nw hk4)).trans hk6 (fun i hi e => by omega)).trans hk7 (fun i hi e => e)
  refine ⟨_, res_ctt rfl isS_reply _ rfl (hR6.kp hk7 (show ¬ w.heap.size + 1 + 1 = g by omega)) [.int .i64 rE, .int .i64 rAt, .slice A1 gl.length gl.length] rfl rfl, A1, rfl, ?_, hb7, hw7⟩
  exact (ho6.kp hk7 (fun k hk e => by have := (ho4.lt k hk).1; omega)).low hn3.size
theorem tt_ {a b : Int} (h : a ≠ b) : (a != b) = true := bne_iff_ne.2 h
theorem ff_ {a b : Int} (h : a = b) : (a != b) = false := by rw [bne_eq_false_iff_eq]; exact h
theorem take_conds {s : Cl} {x : LV} (h : Answers s x.kind x.frm x.to x.cl x.cn) : ((x.kind.toNat : Int) != 7) = false ∧ ((x.to.toNat : Int) != 100 + (s.id.toNat : Int)) = false ∧ ((x.cl.toNat : Int) != (s.id.toNat : Int)) = false ∧ ((x.cn.toNat : Int) != (s.num.toNat : Int)) = false ∧ decide ((x.frm.toNat : Int) < 1) = false ∧ decide ((s.n : Int) < (x.frm.toNat : Int)) = false := by
  obtain ⟨h1, h2, h3, h4, h5, h6⟩ := h
  exact ⟨ff_ (by omega), ff_ (by omega), ff_ (by rw [h3]), ff_ (by rw [h4]), decide_eq_false (by omega), decide_eq_false (by omega)⟩
/-- How an answer that is none is none. -/
theorem no_ways {s : Cl} {x : LV} (h : ¬ leads s x) :
    (x.e.toInt ≠ 16) ∨ (x.e.toInt = 16 ∧ decide ((1 : Int) ≤ (x.index.toNat : Int)) = false) ∨ (x.e.toInt = 16 ∧ decide ((1 : Int) ≤ (x.index.toNat : Int)) = true ∧ decide ((x.index.toNat : Int) ≤ (s.n : Int)) = false) ∨ (x.e.toInt = 16 ∧ decide ((1 : Int) ≤ (x.index.toNat : Int)) = true ∧ decide ((x.index.toNat : Int) ≤ (s.n : Int)) = true ∧ ((x.index.toNat : Int) != (x.frm.toNat : Int)) = false) := by
  by_cases h1 : x.e.toInt = 16
  · by_cases h2 : 1 ≤ x.index.toNat
    · by_cases h3 : x.index.toNat ≤ s.n
      · by_cases h4 : x.index.toNat = x.frm.toNat
        · exact .inr (.inr (.inr ⟨h1, decide_eq_true (by omega), decide_eq_true (by omega), ff_ (by omega)⟩))
        · exact absurd ⟨h1, h2, h3, h4⟩ h
      · exact .inr (.inr (.inl ⟨h1, decide_eq_true (by omega), decide_eq_false (by omega)⟩))
    · exact .inr (.inl ⟨h1, decide_eq_false (by omega)⟩)
  · exact .inl h1
theorem RTake_miss (g : Nat) (s : Cl) (A : Option Addr) (k c : Nat) (kind frm to cl : UInt8) (term index mark commit cn : UInt64) (yes : Bool) (ents data steps got : Value) (E rE rAt : Int) (w : World)
    (hb : Blk w g 72 (s.rc.cells true A k c)) (hn7 : s.n ≤ 7) (hid : s.id.toNat ≤ 8) (h : ¬ Answers s kind frm to cl cn) :
    Calls Try.prog 33 #[.pointer (some ⟨g, 0, none⟩), .agg #[.int .i64 kind.toNat, .int .u8 frm.toNat, .int .u8 to.toNat, .int .u64 term.toNat, .int .u64 index.toNat, .int .u64 mark.toNat, .int .u64 commit.toNat, .bool yes, ents, data, .int .u8 cl.toNat, .int .u64 cn.toNat, steps, .int .i64 E, .int .i64 rE, .int .i64 rAt, got]] w (TakeNo w) := by
  by_cases h0 : kind.toNat = 7
  · by_cases h1 : to.toNat = 100 + s.id.toNat
    · by_cases h2 : cl = s.id
      · by_cases h3 : cn = s.num
        · by_cases h4 : 1 ≤ frm.toNat
          · have h5 : ¬ frm.toNat ≤ s.n := fun h5 => h ⟨h0, h1, h2, h3, h4, h5⟩
            exact RTake_miss5 g s.rc A k c kind frm to cl term index mark commit cn yes ents data steps got E rE rAt w hb hn7 hid (ff_ (by omega)) (ff_ (by show (to.toNat : Int) = 100 + (s.id.toNat : Int); omega)) (ff_ (by rw [h2]; rfl)) (ff_ (by rw [h3]; rfl)) (decide_eq_false (by omega)) (decide_eq_true (by show (s.n : Int) < _; omega))
          · exact RTake_miss4 g s.rc A k c kind frm to cl term index mark commit cn yes ents data steps got E rE rAt w hb hn7 hid (ff_ (by omega)) (ff_ (by show (to.toNat : Int) = 100 + (s.id.toNat : Int); omega)) (ff_ (by rw [h2]; rfl)) (ff_ (by rw [h3]; rfl)) (decide_eq_true (by omega))
        · exact RTake_miss3 g s.rc A k c kind frm to cl term index mark commit cn yes ents data steps got E rE rAt w hb hn7 hid (ff_ (by omega)) (ff_ (by show (to.toNat : Int) = 100 + (s.id.toNat : Int); omega)) (ff_ (by rw [h2]; rfl)) (tt_ (fun e => h3 (UInt64.toNat.inj (by have e' : (cn.toNat : Int) = (s.num.toNat : Int) := e; omega))))
      · exact RTake_miss2 g s.rc A k c kind frm to cl term index mark commit cn yes ents data steps got E rE rAt w hb hn7 hid (ff_ (by omega)) (ff_ (by show (to.toNat : Int) = 100 + (s.id.toNat : Int); omega)) (tt_ (fun e => h2 (UInt8.toNat.inj (by have e' : (cl.toNat : Int) = (s.id.toNat : Int) := e; omega))))
    · exact RTake_miss1 g s.rc A k c kind frm to cl term index mark commit cn yes ents data steps got E rE rAt w hb hn7 hid (ff_ (by omega)) (tt_ (by show (to.toNat : Int) ≠ 100 + (s.id.toNat : Int); omega))
  · exact RTake_miss0 g s.rc A k c kind frm to cl term index mark commit cn yes ents data steps got E rE rAt w hb hn7 hid (tt_ (by omega))
theorem Take_A {w : World} {g1 g2 : Nat} {s : Cl} {o : Option (List Step)} (h : PA w g1 g2 s o) (hok : ClOk s o) (x : LV) (hr : RdG w x.got.A x.got.c x.got.l) (hg : x.got.l.length ≤ 100000) :
    Calls Try.prog 20 #[.pointer (some ⟨g1, 0, none⟩), .agg x.cells.toArray] w (TakeA g1 g2 (takeS s o x) w) := by
  have hn : 0 < s.n := by have := hok.n1; omega
  have hn7 := hok.n7
  have hid := hok.id8
  show Calls Try.prog 20 #[.pointer (some ⟨g1, 0, none⟩), .agg #[.int .u8 x.kind.toNat, .int .u8 x.frm.toNat, .int .u8 x.to.toNat, .int .u64 x.term.toNat, .int .u64 x.index.toNat, .int .u64 x.mark.toNat, .int .u64 x.commit.toNat, .bool x.yes, .slice x.ents.A x.ents.l.length x.ents.c, .slice x.data.A x.data.l.length x.data.c, .int .u8 x.cl.toNat, .int .u64 x.cn.toNat, .slice x.steps.A x.steps.l.length x.steps.c, .int .i64 x.e.toInt, .int .i64 x.rE.toInt, .int .i64 x.rAt.toInt, .slice x.got.A x.got.l.length x.got.c]] w _
  have zero : ∀ {e : Ending} {w' : World}, TakeNoP w e w' → PA w g1 g2 s o → TakeA g1 g2 ⟨⟨0, 0, []⟩, false, s, o, none⟩ w e w' := fun ⟨he, hk⟩ hp => ⟨_, none, 0, he, Rd.nil _ 2, (fun h => absurd h (by simp)), hp.nw hk, rfl, hk.kp⟩
  cases o with
  | none =>
    refine (Take_not (some ⟨g1, 0, none⟩) _ w (fun w1 hk => Open_is g1 45 s.shut s.n false w1 (Blk.nw h hk) rfl hn rfl)).mono ?_
    intro e w' he
    exact zero he h
  | some l =>
    have hp := h
    obtain ⟨A, c, hi, hf⟩ := h
    by_cases ha : Answers s x.kind x.frm x.to x.cl x.cn
    · obtain ⟨k1, k2, k3, k4, k5, k6⟩ := take_conds ha
      by_cases h0 : x.e.toInt = 0
      · rw [show takeS s (some l) x = ⟨⟨x.rE, x.rAt, x.got.l⟩, true, s, none, none⟩ by simp only [takeS]; rw [if_pos ha, if_pos h0], h0]
        obtain ⟨e1, e2, e3, e4, e5, e6⟩ := ha
        rw [e3, e4, show (x.kind.toNat : Int) = 7 by omega]
        refine (Take_doneF g1 s A c l x.frm x.to x.term x.index x.mark x.commit x.yes _ _ _ x.rE.toInt x.rAt.toInt x.got.A x.got.c x.got.l w hi hn e2 e5 e6 hid hr hg).mono ?_
        rintro e w' ⟨A2, rfl, ho, hb, hk⟩
        exact ⟨_, A2, _, rfl, ho.rd, (fun _ k hk => (ho.lt k hk).1), hb, rfl, hk⟩
      · by_cases hl : leads s x
        · rw [show takeS s (some l) x = ⟨⟨0, 0, []⟩, false, { s with to := x.index.toNat, waits := 0 }, some l, some ({ s with to := x.index.toNat }, l)⟩ by simp only [takeS]; rw [if_pos ha, if_neg h0, if_pos hl], hl.1]
          refine (Take_lead g1 s A c l x.kind x.frm x.to x.cl x.term x.index x.mark x.commit x.cn x.yes _ _ _ _ x.rE.toInt x.rAt.toInt w hi hn hn7 hid k1 k2 k3 k4 k5 k6 (decide_eq_true (by have := hl.2.1; omega)) (decide_eq_true (by have := hl.2.2.1; omega)) (tt_ (by have := hl.2.2.2; omega))).mono ?_
          rintro e w' ⟨b, rfl, hse, hio, hk⟩
          exact ⟨_, none, 0, rfl, Rd.nil _ 2, (fun h => absurd h (by simp)), ⟨A, c, hio, hf⟩, ⟨b, rfl, hse⟩, hk⟩
        · rw [show takeS s (some l) x = ⟨⟨0, 0, []⟩, false, s, some l, none⟩ by simp only [takeS]; rw [if_pos ha, if_neg h0, if_neg hl]]
          rcases no_ways hl with q | ⟨q, q1⟩ | ⟨q, q1, q2⟩ | ⟨q, q1, q2, q3⟩
          · exact (Take_no0 g1 s A c l x.kind x.frm x.to x.cl x.term x.index x.mark x.commit x.cn x.yes _ _ _ _ x.e.toInt x.rE.toInt x.rAt.toInt w hi hn hn7 hid k1 k2 k3 k4 k5 k6 (beq_eq_false_iff_ne.2 h0) (beq_eq_false_iff_ne.2 q)).mono fun e w' he => zero he hp
          · rw [q]
            exact (Take_no1 g1 s A c l x.kind x.frm x.to x.cl x.term x.index x.mark x.commit x.cn x.yes _ _ _ _ x.rE.toInt x.rAt.toInt w hi hn hn7 hid k1 k2 k3 k4 k5 k6 q1).mono fun e w' he => zero he hp
          · rw [q]
            exact (Take_no2 g1 s A c l x.kind x.frm x.to x.cl x.term x.index x.mark x.commit x.cn x.yes _ _ _ _ x.rE.toInt x.rAt.toInt w hi hn hn7 hid k1 k2 k3 k4 k5 k6 q1 q2).mono fun e w' he => zero he hp
          · rw [q]
            exact (Take_no3 g1 s A c l x.kind x.frm x.to x.cl x.term x.index x.mark x.commit x.cn x.yes _ _ _ _ x.rE.toInt x.rAt.toInt w hi hn hn7 hid k1 k2 k3 k4 k5 k6 q1 q2 q3).mono fun e w' he => zero he hp
    · rw [show takeS s (some l) x = ⟨⟨0, 0, []⟩, false, s, some l, none⟩ by simp only [takeS]; rw [if_neg ha]]
      exact (Take_miss g1 s A c l x.kind x.frm x.to x.cl x.term x.index x.mark x.commit x.cn x.yes _ _ _ _ x.e.toInt x.rE.toInt x.rAt.toInt w hi hn hid ha).mono fun e w' he => zero he hp
theorem Take_B {w : World} {g1 g2 : Nat} {s : Cl} {o : Option (List Step)} (h : PB w g1 g2 s o) (hok : ClOk s o) (x : LV) (hr : RdG w x.got.A x.got.c x.got.l) (hg : 0 < x.got.l.length → blkOf x.got.A ≠ some g2) :
    Calls Try.prog 33 #[.pointer (some ⟨g2, 0, none⟩), .agg x.rcells.toArray] w (TakeB g1 g2 (takeS s o x) w) := by
  have hn : 0 < s.n := by have := hok.n1; omega
  have hn7 := hok.n7
  have hid := hok.id8
  show Calls Try.prog 33 #[.pointer (some ⟨g2, 0, none⟩), .agg #[.int .i64 x.kind.toNat, .int .u8 x.frm.toNat, .int .u8 x.to.toNat, .int .u64 x.term.toNat, .int .u64 x.index.toNat, .int .u64 x.mark.toNat, .int .u64 x.commit.toNat, .bool x.yes, .slice x.ents.A x.ents.l.length x.ents.c, .slice x.data.A x.data.l.length x.data.c, .int .u8 x.cl.toNat, .int .u64 x.cn.toNat, .slice x.steps.A x.steps.l.length x.steps.c, .int .i64 x.e.toInt, .int .i64 x.rE.toInt, .int .i64 x.rAt.toInt, .slice x.got.A x.got.l.length x.got.c]] w _
  have zero : ∀ {e : Ending} {w' : World}, TakeNo w e w' → PB w g1 g2 s o → TakeB g1 g2 ⟨⟨0, 0, []⟩, false, s, o, none⟩ w e w' := fun ⟨he, hk⟩ hp => ⟨_, none, 0, he, Rd.nil _ 2, hp.nw hk, rfl, hk.kp⟩
  cases o with
  | none =>
    have hp := h
    obtain ⟨A, k, c, hb⟩ := h
    exact (RTake_shut g2 s.rc A k c _ w hb).mono fun e w' he => zero he hp
  | some l =>
    have hp := h
    obtain ⟨A, c, hb, hrl, hf⟩ := h
    by_cases ha : Answers s x.kind x.frm x.to x.cl x.cn
    · obtain ⟨k1, k2, k3, k4, k5, k6⟩ := take_conds ha
      by_cases h0 : x.e.toInt = 0
      · rw [show takeS s (some l) x = ⟨⟨x.rE, x.rAt, x.got.l⟩, true, s, none, none⟩ by simp only [takeS]; rw [if_pos ha, if_pos h0], h0]
        refine (RTake_done g2 s.rc A l.length c x.kind x.frm x.to x.cl x.term x.index x.mark x.commit x.cn x.yes _ _ _ x.got.A x.got.l.length x.got.c x.rE.toInt x.rAt.toInt w hb hn7 hid k1 k2 k3 k4 k5 k6).mono ?_
        rintro e w' ⟨rfl, hb2, hk⟩
        exact ⟨_, _, _, rfl, hr.kp hk (fun hl k hk e => hg hl (by rw [hk, e])), ⟨A, _, c, hb2⟩, rfl, hk⟩
      · by_cases hl : leads s x
        · rw [show takeS s (some l) x = ⟨⟨0, 0, []⟩, false, { s with to := x.index.toNat, waits := 0 }, some l, some ({ s with to := x.index.toNat }, l)⟩ by simp only [takeS]; rw [if_pos ha, if_neg h0, if_pos hl], hl.1]
          refine (RTake_lead g2 s.rc A l.length c x.kind x.frm x.to x.cl x.term x.index x.mark x.commit x.cn x.yes _ _ _ _ x.rE.toInt x.rAt.toInt w hb hn7 hid k1 k2 k3 k4 k5 k6 (decide_eq_true (by have := hl.2.1; omega)) (decide_eq_true (by have := hl.2.2.1; show _ ≤ (s.n : Int); omega)) (tt_ (by have := hl.2.2.2; omega))).mono ?_
          rintro e w' ⟨b, rfl, _, hl2, hb2, hk⟩
          have hr2 := hrl.kp hk (fun hl k hk e => (hf hl).1 (by rw [hk, e]))
          exact ⟨_, none, 0, rfl, Rd.nil _ 2, ⟨A, c, hb2, hr2, hf⟩, ⟨b, A, c, rfl, hl2, hr2⟩, hk⟩
        · rw [show takeS s (some l) x = ⟨⟨0, 0, []⟩, false, s, some l, none⟩ by simp only [takeS]; rw [if_pos ha, if_neg h0, if_neg hl]]
          rcases no_ways hl with q | ⟨q, q1⟩ | ⟨q, q1, q2⟩ | ⟨q, q1, q2, q3⟩
          · exact (RTake_no0 g2 s.rc A l.length c x.kind x.frm x.to x.cl x.term x.index x.mark x.commit x.cn x.yes _ _ _ _ x.e.toInt x.rE.toInt x.rAt.toInt w hb hn7 hid k1 k2 k3 k4 k5 k6 (beq_eq_false_iff_ne.2 h0) (beq_eq_false_iff_ne.2 q)).mono fun e w' he => zero he hp
          · rw [q]
            exact (RTake_no1 g2 s.rc A l.length c x.kind x.frm x.to x.cl x.term x.index x.mark x.commit x.cn x.yes _ _ _ _ x.rE.toInt x.rAt.toInt w hb hn7 hid k1 k2 k3 k4 k5 k6 q1).mono fun e w' he => zero he hp
          · rw [q]
            exact (RTake_no2 g2 s.rc A l.length c x.kind x.frm x.to x.cl x.term x.index x.mark x.commit x.cn x.yes _ _ _ _ x.rE.toInt x.rAt.toInt w hb hn7 hid k1 k2 k3 k4 k5 k6 q1 q2).mono fun e w' he => zero he hp
          · rw [q]
            exact (RTake_no3 g2 s.rc A l.length c x.kind x.frm x.to x.cl x.term x.index x.mark x.commit x.cn x.yes _ _ _ _ x.rE.toInt x.rAt.toInt w hb hn7 hid k1 k2 k3 k4 k5 k6 q1 q2 q3).mono fun e w' he => zero he hp
    · rw [show takeS s (some l) x = ⟨⟨0, 0, []⟩, false, s, some l, none⟩ by simp only [takeS]; rw [if_neg ha]]
      exact (RTake_miss g2 s A l.length c x.kind x.frm x.to x.cl x.term x.index x.mark x.commit x.cn x.yes _ _ _ _ x.e.toInt x.rE.toInt x.rAt.toInt w hb hn7 hid ha).mono fun e w' he => zero he hp
theorem OutA.kp {S : Nat → Prop} {w0 w w' : World} {v : Value} {out : Option (Cl × List Step)} (h : OutA w0 w v out) (hk : Kp S w w') (hs : ∀ k, S k → k < w0.heap.size) : OutA w0 w' v out := by
  cases out with
  | none => exact h
  | some p =>
    obtain ⟨s, l⟩ := p
    obtain ⟨b, h1, A1, h2, h3, h4⟩ := h
    exact ⟨b, h1, A1, h2, h3.kp hk (fun e => by have := hs b e; omega), h4.kp hk (fun k hk' e => by have := hs k e; have := (h4.lt k hk').1; omega)⟩
/-- Which letters may be sent. -/
def OutOk (out : Option (Cl × List Step)) : Prop := ∀ s l, out = some (s, l) → s.id.toNat ≤ 8 ∧ s.to ≤ 7 ∧ l.length ≤ 8
theorem PA.len {w : World} {g1 g2 : Nat} {s : Cl} {l : List Step} (h : PA w g1 g2 s (some l)) : l.length ≤ 8 := by obtain ⟨A, c, hi, _⟩ := h; exact hi.len
theorem call_ok {s : Cl} {o : Option (List Step)} (h : ClOk s o) (l : List Step) : ClOk (callS s o l).2.1 (callS s o l).2.2.1 ∧ (callS s o l).2.1.id = s.id ∧ (callS s o l).2.1.n = s.n ∧ OutOk (callS s o l).2.2.2 := by
  unfold callS
  split
  · exact ⟨h, rfl, rfl, fun _ _ e => by cases e⟩
  · split
    · exact ⟨h, rfl, rfl, fun _ _ e => by cases e⟩
    · next hl => exact ⟨⟨h.id1, h.id8, h.n1, h.n7, h.to1, h.ton, fun _ => Nat.zero_le _⟩, rfl, rfl, fun s' l' e => by cases e; exact ⟨h.id8, by show s.to ≤ 7; have := h.ton; have := h.n7; omega, by omega⟩⟩
theorem tick_ok {s : Cl} {o : Option (List Step)} (h : ClOk s o) (hl : ∀ l, o = some l → l.length ≤ 8) : ClOk (tickS s o).1 (tickS s o).2.1 ∧ (tickS s o).1.id = s.id ∧ (tickS s o).1.n = s.n ∧ OutOk (tickS s o).2.2 := by
  unfold tickS
  split
  · exact ⟨h, rfl, rfl, fun _ _ e => by cases e⟩
  · next l =>
    have hm := Nat.mod_lt s.to (show 0 < s.n by have := h.n1; omega)
    split
    · next hw => exact ⟨⟨h.id1, h.id8, h.n1, h.n7, h.to1, h.ton, fun _ => by show s.waits + 1 ≤ 4; omega⟩, rfl, rfl, fun _ _ e => by cases e⟩
    · exact ⟨⟨h.id1, h.id8, h.n1, h.n7, by show 1 ≤ s.to % s.n + 1; omega, by show s.to % s.n + 1 ≤ s.n; omega, fun _ => Nat.zero_le _⟩, rfl, rfl, fun s' l' e => by cases e; exact ⟨h.id8, by show s.to % s.n + 1 ≤ 7; have := h.n7; omega, hl _ rfl⟩⟩
theorem take_ok {s : Cl} {o : Option (List Step)} (h : ClOk s o) (hl : ∀ l, o = some l → l.length ≤ 8) (x : LV) : ClOk (takeS s o x).s (takeS s o x).o ∧ (takeS s o x).s.id = s.id ∧ (takeS s o x).s.n = s.n ∧ OutOk (takeS s o x).out := by
  unfold takeS
  split
  · exact ⟨h, rfl, rfl, fun _ _ e => by cases e⟩
  · next l =>
    split
    · split
      · exact ⟨⟨h.id1, h.id8, h.n1, h.n7, h.to1, h.ton, fun e => absurd rfl e⟩, rfl, rfl, fun _ _ e => by cases e⟩
      · split
        · next hld => exact ⟨⟨h.id1, h.id8, h.n1, h.n7, hld.2.1, hld.2.2.1, fun _ => Nat.zero_le _⟩, rfl, rfl, fun s' l' e => by cases e; exact ⟨h.id8, by show x.index.toNat ≤ 7; have := hld.2.2.1; have := h.n7; omega, hl _ rfl⟩⟩
        · exact ⟨h, rfl, rfl, fun _ _ e => by cases e⟩
    · exact ⟨h, rfl, rfl, fun _ _ e => by cases e⟩
theorem PB.id_ {w : World} {g1 g2 : Nat} {s : Cl} {o : Option (List Step)} (h : PB w g1 g2 s o) : w.cell? ⟨g2, 0, none⟩ = some (.int .u8 s.id.toNat) ∧ w.cell? ⟨g2, 3, none⟩ = some (.int .u64 s.num.toNat) ∧ w.cell? ⟨g2, 4, none⟩ = some (.bool o.isSome) := by
  cases o with
  | none => obtain ⟨A, k, c, hb⟩ := h; exact ⟨hb.cell 0, hb.cell 3, hb.cell 4⟩
  | some l => obtain ⟨A, c, hb, _⟩ := h; exact ⟨hb.cell 0, hb.cell 3, hb.cell 4⟩
theorem Open_A {w : World} {g1 g2 : Nat} {s : Cl} {o : Option (List Step)} (h : PA w g1 g2 s o) (hn : 0 < s.n) : Calls Try.prog 22 #[.pointer (some ⟨g1, 0, none⟩)] w fun e w' => e = .returned (.bool o.isSome) ∧ w' = w := by
  cases o with
  | none => exact Open_is g1 _ _ s.n false w h rfl hn rfl
  | some l => obtain ⟨A, c, hi, _⟩ := h; exact Open_is g1 _ _ s.n true w hi.blk rfl hn rfl
theorem Num_A {w : World} {g1 g2 : Nat} {s : Cl} {o : Option (List Step)} (h : PA w g1 g2 s o) (hn : 0 < s.n) : Calls Try.prog 23 #[.pointer (some ⟨g1, 0, none⟩)] w fun e w' => e = .returned (.int .u64 s.num.toNat) ∧ w' = w := by
  cases o with
  | none => exact Num_is g1 _ _ s.n s.num.toNat w h rfl hn rfl
  | some l => obtain ⟨A, c, hi, _⟩ := h; exact Num_is g1 _ _ s.n s.num.toNat w hi.blk rfl hn rfl
end Go.Proofs.Ytiimdnachgkomaa
