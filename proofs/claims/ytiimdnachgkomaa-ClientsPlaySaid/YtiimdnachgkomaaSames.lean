/- SameReply, SameCall, SameBytes, SameEntries: at equal data. -/
import Derived.Test.YtiimdnachgkomaaSame
import Derived.Test.YtiimdnachgkomaaLetterV
import Derived.Deep.RegionHeld3
namespace Go.Proofs.Ytiimdnachgkomaa
open Go Go.RowKit
theorem Nw.drawn {w : World} {m : Nat} : Nw w (w.drewN m) := (Kp.refl _ w).drewN m
set_option maxRecDepth 20000 in
theorem SameReply_ (e at_ : Int) (A B : Option Addr) (c c' : Nat) (l : List Got) (w : World) (hr : RdG w A c l) (hs : RdG w B c' l) :
    Calls Try.prog 35 #[.agg #[.int .i64 e, .int .i64 at_, .slice A l.length c], .agg #[.int .i64 e, .int .i64 at_, .slice B l.length c']] w fun e w' => e = .returned (.bool true) ∧ Nw w w' := by
  have HR := Lib.hid (fun o o' => (hr.alloc o).alloc o')
  have HS := Lib.hid (fun o o' => (hs.alloc o).alloc o')
  have h1 : (e == e) = true := by simp
  have h2 : (at_ == at_) = true := by simp
  clear hr hs
  go_enter Try.func35, Try.ntmps35
  go_wp2_with (go_at_call 95; go_must (refine (sameGot _ _ _ _ _ _ (HR.out _ _) (HS.out _ _)).mono ?_); rintro e w1 ⟨rfl, n1, rfl⟩)
  go_ret
  exact ⟨rfl, (((Kp.refl _ w).alloc _).alloc _).drewN _⟩
set_option maxRecDepth 20000 in
theorem SameCall_ (cl num : Int) (A B : Option Addr) (c c' : Nat) (l : List Step) (w : World) (hr : RdSt w A c l) (hs : RdSt w B c' l) :
    Calls Try.prog 116 #[.agg #[.int .u8 cl, .int .u64 num, .slice A l.length c], .agg #[.int .u8 cl, .int .u64 num, .slice B l.length c']] w fun e w' => e = .returned (.bool true) ∧ Nw w w' := by
  have HR := Lib.hid (fun o o' => (hr.alloc o).alloc o')
  have HS := Lib.hid (fun o o' => (hs.alloc o).alloc o')
  have h1 : (cl == cl) = true := by simp
  have h2 : (num == num) = true := by simp
  clear hr hs
  go_enter Try.func116, Try.ntmps116
  go_wp2_with (go_at_call 141; go_must (refine (sameSt _ _ _ _ _ _ (HR.out _ _) (HS.out _ _)).mono ?_); rintro e w1 ⟨rfl, n1, rfl⟩)
  go_ret
  exact ⟨rfl, (((Kp.refl _ w).alloc _).alloc _).drewN _⟩
theorem flat_bv (l : List UInt8) : l.flatMap (fun b => [bv b]) = l.map bv := by
  induction l with
  | nil => rfl
  | cons x l ih => simp only [List.flatMap_cons, List.map_cons, ih]; rfl
set_option maxRecDepth 20000 in
theorem SameBytes_ (A B : Option Addr) (c c' : Nat) (l : List UInt8) (w : World) (hr : RdB w A c l) (hs : RdB w B c' l) :
    Calls Try.prog 46 #[.slice A l.length c, .slice B l.length c'] w fun e w' => e = .returned (.bool true) ∧ ∃ m, w' = w.drewN m := by
  have h := sameB A B c c' l w (by rw [flat_bv]; exact hr) (by rw [flat_bv]; exact hs)
  go_enter Try.func46, Try.ntmps46
  go_wp2_with (go_at_call 99; go_must (refine h.mono ?_); rintro e w1 ⟨rfl, n1, rfl⟩)
  go_ret
  exact ⟨rfl, n1, rfl⟩

/-- Two entries of the same content. -/
def EntV.Like (a b : EntV) : Prop := a.index = b.index ∧ a.term = b.term ∧ a.cl = b.cl ∧ a.num = b.num ∧ a.steps.l = b.steps.l
structure EntsLike (s t : Sl EntV) : Prop where
  len : s.l.length = t.l.length
  each : ∀ (i : Nat) (a b : EntV), s.l[i]? = some a → t.l[i]? = some b → a.Like b

set_option maxRecDepth 20000 in
set_option maxHeartbeats 1000000 in
theorem SameEntries_some (ad bd : Addr) (c c' : Nat) (l k : List EntV) (w : World) (hr : EntsOk w ⟨l, some ad, c⟩) (hs : EntsOk w ⟨k, some bd, c'⟩) (hl : EntsLike ⟨l, some ad, c⟩ ⟨k, some bd, c'⟩) :
    Calls Try.prog 67 #[.slice (some ad) l.length c, .slice (some bd) l.length c'] w fun e w' => e = .returned (.bool true) ∧ Nw w w' := by
  have HR := Lib.hid hr
  have HS := Lib.hid hs
  have HL := Lib.hid hl
  have hlk : k.length = l.length := hl.len.symm
  have hm : Hid (l.length ≤ 140737488351232) := Lib.hid hr.len
  clear hr hs hl
  have hl0 : ((l.length : Int) != (l.length : Int)) = false := by simp
  go_enter Try.func67, Try.ntmps67
  go_wp2_with fail
  go_loopw [5] (fun i wr => ∃ q : Nat, i = .int .i64 q ∧ q ≤ l.length ∧ Nw w wr) (fun i _ => l.length - (intOf i).toNat)
  case atStart => exact ⟨0, rfl, by omega, Kp.refl _ w⟩
  case round =>
    obtain ⟨q, rfl, hq, hn⟩ := hrel
    by_cases hlt : q < l.length
    · have hd1 : decide ((q : Int) < (l.length : Int)) = true := decide_eq_true (by omega)
      obtain ⟨_, e1, ha⟩ := (HR.out.nw hn).at_ hlt
      obtain ⟨_, e2, hb⟩ := (HS.out.nw hn).at_ (k := q) (show q < k.length by omega)
      cases e1
      cases e2
      have HA := (HR.out.nw hn).each q _ (List.getElem?_eq_getElem hlt)
      have HB := (HS.out.nw hn).each q _ (List.getElem?_eq_getElem (show q < k.length by omega))
      obtain ⟨k1, k2, k3, k4, k5⟩ := HL.out.each q _ _ (List.getElem?_eq_getElem hlt) (List.getElem?_eq_getElem (show q < k.length by omega))
      simp only [] at ha hb HA HB k1 k2 k3 k4 k5
      generalize l[q] = x at ha HA k1 k2 k3 k4 k5
      generalize k[q] = y at hb HB k1 k2 k3 k4 k5
      have a0 : wr.cell? (ad.add (q * 5)) = some (.int .u64 x.index.toNat) := ha 0 _ rfl
      have a1 : wr.cell? ⟨(ad.add (q * 5)).block, (ad.add (q * 5)).off + 1, none⟩ = some (.int .u64 x.term.toNat) := by rw [fld_ ad (q * 5) 1 (by decide)]; exact ha 1 _ rfl
      have a2 : wr.cell? ⟨(ad.add (q * 5)).block, (ad.add (q * 5)).off + 2, none⟩ = some (.int .u8 x.cl.toNat) := by rw [fld_ ad (q * 5) 2 (by decide)]; exact ha 2 _ rfl
      have a3 : wr.cell? ⟨(ad.add (q * 5)).block, (ad.add (q * 5)).off + 3, none⟩ = some (.int .u64 x.num.toNat) := by rw [fld_ ad (q * 5) 3 (by decide)]; exact ha 3 _ rfl
      have a4 : wr.cell? ⟨(ad.add (q * 5)).block, (ad.add (q * 5)).off + 4, none⟩ = some (.slice x.steps.A x.steps.l.length x.steps.c) := by rw [fld_ ad (q * 5) 4 (by decide)]; exact ha 4 _ rfl
      have b0 : wr.cell? (bd.add (q * 5)) = some (.int .u64 x.index.toNat) := (hb 0 _ rfl).trans (by rw [k1])
      have b1 : wr.cell? ⟨(bd.add (q * 5)).block, (bd.add (q * 5)).off + 1, none⟩ = some (.int .u64 x.term.toNat) := by rw [fld_ bd (q * 5) 1 (by decide)]; exact (hb 1 _ rfl).trans (by rw [k2])
      have b2 : wr.cell? ⟨(bd.add (q * 5)).block, (bd.add (q * 5)).off + 2, none⟩ = some (.int .u8 x.cl.toNat) := by rw [fld_ bd (q * 5) 2 (by decide)]; exact (hb 2 _ rfl).trans (by rw [k3])
      have b3 : wr.cell? ⟨(bd.add (q * 5)).block, (bd.add (q * 5)).off + 3, none⟩ = some (.int .u64 x.num.toNat) := by rw [fld_ bd (q * 5) 3 (by decide)]; exact (hb 3 _ rfl).trans (by rw [k4])
      have b4 : wr.cell? ⟨(bd.add (q * 5)).block, (bd.add (q * 5)).off + 4, none⟩ = some (.slice y.steps.A x.steps.l.length y.steps.c) := by rw [fld_ bd (q * 5) 4 (by decide)]; exact (hb 4 _ rfl).trans (by rw [k5])
      have HX : Hid (RdSt wr x.steps.A x.steps.c x.steps.l) := Lib.hid HA.1
      have HY : Hid (RdSt wr y.steps.A y.steps.c x.steps.l) := Lib.hid (by rw [k5]; exact HB.1)
      clear ha hb HA HB k1 k2 k3 k4 k5 hlk
      have t1 : ((x.index.toNat : Int) != (x.index.toNat : Int)) = false := by simp
      have t2 : ((x.term.toNat : Int) != (x.term.toNat : Int)) = false := by simp
      have HSS : Hid (∀ w', Nw wr w' → Nw wr w' ∧ w'.cell? (ad.add (q * 5)) = some (.int .u64 x.index.toNat) ∧ w'.cell? ⟨(ad.add (q * 5)).block, (ad.add (q * 5)).off + 1, none⟩ = some (.int .u64 x.term.toNat) ∧ w'.cell? ⟨(ad.add (q * 5)).block, (ad.add (q * 5)).off + 2, none⟩ = some (.int .u8 x.cl.toNat) ∧ w'.cell? ⟨(ad.add (q * 5)).block, (ad.add (q * 5)).off + 3, none⟩ = some (.int .u64 x.num.toNat) ∧ w'.cell? ⟨(ad.add (q * 5)).block, (ad.add (q * 5)).off + 4, none⟩ = some (.slice x.steps.A x.steps.l.length x.steps.c) ∧ w'.cell? (bd.add (q * 5)) = some (.int .u64 x.index.toNat) ∧ w'.cell? ⟨(bd.add (q * 5)).block, (bd.add (q * 5)).off + 1, none⟩ = some (.int .u64 x.term.toNat) ∧ w'.cell? ⟨(bd.add (q * 5)).block, (bd.add (q * 5)).off + 2, none⟩ = some (.int .u8 x.cl.toNat) ∧ w'.cell? ⟨(bd.add (q * 5)).block, (bd.add (q * 5)).off + 3, none⟩ = some (.int .u64 x.num.toNat) ∧ w'.cell? ⟨(bd.add (q * 5)).block, (bd.add (q * 5)).off + 4, none⟩ = some (.slice y.steps.A x.steps.l.length y.steps.c)) := Lib.hid (fun w' h => ⟨h, h.cell a0, h.cell a1, h.cell a2, h.cell a3, h.cell a4, h.cell b0, h.cell b1, h.cell b2, h.cell b3, h.cell b4⟩)
      go_wp2_with fail
      go_region_held3 (fun w' => Nw wr w' ∧ w'.cell? (ad.add (q * 5)) = some (.int .u64 x.index.toNat) ∧ w'.cell? ⟨(ad.add (q * 5)).block, (ad.add (q * 5)).off + 1, none⟩ = some (.int .u64 x.term.toNat) ∧ w'.cell? ⟨(ad.add (q * 5)).block, (ad.add (q * 5)).off + 2, none⟩ = some (.int .u8 x.cl.toNat) ∧ w'.cell? ⟨(ad.add (q * 5)).block, (ad.add (q * 5)).off + 3, none⟩ = some (.int .u64 x.num.toNat) ∧ w'.cell? ⟨(ad.add (q * 5)).block, (ad.add (q * 5)).off + 4, none⟩ = some (.slice x.steps.A x.steps.l.length x.steps.c) ∧ w'.cell? (bd.add (q * 5)) = some (.int .u64 x.index.toNat) ∧ w'.cell? ⟨(bd.add (q * 5)).block, (bd.add (q * 5)).off + 1, none⟩ = some (.int .u64 x.term.toNat) ∧ w'.cell? ⟨(bd.add (q * 5)).block, (bd.add (q * 5)).off + 2, none⟩ = some (.int .u8 x.cl.toNat) ∧ w'.cell? ⟨(bd.add (q * 5)).block, (bd.add (q * 5)).off + 3, none⟩ = some (.int .u64 x.num.toNat) ∧ w'.cell? ⟨(bd.add (q * 5)).block, (bd.add (q * 5)).off + 4, none⟩ = some (.slice y.steps.A x.steps.l.length y.steps.c)) (refine HSS.out _ ?_ <;> first | exact Kp.drew (Kp.refl _ _) | exact Kp.nw (‹Nw wr _ ∧ _›).1 hk6 | exact Kp.drew (‹Nw wr _ ∧ _›).1)
        ((go_at_call 116; refine (SameCall_ _ _ _ _ _ _ _ _ (HX.out.nw (‹Nw wr _ ∧ _›).1) (HY.out.nw (‹Nw wr _ ∧ _›).1)).mono ?_; rintro e w6 ⟨rfl, hk6⟩))
      all_goals
        have hn7 := hn.trans (‹Nw wr _ ∧ _›).1 (fun _ _ e => e)
        go_wp2_with fail
        exact ⟨⟨q + 1, congrArg (Value.int IntKind.i64) (wrapS q (by have := hm.out; omega)), by omega, hn7⟩, by
          rw [wrapS q (by have := hm.out; omega)]
          show l.length - (((q + 1 : Nat) : Int)).toNat < l.length - ((q : Int)).toNat
          omega⟩
    · have hd1 : decide ((q : Int) < (l.length : Int)) = false := decide_eq_false (by omega)
      go_wp2_with fail
      go_ret
      exact ⟨rfl, hn⟩
set_option maxRecDepth 20000 in
theorem SameEntries_nil (A B : Option Addr) (c c' : Nat) (w : World) :
    Calls Try.prog 67 #[.slice A 0 c, .slice B 0 c'] w fun e w' => e = .returned (.bool true) ∧ Nw w w' := by
  go_enter Try.func67, Try.ntmps67
  go_wp2_with fail
  go_loopw [5] (fun i wr => i = .int .i64 0 ∧ wr = w) (fun i _ => 0)
  case atStart => exact ⟨rfl, rfl⟩
  case round =>
    obtain ⟨rfl, rfl⟩ := hrel
    go_wp2_with fail
    go_ret
    exact ⟨rfl, Kp.refl _ _⟩
theorem SameEntries_ (s t : Sl EntV) (w : World) (hr : EntsOk w s) (hs : EntsOk w t) (hl : EntsLike s t) :
    Calls Try.prog 67 #[.slice s.A s.l.length s.c, .slice t.A t.l.length t.c] w fun e w' => e = .returned (.bool true) ∧ Nw w w' := by
  obtain ⟨l, A, c⟩ := s
  obtain ⟨k, B, c'⟩ := t
  have hlk : l.length = k.length := hl.len
  simp only []
  rw [← hlk]
  rcases Nat.eq_zero_or_pos l.length with h0 | h0
  · rw [h0]; exact SameEntries_nil A B c c' w
  · obtain ⟨ad, hA, _⟩ := hr.at_ (k := 0) h0
    obtain ⟨bd, hB, _⟩ := hs.at_ (k := 0) (by show 0 < k.length; omega)
    cases hA
    cases hB
    exact SameEntries_some ad bd c c' l k w hr hs hl
end Go.Proofs.Ytiimdnachgkomaa
