import Derived.Test.YtiimdnachgkomaaLetterV
import Derived.Test.YtiimdnachgkomaaMem2
import Derived.Test.YtiimdnachgkomaaClients
import Derived.Deep.LoopGhost
namespace Go.Proofs.Ytiimdnachgkomaa
open Go Go.RowKit
set_option maxRecDepth 20000 in
set_option maxHeartbeats 1000000 in
theorem Great_calls (x : LV) (w : World) (h : x.Ok w) :
    Calls Try.prog 50 #[.agg x.cells.toArray] w fun e w' => e = .returned (.bool x.great) ∧ Nw w w' := by
  have HO := Lib.hid h
  have r1 : (x.data.l.length : Int) ≤ 140737488351232 := by have := h.dataR; unfold Reach at this; omega
  have r2 : (x.steps.l.length : Int) ≤ 140737488351232 := by have := h.stepsR; unfold Reach at this; omega
  have r3 : (x.got.l.length : Int) ≤ 140737488351232 := by have := h.gotR; unfold Reach at this; omega
  have r4 : (x.ents.l.length : Int) ≤ 140737488351232 := by have := h.ents.len; unfold Reach at this; omega
  have hw1 : IntKind.i64.wrap ((x.data.l.length : Int) + (x.steps.l.length : Int)) = (x.data.l.length : Int) + (x.steps.l.length : Int) := by rw [IntKind.wrap_i64]; omega
  have hw2 : IntKind.i64.wrap ((x.data.l.length : Int) + (x.steps.l.length : Int) + (x.got.l.length : Int)) = (x.data.l.length : Int) + (x.steps.l.length : Int) + (x.got.l.length : Int) := by rw [IntKind.wrap_i64]; omega
  clear h
  replace r1 := Lib.hid r1
  replace r2 := Lib.hid r2
  replace r3 := Lib.hid r3
  replace r4 := Lib.hid r4
  have hbl : Blk (w.alloc (.cells x.cells.toArray 36)) w.heap.size 36 x.cells.toArray := Blk.newAt rfl _ _
  have hg8 := hbl.cell 8
  have hg9 := hbl.cell 9
  have hg12 := hbl.cell 12
  have hg16 := hbl.cell 16
  change _ = some (Value.slice x.ents.A x.ents.l.length x.ents.c) at hg8
  change _ = some (Value.slice x.data.A x.data.l.length x.data.c) at hg9
  change _ = some (Value.slice x.steps.A x.steps.l.length x.steps.c) at hg12
  change _ = some (Value.slice x.got.A x.got.l.length x.got.c) at hg16
  go_enter Try.func50, Try.ntmps50
  go_wp2_with fail
  have hn0 : Nw w (w.alloc (.cells x.cells.toArray 36)) := (Kp.refl _ w).alloc _
  have HO1 := Lib.hid (HO.out.nw hn0)
  generalize w.alloc (.cells x.cells.toArray 36) = w0 at *
  go_loopw [3, 4] (fun n i wr => ∃ (q : Nat) (b : Int), i = .int .i64 q ∧ n = .int .i64 b ∧ Hid (b = ((x.base + entsSum (x.ents.l.take q) : Nat) : Int)) ∧ q ≤ x.ents.l.length ∧ Hid (x.base + entsSum (x.ents.l.take q) ≤ 1000000000000000) ∧ wr = w0) (fun _ i _ => x.ents.l.length - (intOf i).toNat)
  case atStart => exact ⟨0, _, rfl, rfl, Lib.hid (by simp only [LV.base, List.take_zero, entsSum]; omega), by omega, Lib.hid (by simp only [LV.base, List.take_zero, entsSum]; have := r1.out; have := r2.out; have := r3.out; omega), rfl⟩
  case round =>
    obtain ⟨q, b, rfl, rfl, HB, hq, hb, rfl⟩ := hrel
    by_cases hlt : q < x.ents.l.length
    · obtain ⟨ad, hA, hc⟩ := HO1.out.ents.at_ hlt
      have hc4 : wr.cell? (ad.add (q * 5 + 4)) = some (Value.slice (x.ents.l[q]).steps.A (x.ents.l[q]).steps.l.length (x.ents.l[q]).steps.c) := hc 4 _ rfl
      have hc5 : wr.cell? ⟨(ad.add (q * 5)).block, (ad.add (q * 5)).off + 4, none⟩ = some (Value.slice (x.ents.l[q]).steps.A (x.ents.l[q]).steps.l.length (x.ents.l[q]).steps.c) := by rw [fld_ ad (q * 5) 4 (by decide)]; exact hc 4 _ rfl
      have hR := (HO1.out.ents.each q _ (List.getElem?_eq_getElem hlt)).2
      have hsn := Lib.hid (entsSum_snoc x.ents.l q _ (List.getElem?_eq_getElem hlt))
      unfold Reach at hR
      replace hR := Lib.hid hR
      clear hc
      generalize x.ents.l[q] = en at *
      have hd1 : decide ((q : Int) < (x.ents.l.length : Int)) = true := decide_eq_true (by omega)
      by_cases h7 : b < 70000
      · replace h7 := Lib.hid h7
        have hd2 : decide (b < 70000) = true := decide_eq_true h7.out
        have hw3 : IntKind.i64.wrap (b + 1) = b + 1 := by rw [IntKind.wrap_i64]; have := HB.out; have := h7.out; omega
        have hw4 : IntKind.i64.wrap (b + 1 + (en.steps.l.length : Int)) = b + 1 + (en.steps.l.length : Int) := by rw [IntKind.wrap_i64]; have := HB.out; have := h7.out; have := hR.out; omega
        go_wp2_with fail
        clear hw1 hw2 hw3 hw4
        go_roundw
        case rel =>
          have := hsn.out
          have := hb.out
          have := hR.out
          have := h7.out
          have := HB.out
          refine ⟨q + 1, _, congrArg (Value.int IntKind.i64) (wrapS q (by have := r4.out; omega)), rfl, ?_, ?_, ?_, trivial⟩
          · exact Lib.hid (by omega)
          · omega
          · exact Lib.hid (by omega)
        case measure =>
          rw [wrapS q (by have := r4.out; omega)]
          simp only [intOf]
          omega
      · have h66 : x.great = true := by unfold LV.great; have := HB.out; have := entsSum_le x.ents.l q; simp; omega
        have hd2 : decide (b < 70000) = false := decide_eq_false h7
        have hd3 : decide (66000 < b) = true := decide_eq_true (by omega)
        replace h7 := Lib.hid h7
        go_wp2_with fail
        go_ret
        exact ⟨by first | rfl | (rw [h66]; rfl), hn0⟩
    · obtain rfl : q = x.ents.l.length := by omega
      rw [List.take_length] at HB hb
      have hd1 : decide ((x.ents.l.length : Int) < (x.ents.l.length : Int)) = false := decide_eq_false (by omega)
      by_cases h7 : 66000 < b
      · have h66 : x.great = true := by unfold LV.great; have := HB.out; simp; omega
        have hd3 : decide (66000 < b) = true := decide_eq_true (by omega)
        replace h7 := Lib.hid h7
        go_wp2_with fail
        go_ret
        exact ⟨by first | rfl | (rw [h66]; rfl), hn0⟩
      · have hd3 : decide (66000 < b) = false := decide_eq_false (by omega)
        have h66 : x.great = decide (300 < (x.ents.l.length : Int)) := by unfold LV.great; have := HB.out; rw [decide_eq_false (show ¬ 66000 < x.base + entsSum x.ents.l by omega)]; simp; omega
        replace h7 := Lib.hid h7
        go_wp2_with fail
        go_ret
        exact ⟨by first | rfl | (rw [h66]; rfl), hn0⟩

/-- An act on a client. -/
structure ActV where
  kind : UInt8
  steps : Sl Step
  l : LV
  near : Bool
def ActV.cells (x : ActV) : List Value := [.int .u8 x.kind.toNat, .slice x.steps.A x.steps.l.length x.steps.c] ++ x.l.cells ++ [.bool x.near]
structure ActV.Ok (w : World) (x : ActV) : Prop where
  steps : RdSt w x.steps.A x.steps.c x.steps.l
  stepsR : Reach x.steps.l.length
  l : x.l.Ok w
theorem ActV.Ok.nw {w w' : World} {x : ActV} (h : x.Ok w) (hk : Nw w w') : x.Ok w' := ⟨h.steps.nw hk, h.stepsR, h.l.nw hk⟩
def ActV.great (x : ActV) : Bool := x.l.great || decide (50 < (x.steps.l.length : Int))
structure ActsOk (w : World) (s : Sl ActV) : Prop where
  rd : Rd w 20 s.A s.l.length s.c (s.l.flatMap ActV.cells)
  each : ∀ (i : Nat) (r : ActV), s.l[i]? = some r → r.Ok w
  len : Reach s.l.length
theorem ActsOk.nw {w w' : World} {s : Sl ActV} (h : ActsOk w s) (hk : Nw w w') : ActsOk w' s := ⟨h.rd.nw hk, fun i r hr => (h.each i r hr).nw hk, h.len⟩
theorem ActsOk.at_ {w : World} {s : Sl ActV} (h : ActsOk w s) {k : Nat} (hk : k < s.l.length) : ∃ ad, s.A = some ad ∧ ∀ j u, (s.l[k]).cells[j]? = some u → w.cell? (ad.add (k * 20 + j)) = some u := by
  obtain ⟨ad, hA, hc⟩ := h.rd.at_ (by omega)
  refine ⟨ad, hA, fun j u hu => hc _ u ?_⟩
  have hj : j < 20 := (List.getElem?_eq_some_iff.1 hu).1
  rw [flat_at ActV.cells 20 (fun _ => rfl) s.l k j s.l[k] (List.getElem?_eq_getElem hk) hj]
  exact hu
def acts27 (l : List ActV) : Bool := decide (150 < (l.length : Int)) || l.any ActV.great

set_option maxRecDepth 20000 in
set_option maxHeartbeats 1000000 in
theorem great27_some (l : List ActV) (ad : Addr) (c : Nat) (w : World) (h : ActsOk w ⟨l, some ad, c⟩) :
    Calls Try.prog 17 #[.slice (some ad) l.length c] w fun e w' => e = .returned (.bool (acts27 l)) ∧ Nw w w' := by
  have HO := Lib.hid h
  clear h
  go_enter Try.func17, Try.ntmps17
  by_cases h150 : 150 < (l.length : Int)
  · have hd0 : decide (150 < (l.length : Int)) = true := decide_eq_true h150
    replace h150 := Lib.hid h150
    go_wp2_with fail
    go_ret
    exact ⟨by unfold acts27; rw [hd0]; rfl, Kp.refl _ w⟩
  · have hd0 : decide (150 < (l.length : Int)) = false := decide_eq_false h150
    replace h150 := Lib.hid h150
    go_wp2_with fail
    go_loopw [3] (fun i wr => ∃ q : Nat, i = .int .i64 q ∧ q ≤ l.length ∧ (∀ j x, j < q → l[j]? = some x → x.great = false) ∧ Nw w wr) (fun i _ => l.length - (intOf i).toNat)
    case atStart => exact ⟨0, rfl, by omega, fun j x hj => by omega, Kp.refl _ w⟩
    case round =>
      obtain ⟨q, rfl, hq, HA, hn⟩ := hrel
      have HOr := Lib.hid (HO.out.nw hn)
      by_cases hlt : q < l.length
      · obtain ⟨ad', hA, hc⟩ := HOr.out.at_ hlt
        cases hA
        simp only [] at hc
        have hx := HOr.out.each q _ (List.getElem?_eq_getElem hlt)
        have hs := List.getElem?_eq_getElem hlt
        generalize l[q] = x at *
        have hc1 : wr.cell? ⟨(ad.add (q * 20)).block, (ad.add (q * 20)).off + 1, none⟩ = some (Value.slice x.steps.A x.steps.l.length x.steps.c) := by rw [fld_ ad (q * 20) 1 (by decide)]; exact hc 1 _ rfl
        have HC : Hid (∀ j v, x.l.cells[j]? = some v → wr.cell? ⟨(ad.add (q * 20)).block, (ad.add (q * 20)).off + 2 + j, none⟩ = some v) := Lib.hid (fun j v hj => by
          rw [Nat.add_assoc, fld_ ad (q * 20) (2 + j) (by omega)]
          refine hc (2 + j) v ?_
          have hj17 : j < 17 := (List.getElem?_eq_some_iff.1 hj).1
          unfold ActV.cells
          rw [List.getElem?_append_left (by simp [LV.cells]; omega), List.getElem?_append_right (by simp)]
          simpa using hj)
        clear hc
        have hd1 : decide ((q : Int) < (l.length : Int)) = true := decide_eq_true (by omega)
        replace hx := Lib.hid hx
        replace HA := Lib.hid HA
        replace hs := Lib.hid hs
        go_wp2_with (first
          | ((with_reducible refine stopAt (.load 36 (.tmp 16)) rfl ?_); go_must (refine unStop (wpList_ldA rfl 36 (.tmp 16) rfl isS_letter _ _ rfl x.l.cells HC.out rfl ?_))))
        refine (Great_calls x.l wr hx.out.l).mono ?_
        rintro e w1 ⟨rfl, hn1⟩
        have hc1' := hn1.cell hc1
        have hn2 := hn.trans hn1 (fun _ _ e => e)
        clear hc1
        cases hg : x.l.great
        · have h50 := x.steps.l.length
          cases h5 : decide (50 < (x.steps.l.length : Int))
          · have hxg : x.great = false := by unfold ActV.great; rw [hg, h5]; rfl
            go_wp2_with fail
            go_roundw
            case rel =>
              exact ⟨q + 1, congrArg (Value.int IntKind.i64) (wrapS q (by have := h150.out; omega)), by omega, fun j y hj hy => by
              by_cases hjq : j < q
              · exact HA.out j y hjq hy
              · obtain rfl : j = q := by omega
                rw [hs.out] at hy
                cases hy
                exact hxg, hn2⟩
            case measure =>
              rw [wrapS q (by have := h150.out; omega)]
              show l.length - (((q + 1 : Nat) : Int)).toNat < l.length - ((q : Int)).toNat
              omega
          · have hxg : acts27 l = true := by
              unfold acts27
              rw [List.any_eq_true.2 ⟨x, List.mem_of_getElem? hs.out, by unfold ActV.great; rw [hg, h5]; rfl⟩]
              simp
            go_wp2_with fail
            go_ret
            exact ⟨by first | rfl | (rw [hxg]; rfl), hn2⟩
        · have hxg : acts27 l = true := by
            unfold acts27
            rw [List.any_eq_true.2 ⟨x, List.mem_of_getElem? hs.out, by unfold ActV.great; rw [hg]; rfl⟩]
            simp
          go_wp2_with fail
          go_ret
          exact ⟨by first | rfl | (rw [hxg]; rfl), hn2⟩
      · have hd1 : decide ((q : Int) < (l.length : Int)) = false := decide_eq_false (by omega)
        have hxg : acts27 l = false := by
          unfold acts27
          rw [hd0, Bool.false_or, List.any_eq_false]
          intro x hx
          obtain ⟨i, hi, rfl⟩ := List.mem_iff_getElem.1 hx
          have := HA i _ (by omega) (List.getElem?_eq_getElem hi)
          simp [this]
        replace HA := Lib.hid HA
        go_wp2_with fail
        go_ret
        exact ⟨by first | rfl | (rw [hxg]; rfl), hn⟩

set_option maxRecDepth 20000 in
theorem great27_nil (A : Option Addr) (c : Nat) (w : World) :
    Calls Try.prog 17 #[.slice A 0 c] w fun e w' => e = .returned (.bool false) ∧ Nw w w' := by
  go_enter Try.func17, Try.ntmps17
  go_wp2_with fail
  go_loopw [3] (fun i wr => i = .int .i64 0 ∧ wr = w) (fun i _ => 0)
  case atStart => exact ⟨rfl, rfl⟩
  case round =>
    obtain ⟨rfl, rfl⟩ := hrel
    go_wp2_with fail
    go_ret
    exact ⟨rfl, Kp.refl _ _⟩
theorem great27_calls (s : Sl ActV) (w : World) (h : ActsOk w s) :
    Calls Try.prog 17 #[.slice s.A s.l.length s.c] w fun e w' => e = .returned (.bool (acts27 s.l)) ∧ Nw w w' := by
  obtain ⟨l, A, c⟩ := s
  cases l with
  | nil => exact great27_nil A c w
  | cons x l =>
    obtain ⟨ad, hA, _⟩ := h.at_ (k := 0) (by simp)
    cases hA
    exact great27_some (x :: l) ad c w h
end Go.Proofs.Ytiimdnachgkomaa
