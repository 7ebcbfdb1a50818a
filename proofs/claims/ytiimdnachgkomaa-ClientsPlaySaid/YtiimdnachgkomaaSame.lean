/- same[T]: two lists that hold the same. -/
import Derived.Test.YtiimdnachgkomaaTypes
import Derived.Test.YtiimdnachgkomaaMem2
import Derived.Deep.LoopGhost
import Derived.BigQuiet
namespace Go.Proofs.Ytiimdnachgkomaa
open Go Go.RowKit
theorem wrapM (q : Nat) (h : q < 9223372036854775807) : wrap64 ((q : Int) + 1) = ((q + 1 : Nat) : Int) := by unfold wrap64; omega
theorem row_at {w : World} {α : Type} (f : α → List Value) (k : Nat) (hf : ∀ x, (f x).length = k) {A : Option Addr} {c : Nat} {l : List α} (h : Rd w k A l.length c (l.flatMap f)) {q : Nat} {x : α} (hx : l[q]? = some x) :
    ∃ ad, A = some ad ∧ ∀ j v, (f x)[j]? = some v → w.cell? (ad.add (q * k + j)) = some v := by
  have hq : q < l.length := (List.getElem?_eq_some_iff.1 hx).1
  obtain ⟨ad, hA, hc⟩ := h.at_ (by omega)
  refine ⟨ad, hA, fun j v hv => hc _ v ?_⟩
  have hj : j < k := by have := (List.getElem?_eq_some_iff.1 hv).1; rw [hf] at this; exact this
  rw [flat_at f k hf l q j x hx hj]
  exact hv

set_option maxRecDepth 20000 in
set_option maxHeartbeats 1000000 in
theorem sameB_some (ad bd : Addr) (c c' : Nat) (l : List UInt8) (w : World) (hr : Rd w 1 (some ad) l.length c (l.flatMap (fun b : UInt8 => [bv b]))) (hs : Rd w 1 (some bd) l.length c' (l.flatMap (fun b : UInt8 => [bv b]))) :
    Calls Try.prog 99 #[.slice (some ad) l.length c, .slice (some bd) l.length c'] w fun e w' => e = .returned (.bool true) ∧ ∃ m, w' = w.drewN m := by
  have HR := Lib.hid hr
  have HS := Lib.hid hs
  clear hr hs
  have hl0 : ((l.length : Int) != (l.length : Int)) = false := by simp
  have hm : Hid (l.length ≤ 9223372036854775807) := Lib.hid (by have h1 := HR.out.cap; have h2 := HR.out.max; simp [maxLen] at h2; omega)
  go_enter Try.func99, Try.ntmps99
  go_wp2_with fail
  go_loopw [5] (fun i wr => ∃ q m : Nat, i = .int .i64 q ∧ q ≤ l.length ∧ wr = w.drewN m) (fun i _ => l.length - (intOf i).toNat)
  case atStart => exact ⟨0, 0, rfl, by omega, rfl⟩
  case round =>
    obtain ⟨q, m, rfl, hq, rfl⟩ := hrel
    by_cases hlt : q < l.length
    · have hd1 : decide ((q : Int) < (l.length : Int)) = true := decide_eq_true (by omega)
      obtain ⟨_, e1, ha⟩ := row_at (fun b : UInt8 => [bv b]) 1 (fun _ => rfl) HR.out (List.getElem?_eq_getElem hlt)
      obtain ⟨_, e2, hb⟩ := row_at (fun b : UInt8 => [bv b]) 1 (fun _ => rfl) HS.out (List.getElem?_eq_getElem hlt)
      cases e1
      cases e2
      generalize l[q] = x at ha hb
      have a0 : w.cell? (ad.add q) = some (bv x) := by have := ha 0 _ rfl; simpa using this
      have b0 : w.cell? (bd.add q) = some (bv x) := by have := hb 0 _ rfl; simpa using this
      clear ha hb
      go_wp2_with fail
      go_quiet (fail)
      go_wp2_with fail
      exact ⟨⟨q + 1, _, congrArg (Value.int IntKind.i64) (wrapM q (by have := hm.out; omega)), by omega, rfl⟩, by
        rw [wrapM q (by have := hm.out; omega)]
        show l.length - (((q + 1 : Nat) : Int)).toNat < l.length - ((q : Int)).toNat
        omega⟩
    · have hd1 : decide ((q : Int) < (l.length : Int)) = false := decide_eq_false (by omega)
      go_wp2_with fail
      go_ret
      exact ⟨rfl, _, rfl⟩
set_option maxRecDepth 20000 in
theorem sameB_nil (A B : Option Addr) (c c' : Nat) (w : World) :
    Calls Try.prog 99 #[.slice A 0 c, .slice B 0 c'] w fun e w' => e = .returned (.bool true) ∧ ∃ m, w' = w.drewN m := by
  go_enter Try.func99, Try.ntmps99
  go_wp2_with fail
  go_loopw [5] (fun i wr => i = .int .i64 0 ∧ wr = w) (fun i _ => 0)
  case atStart => exact ⟨rfl, rfl⟩
  case round =>
    obtain ⟨rfl, rfl⟩ := hrel
    go_wp2_with fail
    go_ret
    exact ⟨rfl, 0, rfl⟩
theorem sameB (A B : Option Addr) (c c' : Nat) (l : List UInt8) (w : World) (hr : Rd w 1 A l.length c (l.flatMap (fun b : UInt8 => [bv b]))) (hs : Rd w 1 B l.length c' (l.flatMap (fun b : UInt8 => [bv b]))) :
    Calls Try.prog 99 #[.slice A l.length c, .slice B l.length c'] w fun e w' => e = .returned (.bool true) ∧ ∃ m, w' = w.drewN m := by
  cases l with
  | nil => exact sameB_nil A B c c' w
  | cons x l =>
    obtain ⟨ad, rfl, _⟩ := hr.at_ (by simp)
    obtain ⟨bd, rfl, _⟩ := hs.at_ (by simp)
    exact sameB_some ad bd c c' (x :: l) w hr hs

set_option maxRecDepth 20000 in
set_option maxHeartbeats 1000000 in
theorem sameGot_some (ad bd : Addr) (c c' : Nat) (l : List Got) (w : World) (hr : Rd w 2 (some ad) l.length c (l.flatMap Got.cells)) (hs : Rd w 2 (some bd) l.length c' (l.flatMap Got.cells)) :
    Calls Try.prog 95 #[.slice (some ad) l.length c, .slice (some bd) l.length c'] w fun e w' => e = .returned (.bool true) ∧ ∃ m, w' = w.drewN m := by
  have HR := Lib.hid hr
  have HS := Lib.hid hs
  clear hr hs
  have hl0 : ((l.length : Int) != (l.length : Int)) = false := by simp
  have hm : Hid (l.length ≤ 9223372036854775807) := Lib.hid (by have h1 := HR.out.cap; have h2 := HR.out.max; simp [maxLen] at h2; omega)
  go_enter Try.func95, Try.ntmps95
  go_wp2_with fail
  go_loopw [5] (fun i wr => ∃ q m : Nat, i = .int .i64 q ∧ q ≤ l.length ∧ wr = w.drewN m) (fun i _ => l.length - (intOf i).toNat)
  case atStart => exact ⟨0, 0, rfl, by omega, rfl⟩
  case round =>
    obtain ⟨q, m, rfl, hq, rfl⟩ := hrel
    by_cases hlt : q < l.length
    · have hd1 : decide ((q : Int) < (l.length : Int)) = true := decide_eq_true (by omega)
      obtain ⟨_, e1, ha⟩ := row_at Got.cells 2 (fun _ => rfl) HR.out (List.getElem?_eq_getElem hlt)
      obtain ⟨_, e2, hb⟩ := row_at Got.cells 2 (fun _ => rfl) HS.out (List.getElem?_eq_getElem hlt)
      cases e1
      cases e2
      generalize l[q] = x at ha hb
      have a0 : w.cell? (ad.add (q * 2)) = some (iv x.x) := ha 0 _ rfl
      have a1 : w.cell? ⟨(ad.add (q * 2)).block, (ad.add (q * 2)).off + 1, none⟩ = some (iv x.y) := by rw [fld_ ad (q * 2) 1 (by decide)]; exact ha 1 _ rfl
      have b0 : w.cell? (bd.add (q * 2)) = some (iv x.x) := hb 0 _ rfl
      have b1 : w.cell? ⟨(bd.add (q * 2)).block, (bd.add (q * 2)).off + 1, none⟩ = some (iv x.y) := by rw [fld_ bd (q * 2) 1 (by decide)]; exact hb 1 _ rfl
      clear ha hb
      go_wp2_with fail
      go_quiet (fail)
      go_wp2_with fail
      exact ⟨⟨q + 1, _, congrArg (Value.int IntKind.i64) (wrapM q (by have := hm.out; omega)), by omega, rfl⟩, by
        rw [wrapM q (by have := hm.out; omega)]
        show l.length - (((q + 1 : Nat) : Int)).toNat < l.length - ((q : Int)).toNat
        omega⟩
    · have hd1 : decide ((q : Int) < (l.length : Int)) = false := decide_eq_false (by omega)
      go_wp2_with fail
      go_ret
      exact ⟨rfl, _, rfl⟩
set_option maxRecDepth 20000 in
theorem sameGot_nil (A B : Option Addr) (c c' : Nat) (w : World) :
    Calls Try.prog 95 #[.slice A 0 c, .slice B 0 c'] w fun e w' => e = .returned (.bool true) ∧ ∃ m, w' = w.drewN m := by
  go_enter Try.func95, Try.ntmps95
  go_wp2_with fail
  go_loopw [5] (fun i wr => i = .int .i64 0 ∧ wr = w) (fun i _ => 0)
  case atStart => exact ⟨rfl, rfl⟩
  case round =>
    obtain ⟨rfl, rfl⟩ := hrel
    go_wp2_with fail
    go_ret
    exact ⟨rfl, 0, rfl⟩
theorem sameGot (A B : Option Addr) (c c' : Nat) (l : List Got) (w : World) (hr : Rd w 2 A l.length c (l.flatMap Got.cells)) (hs : Rd w 2 B l.length c' (l.flatMap Got.cells)) :
    Calls Try.prog 95 #[.slice A l.length c, .slice B l.length c'] w fun e w' => e = .returned (.bool true) ∧ ∃ m, w' = w.drewN m := by
  cases l with
  | nil => exact sameGot_nil A B c c' w
  | cons x l =>
    obtain ⟨ad, rfl, _⟩ := hr.at_ (by simp)
    obtain ⟨bd, rfl, _⟩ := hs.at_ (by simp)
    exact sameGot_some ad bd c c' (x :: l) w hr hs

set_option maxRecDepth 20000 in
set_option maxHeartbeats 1000000 in
theorem sameSt_some (ad bd : Addr) (c c' : Nat) (l : List Step) (w : World) (hr : Rd w 10 (some ad) l.length c (l.flatMap Step.cells)) (hs : Rd w 10 (some bd) l.length c' (l.flatMap Step.cells)) :
    Calls Try.prog 141 #[.slice (some ad) l.length c, .slice (some bd) l.length c'] w fun e w' => e = .returned (.bool true) ∧ ∃ m, w' = w.drewN m := by
  have HR := Lib.hid hr
  have HS := Lib.hid hs
  clear hr hs
  have hl0 : ((l.length : Int) != (l.length : Int)) = false := by simp
  have hm : Hid (l.length ≤ 9223372036854775807) := Lib.hid (by have h1 := HR.out.cap; have h2 := HR.out.max; simp [maxLen] at h2; omega)
  go_enter Try.func141, Try.ntmps141
  go_wp2_with fail
  go_loopw [5] (fun i wr => ∃ q m : Nat, i = .int .i64 q ∧ q ≤ l.length ∧ wr = w.drewN m) (fun i _ => l.length - (intOf i).toNat)
  case atStart => exact ⟨0, 0, rfl, by omega, rfl⟩
  case round =>
    obtain ⟨q, m, rfl, hq, rfl⟩ := hrel
    by_cases hlt : q < l.length
    · have hd1 : decide ((q : Int) < (l.length : Int)) = true := decide_eq_true (by omega)
      obtain ⟨_, e1, ha⟩ := row_at Step.cells 10 (fun _ => rfl) HR.out (List.getElem?_eq_getElem hlt)
      obtain ⟨_, e2, hb⟩ := row_at Step.cells 10 (fun _ => rfl) HS.out (List.getElem?_eq_getElem hlt)
      cases e1
      cases e2
      generalize l[q] = x at ha hb
      have a0 : w.cell? (ad.add (q * 10)) = some (bv x.kind) := ha 0 _ rfl
      have a1 : w.cell? ⟨(ad.add (q * 10)).block, (ad.add (q * 10)).off + 1, none⟩ = some (bv x.a) := by rw [fld_ ad (q * 10) 1 (by decide)]; exact ha 1 _ rfl
      have a2 : w.cell? ⟨(ad.add (q * 10)).block, (ad.add (q * 10)).off + 2, none⟩ = some (bv x.b) := by rw [fld_ ad (q * 10) 2 (by decide)]; exact ha 2 _ rfl
      have a3 : w.cell? ⟨(ad.add (q * 10)).block, (ad.add (q * 10)).off + 3, none⟩ = some (bv x.c) := by rw [fld_ ad (q * 10) 3 (by decide)]; exact ha 3 _ rfl
      have a4 : w.cell? ⟨(ad.add (q * 10)).block, (ad.add (q * 10)).off + 4, none⟩ = some (bv x.d) := by rw [fld_ ad (q * 10) 4 (by decide)]; exact ha 4 _ rfl
      have a5 : w.cell? ⟨(ad.add (q * 10)).block, (ad.add (q * 10)).off + 5, none⟩ = some (iv x.n) := by rw [fld_ ad (q * 10) 5 (by decide)]; exact ha 5 _ rfl
      have a6 : w.cell? ⟨(ad.add (q * 10)).block, (ad.add (q * 10)).off + 6, none⟩ = some (iv x.max) := by rw [fld_ ad (q * 10) 6 (by decide)]; exact ha 6 _ rfl
      have a7 : w.cell? ⟨(ad.add (q * 10)).block, (ad.add (q * 10)).off + 7, none⟩ = some (iv x.num) := by rw [fld_ ad (q * 10) 7 (by decide)]; exact ha 7 _ rfl
      have a8 : w.cell? ⟨(ad.add (q * 10)).block, (ad.add (q * 10)).off + 8, none⟩ = some (iv x.den) := by rw [fld_ ad (q * 10) 8 (by decide)]; exact ha 8 _ rfl
      have a9 : w.cell? ⟨(ad.add (q * 10)).block, (ad.add (q * 10)).off + 9, none⟩ = some (uv x.seq) := by rw [fld_ ad (q * 10) 9 (by decide)]; exact ha 9 _ rfl
      have b0 : w.cell? (bd.add (q * 10)) = some (bv x.kind) := hb 0 _ rfl
      have b1 : w.cell? ⟨(bd.add (q * 10)).block, (bd.add (q * 10)).off + 1, none⟩ = some (bv x.a) := by rw [fld_ bd (q * 10) 1 (by decide)]; exact hb 1 _ rfl
      have b2 : w.cell? ⟨(bd.add (q * 10)).block, (bd.add (q * 10)).off + 2, none⟩ = some (bv x.b) := by rw [fld_ bd (q * 10) 2 (by decide)]; exact hb 2 _ rfl
      have b3 : w.cell? ⟨(bd.add (q * 10)).block, (bd.add (q * 10)).off + 3, none⟩ = some (bv x.c) := by rw [fld_ bd (q * 10) 3 (by decide)]; exact hb 3 _ rfl
      have b4 : w.cell? ⟨(bd.add (q * 10)).block, (bd.add (q * 10)).off + 4, none⟩ = some (bv x.d) := by rw [fld_ bd (q * 10) 4 (by decide)]; exact hb 4 _ rfl
      have b5 : w.cell? ⟨(bd.add (q * 10)).block, (bd.add (q * 10)).off + 5, none⟩ = some (iv x.n) := by rw [fld_ bd (q * 10) 5 (by decide)]; exact hb 5 _ rfl
      have b6 : w.cell? ⟨(bd.add (q * 10)).block, (bd.add (q * 10)).off + 6, none⟩ = some (iv x.max) := by rw [fld_ bd (q * 10) 6 (by decide)]; exact hb 6 _ rfl
      have b7 : w.cell? ⟨(bd.add (q * 10)).block, (bd.add (q * 10)).off + 7, none⟩ = some (iv x.num) := by rw [fld_ bd (q * 10) 7 (by decide)]; exact hb 7 _ rfl
      have b8 : w.cell? ⟨(bd.add (q * 10)).block, (bd.add (q * 10)).off + 8, none⟩ = some (iv x.den) := by rw [fld_ bd (q * 10) 8 (by decide)]; exact hb 8 _ rfl
      have b9 : w.cell? ⟨(bd.add (q * 10)).block, (bd.add (q * 10)).off + 9, none⟩ = some (uv x.seq) := by rw [fld_ bd (q * 10) 9 (by decide)]; exact hb 9 _ rfl
      clear ha hb
      go_wp2_with fail
      go_quiet (fail)
      go_wp2_with fail
      exact ⟨⟨q + 1, _, congrArg (Value.int IntKind.i64) (wrapM q (by have := hm.out; omega)), by omega, rfl⟩, by
        rw [wrapM q (by have := hm.out; omega)]
        show l.length - (((q + 1 : Nat) : Int)).toNat < l.length - ((q : Int)).toNat
        omega⟩
    · have hd1 : decide ((q : Int) < (l.length : Int)) = false := decide_eq_false (by omega)
      go_wp2_with fail
      go_ret
      exact ⟨rfl, _, rfl⟩
set_option maxRecDepth 20000 in
theorem sameSt_nil (A B : Option Addr) (c c' : Nat) (w : World) :
    Calls Try.prog 141 #[.slice A 0 c, .slice B 0 c'] w fun e w' => e = .returned (.bool true) ∧ ∃ m, w' = w.drewN m := by
  go_enter Try.func141, Try.ntmps141
  go_wp2_with fail
  go_loopw [5] (fun i wr => i = .int .i64 0 ∧ wr = w) (fun i _ => 0)
  case atStart => exact ⟨rfl, rfl⟩
  case round =>
    obtain ⟨rfl, rfl⟩ := hrel
    go_wp2_with fail
    go_ret
    exact ⟨rfl, 0, rfl⟩
theorem sameSt (A B : Option Addr) (c c' : Nat) (l : List Step) (w : World) (hr : Rd w 10 A l.length c (l.flatMap Step.cells)) (hs : Rd w 10 B l.length c' (l.flatMap Step.cells)) :
    Calls Try.prog 141 #[.slice A l.length c, .slice B l.length c'] w fun e w' => e = .returned (.bool true) ∧ ∃ m, w' = w.drewN m := by
  cases l with
  | nil => exact sameSt_nil A B c c' w
  | cons x l =>
    obtain ⟨ad, rfl, _⟩ := hr.at_ (by simp)
    obtain ⟨bd, rfl, _⟩ := hs.at_ (by simp)
    exact sameSt_some ad bd c c' (x :: l) w hr hs
end Go.Proofs.Ytiimdnachgkomaa
