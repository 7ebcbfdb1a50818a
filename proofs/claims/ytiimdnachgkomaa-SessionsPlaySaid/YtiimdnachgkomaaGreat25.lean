/- Sessions: are the acts more than is gone through? -/
import Derived.Test.YtiimdnachgkomaaRead25
import Derived.Test.YtiimdnachgkomaaMem3
import Derived.Deep.LoopGhost
namespace Go.Proofs.Ytiimdnachgkomaa
open Go Go.RowKit
def Small25 (l : List A25) : Prop := l.length ≤ 150 ∧ ∀ (i : Nat) (x : A25), l[i]? = some x → x.r.got.l.length ≤ 50
def GreatQ (l : List A25) (w : World) (e : Ending) (w' : World) : Prop := ∃ b : Bool, e = .returned (.bool b) ∧ w' = w ∧ (b = false → Small25 l)
set_option maxRecDepth 20000 in
theorem great25_nil (A : Option Addr) (c : Nat) (w : World) :
    Calls Try.prog 36 #[.slice A 0 c] w (GreatQ [] w) := by
  go_enter Try.func36, Try.ntmps36
  go_wp2_with fail
  go_loopw [3] (fun i wr => i = .int .i64 0 ∧ wr = w) (fun _ _ => 0)
  case atStart => exact ⟨rfl, rfl⟩
  case round =>
    obtain ⟨rfl, rfl⟩ := hrel
    go_wp2_with fail
    go_ret
    exact ⟨false, rfl, rfl, fun _ => ⟨by simp, fun i x h => by simp at h⟩⟩
set_option maxRecDepth 20000 in
set_option maxHeartbeats 400000 in
theorem great25_some (ad : Addr) (c : Nat) (l : List A25) (w : World) (h : Acts25 w ⟨l, some ad, c⟩) :
    Calls Try.prog 36 #[.slice (some ad) l.length c] w (GreatQ l w) := by
  have HO := Lib.hid h
  clear h
  by_cases h150 : 150 < l.length
  · have hd0 : decide ((150 : Int) < (l.length : Int)) = true := decide_eq_true (by omega)
    clear h150
    go_enter Try.func36, Try.ntmps36
    go_wp2_with fail
    go_ret
    exact ⟨true, rfl, rfl, fun h => by cases h⟩
  · have hd0 : decide ((150 : Int) < (l.length : Int)) = false := decide_eq_false (by omega)
    have H150 := Lib.hid h150
    clear h150
    go_enter Try.func36, Try.ntmps36
    go_wp2_with fail
    go_loopw [3] (fun i wr => ∃ q : Nat, i = .int .i64 q ∧ q ≤ l.length ∧ (∀ j x, j < q → l[j]? = some x → x.r.got.l.length ≤ 50) ∧ wr = w) (fun i _ => l.length - (intOf i).toNat)
    case atStart => exact ⟨0, rfl, by omega, fun j x hj => by omega, rfl⟩
    case round =>
      obtain ⟨q, rfl, hq, HA, rfl⟩ := hrel
      by_cases hlt : q < l.length
      · obtain ⟨x, hx⟩ : ∃ x, l[q]? = some x := ⟨_, List.getElem?_eq_getElem hlt⟩
        have hc5 : wr.cell? ⟨(ad.add (q * 6)).block, (ad.add (q * 6)).off + 3 + 2, none⟩ = some (.slice x.r.got.A x.r.got.l.length x.r.got.c) := by
          rw [Nat.add_assoc, fld_ ad (q * 6) 5 (by decide)]
          obtain ⟨ad', hA, hc⟩ := HO.out.rd.at_ (by show 0 < l.length; omega)
          cases hA
          refine hc _ _ ?_
          rw [flat_at A25.cells 6 (fun _ => rfl) l q 5 x hx (by omega)]
          rfl
        have hd1 : decide ((q : Int) < (l.length : Int)) = true := decide_eq_true (by omega)
        have HX := Lib.hid hx
        have HA' := Lib.hid HA
        have HLt := Lib.hid hlt
        clear hx HA
        by_cases h50 : 50 < x.r.got.l.length
        · have hd2 : decide ((50 : Int) < (x.r.got.l.length : Int)) = true := decide_eq_true (by omega)
          clear h50
          go_wp2_with fail
          go_ret
          exact ⟨true, rfl, rfl, fun h => by cases h⟩
        · have hd2 : decide ((50 : Int) < (x.r.got.l.length : Int)) = false := decide_eq_false (by omega)
          have H50 := Lib.hid h50
          clear h50
          go_wp2_with fail
          rw [wrapS q (by have := H150.out; omega)]
          refine ⟨⟨q + 1, rfl, by omega, fun j y hj hy => ?_, trivial⟩, by show l.length - (((q + 1 : Nat) : Int)).toNat < l.length - ((q : Int)).toNat; omega⟩
          by_cases hjq : j < q
          · exact HA'.out j y hjq hy
          · obtain rfl : j = q := by omega
            rw [HX.out] at hy
            cases hy
            have := H50.out
            omega
      · obtain rfl : q = l.length := by omega
        have hd1 : decide ((l.length : Int) < (l.length : Int)) = false := decide_eq_false (by omega)
        have HA' := Lib.hid HA
        clear HA
        go_wp2_with fail
        go_ret
        exact ⟨false, rfl, rfl, fun _ => ⟨by have := H150.out; omega, fun i x h => HA'.out i x (List.getElem?_eq_some_iff.1 h).1 h⟩⟩
theorem great25_calls (s : Sl A25) (w : World) (h : Acts25 w s) :
    Calls Try.prog 36 #[.slice s.A s.l.length s.c] w (GreatQ s.l w) := by
  obtain ⟨l, A, c⟩ := s
  rcases Nat.eq_zero_or_pos l.length with h0 | h0
  · have := List.eq_nil_of_length_eq_zero h0
    subst this
    exact great25_nil A c w
  · obtain ⟨ad, hA, _⟩ := h.rd.at_ h0
    cases hA
    exact great25_some ad c l w h
end Go.Proofs.Ytiimdnachgkomaa
