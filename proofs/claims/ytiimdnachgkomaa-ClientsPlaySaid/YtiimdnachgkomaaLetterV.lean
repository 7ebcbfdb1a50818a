/- Letters, entries and acts as they lie in memory: what reads, how great. -/
import Derived.Test.YtiimdnachgkomaaTypes
namespace Go.Proofs.Ytiimdnachgkomaa
open Go Go.RowKit

/-- A list, and the slice that holds it. -/
structure Sl (α : Type) where
  l : List α
  A : Option Addr
  c : Nat
structure EntV where
  index : UInt64
  term : UInt64
  cl : UInt8
  num : UInt64
  steps : Sl Step
def EntV.cells (e : EntV) : List Value := [.int .u64 e.index.toNat, .int .u64 e.term.toNat, .int .u8 e.cl.toNat, .int .u64 e.num.toNat, .slice e.steps.A e.steps.l.length e.steps.c]
structure LV where
  kind : UInt8
  frm : UInt8
  to : UInt8
  term : UInt64
  index : UInt64
  mark : UInt64
  commit : UInt64
  yes : Bool
  ents : Sl EntV
  data : Sl UInt8
  cl : UInt8
  cn : UInt64
  steps : Sl Step
  e : Int64
  rE : Int64
  rAt : Int64
  got : Sl Got
def LV.cells (x : LV) : List Value :=
  [.int .u8 x.kind.toNat, .int .u8 x.frm.toNat, .int .u8 x.to.toNat, .int .u64 x.term.toNat, .int .u64 x.index.toNat, .int .u64 x.mark.toNat, .int .u64 x.commit.toNat, .bool x.yes, .slice x.ents.A x.ents.l.length x.ents.c, .slice x.data.A x.data.l.length x.data.c,
    .int .u8 x.cl.toNat, .int .u64 x.cn.toNat, .slice x.steps.A x.steps.l.length x.steps.c, .int .i64 x.e.toInt, .int .i64 x.rE.toInt, .int .i64 x.rAt.toInt, .slice x.got.A x.got.l.length x.got.c]

/-- A number of elements that the form's reach lets in. -/
def Reach (n : Nat) : Prop := n ≤ 140737488351232
structure EntsOk (w : World) (s : Sl EntV) : Prop where
  rd : Rd w 5 s.A s.l.length s.c (s.l.flatMap EntV.cells)
  each : ∀ (i : Nat) (r : EntV), s.l[i]? = some r → RdSt w r.steps.A r.steps.c r.steps.l ∧ Reach r.steps.l.length
  len : Reach s.l.length
structure LV.Ok (w : World) (x : LV) : Prop where
  ents : EntsOk w x.ents
  data : RdB w x.data.A x.data.c x.data.l
  dataR : Reach x.data.l.length
  steps : RdSt w x.steps.A x.steps.c x.steps.l
  stepsR : Reach x.steps.l.length
  got : RdG w x.got.A x.got.c x.got.l
  gotR : Reach x.got.l.length

theorem EntsOk.nw {w w' : World} {s : Sl EntV} (h : EntsOk w s) (hk : Nw w w') : EntsOk w' s := ⟨h.rd.nw hk, fun i r hr => ⟨(h.each i r hr).1.nw hk, (h.each i r hr).2⟩, h.len⟩
theorem LV.Ok.nw {w w' : World} {x : LV} (h : x.Ok w) (hk : Nw w w') : x.Ok w' := ⟨h.ents.nw hk, h.data.nw hk, h.dataR, h.steps.nw hk, h.stepsR, h.got.nw hk, h.gotR⟩

/-- How much there is of entries, and steps of theirs. -/
def entsSum : List EntV → Nat
  | [] => 0
  | e :: r => 1 + e.steps.l.length + entsSum r
theorem entsSum_snoc (l : List EntV) (k : Nat) (e : EntV) (h : l[k]? = some e) : entsSum (l.take (k + 1)) = entsSum (l.take k) + (1 + e.steps.l.length) := by
  induction l generalizing k with
  | nil => simp at h
  | cons x l ih =>
    cases k with
    | zero => simp at h; subst h; simp [entsSum]
    | succ k => simp at h; simp only [List.take_succ_cons, entsSum]; rw [ih k h]; omega
theorem entsSum_le (l : List EntV) (k : Nat) : entsSum (l.take k) ≤ entsSum l := by
  induction l generalizing k with
  | nil => simp
  | cons x l ih =>
    cases k with
    | zero => simp [entsSum]
    | succ k => simp only [List.take_succ_cons, entsSum]; have := ih k; omega
def LV.base (x : LV) : Nat := x.data.l.length + x.steps.l.length + x.got.l.length
def LV.great (x : LV) : Bool := decide (66000 < x.base + entsSum x.ents.l) || decide (300 < x.ents.l.length)

theorem EntsOk.at_ {w : World} {s : Sl EntV} (h : EntsOk w s) {k : Nat} (hk : k < s.l.length) : ∃ ad, s.A = some ad ∧ ∀ j u, (s.l[k]).cells[j]? = some u → w.cell? (ad.add (k * 5 + j)) = some u := by
  obtain ⟨ad, hA, hc⟩ := h.rd.at_ (by omega)
  refine ⟨ad, hA, fun j u hu => hc _ u ?_⟩
  have hj : j < 5 := (List.getElem?_eq_some_iff.1 hu).1
  rw [flat_at EntV.cells 5 (fun _ => rfl) s.l k j s.l[k] (List.getElem?_eq_getElem hk) hj]
  exact hu
end Go.Proofs.Ytiimdnachgkomaa
