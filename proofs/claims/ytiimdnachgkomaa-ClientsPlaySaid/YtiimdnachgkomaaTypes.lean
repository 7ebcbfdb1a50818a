/- The data of the statements as plain structures, and the cells that they take. -/
import Derived.Test.YtiimdnachgkomaaBase
import Derived.Test.YtiimdnachgkomaaPlain
namespace Go.Proofs.Ytiimdnachgkomaa
open Go Go.RowKit

/-- A byte's, a number's value. -/
def bv (b : UInt8) : Value := .int .u8 b.toNat
def uv (n : UInt64) : Value := .int .u64 n.toNat
def iv (n : Int64) : Value := .int .i64 n.toInt
attribute [go_sem] bv uv iv

structure Step where
  kind : UInt8
  a : UInt8
  b : UInt8
  c : UInt8
  d : UInt8
  n : Int64
  max : Int64
  num : Int64
  den : Int64
  seq : UInt64
  deriving DecidableEq
def Step.cells (s : Step) : List Value := [bv s.kind, bv s.a, bv s.b, bv s.c, bv s.d, iv s.n, iv s.max, iv s.num, iv s.den, uv s.seq]

structure Got where
  x : Int64
  y : Int64
  deriving DecidableEq
def Got.cells (g : Got) : List Value := [iv g.x, iv g.y]

structure Line where
  cr : UInt8
  db : UInt8
  cu : UInt8
  limit : Int64
  debt : Int64
  deriving DecidableEq
def Line.cells (l : Line) : List Value := [bv l.cr, bv l.db, bv l.cu, iv l.limit, iv l.debt]

structure Offer where
  seq : UInt64
  owner : UInt8
  sell : UInt8
  buy : UInt8
  left : Int64
  num : Int64
  den : Int64
  deriving DecidableEq
def Offer.cells (o : Offer) : List Value := [uv o.seq, bv o.owner, bv o.sell, bv o.buy, iv o.left, iv o.num, iv o.den]

abbrev RdB (w : World) (A : Option Addr) (c : Nat) (l : List UInt8) : Prop := Rd w 1 A l.length c (l.map bv)
abbrev OwnB (w : World) (base : Nat) (A : Option Addr) (c : Nat) (l : List UInt8) : Prop := Own w base 5 1 A l.length c (l.map bv)
abbrev RdSt (w : World) (A : Option Addr) (c : Nat) (l : List Step) : Prop := Rd w 10 A l.length c (l.flatMap Step.cells)
abbrev OwnSt (w : World) (base : Nat) (A : Option Addr) (c : Nat) (l : List Step) : Prop := Own w base 169 10 A l.length c (l.flatMap Step.cells)
abbrev RdG (w : World) (A : Option Addr) (c : Nat) (l : List Got) : Prop := Rd w 2 A l.length c (l.flatMap Got.cells)
abbrev OwnG (w : World) (base : Nat) (A : Option Addr) (c : Nat) (l : List Got) : Prop := Own w base 93 2 A l.length c (l.flatMap Got.cells)

theorem one_flat {α : Type} (f : α → List Value) (h : ∀ x, ∀ u ∈ f x, u.oneCell' = true) (l : List α) : ∀ u ∈ l.flatMap f, u.oneCell' = true := by
  intro u hu
  obtain ⟨b, _, hb⟩ := List.mem_flatMap.1 hu
  exact h b u hb
theorem bv_one (l : List UInt8) : ∀ u ∈ l.map bv, u.oneCell' = true := by
  intro u hu
  obtain ⟨b, _, rfl⟩ := List.mem_map.1 hu
  rfl
theorem st_one (l : List Step) : ∀ u ∈ l.flatMap Step.cells, u.oneCell' = true :=
  one_flat _ (fun x u hu => by simp [Step.cells] at hu; rcases hu with h | h | h | h | h | h | h | h | h | h <;> subst h <;> rfl) l
theorem got_one (l : List Got) : ∀ u ∈ l.flatMap Got.cells, u.oneCell' = true :=
  one_flat _ (fun x u hu => by simp [Got.cells] at hu; rcases hu with h | h <;> subst h <;> rfl) l

/-- Of a list of cells, k to each: where cell j of element i lies. -/
theorem flat_at {α : Type} (f : α → List Value) (k : Nat) (hf : ∀ x, (f x).length = k) : ∀ (l : List α) (i j : Nat) (x : α), l[i]? = some x → j < k → (l.flatMap f)[i * k + j]? = (f x)[j]?
  | [], i, _, _, h, _ => by simp at h
  | y :: l, 0, j, x, h, hj => by
    simp at h
    subst h
    simp only [List.flatMap_cons, Nat.zero_mul, Nat.zero_add]
    rw [List.getElem?_append_left (by rw [hf]; exact hj)]
  | y :: l, i + 1, j, x, h, hj => by
    simp only [List.flatMap_cons]
    rw [List.getElem?_append_right (by rw [hf, Nat.add_mul]; omega), hf, show (i + 1) * k + j - k = i * k + j by rw [Nat.add_mul]; omega]
    exact flat_at f k hf l i j x (by simpa using h) hj
theorem flat_len {α : Type} (f : α → List Value) (k : Nat) (hf : ∀ x, (f x).length = k) (l : List α) : (l.flatMap f).length = l.length * k := by
  induction l with
  | nil => simp
  | cons y l ih => simp only [List.flatMap_cons, List.length_append, hf, ih, List.length_cons, Nat.add_mul]; omega

theorem wrap_u64_ (n : Int) : IntKind.u64.wrap n = n % 18446744073709551616 := by simp [IntKind.wrap, IntKind.bits, IntKind.signed]
theorem wrap_u64_succ (x : UInt64) : IntKind.u64.wrap ((x.toNat : Int) + 1) = ((x + 1).toNat : Int) := by
  rw [wrap_u64_, UInt64.toNat_add]
  simp
end Go.Proofs.Ytiimdnachgkomaa
