/- Package sessions: the book in memory; page, own, Ask, Note, Last. -/
import Derived.Test.YtiimdnachgkomaaPut2
import Derived.Test.YtiimdnachgkomaaLetterV
import Derived.Test.YtiimdnachgkomaaMem3
namespace Go.Proofs.Ytiimdnachgkomaa
open Go Go.RowKit
/-- A page: what a client was answered last. -/
structure Pg where
  num : UInt64
  e : Int64
  at_ : Int64
  got : Sl Got
def Pg.cells (p : Pg) : List Value := [.int .u64 p.num.toNat, .int .i64 p.e.toInt, .int .i64 p.at_.toInt, .slice p.got.A p.got.l.length p.got.c]
def Pg.none : Pg := ⟨0, 0, 0, ⟨[], Option.none, 0⟩⟩
def bookCells (ps : List Pg) (made : Bool) : Array Value := (ps.flatMap Pg.cells ++ [Value.bool made]).toArray
/-- Block g is a book of these pages. -/
structure Bk (w : World) (g : Nat) (ps : List Pg) : Prop where
  blk : Blk w g 115 (bookCells ps true)
  len : ps.length = 8
  each : ∀ (i : Nat) (p : Pg), ps[i]? = some p → RdG w p.got.A p.got.c p.got.l ∧ p.got.l.length ≤ 8 ∧ (0 < p.got.l.length → blkOf p.got.A ≠ some g)
theorem Bk.kp {S : Nat → Prop} {w w' : World} {g : Nat} {ps : List Pg} (h : Bk w g ps) (hk : Kp S w w') (hs : ∀ k, k < w.heap.size → ¬ S k) : Bk w' g ps :=
  ⟨h.blk.kp hk (hs _ h.blk.lt), h.len, fun i p hp => ⟨(h.each i p hp).1.kp hk (fun hn k hk' => by
    obtain ⟨k', h1, h2⟩ := (h.each i p hp).1.blk_lt hn (by omega)
    rw [h1] at hk'; injection hk' with hk'; subst hk'; exact hs _ h2), (h.each i p hp).2⟩⟩
theorem Bk.nw {w w' : World} {g : Nat} {ps : List Pg} (h : Bk w g ps) (hk : Nw w w') : Bk w' g ps := h.kp hk (fun _ _ => id)
theorem Bk.cell {w : World} {g : Nat} {ps : List Pg} (h : Bk w g ps) {i : Nat} {p : Pg} (hp : ps[i]? = some p) {j : Nat} (hj : j < 4) : w.cell? ⟨g, i * 4 + j, none⟩ = p.cells[j]? := by
  rw [h.blk.cell]
  unfold bookCells
  have hi : i < ps.length := (List.getElem?_eq_some_iff.1 hp).1
  have := flat_at Pg.cells 4 (fun _ => rfl) ps i j p hp hj
  rw [← this]
  have hl : i * 4 + j < (ps.flatMap Pg.cells).length := by rw [flat_len Pg.cells 4 (fun _ => rfl)]; omega
  simp [List.getElem?_append_left hl]
theorem Bk.made {w : World} {g : Nat} {ps : List Pg} (h : Bk w g ps) : w.cell? ⟨g, 32, none⟩ = some (.bool true) := by
  rw [h.blk.cell]
  unfold bookCells
  have hl : (ps.flatMap Pg.cells).length = 32 := by rw [flat_len Pg.cells 4 (fun _ => rfl), h.len]
  simp [hl]
/-- A page is laid over. -/
theorem book_lay (ps : List Pg) (made : Bool) (i : Nat) (p : Pg) (hi : i < ps.length) : lay (bookCells ps made) (i * 4) p.cells = (bookCells (ps.set i p) made).toList := by
  have hs : ps.set i p = ps.take i ++ p :: ps.drop (i + 1) := List.set_eq_take_append_cons_drop.trans (if_pos hi)
  have hp : ps = ps.take i ++ ps[i] :: ps.drop (i + 1) := by simp
  have l1 : ((ps.take i).flatMap Pg.cells).length = i * 4 := by rw [flat_len Pg.cells 4 (fun _ => rfl), List.length_take, Nat.min_eq_left (by omega)]
  have e : ps.flatMap Pg.cells = (ps.take i).flatMap Pg.cells ++ (ps[i].cells ++ (ps.drop (i + 1)).flatMap Pg.cells) := by
    conv => lhs; rw [hp]
    rw [List.flatMap_append, List.flatMap_cons]
  unfold bookCells lay
  rw [hs, List.flatMap_append, List.flatMap_cons]
  simp only []
  rw [e]
  simp only [List.append_assoc]
  rw [List.take_left' l1]
  congr 3
  rw [← List.append_assoc ps[i].cells, show i * 4 + p.cells.length = ((ps.take i).flatMap Pg.cells ++ ps[i].cells).length by rw [List.length_append, l1]; rfl]
  rw [← List.append_assoc, ← List.append_assoc, List.append_assoc, List.drop_left' rfl]
theorem bookCells_size (ps : List Pg) (made : Bool) : (bookCells ps made).size = ps.length * 4 + 1 := by
  unfold bookCells
  simp [flat_len Pg.cells 4 (fun _ => rfl)]
theorem isS_page : IsS Try.prog 112 4 := ⟨⟨_, Try.underlying112, rfl⟩, by kernel_rfl⟩

set_option maxRecDepth 20000 in
theorem page_nil (c : UInt8) (w : World) : Calls Try.prog 96 #[.pointer none, .int .u8 c.toNat] w fun e w' => e = .returned (.tuple #[.pointer none, .int .i64 2]) ∧ w' = w := by
  go_enter Try.func96, Try.ntmps96
  go_wp2
  go_ret2
  exact ⟨rfl, rfl⟩
set_option maxRecDepth 20000 in
theorem page_void (g : Nat) (t : TypeId) (cs : Array Value) (c : UInt8) (w : World) (hb : Blk w g t cs) (h0 : cs[32]? = some (.bool false)) :
    Calls Try.prog 96 #[.pointer (some ⟨g, 0, none⟩), .int .u8 c.toNat] w fun e w' => e = .returned (.tuple #[.pointer none, .int .i64 2]) ∧ w' = w := by
  have hc : w.cell? ⟨g, 32, none⟩ = some (.bool false) := (hb.cell 32).trans h0
  clear h0
  go_enter Try.func96, Try.ntmps96
  go_wp2
  go_ret2
  exact ⟨rfl, rfl⟩
set_option maxRecDepth 20000 in
theorem page_arg (g : Nat) (ps : List Pg) (c : UInt8) (w : World) (hb : Bk w g ps) (h : c.toNat < 1 ∨ 8 < c.toNat) :
    Calls Try.prog 96 #[.pointer (some ⟨g, 0, none⟩), .int .u8 c.toNat] w fun e w' => e = .returned (.tuple #[.pointer none, .int .i64 1]) ∧ w' = w := by
  have hc := hb.made
  rcases h with h | h
  · have h1 : decide ((c.toNat : Int) < 1) = true := decide_eq_true (by omega)
    go_enter Try.func96, Try.ntmps96
    go_wp2
    go_ret2
    exact ⟨rfl, rfl⟩
  · have h1 : decide ((c.toNat : Int) < 1) = false := decide_eq_false (by omega)
    have h2 : decide ((8 : Int) < (c.toNat : Int)) = true := decide_eq_true (by omega)
    go_enter Try.func96, Try.ntmps96
    go_wp2
    go_ret2
    exact ⟨rfl, rfl⟩
set_option maxRecDepth 20000 in
set_option maxHeartbeats 1000000 in
theorem page_ok (g : Nat) (ps : List Pg) (i : Nat) (w : World) (hb : Bk w g ps) (h : i < 8) :
    Calls Try.prog 96 #[.pointer (some ⟨g, 0, none⟩), .int .u8 ((i + 1 : Nat) : Int)] w fun e w' => e = .returned (.tuple #[.pointer (some ⟨g, i * 4, none⟩), .int .i64 0]) ∧ w' = w := by
  have hc := hb.made
  rcases (by omega : i = 0 ∨ i = 1 ∨ i = 2 ∨ i = 3 ∨ i = 4 ∨ i = 5 ∨ i = 6 ∨ i = 7) with rfl | rfl | rfl | rfl | rfl | rfl | rfl | rfl
  all_goals
    simp only [Nat.zero_add, Nat.reduceAdd, Nat.reduceMul, Nat.zero_mul, Nat.one_mul, Int.cast_ofNat_Int]
    go_enter Try.func96, Try.ntmps96
    go_wp2
    go_ret2
    exact ⟨rfl, rfl⟩
set_option maxRecDepth 20000 in
set_option maxHeartbeats 400000 in
theorem own_ (e at_ : Int) (A : Option Addr) (c : Nat) (l : List Got) (w : World) (hr : RdG w A c l) (hl : l.length ≤ 1000) :
    Calls Try.prog 97 #[.agg #[.int .i64 e, .int .i64 at_, .slice A l.length c]] w fun e' w' => ∃ A2, e' = .returned (.agg #[.int .i64 e, .int .i64 at_, .slice A2 l.length l.length]) ∧ OwnG w' w.heap.size A2 l.length l ∧ Nw w w' := by
  have HR := Lib.hid ((hr.alloc (.cells #[.int .i64 e, .int .i64 at_, .slice A l.length c] 34)).alloc (.cells #[.int .i64 0, .int .i64 0, .slice none 0 0] 34))
  clear hr
  go_enter Try.func97, Try.ntmps97
  go_wp2_with fail
  have hb0 : Blk ((w.alloc (.cells #[.int .i64 e, .int .i64 at_, .slice A l.length c] 34)).alloc (.cells #[.int .i64 0, .int .i64 0, .slice none 0 0] 34)) w.heap.size 34 #[.int .i64 e, .int .i64 at_, .slice A l.length c] := (Blk.new _ _ _).alloc _
  have hb1 : Blk ((w.alloc (.cells #[.int .i64 e, .int .i64 at_, .slice A l.length c] 34)).alloc (.cells #[.int .i64 0, .int .i64 0, .slice none 0 0] 34)) (w.heap.size + 1) 34 #[.int .i64 0, .int .i64 0, .slice none 0 0] := Blk.newAt (by simp) _ _
  have hn0 : Nw w ((w.alloc (.cells #[.int .i64 e, .int .i64 at_, .slice A l.length c] 34)).alloc (.cells #[.int .i64 0, .int .i64 0, .slice none 0 0] 34)) := ((Kp.refl _ w).alloc _).alloc _
  go_must (refine (clone_got _ _ _ _ _ HR.out (got_one l) (by unfold big; omega)).mono ?_)
  rintro e2 w1 ⟨A1, c1, rfl, ho1, hk1⟩
  have HO := Lib.hid ho1
  have HN := Lib.hid (hn0.nw hk1)
  have hb2 := hb0.nw hk1
  have hb3 := Lib.hid (hb1.nw hk1)
  have f2 := hb2.free 2
  have e2 : w1.cell? ⟨w.heap.size, 2, none⟩ = some (.slice A l.length c) := hb2.cell 2
  have HB2 := Lib.hid hb2
  clear ho1 hk1 hb0 hb1 hn0 hb2
  go_wp2_with (first
    | (go_at_call 89; go_must (refine (clip_got _ _ _ _ HO.out.cap).mono ?_); rintro e w5 ⟨rfl, rfl⟩)
    | ((with_reducible refine stopAt (.load 34 (.tmp 1)) rfl ?_); go_must (refine unStop (wpList_ldS rfl 34 (.tmp 1) rfl sS_reply w.heap.size 0 rfl (HB2.out.set_ 2 _) [.int .i64 e, .int .i64 at_, .slice A1 l.length l.length] rfl rfl ?_)))
    | ((with_reducible refine stopAt (.store 34 (.tmp 2) (.tmp 8)) rfl ?_); go_must (refine unStop (wpList_stS rfl 34 (.tmp 2) (.tmp 8) rfl [.int .i64 e, .int .i64 at_, .slice A1 l.length l.length] sS_reply (w.heap.size + 1) 0 rfl rfl rfl (hb3.out.far (p := ⟨w.heap.size, 2, none⟩) (by simp) _) [.int .i64 e, .int .i64 at_, .slice A1 l.length l.length] (by simp) (by simp [Value.oneCell']) rfl ?_)); intro w6 hb6 hk6))
  have hn1 : Nw w (World.setCell _ ⟨w.heap.size, 2, none⟩ (.slice A1 l.length l.length)) := HN.out.setNew (p := ⟨w.heap.size, 2, none⟩) (Nat.le_refl _) _
  have ho2 := (HO.out.clip.low (base' := w.heap.size + 2) (by simp)).setCell (p := ⟨w.heap.size, 2, none⟩) (HO.out.fresh (by simp; omega)) (.slice A1 l.length l.length)
  refine bodyPost_ret (res_c rfl sS_reply _ rfl hb6 [.int .i64 e, .int .i64 at_, .slice A1 l.length l.length] rfl rfl) rfl ⟨A1, rfl, ?_, hn1.trans hk6 (fun i hi e => by omega)⟩
  exact (ho2.kp hk6 (fun k hk e => by have := (ho2.lt k hk).1; omega)).low (by omega)
end Go.Proofs.Ytiimdnachgkomaa
