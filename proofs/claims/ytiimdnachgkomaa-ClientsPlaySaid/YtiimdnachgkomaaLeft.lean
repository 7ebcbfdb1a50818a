/- left: a twin is as its list is, and its room as it was. -/
import Derived.Test.YtiimdnachgkomaaTwin
import Derived.BigQuiet
namespace Go.Proofs.Ytiimdnachgkomaa
open Go Go.RowKit
set_option maxRecDepth 20000 in
set_option maxHeartbeats 1000000 in
theorem leftSt (g base : Nat) (c2 : Nat) (B : Option Addr) (c : Nat) (l : List Step) (m : Step) (w : World) (hl : (l.length : Int) ≤ 100000)
    (ho : Own w base 169 10 (some ⟨g, 0, none⟩) (l.length + 2) c2 ((l ++ [m, m]).flatMap Step.cells)) (hr : RdSt w B c l) :
    Calls Try.prog 94 #[.slice (some ⟨g, 0, none⟩) l.length c2, .slice B l.length c, .agg m.cells.toArray] w fun e w' => e = .returned (.bool true) ∧ Nw w w' := by
  have HR := Lib.hid (hr.alloc (.cells m.cells.toArray 169))
  have HO := Lib.hid (ho.alloc (.cells m.cells.toArray 169))
  have hL := Lib.hid hl
  have hT : RdSt (w.alloc (.cells m.cells.toArray 169)) (some ⟨g, 0, none⟩) c2 l := by
    have := HO.out.cutTo (k := l.length) (by omega)
    rw [List.flatMap_append, List.take_left' (by rw [flat_len _ 10 (fun _ => rfl)])] at this
    exact this.rd
  have HT := Lib.hid hT
  have hcap : (l.length : Int) + 2 ≤ c2 := by have := HO.out.cap; omega
  have hcap2 : (l.length : Int) ≤ c2 := by omega
  clear hr ho hl hT
  go_enter Try.func94, Try.ntmps94
  go_wp2_with (go_at_call 141; go_must (refine (sameSt _ _ _ _ _ _ HT.out HR.out).mono ?_); rintro e w1 ⟨rfl, n1, rfl⟩)
  have hcell : ∀ j u, (m.cells ++ m.cells)[j]? = some u → (w.alloc (.cells m.cells.toArray 169)).cell? ⟨g, l.length * 10 + j, none⟩ = some u := by
    intro j u hu
    obtain ⟨ad, hA, hc⟩ := HO.out.rd.at_ (by omega)
    cases hA
    have := hc (l.length * 10 + j) u (by
      rw [List.flatMap_append, List.getElem?_append_right (by rw [flat_len _ 10 (fun _ => rfl)]; omega), flat_len _ 10 (fun _ => rfl), Nat.add_sub_cancel_left]
      simpa using hu)
    rwa [add_lit_] at this
  have hbm : Blk (w.alloc (.cells m.cells.toArray 169)) w.heap.size 169 m.cells.toArray := Blk.newAt rfl _ _
  have a0 : (w.alloc (.cells m.cells.toArray 169)).cell? ⟨g, l.length * 10, none⟩ = some (bv m.kind) := hcell 0 _ rfl
  have a1 : (w.alloc (.cells m.cells.toArray 169)).cell? ⟨g, l.length * 10 + 1, none⟩ = some (bv m.a) := hcell 1 _ rfl
  have a2 : (w.alloc (.cells m.cells.toArray 169)).cell? ⟨g, l.length * 10 + 2, none⟩ = some (bv m.b) := hcell 2 _ rfl
  have a3 : (w.alloc (.cells m.cells.toArray 169)).cell? ⟨g, l.length * 10 + 3, none⟩ = some (bv m.c) := hcell 3 _ rfl
  have a4 : (w.alloc (.cells m.cells.toArray 169)).cell? ⟨g, l.length * 10 + 4, none⟩ = some (bv m.d) := hcell 4 _ rfl
  have a5 : (w.alloc (.cells m.cells.toArray 169)).cell? ⟨g, l.length * 10 + 5, none⟩ = some (iv m.n) := hcell 5 _ rfl
  have a6 : (w.alloc (.cells m.cells.toArray 169)).cell? ⟨g, l.length * 10 + 6, none⟩ = some (iv m.max) := hcell 6 _ rfl
  have a7 : (w.alloc (.cells m.cells.toArray 169)).cell? ⟨g, l.length * 10 + 7, none⟩ = some (iv m.num) := hcell 7 _ rfl
  have a8 : (w.alloc (.cells m.cells.toArray 169)).cell? ⟨g, l.length * 10 + 8, none⟩ = some (iv m.den) := hcell 8 _ rfl
  have a9 : (w.alloc (.cells m.cells.toArray 169)).cell? ⟨g, l.length * 10 + 9, none⟩ = some (uv m.seq) := hcell 9 _ rfl
  have b0 : (w.alloc (.cells m.cells.toArray 169)).cell? ⟨g, l.length * 10 + 10, none⟩ = some (bv m.kind) := hcell 10 _ rfl
  have b1 : (w.alloc (.cells m.cells.toArray 169)).cell? ⟨g, l.length * 10 + 11, none⟩ = some (bv m.a) := hcell 11 _ rfl
  have b2 : (w.alloc (.cells m.cells.toArray 169)).cell? ⟨g, l.length * 10 + 12, none⟩ = some (bv m.b) := hcell 12 _ rfl
  have b3 : (w.alloc (.cells m.cells.toArray 169)).cell? ⟨g, l.length * 10 + 13, none⟩ = some (bv m.c) := hcell 13 _ rfl
  have b4 : (w.alloc (.cells m.cells.toArray 169)).cell? ⟨g, l.length * 10 + 14, none⟩ = some (bv m.d) := hcell 14 _ rfl
  have b5 : (w.alloc (.cells m.cells.toArray 169)).cell? ⟨g, l.length * 10 + 15, none⟩ = some (iv m.n) := hcell 15 _ rfl
  have b6 : (w.alloc (.cells m.cells.toArray 169)).cell? ⟨g, l.length * 10 + 16, none⟩ = some (iv m.max) := hcell 16 _ rfl
  have b7 : (w.alloc (.cells m.cells.toArray 169)).cell? ⟨g, l.length * 10 + 17, none⟩ = some (iv m.num) := hcell 17 _ rfl
  have b8 : (w.alloc (.cells m.cells.toArray 169)).cell? ⟨g, l.length * 10 + 18, none⟩ = some (iv m.den) := hcell 18 _ rfl
  have b9 : (w.alloc (.cells m.cells.toArray 169)).cell? ⟨g, l.length * 10 + 19, none⟩ = some (uv m.seq) := hcell 19 _ rfl
  have m0 : (w.alloc (.cells m.cells.toArray 169)).cell? ⟨w.heap.size, 0, none⟩ = some (bv m.kind) := hbm.cell 0
  have m1 : (w.alloc (.cells m.cells.toArray 169)).cell? ⟨w.heap.size, 1, none⟩ = some (bv m.a) := hbm.cell 1
  have m2 : (w.alloc (.cells m.cells.toArray 169)).cell? ⟨w.heap.size, 2, none⟩ = some (bv m.b) := hbm.cell 2
  have m3 : (w.alloc (.cells m.cells.toArray 169)).cell? ⟨w.heap.size, 3, none⟩ = some (bv m.c) := hbm.cell 3
  have m4 : (w.alloc (.cells m.cells.toArray 169)).cell? ⟨w.heap.size, 4, none⟩ = some (bv m.d) := hbm.cell 4
  have m5 : (w.alloc (.cells m.cells.toArray 169)).cell? ⟨w.heap.size, 5, none⟩ = some (iv m.n) := hbm.cell 5
  have m6 : (w.alloc (.cells m.cells.toArray 169)).cell? ⟨w.heap.size, 6, none⟩ = some (iv m.max) := hbm.cell 6
  have m7 : (w.alloc (.cells m.cells.toArray 169)).cell? ⟨w.heap.size, 7, none⟩ = some (iv m.num) := hbm.cell 7
  have m8 : (w.alloc (.cells m.cells.toArray 169)).cell? ⟨w.heap.size, 8, none⟩ = some (iv m.den) := hbm.cell 8
  have m9 : (w.alloc (.cells m.cells.toArray 169)).cell? ⟨w.heap.size, 9, none⟩ = some (uv m.seq) := hbm.cell 9
  have hd0 : decide (((c2 - l.length : Nat) : Int) < 2) = false := decide_eq_false (by omega)
  have hi0 : 0 < c2 - l.length := by omega
  have hi1 : 1 < c2 - l.length := by omega
  have hn : Nw w (w.alloc (.cells m.cells.toArray 169)) := (Kp.refl _ w).alloc _
  clear hcell hbm
  go_quiet (fail)
  go_wp2_with fail
  go_ret
  exact ⟨rfl, (hn.drewN _).drewN _⟩

/-- The mark of steps. -/
def markSt : Step := ⟨0, 0, 0, 0, 0, -77, 0, 0, 0, 0⟩
theorem markSt_cells : markSt.cells.toArray = #[.int .u8 0, .int .u8 0, .int .u8 0, .int .u8 0, .int .u8 0, .int .i64 (-77), .int .i64 0, .int .i64 0, .int .i64 0, .int .u64 0] := by kernel_rfl
set_option maxRecDepth 20000 in
theorem TwinSteps_ (A : Option Addr) (c : Nat) (l : List Step) (w : World) (hr : RdSt w A c l) (hl : (l.length : Int) ≤ 100000) :
    Calls Try.prog 28 #[.slice A l.length c] w fun e w' =>
      ∃ g c2, e = .returned (.slice (some ⟨g, 0, none⟩) l.length c2) ∧ Own w' w.heap.size 169 10 (some ⟨g, 0, none⟩) (l.length + 2) c2 ((l ++ [markSt, markSt]).flatMap Step.cells) ∧ Nw w w' := by
  have h := twinSt A c l markSt w hr hl
  rw [markSt_cells] at h
  go_enter Try.func28, Try.ntmps28
  go_wp2_with (go_at_call 91; go_must (refine h.mono ?_); rintro e w1 ⟨g, c2, rfl, ho, hk⟩)
  go_ret
  exact ⟨g, c2, rfl, ho, hk⟩
set_option maxRecDepth 20000 in
theorem LeftSteps_ (g base : Nat) (c2 : Nat) (B : Option Addr) (c : Nat) (l : List Step) (w : World) (hl : (l.length : Int) ≤ 100000)
    (ho : Own w base 169 10 (some ⟨g, 0, none⟩) (l.length + 2) c2 ((l ++ [markSt, markSt]).flatMap Step.cells)) (hr : RdSt w B c l) :
    Calls Try.prog 31 #[.slice (some ⟨g, 0, none⟩) l.length c2, .slice B l.length c] w fun e w' => e = .returned (.bool true) ∧ Nw w w' := by
  have h := leftSt g base c2 B c l markSt w hl ho hr
  rw [markSt_cells] at h
  go_enter Try.func31, Try.ntmps31
  go_wp2_with (go_at_call 94; go_must (refine h.mono ?_); rintro e w1 ⟨rfl, hk⟩)
  go_ret
  exact ⟨rfl, hk⟩
end Go.Proofs.Ytiimdnachgkomaa
