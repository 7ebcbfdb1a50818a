/- The document's client: walks. -/
import Derived.Test.YtiimdnachgkomaaTypes
import Derived.StillTailTactics
import Derived.BigQuiet
import Derived.Deep.RegionHeld3
namespace Go.Proofs.Ytiimdnachgkomaa
open Go Go.RowKit
theorem isS_rlet : IsS Try.prog 76 17 := ⟨⟨_, Try.underlying76, rfl⟩, by kernel_rfl⟩
theorem info_rlet : (Try.prog.info? 76).map (fun i => (i.zero, i.size, i.bytes)) = some (some (.agg #[.int .i64 0, .int .u8 0, .int .u8 0, .int .u64 0, .int .u64 0, .int .u64 0, .int .u64 0, .bool false, .slice none 0 0, .slice none 0 0, .int .u8 0, .int .u64 0, .slice none 0 0, .int .i64 0, .int .i64 0, .int .i64 0, .slice none 0 0]), 17, 192) := by kernel_rfl
/-- The document's client. -/
structure RC where
  id : UInt8
  n : Nat
  to : Nat
  num : UInt64
  waits : Nat
def RC.cells (s : RC) (o : Bool) (A : Option Addr) (k c : Nat) : Array Value := #[.int .u8 s.id.toNat, .int .i64 s.n, .int .i64 s.to, .int .u64 s.num.toNat, .bool o, .slice A k c, .int .i64 s.waits]
/-- The document's letter of a call. -/
def RC.ltr (s : RC) (A : Option Addr) (k c : Nat) : List Value :=
  [.int .i64 6, .int .u8 (100 + (s.id.toNat : Int)), .int .u8 (s.to : Int), .int .u64 0, .int .u64 0, .int .u64 0, .int .u64 0, .bool false, .slice none 0 0, .slice none 0 0,
    .int .u8 (s.id.toNat : Int), .int .u64 (s.num.toNat : Int), .slice A k c, .int .i64 0, .int .i64 0, .int .i64 0, .slice none 0 0]
set_option maxRecDepth 20000 in
set_option maxHeartbeats 400000 in
theorem rcalls (g : Nat) (s : RC) (o : Bool) (A : Option Addr) (k c : Nat) (w : World) (hb : Blk w g 72 (s.cells o A k c)) (hto : s.to ≤ 7) (hid : s.id.toNat ≤ 8) :
    Calls Try.prog 92 #[.pointer (some ⟨g, 0, none⟩)] w fun e w' =>
      ∃ b, e = .returned (.slice (some ⟨b, 0, none⟩) 1 1) ∧ w.heap.size ≤ b ∧ Blk w' b 76 (s.ltr A k c).toArray ∧ Blk w' g 72 (RC.cells { s with waits := 0 } o A k c) ∧ Kp (fun k => k = g) w w' := by
  have hf6 : w.frozen? ⟨g, 6, none⟩ = false := hb.free 6
  have hc6 : w.cell? ⟨g, 6, none⟩ = some (.int .i64 s.waits) := hb.cell 6
  have hg := hb.lt
  have hb1 : Blk (w.setCell ⟨g, 6, none⟩ (.int .i64 0)) g 72 (RC.cells { s with waits := 0 } o A k c) := hb.set_ 6 _
  have c0 : (w.setCell ⟨g, 6, none⟩ (.int .i64 0)).cell? ⟨g, 0, none⟩ = some (.int .u8 s.id.toNat) := hb1.cell 0
  have c2 : (w.setCell ⟨g, 6, none⟩ (.int .i64 0)).cell? ⟨g, 2, none⟩ = some (.int .i64 s.to) := hb1.cell 2
  have c3 : (w.setCell ⟨g, 6, none⟩ (.int .i64 0)).cell? ⟨g, 3, none⟩ = some (.int .u64 s.num.toNat) := hb1.cell 3
  have c5 : (w.setCell ⟨g, 6, none⟩ (.int .i64 0)).cell? ⟨g, 5, none⟩ = some (.slice A k c) := hb1.cell 5
  have hW8 : IntKind.u8.wrap (100 + (s.id.toNat : Int)) = 100 + (s.id.toNat : Int) := by rw [IntKind.wrap_u8]; omega
  have hW9 : IntKind.u8.wrap (s.to : Int) = (s.to : Int) := by rw [IntKind.wrap_u8]; omega
  have hk1 : Kp (fun k => k = g) w (w.setCell ⟨g, 6, none⟩ (.int .i64 0)) := Kp.setCell (p := ⟨g, 6, none⟩) (Kp.refl (fun k => k = g) w) (fun _ => rfl) _
  go_enter Try.func92, Try.ntmps92
  go_wp2_with fail
  generalize (w.setCell ⟨g, 6, none⟩ (.int .i64 0)) = w1 at *
  have HS : Hid (∀ w', Nw w1 w' → Nw w1 w' ∧ w'.cell? ⟨g, 0, none⟩ = some (.int .u8 s.id.toNat) ∧ w'.cell? ⟨g, 2, none⟩ = some (.int .i64 s.to) ∧ w'.cell? ⟨g, 3, none⟩ = some (.int .u64 s.num.toNat) ∧ w'.cell? ⟨g, 5, none⟩ = some (.slice A k c)) := Lib.hid (fun w' h => ⟨h, h.cell c0, h.cell c2, h.cell c3, h.cell c5⟩)
  clear hf6 hc6 hb
  go_region_held3 (fun w' => Nw w1 w' ∧ w'.cell? ⟨g, 0, none⟩ = some (.int .u8 s.id.toNat) ∧ w'.cell? ⟨g, 2, none⟩ = some (.int .i64 s.to) ∧ w'.cell? ⟨g, 3, none⟩ = some (.int .u64 s.num.toNat) ∧ w'.cell? ⟨g, 5, none⟩ = some (.slice A k c)) (refine HS.out _ ?_ <;> first | exact Kp.drew (Kp.refl _ _) | exact Kp.alloc (‹Nw w1 _ ∧ _›).1 _ | exact Kp.drew (‹Nw w1 _ ∧ _›).1 | exact Kp.alloc (Kp.drew (Kp.refl _ _)) _)
    (fail)
  have hn2 := (‹Nw w1 _ ∧ _›).1
  have hbN : Blk (w1.alloc (.cells #[.int .i64 6, .int .u8 (100 + (s.id.toNat : Int)), .int .u8 s.to, .int .u64 0, .int .u64 0, .int .u64 0, .int .u64 0, .bool false, .slice none 0 0, .slice none 0 0, .int .u8 0, .int .u64 0, .slice none 0 0, .int .i64 0, .int .i64 0, .int .i64 0, .slice none 0 0] 76)).drew w1.heap.size 76 _ := (Blk.new w1 _ _).drew
  have hg1 : g < w1.heap.size := hb1.lt
  have hN1 : w.heap.size ≤ w1.heap.size := hk1.size
  rename_i hHeld
  clear hHeld
  generalize World.drew _ = w2 at hn2 hbN ⊢
  have hN2 := hn2.size
  generalize w1.heap.size = N at *
  have hb2 := hb1.nw hn2
  have d0 : w2.cell? ⟨g, 0, none⟩ = some (.int .u8 s.id.toNat) := hb2.cell 0
  have d3 : w2.cell? ⟨g, 3, none⟩ = some (.int .u64 s.num.toNat) := hb2.cell 3
  have d5 : w2.cell? ⟨g, 5, none⟩ = some (.slice A k c) := hb2.cell 5
  have e10 : w2.cell? ⟨N, 10, none⟩ = some (.int .u8 0) := hbN.cell 10
  have e11 : w2.cell? ⟨N, 11, none⟩ = some (.int .u64 0) := hbN.cell 11
  have e12 : w2.cell? ⟨N, 12, none⟩ = some (.slice none 0 0) := hbN.cell 12
  have f10 : w2.frozen? ⟨N, 10, none⟩ = false := hbN.free 10
  have f11 : w2.frozen? ⟨N, 11, none⟩ = false := hbN.free 11
  have f12 : w2.frozen? ⟨N, 12, none⟩ = false := hbN.free 12
  clear c0 c2 c3 c5 HS hb1
  go_wp2_with fail
  go_still_tail 14, (by kernel_rfl)
  go_wp2_with (first
    | ((with_reducible refine stopAt (.load 76 (.tmp 3)) rfl ?_); go_must (refine unStop (wpList_ldS rfl 76 (.tmp 3) rfl isS_rlet N 0 rfl (((hbN.drew.set_ 10 _).set_ 11 _).set_ 12 _) (s.ltr A k c) rfl rfl ?_)))
    | ((with_reducible refine stopAt (.buildSlice 65 1 #[(0, .tmp 32)]) rfl ?_); go_must (refine unStop (wpList_bs1 rfl 65 76 (.tmp 32) rfl (s.ltr A k c) Try.underlying65 info_rlet rfl rfl (by omega) (by omega) ?_))))
  go_ret
  refine ⟨_, rfl, ?_, Blk.newAt (by simp) _ _, ?_, ?_⟩
  · first | omega | (simp; omega)
  · exact (((hb2.drew.far (p := ⟨N, 10, none⟩) (by simp; omega) _).far (p := ⟨N, 11, none⟩) (by simp; omega) _).far (p := ⟨N, 12, none⟩) (by simp; omega) _).alloc _
  · exact ((((hk1.nw hn2).drew.setNew (p := ⟨N, 10, none⟩) hN1 _).setNew (p := ⟨N, 11, none⟩) hN1 _).setNew (p := ⟨N, 12, none⟩) hN1 _).alloc _
end Go.Proofs.Ytiimdnachgkomaa
