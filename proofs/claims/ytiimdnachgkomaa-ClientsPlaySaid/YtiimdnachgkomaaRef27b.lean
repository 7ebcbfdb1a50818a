/- The document's client: a call. -/
import Derived.Test.YtiimdnachgkomaaRef27
namespace Go.Proofs.Ytiimdnachgkomaa
open Go Go.RowKit
set_option maxRecDepth 20000 in
set_option maxHeartbeats 400000 in
theorem RCall_ok (g : Nat) (s : RC) (A : Option Addr) (k c : Nat) (B : Option Addr) (d : Nat) (l : List Step) (w : World) (hb : Blk w g 72 (s.cells false A k c)) (hr : RdSt w B d l) (h1 : 1 ≤ l.length) (h8 : l.length ≤ 8) (hto : s.to ≤ 7) (hid : s.id.toNat ≤ 8) (hB : 0 < l.length → blkOf B ≠ some g) :
    Calls Try.prog 29 #[.pointer (some ⟨g, 0, none⟩), .agg #[.slice B l.length d]] w fun e w' =>
      ∃ b A1 c1, e = .returned (.tuple #[.slice (some ⟨b, 0, none⟩) 1 1, .int .i64 0]) ∧ w.heap.size ≤ b ∧ Blk w' b 76 (RC.ltr { s with num := s.num + 1 } A1 l.length c1).toArray ∧ OwnSt w' w.heap.size A1 c1 l ∧
        Blk w' g 72 (RC.cells { s with num := s.num + 1, waits := 0 } true A1 l.length c1) ∧ Kp (fun k => k = g) w w' := by
  obtain ⟨i0, hi0, hz0, hz1, hz2⟩ := info_parts info_step
  have c4 : w.cell? ⟨g, 4, none⟩ = some (.bool false) := hb.cell 4
  have c3 : w.cell? ⟨g, 3, none⟩ = some (.int .u64 s.num.toNat) := hb.cell 3
  have f3 : w.frozen? ⟨g, 3, none⟩ = false := hb.free 3
  have f4 : w.frozen? ⟨g, 4, none⟩ = false := hb.free 4
  have hg := hb.lt
  have hW := wrap_u64_succ s.num
  have hd1 : decide ((l.length : Int) < 1) = false := decide_eq_false (by omega)
  have hd2 : decide (8 < (l.length : Int)) = false := decide_eq_false (by omega)
  have HW2 : Hid (((s.num.toNat : Int) + 1) % 18446744073709551616 = ((s.num + 1).toNat : Int)) := Lib.hid (by rw [← hW, wrap_u64_])
  have hb2 : Blk (((w.setCell ⟨g, 3, none⟩ (.int .u64 ((s.num + 1).toNat : Int))).setCell ⟨g, 4, none⟩ (.bool true)).alloc (.cells #[.slice B l.length d] 24)) g 72 (RC.cells { s with num := s.num + 1 } true A k c) := ((hb.set_ 3 _).set_ 4 _).alloc _
  have hr2 := Lib.hid (((hr.setCell (p := ⟨g, 3, none⟩) hB (.int .u64 ((s.num + 1).toNat : Int))).setCell (p := ⟨g, 4, none⟩) hB (.bool true)).alloc (.cells #[.slice B l.length d] 24))
  have hk2 : Kp (fun k => k = g) w (((w.setCell ⟨g, 3, none⟩ (.int .u64 ((s.num + 1).toNat : Int))).setCell ⟨g, 4, none⟩ (.bool true)).alloc (.cells #[.slice B l.length d] 24)) := (Kp.setCell (p := ⟨g, 4, none⟩) (Kp.setCell (p := ⟨g, 3, none⟩) (Kp.refl (fun k => k = g) w) (fun _ => rfl) _) (fun _ => rfl) _).alloc _
  go_enter Try.func29, Try.ntmps29
  go_wp2_with (first
    | ((with_reducible refine stopAt (.store 26 (.tmp 26) (.tmp 24)) rfl ?_); rw [HW2.out]; refine unStop ?_)
    | ((with_reducible refine stopAt (.call { callee := .builtin .append, args := #[.const (.slice none 0 0), .tmp 32], argTypes := #[22, 22] }) rfl ?_); go_must (refine unStop (wpList_append_ _ rfl _ _ 22 rfl w.heap.size 169 i0 _ 10 48 Try.underlying22 hi0 hz0 hz1 hz2 rfl none 0 0 _ rfl (Own.nil _ _ _ _) B l.length d _ rfl hr2.out (st_one l) (Fits.of (by unfold big; omega) (by omega)) hk2.size ?_)); intro A3 c3 w3 ho3 hk3 hb3; have hb4 := hb2.kp hk3 (by simp [blkOf]); have c5 : w3.cell? ⟨g, 5, none⟩ = some (.slice A k c) := hb4.cell 5; have f5 : w3.frozen? ⟨g, 5, none⟩ = false := hb4.free 5; (simp only [Nat.zero_add, List.nil_append] at ho3)))
  have hA3 : blkOf A3 ≠ some g := ho3.fresh hg
  have hb5 : Blk (w3.setCell ⟨g, 5, none⟩ (.slice A3 l.length c3)) g 72 (RC.cells { s with num := s.num + 1 } true A3 l.length c3) := hb4.set_ 5 _
  have ho5 := ho3.setCell (p := ⟨g, 5, none⟩) hA3 (.slice A3 l.length c3)
  have hk5 : Kp (fun k => k = g) w (w3.setCell ⟨g, 5, none⟩ (.slice A3 l.length c3)) := (hk2.trans hk3 (fun i _ e => by simp [blkOf] at e)).setCell (p := ⟨g, 5, none⟩) (fun _ => rfl) _
  refine (rcalls g { s with num := s.num + 1 } true A3 l.length c3 _ hb5 hto hid).mono ?_
  rintro e w6 ⟨b, rfl, q1, q2, q3, q4⟩
  go_wp2_with fail
  go_ret2
  exact ⟨b, A3, c3, rfl, Nat.le_trans hk5.size q1, q2, ho5.kp q4 (fun k hk e => hA3 (by rw [hk, e])), q3, hk5.trans q4 (fun _ _ e => e)⟩
end Go.Proofs.Ytiimdnachgkomaa
