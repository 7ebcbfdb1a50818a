/- law01's twin of a call, and whether it was left so. -/
import Derived.Test.YtiimdnachgkomaaLeft
import Derived.Test.YtiimdnachgkomaaStill
namespace Go.Proofs.Ytiimdnachgkomaa
open Go Go.RowKit
theorem isS_call : IsS Try.prog 30 3 := ⟨⟨_, Try.underlying30, rfl⟩, by kernel_rfl⟩
def TwinCallQ (cl : UInt8) (num : UInt64) (l : List Step) (w : World) (e : Ending) (w' : World) : Prop :=
  ∃ g c2, e = .returned (.agg #[.int .u8 cl.toNat, .int .u64 num.toNat, .slice (some ⟨g, 0, none⟩) l.length c2]) ∧ Own w' w.heap.size 169 10 (some ⟨g, 0, none⟩) (l.length + 2) c2 ((l ++ [markSt, markSt]).flatMap Step.cells) ∧ Nw w w'
set_option maxRecDepth 20000 in
set_option maxHeartbeats 1000000 in
theorem TwinCall_ (cl : UInt8) (num : UInt64) (A : Option Addr) (c : Nat) (l : List Step) (w : World) (hr : RdSt w A c l) (hl : (l.length : Int) ≤ 100000) :
    Calls Try.prog 57 #[.agg #[.int .u8 cl.toNat, .int .u64 num.toNat, .slice A l.length c]] w (TwinCallQ cl num l w) := by
  have HT := Lib.hid (TwinSteps_ A c l ((w.alloc (.cells #[.int .u8 cl.toNat, .int .u64 num.toNat, .slice A l.length c] 30)).alloc (.cells #[.int .u8 0, .int .u64 0, .slice none 0 0] 30)) ((hr.alloc _).alloc _) hl)
  have hb0 : Blk ((w.alloc (.cells #[.int .u8 cl.toNat, .int .u64 num.toNat, .slice A l.length c] 30)).alloc (.cells #[.int .u8 0, .int .u64 0, .slice none 0 0] 30)) w.heap.size 30 #[.int .u8 cl.toNat, .int .u64 num.toNat, .slice A l.length c] := (Blk.new _ _ _).alloc _
  have hb1 : Blk ((w.alloc (.cells #[.int .u8 cl.toNat, .int .u64 num.toNat, .slice A l.length c] 30)).alloc (.cells #[.int .u8 0, .int .u64 0, .slice none 0 0] 30)) (w.heap.size + 1) 30 #[.int .u8 0, .int .u64 0, .slice none 0 0] := Blk.newAt (by simp) _ _
  have hn0 : Nw w ((w.alloc (.cells #[.int .u8 cl.toNat, .int .u64 num.toNat, .slice A l.length c] 30)).alloc (.cells #[.int .u8 0, .int .u64 0, .slice none 0 0] 30)) := ((Kp.refl _ w).alloc _).alloc _
  have HB0 := Lib.hid hb0
  have HB1 := Lib.hid hb1
  have HN0 := Lib.hid hn0
  clear hr hb0 hb1 hn0
  go_enter Try.func57, Try.ntmps57
  go_wp2_with (first
    | (go_at_call 28; go_must (refine HT.out.mono ?_); rintro e w1 ⟨g, c2, rfl, ho, hk⟩; have HO := Lib.hid ho; have HK := Lib.hid hk; have hb2 := HB0.out.nw hk; have f2 := hb2.free 2; have x2 : w1.cell? ⟨w.heap.size, 2, none⟩ = some (.slice A l.length c) := hb2.cell 2; have HB2 := Lib.hid hb2; clear ho hk hb2)
    | ((with_reducible refine stopAt (.load 30 (.tmp 1)) rfl ?_); go_must (refine unStop (wpList_ldS rfl 30 (.tmp 1) rfl isS_call w.heap.size 0 rfl (HB2.out.set_ 2 (.slice (some ⟨g, 0, none⟩) l.length c2)) [.int .u8 cl.toNat, .int .u64 num.toNat, .slice (some ⟨g, 0, none⟩) l.length c2] rfl rfl ?_)))
    | ((with_reducible refine stopAt (.store 30 (.tmp 2) (.tmp 9)) rfl ?_); go_must (refine unStop (wpList_stS rfl 30 (.tmp 2) (.tmp 9) rfl [.int .u8 cl.toNat, .int .u64 num.toNat, .slice (some ⟨g, 0, none⟩) l.length c2] isS_call (w.heap.size + 1) 0 rfl rfl rfl ((HB1.out.nw HK.out).far (p := ⟨w.heap.size, 2, none⟩) (by simp) _) [.int .u8 cl.toNat, .int .u64 num.toNat, .slice (some ⟨g, 0, none⟩) l.length c2] (by simp) (by simp [Value.oneCell']) rfl ?_)); intro w3 hb3 hk3))
  have hfr : ∀ k, k < w.heap.size + 2 → blkOf (some (⟨g, 0, none⟩ : Addr)) ≠ some k := fun k hk => HO.out.fresh (by simp; omega)
  refine bodyPost_ret (res_c rfl isS_call _ rfl hb3 [.int .u8 cl.toNat, .int .u64 num.toNat, .slice (some ⟨g, 0, none⟩) l.length c2] rfl rfl) rfl ⟨g, c2, rfl, ?_, ?_⟩
  · exact ((HO.out.low (base' := w.heap.size) (by simp; omega)).setCell (p := ⟨w.heap.size, 2, none⟩) (hfr _ (by show w.heap.size < _; omega)) _).kp hk3 (fun k hk e => hfr k (by omega) hk)
  · exact (((HN0.out.nw HK.out).setNew (p := ⟨w.heap.size, 2, none⟩) (Nat.le_refl _) _)).trans hk3 (fun k hk e => by omega)
set_option maxRecDepth 20000 in
set_option maxHeartbeats 1000000 in
theorem LeftCall_ (cl : UInt8) (num : UInt64) (g base c2 : Nat) (B : Option Addr) (c : Nat) (l : List Step) (w : World) (hl : (l.length : Int) ≤ 100000)
    (ho : Own w base 169 10 (some ⟨g, 0, none⟩) (l.length + 2) c2 ((l ++ [markSt, markSt]).flatMap Step.cells)) (hr : RdSt w B c l) :
    Calls Try.prog 64 #[.agg #[.int .u8 cl.toNat, .int .u64 num.toNat, .slice (some ⟨g, 0, none⟩) l.length c2], .agg #[.int .u8 cl.toNat, .int .u64 num.toNat, .slice B l.length c]] w fun e w' => e = .returned (.bool true) ∧ Nw w w' := by
  have HT := Lib.hid (LeftSteps_ g base c2 B c l ((w.alloc (.cells #[.int .u8 cl.toNat, .int .u64 num.toNat, .slice (some ⟨g, 0, none⟩) l.length c2] 30)).alloc (.cells #[.int .u8 cl.toNat, .int .u64 num.toNat, .slice B l.length c] 30)) hl ((ho.alloc _).alloc _) ((hr.alloc _).alloc _))
  have h1 : ((cl.toNat : Int) == (cl.toNat : Int)) = true := by simp
  have h2 : ((num.toNat : Int) == (num.toNat : Int)) = true := by simp
  clear ho hr
  go_enter Try.func64, Try.ntmps64
  go_wp2_with (go_at_call 31; go_must (refine HT.out.mono ?_); rintro e w1 ⟨rfl, hk⟩)
  go_ret
  exact ⟨rfl, (((Kp.refl _ w).alloc _).alloc _).nw hk⟩
end Go.Proofs.Ytiimdnachgkomaa
