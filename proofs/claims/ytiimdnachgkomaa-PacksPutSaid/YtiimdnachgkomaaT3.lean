/- The document's packs: PutCommand, PutReply. -/
import Derived.Test.YtiimdnachgkomaaT2
namespace Go.Proofs.Ytiimdnachgkomaa
open Go Go.RowKit
/-- The document's bytes of something: in new memory. -/
def RPutsE (l : Bytes) (w : World) (e : Ending) (w' : World) : Prop := ∃ A2 c2, e = .returned (.tuple #[.slice A2 l.length c2, .int .i64 0]) ∧ OwnB w' w.heap.size A2 c2 l ∧ Nw w w'
set_option maxRecDepth 20000 in
theorem RPutReply_ok (e at_ : Int64) (B : Option Addr) (d : Nat) (xs : List Got) (w : World) (hx : RdG w B d xs) (hn : xs.length ≤ 8) :
    Calls Try.prog 63 #[.agg #[.int .i64 e.toInt, .int .i64 at_.toInt, .slice B xs.length d]] w (RPutsE (encReply ⟨e, at_, xs⟩) w) := by
  have t1 : decide ((8 : Int) < (xs.length : Int)) = false := decide_eq_false (by omega)
  have HC := Lib.hid (rreply none 0 [] e at_ B d xs (w.alloc (.cells #[.int .i64 e.toInt, .int .i64 at_.toInt, .slice B xs.length d] 34)) (Rd.nil _ 1) (hx.alloc _) (by simp) (by omega))
  have hb : Blk (w.alloc (.cells #[.int .i64 e.toInt, .int .i64 at_.toInt, .slice B xs.length d] 34)) w.heap.size 34 #[.int .i64 e.toInt, .int .i64 at_.toInt, .slice B xs.length d] := Blk.new _ _ _
  obtain ⟨lf, hlf⟩ : ∃ lf, lf = encReply ⟨e, at_, xs⟩ := ⟨_, rfl⟩
  rw [List.nil_append, ← hlf] at HC
  rw [← hlf]
  have HB := Lib.hid hb
  replace hlf := Lib.hid hlf
  clear hx hn
  go_enter Try.func63, Try.ntmps63
  go_wp2_with ((with_reducible refine stopAt (.load 34 (.tmp 1)) rfl ?_); go_must (refine unStop (wpList_ldS rfl 34 (.tmp 1) rfl sS_reply w.heap.size 0 rfl HB.out [.int .i64 e.toInt, .int .i64 at_.toInt, .slice B xs.length d] rfl rfl ?_)))
  go_must (refine HC.out.mono ?_)
  rintro e' w2 ⟨A2, c2, rfl, ho2, hk2⟩
  have HO := Lib.hid (ho2.low (base' := w.heap.size) (by simp))
  have HK := Lib.hid (((Kp.refl (fun _ => False) w).alloc (.cells #[.int .i64 e.toInt, .int .i64 at_.toInt, .slice B xs.length d] 34)).nw hk2)
  clear ho2 hk2 hb
  go_wp2_with fail
  go_ret2
  exact ⟨A2, c2, rfl, HO.out, HK.out⟩
set_option maxRecDepth 20000 in
theorem RPutReply_not (e at_ : Int64) (B : Option Addr) (n d : Nat) (w : World) (hn : 8 < n) :
    Calls Try.prog 63 #[.agg #[.int .i64 e.toInt, .int .i64 at_.toInt, .slice B n d]] w (PutNot w) := by
  have t1 : decide ((8 : Int) < (n : Int)) = true := decide_eq_true (by omega)
  have HK : Hid (Nw w (w.alloc (.cells #[.int .i64 e.toInt, .int .i64 at_.toInt, .slice B n d] 34))) := Lib.hid ((Kp.refl _ w).alloc _)
  go_enter Try.func63, Try.ntmps63
  go_wp2_with fail
  go_ret2
  exact ⟨rfl, HK.out⟩
set_option maxRecDepth 20000 in
theorem RPutCommand_ok (B : Option Addr) (d : Nat) (xs : List Step) (w : World) (hx : RdSt w B d xs) (hn : xs.length ≤ 8) :
    Calls Try.prog 61 #[.agg #[.slice B xs.length d]] w (RPutsE (encList encStep xs) w) := by
  have t1 : decide ((8 : Int) < (xs.length : Int)) = false := decide_eq_false (by omega)
  have HC := Lib.hid (rcommand none 0 [] B d xs (w.alloc (.cells #[.slice B xs.length d] 24)) (Rd.nil _ 1) (hx.alloc _) (by simp) (by omega))
  obtain ⟨lf, hlf⟩ : ∃ lf, lf = encList encStep xs := ⟨_, rfl⟩
  rw [List.nil_append, ← hlf] at HC
  rw [← hlf]
  replace hlf := Lib.hid hlf
  clear hx hn
  go_enter Try.func61, Try.ntmps61
  go_wp2_with fail
  go_must (refine HC.out.mono ?_)
  rintro e' w2 ⟨A2, c2, rfl, ho2, hk2⟩
  have HO := Lib.hid (ho2.low (base' := w.heap.size) (by simp))
  have HK := Lib.hid (((Kp.refl (fun _ => False) w).alloc (.cells #[.slice B xs.length d] 24)).nw hk2)
  clear ho2 hk2
  go_wp2_with fail
  go_ret2
  exact ⟨A2, c2, rfl, HO.out, HK.out⟩
set_option maxRecDepth 20000 in
theorem RPutCommand_not (B : Option Addr) (n d : Nat) (w : World) (hn : 8 < n) :
    Calls Try.prog 61 #[.agg #[.slice B n d]] w (PutNot w) := by
  have t1 : decide ((8 : Int) < (n : Int)) = true := decide_eq_true (by omega)
  have HK : Hid (Nw w (w.alloc (.cells #[.slice B n d] 24))) := Lib.hid ((Kp.refl _ w).alloc _)
  go_enter Try.func61, Try.ntmps61
  go_wp2_with fail
  go_ret2
  exact ⟨rfl, HK.out⟩
end Go.Proofs.Ytiimdnachgkomaa
