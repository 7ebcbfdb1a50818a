/- packs: Take; the chapter's examples (lives). -/
import Derived.Test.YtiimdnachgkomaaGet5
import Derived.Laws.IdiomStrings
import Derived.Deep.QuietTactic
import Derived.BigQuiet
namespace Go.Proofs.Ytiimdnachgkomaa
open Go Go.RowKit
def TakeR (l : Bytes) (e : Ending) : Prop := match pNum l with
  | .ok (n, r) => e = .returned (.tuple #[.int .u64 n, .int .i64 ((l.length - r.length : Nat))])
  | .error _ => e = .returned (.tuple #[.int .u64 0, .int .i64 0])
theorem TakeR.ways {l : Bytes} {e : Ending} (h : TakeR l e) : (∃ n r, pNum l = .ok (n, r) ∧ e = .returned (.tuple #[.int .u64 n, .int .i64 ((l.length - r.length : Nat))])) ∨ (∃ k, pNum l = .error k ∧ e = .returned (.tuple #[.int .u64 0, .int .i64 0])) := by
  unfold TakeR at h
  cases hp : pNum l with
  | error k => rw [hp] at h; exact .inr ⟨k, rfl, h⟩
  | ok nr => obtain ⟨n, r⟩ := nr; rw [hp] at h; exact .inl ⟨n, r, rfl, h⟩
set_option maxRecDepth 20000 in
set_option maxHeartbeats 400000 in
theorem Take_ (A : Option Addr) (c : Nat) (l : Bytes) (w : World) (hr : RdB w A c l) :
    Calls Try.prog 56 #[.slice A l.length c] w fun e w' => TakeR l e ∧ w' = w := by
  have HR := Lib.hid hr
  clear hr
  go_enter Try.func56, Try.ntmps56
  go_wp2_with fail
  go_must (refine (take_calls A c l w HR.out).mono ?_)
  rintro e w' ⟨he, rfl⟩
  unfold TakeE at he
  cases hp : pNum l with
  | error k =>
    rw [hp] at he
    subst he
    replace hp := Lib.hid hp
    go_wp2_with fail
    go_ret2
    exact ⟨by unfold TakeR; rw [hp.out]; rfl, rfl⟩
  | ok nr =>
    obtain ⟨n, r⟩ := nr
    rw [hp] at he
    simp only [] at he
    subst he
    replace hp := Lib.hid hp
    go_wp2_with fail
    go_ret2
    exact ⟨by unfold TakeR; rw [hp.out]; rfl, rfl⟩
theorem conv_bytes (A : Option Addr) (c : Nat) (l : Bytes) (w : World) (hr : RdB w A c l) :
    (convert 28 9 (.slice A l.length c)).run Try.prog w = .ok (.string ⟨l.toArray⟩) w := by
  rcases A with _ | a
  · have hl : l = [] := by
      rcases Nat.eq_zero_or_pos l.length with h | h
      · exact List.eq_nil_of_length_eq_zero h
      · obtain ⟨ad, h1, _⟩ := hr.at_ h; cases h1
    subst hl
    rw [run_convert_bytes_string w _ _ _ none ([] : Bytes).length c Try.underlying28 Try.underlying5 Try.underlying9]
    rfl
  · refine run_convert_bytes_back w _ _ _ a c l Try.underlying28 Try.underlying5 Try.underlying9 (fun j hj => ?_)
    obtain ⟨ad, h1, h2⟩ := hr.bytes (i := j) hj (by omega)
    injection h1 with h1; subst h1
    exact h2
theorem enc300 : encNum 300 = [172, 2] := by
  rw [encNum_big (by omega), encNum_small (by omega)]; rfl
theorem encL0 {α : Type} (e : α → Bytes) : encList e [] = [0] := by
  simp only [encList, List.length_nil, List.flatMap_nil, List.append_nil]
  rw [encNum_small (by omega)]; rfl
theorem num_128_0 : pNum [128, 0] = .error 4 := by rfl
theorem zig0 : encS 0 = [0] := by
  show encNum (zigN (0 : Int64).toInt) = [0]
  rw [show zigN (0 : Int64).toInt = 0 from rfl, encNum_small (by omega)]; rfl
theorem encReply0 : encReply ⟨0, 0, []⟩ = [0, 0, 0] := by simp [encReply, zig0, encL0]
theorem reply000 : pAll pReply [0, 0, 0] = .ok ⟨0, 0, []⟩ := by rw [← encReply0]; exact codec_reply.all_back _ (by simp [okReply])
theorem reply0000 : pAll pReply [0, 0, 0, 0] = .error 4 := by
  have := codec_reply.all_more ⟨0, 0, []⟩ (by simp [okReply]) 0 []
  rwa [encReply0] at this
theorem OwnB.lit {w : World} {N : Nat} (hN : w.heap.size = N) (l : Bytes) (cs : Array Value) (h : cs = (l.map bv).toArray) (hl : l.length ≤ 1000) : RdB (w.alloc (.cells cs 5)) (some ⟨N, 0, none⟩) l.length l := by
  subst h
  have := (Own.of_newAt (W := w) hN 5 1 l.length (l.map bv).toArray (by simp) (by simp [maxLen]; omega)).rd
  simpa using this
set_option maxRecDepth 20000 in
set_option maxHeartbeats 1000000 in
theorem lives16 (w : World) :
    Calls Try.prog 54 #[] w fun e w' => e = .returned (.bool true) ∧ Nw w w' := by
  go_enter Try.func54, Try.ntmps54
  go_wp2_with fail
  go_must (refine (PutCommand_ok none 0 [] w (Rd.nil w 10) (by simp)).mono ?_)
  rintro e w1 ⟨A1, rfl, ho1, hk1⟩
  rw [encL0] at *
  have HO1 := Lib.hid ho1
  have HK1 := Lib.hid hk1
  clear ho1 hk1
  go_wp2_with fail
  have hl1 : RdB (w1.alloc (.cells #[.int .u8 128, .int .u8 0] 5)) (some ⟨w1.heap.size, 0, none⟩) 2 [128, 0] := OwnB.lit rfl [128, 0] _ rfl (by simp)
  go_must (refine (Take_ (some ⟨w1.heap.size, 0, none⟩) 2 [128, 0] _ hl1).mono ?_)
  rintro e w2 ⟨he, hw2⟩
  rcases he.ways with ⟨n, r, hp, rfl⟩ | ⟨k, hp, rfl⟩
  · rw [num_128_0] at hp; cases hp
  have hk2 : Nw w1 w2 := by rw [hw2]; exact (Kp.refl _ w1).alloc _
  have HK2 := Lib.hid hk2
  clear hw2 hp hl1 hk2
  go_wp2_with fail
  have hl2 : RdB (w2.alloc (.cells #[.int .u8 0, .int .u8 0, .int .u8 0] 5)) (some ⟨w2.heap.size, 0, none⟩) 3 [0, 0, 0] := OwnB.lit rfl [0, 0, 0] _ rfl (by simp)
  go_must (refine (GetReply_ (some ⟨w2.heap.size, 0, none⟩) 3 [0, 0, 0] _ hl2).mono ?_)
  rintro e w3 h
  rcases h.ways with ⟨a, x, hp, rfl, ⟨A3, rfl, ho3⟩, hk3⟩ | ⟨k, hp, rfl, hk3⟩
  rotate_left
  · rw [reply000] at hp; cases hp
  rw [reply000] at hp
  injection hp with hp
  subst hp
  have hk3' : Nw w2 w3 := ((Kp.refl _ w2).alloc _).nw hk3
  have HK3 := Lib.hid hk3'
  clear hl2 hk3 hk3' h ho3
  go_wp2_with fail
  have hk4 : Nw w3 (((w3.alloc (.cells #[.int .i64 0, .int .i64 0, .slice A3 0 0] 34)).alloc (.cells #[.int .u8 0, .int .u8 0, .int .u8 0, .int .u8 0] 5))) := ((Kp.refl _ w3).alloc _).alloc _
  have hb3 : Blk (((w3.alloc (.cells #[.int .i64 0, .int .i64 0, .slice A3 0 0] 34)).alloc (.cells #[.int .u8 0, .int .u8 0, .int .u8 0, .int .u8 0] 5))) w3.heap.size 34 #[.int .i64 0, .int .i64 0, .slice A3 0 0] := (Blk.new _ _ _).alloc _
  have hl3 : RdB (((w3.alloc (.cells #[.int .i64 0, .int .i64 0, .slice A3 0 0] 34)).alloc (.cells #[.int .u8 0, .int .u8 0, .int .u8 0, .int .u8 0] 5))) (some ⟨w3.heap.size + 1, 0, none⟩) 4 [0, 0, 0, 0] := OwnB.lit (by simp) [0, 0, 0, 0] _ rfl (by simp)
  go_must (refine (GetReply_ (some ⟨w3.heap.size + 1, 0, none⟩) 4 [0, 0, 0, 0] _ hl3).mono ?_)
  rintro e w4 h
  rcases h.ways with ⟨a, x, hp, rfl, hv, hk5⟩ | ⟨k, hp, rfl, hk5⟩
  · rw [reply0000] at hp; cases hp
  rw [reply0000] at hp
  injection hp with hp
  subst hp
  have HB4 := Lib.hid ((hb3.nw hk5).alloc (.cells #[.int .i64 0, .int .i64 0, .slice none 0 0] 34))
  have hn4 : Nw w1 (w4.alloc (.cells #[.int .i64 0, .int .i64 0, .slice none 0 0] 34)) := (((HK2.out.nw HK3.out).nw hk4).nw hk5).alloc _
  have HN4 := Lib.hid hn4
  obtain ⟨ad, hA1, hc1⟩ := (HO1.out.rd.nw hn4).bytes (i := 0) (by simp) (by simp)
  subst hA1
  rw [add_zero_] at hc1
  replace hc1 : (w4.alloc (.cells #[.int .i64 0, .int .i64 0, .slice none 0 0] 34)).cell? ad = some (.int .u8 0) := hc1
  clear hl3 hk5 hb3 hk4 h hn4 HK2 HK3
  go_wp2_with (first
    | (go_at_call 55; go_must (refine (num_calls none 0 [] 300 _ (Rd.nil _ 1) (by simp) (by decide)).mono ?_); rintro e w5 ⟨A5, c5, rfl, ho5, hk5⟩; rw [List.nil_append, enc300] at *; have hcv : (convert 28 9 (.slice A5 2 c5)).run Try.prog w5 = .ok (.string ⟨#[172, 2]⟩) w5 := conv_bytes A5 c5 [172, 2] w5 ho5.rd; have HN5 := Lib.hid (HN4.out.nw hk5); have hb5 := HB4.out.nw hk5; have e0 : w5.cell? ⟨w3.heap.size, 0, none⟩ = some (.int .i64 0) := hb5.cell 0; have e2 : w5.cell? ⟨w3.heap.size, 2, none⟩ = some (.slice A3 0 0) := hb5.cell 2; clear ho5 hk5 hb5))
  go_ret
  exact ⟨rfl, HK1.out.trans HN5.out (fun _ _ e => e)⟩
end Go.Proofs.Ytiimdnachgkomaa
