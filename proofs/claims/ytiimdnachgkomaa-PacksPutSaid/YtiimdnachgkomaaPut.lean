/- packs: bytes are put: a number, a byte, a number with a sign, a rate. -/
import Derived.Test.YtiimdnachgkomaaNums
import Derived.Test.YtiimdnachgkomaaTypes
import Derived.Test.YtiimdnachgkomaaPk3
import Derived.Laws.Bits64
namespace Go.Proofs.Ytiimdnachgkomaa
open Go Go.RowKit

/-- Block g is a putting, whose bytes are l. -/
structure Put (w : World) (g : Nat) (A : Option Addr) (c : Nat) (l : Bytes) : Prop where
  blk : Blk w g 249 #[.slice A l.length c]
  own : OwnB w 0 A c l
  off : blkOf A ≠ some g
/-- The putting g alone was written to. -/
structure PutS (w w' : World) (g : Nat) (A A' : Option Addr) : Prop where
  kp : Kp (fun k => k = g ∨ blkOf A = some k) w w'
  far : ∀ k, k < w.heap.size → k ≠ g → blkOf A ≠ some k → blkOf A' ≠ some k
def PutTo (g : Nat) (A : Option Addr) (l : Bytes) (w : World) (e : Ending) (w' : World) : Prop := e = .returned (.tuple #[]) ∧ ∃ A' c', Put w' g A' c' l ∧ PutS w w' g A A'

theorem PutS.refl (w : World) (g : Nat) (A : Option Addr) : PutS w w g A A := ⟨Kp.refl _ w, fun _ _ _ h => h⟩
theorem PutS.trans {w w' w'' : World} {g : Nat} {A A' A'' : Option Addr} (h : PutS w w' g A A') (k : PutS w' w'' g A' A'') : PutS w w'' g A A'' :=
  ⟨h.kp.trans k.kp (fun i hi e => by
    rcases e with e | e
    · exact .inl e
    · by_cases hg : i = g
      · exact .inl hg
      · by_cases ha : blkOf A = some i
        · exact .inr ha
        · exact absurd e (h.far i hi hg ha)),
   fun i hi hg ha => k.far i (Nat.lt_of_lt_of_le hi h.kp.size) hg (h.far i hi hg ha)⟩
theorem PutS.alloc {w w' : World} {g : Nat} {A A' : Option Addr} {o : Obj} (h : PutS (w.alloc o) w' g A A') : PutS w w' g A A' :=
  ⟨Kp.trans (S := fun k => k = g ∨ blkOf A = some k) ((Kp.refl _ w).alloc o) h.kp (fun _ _ e => e), fun i hi => h.far i (by simp; omega)⟩
theorem PutS.nw {w w1 w' : World} {g : Nat} {A A' : Option Addr} (hn : Nw w w1) (h : PutS w1 w' g A A') : PutS w w' g A A' :=
  ⟨Kp.trans (S := fun k => k = g ∨ blkOf A = some k) hn.kp h.kp (fun _ _ e => e), fun i hi => h.far i (Nat.lt_of_lt_of_le hi hn.size)⟩
theorem Put.nw {w w' : World} {g c : Nat} {A : Option Addr} {l : Bytes} (h : Put w g A c l) (hk : Nw w w') : Put w' g A c l := ⟨h.blk.nw hk, h.own.nw hk, h.off⟩
theorem Put.alloc {w : World} {g c : Nat} {A : Option Addr} {l : Bytes} (h : Put w g A c l) (o : Obj) : Put (w.alloc o) g A c l := ⟨h.blk.alloc o, h.own.alloc o, h.off⟩
/-- A block that is neither the putting nor its bytes'. -/
theorem PutS.blk {w w' : World} {g b : Nat} {A A' : Option Addr} {t : TypeId} {cs : Array Value} (h : PutS w w' g A A') (hb : Blk w b t cs) (h1 : b ≠ g) (h2 : blkOf A ≠ some b) : Blk w' b t cs :=
  hb.kp h.kp (by rintro (e | e); exact h1 e; exact h2 e)
theorem Put.far {w : World} {g c : Nat} {A : Option Addr} {l : Bytes} (h : Put w g A c l) {b : Nat} (hb : w.heap.size ≤ b) : b ≠ g ∧ blkOf A ≠ some b :=
  ⟨fun e => by subst e; exact absurd h.blk.lt (by omega), fun e => absurd (h.own.lt b e).2 (by omega)⟩

set_option maxRecDepth 20000 in
set_option maxHeartbeats 400000 in
theorem put_num (g : Nat) (A : Option Addr) (c : Nat) (l : Bytes) (n : Nat) (w : World) (hp : Put w g A c l) (hl : l.length ≤ 10000000) (hn : n < u64) :
    Calls Try.prog 143 #[.pointer (some ⟨g, 0, none⟩), .int .u64 n] w (PutTo g A (l ++ encNum n) w) := by
  have hc : w.cell? ⟨g, 0, none⟩ = some (.slice A l.length c) := hp.blk.cell 0
  have HP := Lib.hid hp
  have HL : Hid (l.length ≤ 10000000) := Lib.hid hl
  have HU : Hid (n < u64) := Lib.hid hn
  clear hp hl hn
  go_enter Try.func143, Try.ntmps143
  go_wp2_with (go_at_call 55; go_must (refine (num_calls A c l n w HP.out.own.rd HL.out HU.out).mono ?_); rintro e w1 ⟨A2, c2, rfl, ho, hk⟩; have hb1 := HP.out.blk.nw hk; have f0 := hb1.free 0; have e0 : w1.cell? ⟨g, 0, none⟩ = some (.slice A l.length c) := hb1.cell 0)
  go_end0
  have hg := HP.out.blk.lt
  have hne : blkOf A2 ≠ some g := ho.fresh hg
  refine ⟨rfl, A2, c2, ⟨by rw [List.length_append] at *; exact hb1.set_ 0 _, (ho.low (Nat.zero_le _)).setCell (p := ⟨g, 0, none⟩) hne _, hne⟩, ⟨Kp.setCell (p := ⟨g, 0, none⟩) hk.kp (fun _ => .inl rfl) _, fun k hk' _ _ => ho.fresh hk'⟩⟩

set_option maxRecDepth 20000 in
set_option maxHeartbeats 400000 in
theorem put_byte (g : Nat) (A : Option Addr) (c : Nat) (l : Bytes) (x : UInt8) (w : World) (hp : Put w g A c l) (hl : l.length ≤ 10000000) :
    Calls Try.prog 144 #[.pointer (some ⟨g, 0, none⟩), .int .u8 x.toNat] w (PutTo g A (l ++ [x]) w) := by
  obtain ⟨i0, hi0, hz0, hz1, hz2⟩ := info_parts info_byte
  have hc : w.cell? ⟨g, 0, none⟩ = some (.slice A l.length c) := hp.blk.cell 0
  have HP := Lib.hid hp
  have HL : Hid (l.length ≤ 10000000) := Lib.hid hl
  clear hp hl
  go_enter Try.func144, Try.ntmps144
  go_wp2_with (at_builtin; go_must (refine wpList_append_ _ rfl (.tmp 8) (.tmp 10) 28 rfl 0 5 i0 _ 1 1 Try.underlying28 hi0 hz0 hz1 hz2 rfl A l.length c _ rfl (HP.out.own.alloc _) _ 1 1 [.int .u8 x.toNat] rfl (Own.of_new _ _ 1 1 #[.int .u8 x.toNat] rfl (by simp [maxLen])).rd (by simp [Value.oneCell']) (Fits.of (by have := HL.out; unfold big; omega) (by omega)) (by omega) ?_); intro A2 c2 w2 ho2 hk2 hb2; have hb3 := (HP.out.blk.alloc (.cells #[.int .u8 x.toNat] 5)).kp hk2 (fun e => HP.out.off e); have f0 := hb3.free 0; have e0 : w2.cell? ⟨g, 0, none⟩ = some (.slice A l.length c) := hb3.cell 0)
  go_end0
  have hg := HP.out.blk.lt
  have hfar : ∀ k, k < w.heap.size → blkOf A ≠ some k → blkOf A2 ≠ some k := fun k hk h => by
    rcases hb2 with e | e
    · rw [e]; exact h
    · rw [e]; intro e2; injection e2 with e2; simp at e2; omega
  have hne : blkOf A2 ≠ some g := hfar g hg HP.out.off
  have ho3 : OwnB w2 0 A2 c2 (l ++ [x]) := by
    show Own _ _ _ _ _ _ _ _
    rw [List.map_append, List.length_append]
    exact ho2
  refine ⟨rfl, A2, c2, ⟨?_, ho3.setCell (p := ⟨g, 0, none⟩) hne _, hne⟩, ⟨?_, fun k h1 _ h2 => hfar k h1 h2⟩⟩
  · rw [List.length_append]; exact hb3.set_ 0 _
  · exact Kp.setCell (p := ⟨g, 0, none⟩) (Kp.trans (S := fun k => k = g ∨ blkOf A = some k) ((Kp.refl _ w).alloc _) hk2 (fun _ _ e => .inr e)) (fun _ => .inl rfl) _

/-- The bits of a number with a sign. -/
theorem zig_bits (n : Int) (h0 : -9223372036854775808 ≤ n) (h1 : n < 9223372036854775808) :
    bits .xor .u64 (IntKind.u64.wrap (wrap64 (n * 2))) (IntKind.u64.wrap (n / 9223372036854775808)) = (zigN n : Int) := by
  have hx : ∀ b : Nat, b < 2 ^ 64 → (2 ^ 64 - 1) ^^^ b = 2 ^ 64 - 1 - b := by
    intro b hb
    apply Nat.eq_of_testBit_eq
    intro i
    rw [Nat.testBit_xor, Nat.testBit_two_pow_sub_one, show 2 ^ 64 - 1 - b = 2 ^ 64 - (b + 1) by omega, Nat.testBit_two_pow_sub_succ hb]
    by_cases hi : i < 64
    · simp [hi]
    · have : b.testBit i = false := Nat.testBit_lt_two_pow (Nat.lt_of_lt_of_le hb (Nat.pow_le_pow_right (by decide) (by omega)))
      simp [hi, this]
  have e1 : IntKind.u64.wrap (wrap64 (n * 2)) = ((2 * n) % 18446744073709551616) := by
    rw [IntKind.wrap_u64]; unfold wrap64; omega
  rw [e1]
  unfold zigN
  by_cases h : 0 ≤ n
  · rw [if_pos h]
    have e2 : IntKind.u64.wrap (n / 9223372036854775808) = ((0 : Nat) : Int) := by rw [IntKind.wrap_u64]; omega
    have e3 : (2 * n) % 18446744073709551616 = (((2 * n).toNat : Nat) : Int) := by omega
    rw [e2, e3, bits_xor_u64_nat _ _ (by omega) (by omega)]
    simp
  · rw [if_neg h]
    have e2 : IntKind.u64.wrap (n / 9223372036854775808) = ((2 ^ 64 - 1 : Nat) : Int) := by rw [IntKind.wrap_u64]; omega
    have e3 : (2 * n) % 18446744073709551616 = (((2 * n + 18446744073709551616).toNat : Nat) : Int) := by omega
    rw [e2, e3, bits_xor_u64_nat _ _ (by omega) (by decide), Nat.xor_comm, hx _ (by omega)]
    omega
set_option maxRecDepth 20000 in
set_option maxHeartbeats 400000 in
theorem put_sign (g : Nat) (A : Option Addr) (c : Nat) (l : Bytes) (x : Int64) (w : World) (hp : Put w g A c l) (hl : l.length ≤ 10000000) :
    Calls Try.prog 148 #[.pointer (some ⟨g, 0, none⟩), .int .i64 x.toInt] w (PutTo g A (l ++ encS x) w) := by
  have HP := Lib.hid hp
  have HL : Hid (l.length ≤ 10000000) := Lib.hid hl
  have HZ := Lib.hid (zig_bits x.toInt x.le_toInt x.toInt_lt)
  clear hp hl
  go_enter Try.func148, Try.ntmps148
  go_wp2_with fail
  rw [HZ.out]
  refine (put_num g A c l (zigN x.toInt) w HP.out HL.out (zig_lt x)).mono ?_
  rintro e w1 ⟨rfl, A', c', h1, h2⟩
  go_wp2_with fail
  go_end0
  exact ⟨rfl, A', c', h1, h2⟩
end Go.Proofs.Ytiimdnachgkomaa
