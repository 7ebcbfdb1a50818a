/- packs: a byte, a number, a number with a sign are got; or it is told what is wrong. -/
import Derived.Test.YtiimdnachgkomaaGet
namespace Go.Proofs.Ytiimdnachgkomaa
open Go Go.RowKit
/-- Block g is a getting, whose bytes are l; they lie below B. -/
def Gs (B : Nat) (w : World) (g : Nat) (l : Bytes) : Prop := B ≤ g ∧ ∃ A c, Blk w g 262 #[.slice A l.length c] ∧ RdB w A c l ∧ (0 < l.length → ∀ b, blkOf A = some b → b < B)
/-- What is wrong, as it is panicked with. -/
def wrongE (k : Nat) : Ending := .panicked [{ v := .iface 259 (.agg #[.int .i64 k]), recovered := false }]
/-- How a getting ends: V says what of the value and the world. -/
def GetTo {α : Type} (B g : Nat) (w : World) (V : α → World → Value → Prop) (res : Except Nat (α × Bytes)) (e : Ending) (w' : World) : Prop :=
  Kp (fun k => k = g) w w' ∧ match res with
  | .ok (a, r) => ∃ x, e = .returned x ∧ V a w' x ∧ Gs B w' g r
  | .error k => e = wrongE k
theorem GetTo.ok {α : Type} {B g : Nat} {w w' : World} {V : α → World → Value → Prop} {a : α} {r : Bytes} {res : Except Nat (α × Bytes)} (h : res = .ok (a, r)) {x : Value} (hx : V a w' x) (hk : Kp (fun k => k = g) w w') (hg : Gs B w' g r) : GetTo B g w V res (.returned x) w' := by
  subst h; exact ⟨hk, x, rfl, hx, hg⟩
theorem GetTo.err {α : Type} {B g : Nat} {w w' : World} {V : α → World → Value → Prop} {k : Nat} {res : Except Nat (α × Bytes)} (h : res = .error k) {e : Ending} (he : e = wrongE k) (hk : Kp (fun k => k = g) w w') : GetTo B g w V res e w' := by
  subst h he; exact ⟨hk, rfl⟩
/-- The two ways that a getting ends. -/
theorem GetTo.ways {α : Type} {B g : Nat} {w w' : World} {V : α → World → Value → Prop} {res : Except Nat (α × Bytes)} {e : Ending} (h : GetTo B g w V res e w') :
    (∃ a r x, res = .ok (a, r) ∧ e = .returned x ∧ V a w' x ∧ Gs B w' g r ∧ Kp (fun k => k = g) w w') ∨ (∃ k, res = .error k ∧ e = wrongE k ∧ Kp (fun k => k = g) w w') := by
  obtain ⟨hk, h⟩ := h
  match res, h with
  | .ok (a, r), ⟨x, h1, h2, h3⟩ => exact .inl ⟨a, r, x, rfl, h1, h2, h3, hk⟩
  | .error k, h => exact .inr ⟨k, rfl, h, hk⟩
/-- A value that is known. -/
def Is {α : Type} (v : α → Value) (a : α) (_ : World) (x : Value) : Prop := x = v a
theorem GetTo.isWays {α : Type} {B g : Nat} {w w' : World} {v : α → Value} {res : Except Nat (α × Bytes)} {e : Ending} (h : GetTo B g w (Is v) res e w') :
    (∃ a r, res = .ok (a, r) ∧ e = .returned (v a) ∧ Gs B w' g r ∧ Kp (fun k => k = g) w w') ∨ (∃ k, res = .error k ∧ e = wrongE k ∧ Kp (fun k => k = g) w w') := by
  rcases h.ways with ⟨a, r, x, h1, h2, h3, h4, h5⟩ | h
  · subst h3; exact .inl ⟨a, r, h1, h2, h4, h5⟩
  · exact .inr h
theorem Gs.kp {B : Nat} {S : Nat → Prop} {w w' : World} {g : Nat} {l : Bytes} (h : Gs B w g l) (hk : Kp S w w') (hs : ∀ k, S k → B ≤ k ∧ k ≠ g) : Gs B w' g l := by
  obtain ⟨hB, A, c, hb, hr, hA⟩ := h
  refine ⟨hB, A, c, hb.kp hk (fun e => (hs _ e).2 rfl), hr.kp hk (fun hn k hk' e => ?_), hA⟩
  have := hA hn k hk'
  have := (hs k e).1
  omega
theorem Gs.nw {B : Nat} {w w' : World} {g : Nat} {l : Bytes} (h : Gs B w g l) (hk : Nw w w') : Gs B w' g l := h.kp hk (fun _ e => e.elim)
theorem Gs.alloc {B : Nat} {w : World} {g : Nat} {l : Bytes} (h : Gs B w g l) (o : Obj) : Gs B (w.alloc o) g l := h.nw ((Kp.refl _ w).alloc o)
theorem Gs.lt {B : Nat} {w : World} {g : Nat} {l : Bytes} (h : Gs B w g l) : g < w.heap.size := by obtain ⟨_, A, c, hb, _⟩ := h; exact hb.lt
theorem Gs.base {B : Nat} {w : World} {g : Nat} {l : Bytes} (h : Gs B w g l) : B ≤ g := h.1
set_option maxRecDepth 20000 in
set_option maxHeartbeats 400000 in
theorem get_byte (B g : Nat) (l : Bytes) (w : World) (hg : Gs B w g l) :
    Calls Try.prog 153 #[.pointer (some ⟨g, 0, none⟩)] w (GetTo B g w (Is bv) (pByte l)) := by
  obtain ⟨hB, A, c, hb, hr, hA⟩ := hg
  have hc : w.cell? ⟨g, 0, none⟩ = some (.slice A l.length c) := hb.cell 0
  have hf := hb.free 0
  obtain ⟨i0, hi0, hz0, hz1, hz2⟩ := info_parts info_byte
  by_cases hl : l.length = 0
  · have hz : ((l.length : Int) == 0) = true := beq_iff_eq.2 (by omega)
    have HL : Hid (l = []) := Lib.hid (List.eq_nil_of_length_eq_zero hl)
    clear hl hr hA
    go_enter Try.func153, Try.ntmps153
    go_wp2_with fail
    exact ⟨rfl, GetTo.err (by rw [HL.out]; rfl) rfl (Kp.refl _ w)⟩
  · have hz : ((l.length : Int) == 0) = false := beq_eq_false_iff_ne.2 (by omega)
    have hlen : 0 < l.length := by omega
    obtain ⟨ad, hAd, hc0⟩ := hr.bytes (i := 0) hlen hlen
    have hl1 : 1 ≤ l.length := hlen
    have hne : Hid (blkOf A ≠ some g) := Lib.hid (fun e => by have := hA hlen g e; omega)
    have hA' := Lib.hid (hA hlen)
    have HR := Lib.hid hr
    have HB := Lib.hid hb
    clear hr hA hb hl
    rw [add_zero_] at hc0
    have HL : Hid (pByte l = .ok (l[0], l.drop 1)) := Lib.hid (by cases l with | nil => simp at hlen | cons x l => rfl)
    have HD : Hid ((l.drop 1).length = l.length - 1) := Lib.hid (List.length_drop ..)
    have HM : Hid ((l.map bv).drop (1 * 1) = (l.drop 1).map bv) := Lib.hid (by rw [List.map_drop])
    generalize l[0] = x at hc0 HL
    subst hAd
    go_enter Try.func153, Try.ntmps153
    go_wp2_with ((with_reducible refine stopAt (.slice 28 (.tmp 22) (some (.const (.int .i64 1))) none none) rfl ?_); go_must (refine unStop (wpList_from rfl 28 5 (.tmp 22) _ rfl Try.underlying28 hi0 hz1 rfl HR.out (k := 1) rfl hl1 ?_)); intro A2 hr2 hb2)
    go_ret
    have hkw : Kp (fun k => k = g) w (w.setCell ⟨g, 0, none⟩ (.slice A2 (l.length - 1) (c - 1))) := Kp.setCell (p := ⟨g, 0, none⟩) (Kp.refl (fun k => k = g) w) (fun _ => rfl) _
    have hne2 : blkOf A2 ≠ some g := by rw [hb2]; exact hne.out
    refine GetTo.ok HL.out rfl hkw ⟨hB, A2, c - 1, ?_, ?_, fun _ => by rw [hb2]; exact hA'.out⟩
    · rw [HD.out]; exact HB.out.set_ 0 _
    · rw [HM.out] at hr2
      show Rd _ 1 A2 (l.drop 1).length _ _
      rw [HD.out]
      exact hr2.setCell (p := ⟨g, 0, none⟩) (fun _ => hne2) _
set_option maxRecDepth 20000 in
set_option maxHeartbeats 400000 in
theorem get_num (B g : Nat) (l : Bytes) (w : World) (hg : Gs B w g l) :
    Calls Try.prog 152 #[.pointer (some ⟨g, 0, none⟩)] w (GetTo B g w (Is fun n : Nat => .int .u64 (n : Int)) (pNum l)) := by
  obtain ⟨hB, A, c, hb, hr, hA⟩ := hg
  have hc : w.cell? ⟨g, 0, none⟩ = some (.slice A l.length c) := hb.cell 0
  have hf := hb.free 0
  obtain ⟨i0, hi0, hz0, hz1, hz2⟩ := info_parts info_byte
  have HR := Lib.hid hr
  have HB := Lib.hid hb
  have HA := Lib.hid hA
  clear hr hA hb
  go_enter Try.func152, Try.ntmps152
  go_wp2_with fail
  go_must (refine (take_calls A c l w HR.out).mono ?_)
  rintro e w' ⟨he, rfl⟩
  unfold TakeE at he
  cases hp : pNum l with
  | error k =>
    rw [hp] at he
    subst he
    have hk : k = 4 ∨ k = 5 := numA_errs _ _ _ _ _ hp
    replace hp := Lib.hid hp
    rcases hk with rfl | rfl
    · go_wp2_with fail
      exact ⟨rfl, GetTo.err hp.out rfl (Kp.refl _ w')⟩
    · go_wp2_with fail
      exact ⟨rfl, GetTo.err hp.out rfl (Kp.refl _ w')⟩
  | ok nr =>
    obtain ⟨n, r⟩ := nr
    rw [hp] at he
    obtain ⟨hn, hl⟩ := codec_num.inv l n r hp
    have hsz : l.length - r.length ≤ l.length := Nat.sub_le _ _
    have HS : Hid (l.drop (l.length - r.length) = r) := Lib.hid (by
      rw [hl, List.length_append, Nat.add_sub_cancel]
      exact List.drop_left' rfl)
    have HD : Hid (l.length - (l.length - r.length) = r.length) := Lib.hid (by rw [hl, List.length_append]; omega)
    have hpos : Hid (0 < l.length) := Lib.hid (by rw [hl, List.length_append]; have := encNum_pos n; omega)
    replace hp := Lib.hid hp
    clear hl hn
    simp only [] at he
    generalize l.length - r.length = k at he hsz HS HD
    subst he
    go_wp2_with ((with_reducible refine stopAt (.slice 28 (.tmp 24) (some (.tmp 25)) none none) rfl ?_); go_must (refine unStop (wpList_from rfl 28 5 (.tmp 24) (.tmp 25) rfl Try.underlying28 hi0 hz1 rfl HR.out (k := k) rfl hsz ?_)); intro A2 hr2 hb2)
    go_ret
    have hkw : Kp (fun k => k = g) w' (w'.setCell ⟨g, 0, none⟩ (.slice A2 (l.length - k) (c - k))) := Kp.setCell (p := ⟨g, 0, none⟩) (Kp.refl (fun k => k = g) w') (fun _ => rfl) _
    have hne2 : blkOf A2 ≠ some g := by rw [hb2]; exact fun e => by have := HA.out hpos.out g e; omega
    refine GetTo.ok hp.out rfl hkw ⟨hB, A2, c - k, ?_, ?_, fun _ => by rw [hb2]; exact HA.out hpos.out⟩
    · rw [← HD.out]; exact HB.out.set_ 0 _
    · have hr3 := hr2.setCell (p := ⟨g, 0, none⟩) (fun _ => hne2) (.slice A2 (l.length - k) (c - k))
      rw [Nat.mul_one, ← List.map_drop, HS.out] at hr3
      show Rd _ 1 A2 r.length _ _
      rw [← HD.out]
      exact hr3
theorem zag_bits (n : Nat) (h : n < 18446744073709551616) :
    bits BinOp.xor IntKind.i64 (wrap64 ((n : Int) / 2)) (wrap64 (-wrap64 (bits BinOp.and IntKind.u64 (n : Int) 1))) = zagI n := by
  have h1 : bits BinOp.and IntKind.u64 (n : Int) 1 = (n : Int) % 2 := by
    have e1 : (BitVec.ofInt 64 (n : Int)).toNat = n := by rw [BitVec.ofInt_natCast, BitVec.toNat_ofNat]; exact Nat.mod_eq_of_lt (by omega)
    show IntKind.u64.wrap ((BitVec.ofInt 64 (n : Int) &&& BitVec.ofInt 64 1).toNat : Int) = _
    have e2 : (BitVec.ofInt 64 1).toNat = 1 := by decide
    rw [BitVec.toNat_and, e1, e2, Nat.and_one_is_mod, IntKind.wrap_u64]
    omega
  have hx : ∀ b : Nat, b < 2 ^ 64 → b ^^^ (2 ^ 64 - 1) = 2 ^ 64 - 1 - b := by
    intro b hb
    rw [Nat.xor_comm]
    apply Nat.eq_of_testBit_eq
    intro i
    rw [Nat.testBit_xor, Nat.testBit_two_pow_sub_one, show 2 ^ 64 - 1 - b = 2 ^ 64 - (b + 1) by omega, Nat.testBit_two_pow_sub_succ hb]
    by_cases hi : i < 64
    · simp [hi]
    · have : b.testBit i = false := Nat.testBit_lt_two_pow (Nat.lt_of_lt_of_le hb (Nat.pow_le_pow_right (by decide) (by omega)))
      simp [hi, this]
  have e3 : wrap64 ((n : Int) / 2) = ((n / 2 : Nat) : Int) := by unfold wrap64; omega
  have e4 : (BitVec.ofInt 64 ((n / 2 : Nat) : Int)).toNat = n / 2 := by rw [BitVec.ofInt_natCast, BitVec.toNat_ofNat]; exact Nat.mod_eq_of_lt (by omega)
  rw [h1, e3]
  unfold zagI
  by_cases hm : n % 2 = 0
  · have e5 : wrap64 (-wrap64 ((n : Int) % 2)) = 0 := by unfold wrap64; omega
    rw [e5, if_pos hm]
    show IntKind.i64.wrap ((BitVec.ofInt 64 ((n / 2 : Nat) : Int) ^^^ BitVec.ofInt 64 0).toNat : Int) = _
    have e6 : (BitVec.ofInt 64 0).toNat = 0 := by decide
    rw [BitVec.toNat_xor, e4, e6, Nat.xor_zero, IntKind.wrap_i64]
    omega
  · have e5 : wrap64 (-wrap64 ((n : Int) % 2)) = -1 := by unfold wrap64; omega
    rw [e5, if_neg hm]
    show IntKind.i64.wrap ((BitVec.ofInt 64 ((n / 2 : Nat) : Int) ^^^ BitVec.ofInt 64 (-1)).toNat : Int) = _
    have e6 : (BitVec.ofInt 64 (-1)).toNat = 2 ^ 64 - 1 := by decide
    rw [BitVec.toNat_xor, e4, e6, hx _ (by omega), IntKind.wrap_i64]
    omega
theorem iv_zag (n : Nat) (h : n < u64) : Value.int .i64 (zagI n) = iv (Int64.ofInt (zagI n)) := by
  unfold iv
  rw [Int64.toInt_ofInt_of_le (by unfold u64 at h; unfold zagI; split <;> omega) (by unfold u64 at h; unfold zagI; split <;> omega)]
set_option maxRecDepth 20000 in
set_option maxHeartbeats 400000 in
theorem get_sign (B g : Nat) (l : Bytes) (w : World) (hg : Gs B w g l) :
    Calls Try.prog 156 #[.pointer (some ⟨g, 0, none⟩)] w (GetTo B g w (Is iv) (pS l)) := by
  have HG := Lib.hid hg
  clear hg
  go_enter Try.func156, Try.ntmps156
  go_wp2_with fail
  go_must (refine (get_num B g l w HG.out).mono ?_)
  rintro e w1 h
  rcases h.isWays with ⟨n, r, hp, rfl, h1, h2⟩ | ⟨k, hp, rfl, h2⟩
  · replace hp := Lib.hid hp
    have hn := Lib.hid (codec_num.inv l n r hp.out).1
    go_wp2_with fail
    go_ret
    have e := (congrArg (Value.int .i64) (zag_bits n hn.out)).trans (iv_zag n hn.out)
    exact GetTo.ok (Ps.bind_ok hp.out) e h2 h1
  · replace hp := Lib.hid hp
    unfold wrongE
    go_wp2_with fail
    exact ⟨rfl, GetTo.err (Ps.bind_err hp.out) rfl h2⟩
end Go.Proofs.Ytiimdnachgkomaa
