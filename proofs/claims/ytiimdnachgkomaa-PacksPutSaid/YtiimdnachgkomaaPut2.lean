/- packs: a step, a list, a command, a reply, an entry, a state are put. -/
import Derived.Test.YtiimdnachgkomaaPut
import Derived.Test.YtiimdnachgkomaaMem3
namespace Go.Proofs.Ytiimdnachgkomaa
open Go Go.RowKit
theorem encByte_len (x : UInt8) : (encByte x).length ≤ 55 := by simp
theorem len_one (x : UInt8) : ([x] : Bytes).length ≤ 1 := Nat.le_refl _
theorem take_more (bs : Bytes) (k : Nat) (h : k < bs.length) : bs.take (k + 1) = bs.take k ++ [bs[k]] := List.take_succ_eq_append_getElem h
theorem take_more' {α : Type} (xs : List α) (k : Nat) (h : k < xs.length) (f : α → Bytes) : (xs.take (k + 1)).flatMap f = (xs.take k).flatMap f ++ f xs[k] := by rw [List.take_succ_eq_append_getElem h, List.flatMap_append, List.flatMap_cons, List.flatMap_nil, List.append_nil]
/-- A row's block is neither the putting nor its bytes'. -/
def Away (g : Nat) (A : Option Addr) (n : Nat) (B : Option Addr) : Prop := 0 < n → ∀ k, blkOf B = some k → k ≠ g ∧ blkOf A ≠ some k
theorem PutS.rd {w w' : World} {g size n d : Nat} {A A' B : Option Addr} {xs : List Value} (h : PutS w w' g A A') (hr : Rd w size B n d xs) (ha : Away g A n B) : Rd w' size B n d xs :=
  hr.kp h.kp (fun hn k hk => by rintro (e | e); exact (ha hn k hk).1 e; exact (ha hn k hk).2 e)
theorem PutS.away {w w' : World} {g size n d : Nat} {A A' B : Option Addr} {xs : List Value} (h : PutS w w' g A A') (hr : Rd w size B n d xs) (hs : 0 < size) (ha : Away g A n B) : Away g A' n B := fun hn k hk => by
  obtain ⟨k', hk', hlt⟩ := hr.blk_lt hn hs
  rw [hk'] at hk; injection hk with hk; subst hk
  exact ⟨(ha hn _ hk').1, h.far _ hlt (ha hn _ hk').1 (ha hn _ hk').2⟩
theorem sS_rat : IsS Try.prog 167 2 := ⟨⟨_, Try.underlying167, rfl⟩, by kernel_rfl⟩
theorem sS_step : IsS Try.prog 169 10 := ⟨⟨_, Try.underlying169, rfl⟩, by kernel_rfl⟩
theorem sS_got : IsS Try.prog 93 2 := ⟨⟨_, Try.underlying93, rfl⟩, by kernel_rfl⟩
theorem sS_line : IsS Try.prog 213 5 := ⟨⟨_, Try.underlying213, rfl⟩, by kernel_rfl⟩
theorem sS_offer : IsS Try.prog 216 7 := ⟨⟨_, Try.underlying216, rfl⟩, by kernel_rfl⟩
theorem sS_command : IsS Try.prog 24 1 := ⟨⟨_, Try.underlying24, rfl⟩, by kernel_rfl⟩
theorem sS_reply : IsS Try.prog 34 3 := ⟨⟨_, Try.underlying34, rfl⟩, by kernel_rfl⟩
theorem sS_entry : IsS Try.prog 124 5 := ⟨⟨_, Try.underlying124, rfl⟩, by kernel_rfl⟩
theorem sS_state : IsS Try.prog 143 4 := ⟨⟨_, Try.underlying143, rfl⟩, by kernel_rfl⟩
theorem step_one (x : Step) : ∀ u ∈ x.cells, u.oneCell' = true := fun u hu => st_one [x] u (by simpa using hu)
theorem got_one1 (x : Got) : ∀ u ∈ x.cells, u.oneCell' = true := fun u hu => got_one [x] u (by simpa using hu)
theorem line_one (x : Line) : ∀ u ∈ x.cells, u.oneCell' = true := fun u hu => by simp [Line.cells] at hu; rcases hu with h | h | h | h | h <;> subst h <;> rfl
theorem offer_one (x : Offer) : ∀ u ∈ x.cells, u.oneCell' = true := fun u hu => by simp [Offer.cells] at hu; rcases hu with h | h | h | h | h | h | h <;> subst h <;> rfl

theorem encRate_len (x y : Int64) : (encS x ++ encS y).length ≤ 20 := by have := encS_len x; have := encS_len y; simp; omega
set_option maxRecDepth 20000 in
set_option maxHeartbeats 400000 in
theorem put_rate (g : Nat) (A : Option Addr) (c : Nat) (l : Bytes) (num den : Int64) (w : World) (hp : Put w g A c l) (hl : l.length ≤ 9000000) :
    Calls Try.prog 187 #[.pointer (some ⟨g, 0, none⟩), .agg #[.int .i64 num.toInt, .int .i64 den.toInt]] w (PutTo g A (l ++ (encS num ++ encS den)) w) := by
  have HP0 := Lib.hid (hp.alloc (.cells #[.int .i64 num.toInt, .int .i64 den.toInt] 167))
  have HS0 := Lib.hid (PutS.refl (w.alloc (.cells #[.int .i64 num.toInt, .int .i64 den.toInt] 167)) g A)
  have hb := Blk.new w 167 #[.int .i64 num.toInt, .int .i64 den.toInt]
  have hb0 := hb
  have HF := Lib.hid (hp.far (Nat.le_refl _))
  have HE0 : Hid (l.length ≤ 9000000) := Lib.hid hl
  clear hp hl
  go_enter Try.func187, Try.ntmps187
  have q0_0 : World.cell? _ ⟨w.heap.size, 0, none⟩ = (some (.int .i64 num.toInt) : Option Value) := hb0.cell 0
  go_wp2_with fail
  go_must (refine (put_sign g _ _ _ num _ HP0.out (by have := HE0.out; omega)).mono ?_)
  rintro e w1 ⟨rfl, A1, c1, hp, hs⟩
  have HP1 := Lib.hid hp
  have HS1 := Lib.hid (HS0.out.trans hs)
  clear q0_0
  clear hp hs hb0
  have hb1 := HS1.out.blk hb HF.out.1 HF.out.2
  have HE1 : Hid ((l ++ encS num).length ≤ 9000010) := Lib.hid (by rw [List.length_append]; have := HE0.out; have := encS_len num; omega)
  have q1_1 : World.cell? _ ⟨w.heap.size, 1, none⟩ = (some (.int .i64 den.toInt) : Option Value) := hb1.cell 1
  go_wp2_with fail
  go_must (refine (put_sign g _ _ _ den _ HP1.out (by have := HE1.out; omega)).mono ?_)
  rintro e w2 ⟨rfl, A2, c2, hp, hs⟩
  have HP2 := Lib.hid hp
  have HS2 := Lib.hid (HS1.out.trans hs)
  clear q1_1
  clear hp hs hb1
  have hb2 := HS2.out.blk hb HF.out.1 HF.out.2
  have HE2 : Hid (((l ++ encS num) ++ encS den).length ≤ 9000020) := Lib.hid (by rw [List.length_append]; have := HE1.out; have := encS_len den; omega)
  go_wp2_with fail
  go_end0
  refine ⟨rfl, A2, c2, ?_, HS2.out.alloc⟩
  have h := HP2.out
  rwa [List.append_assoc] at h
set_option maxRecDepth 20000 in
set_option maxHeartbeats 400000 in
theorem put_step_ (g : Nat) (A : Option Addr) (c : Nat) (l : Bytes) (s : Step) (w : World) (hp : Put w g A c l) (hl : l.length ≤ 8000000) :
    Calls Try.prog 146 #[.pointer (some ⟨g, 0, none⟩), .agg #[.int .u8 s.kind.toNat, .int .u8 s.a.toNat, .int .u8 s.b.toNat, .int .u8 s.c.toNat, .int .u8 s.d.toNat, .int .i64 s.n.toInt, .int .i64 s.max.toInt, .int .i64 s.num.toInt, .int .i64 s.den.toInt, .int .u64 s.seq.toNat]] w (PutTo g A (l ++ encStep s) w) := by
  obtain ⟨kind, a, b, c', d, n, max, num, den, seq⟩ := s
  simp only []
  have HP := Lib.hid ((hp.alloc (.cells #[.int .u8 kind.toNat, .int .u8 a.toNat, .int .u8 b.toNat, .int .u8 c'.toNat, .int .u8 d.toNat, .int .i64 n.toInt, .int .i64 max.toInt, .int .i64 num.toInt, .int .i64 den.toInt, .int .u64 seq.toNat] 169)).alloc (.cells #[.int .u8 kind.toNat, .int .u8 a.toNat, .int .u8 b.toNat, .int .u8 c'.toNat, .int .u8 d.toNat] 5))
  have hb : Blk ((w.alloc (.cells #[.int .u8 kind.toNat, .int .u8 a.toNat, .int .u8 b.toNat, .int .u8 c'.toNat, .int .u8 d.toNat, .int .i64 n.toInt, .int .i64 max.toInt, .int .i64 num.toInt, .int .i64 den.toInt, .int .u64 seq.toNat] 169)).alloc (.cells #[.int .u8 kind.toNat, .int .u8 a.toNat, .int .u8 b.toNat, .int .u8 c'.toNat, .int .u8 d.toNat] 5)) w.heap.size 169 #[.int .u8 kind.toNat, .int .u8 a.toNat, .int .u8 b.toNat, .int .u8 c'.toNat, .int .u8 d.toNat, .int .i64 n.toInt, .int .i64 max.toInt, .int .i64 num.toInt, .int .i64 den.toInt, .int .u64 seq.toNat] := (Blk.new w _ _).alloc _
  have hy : Blk ((w.alloc (.cells #[.int .u8 kind.toNat, .int .u8 a.toNat, .int .u8 b.toNat, .int .u8 c'.toNat, .int .u8 d.toNat, .int .i64 n.toInt, .int .i64 max.toInt, .int .i64 num.toInt, .int .i64 den.toInt, .int .u64 seq.toNat] 169)).alloc (.cells #[.int .u8 kind.toNat, .int .u8 a.toNat, .int .u8 b.toNat, .int .u8 c'.toNat, .int .u8 d.toNat] 5)) (w.heap.size + 1) 5 #[.int .u8 kind.toNat, .int .u8 a.toNat, .int .u8 b.toNat, .int .u8 c'.toNat, .int .u8 d.toNat] := Blk.newAt (by simp) _ _
  have HF := Lib.hid (hp.far (Nat.le_refl _))
  have HF1 := Lib.hid (hp.far (Nat.le_succ w.heap.size))
  have HL : Hid (l.length ≤ 8000000) := Lib.hid hl
  clear hp hl
  go_enter Try.func146, Try.ntmps146
  go_wp2_with fail
  have hn0 : Nw w ((w.alloc (.cells #[.int .u8 kind.toNat, .int .u8 a.toNat, .int .u8 b.toNat, .int .u8 c'.toNat, .int .u8 d.toNat, .int .i64 n.toInt, .int .i64 max.toInt, .int .i64 num.toInt, .int .i64 den.toInt, .int .u64 seq.toNat] 169)).alloc (.cells #[.int .u8 kind.toNat, .int .u8 a.toNat, .int .u8 b.toNat, .int .u8 c'.toNat, .int .u8 d.toNat] 5)) := ((Kp.refl _ w).alloc _).alloc _
  generalize ((w.alloc (.cells #[.int .u8 kind.toNat, .int .u8 a.toNat, .int .u8 b.toNat, .int .u8 c'.toNat, .int .u8 d.toNat, .int .i64 n.toInt, .int .i64 max.toInt, .int .i64 num.toInt, .int .i64 den.toInt, .int .u64 seq.toNat] 169)).alloc (.cells #[.int .u8 kind.toNat, .int .u8 a.toNat, .int .u8 b.toNat, .int .u8 c'.toNat, .int .u8 d.toNat] 5)) = w0 at *
  obtain ⟨bs, hbs, hl5⟩ : ∃ bs : Bytes, bs = [kind, a, b, c', d] ∧ bs.length = 5 := ⟨_, rfl, rfl⟩
  replace hbs := Lib.hid hbs
  replace hl5 := Lib.hid hl5
  go_loopw [18] (fun i wr => ∃ (k : Nat) (A' : Option Addr) (c1 : Nat), k ≤ 5 ∧ i = .int .i64 k ∧ Put wr g A' c1 (l ++ bs.take k) ∧ PutS w0 wr g A A') (fun i _ => 5 - (intOf i).toNat)
  case atStart => exact ⟨0, A, c, by omega, rfl, by simpa using HP.out, PutS.refl _ _ _⟩
  case round =>
    obtain ⟨k, A0, c0, hk, rfl, hpr, hsr⟩ := hrel
    have HP0 := Lib.hid hpr
    have HS0 := Lib.hid hsr
    by_cases hlt : k < 5
    · have hyr := hsr.blk hy HF1.out.1 HF1.out.2
      have hbk : (#[.int .u8 kind.toNat, .int .u8 a.toNat, .int .u8 b.toNat, .int .u8 c'.toNat, .int .u8 d.toNat] : Array Value)[k]? = some (.int .u8 ((bs[k]'(by rw [hl5.out]; exact hlt)).toNat)) := by
        have e : (#[.int .u8 kind.toNat, .int .u8 a.toNat, .int .u8 b.toNat, .int .u8 c'.toNat, .int .u8 d.toNat] : Array Value) = (bs.map bv).toArray := by rw [hbs.out]; rfl
        rw [e]
        simp [hl5.out, hlt, bv]
      have hck := (hyr.cell k).trans hbk
      have hkb : k < bs.length := by rw [hl5.out]; exact hlt
      obtain ⟨x, hx⟩ : ∃ x, x = bs[k]'hkb := ⟨_, rfl⟩
      replace hx := Lib.hid hx
      rw [← hx.out] at hck
      clear hbk hyr hpr hsr hy
      go_wp2_with fail
      go_must (refine (put_byte g A0 c0 _ x _ HP0.out (by have := HL.out; rw [List.length_append, List.length_take]; omega)).mono ?_)
      rintro e w1 ⟨rfl, A2, c2, hp2, hs2⟩
      go_wp2_with fail
      go_roundw
      case rel => exact ⟨k + 1, A2, c2, by omega, by go_num, by rw [take_more bs k hkb, ← hx.out, ← List.append_assoc]; exact hp2, HS0.out.trans hs2⟩
      case measure => simp [intOf]; omega
    · obtain rfl : k = 5 := by omega
      have hb0 := hsr.blk hb HF.out.1 HF.out.2
      clear hpr hsr hy
      have HE0 : Hid ((l ++ bs.take 5).length ≤ 8000005) := Lib.hid (by rw [List.length_append, List.length_take]; have := HL.out; omega)
      have q0_5 : World.cell? _ ⟨w.heap.size, 5, none⟩ = (some (.int .i64 n.toInt) : Option Value) := hb0.cell 5
      go_wp2_with fail
      go_must (refine (put_sign g _ _ _ n _ HP0.out (by have := HE0.out; omega)).mono ?_)
      rintro e w1 ⟨rfl, A1, c1, hp, hs⟩
      have HP1 := Lib.hid hp
      have HS1 := Lib.hid (HS0.out.trans hs)
      clear q0_5
      clear hp hs hb0
      have hb1 := HS1.out.blk hb HF.out.1 HF.out.2
      have HE1 : Hid (((l ++ bs.take 5) ++ encS n).length ≤ 8000015) := Lib.hid (by rw [List.length_append]; have := HE0.out; have := encS_len n; omega)
      have q1_6 : World.cell? _ ⟨w.heap.size, 6, none⟩ = (some (.int .i64 max.toInt) : Option Value) := hb1.cell 6
      go_wp2_with fail
      go_must (refine (put_sign g _ _ _ max _ HP1.out (by have := HE1.out; omega)).mono ?_)
      rintro e w2 ⟨rfl, A2, c2, hp, hs⟩
      have HP2 := Lib.hid hp
      have HS2 := Lib.hid (HS1.out.trans hs)
      clear q1_6
      clear hp hs hb1
      have hb2 := HS2.out.blk hb HF.out.1 HF.out.2
      have HE2 : Hid ((((l ++ bs.take 5) ++ encS n) ++ encS max).length ≤ 8000025) := Lib.hid (by rw [List.length_append]; have := HE1.out; have := encS_len max; omega)
      go_wp2_with (first | ((with_reducible refine stopAt (.load 167 (.tmp 35)) rfl ?_); go_must (refine unStop (wpList_ldS rfl 167 (.tmp 35) rfl sS_rat w.heap.size 7 rfl hb2 [.int .i64 num.toInt, .int .i64 den.toInt] rfl rfl ?_))))
      go_must (refine (put_rate g _ _ _ num den _ HP2.out (by have := HE2.out; omega)).mono ?_)
      rintro e w3 ⟨rfl, A3, c3, hp, hs⟩
      have HP3 := Lib.hid hp
      have HS3 := Lib.hid (HS2.out.trans hs)
      clear hp hs hb2
      have hb3 := HS3.out.blk hb HF.out.1 HF.out.2
      have HE3 : Hid (((((l ++ bs.take 5) ++ encS n) ++ encS max) ++ (encS num ++ encS den)).length ≤ 8000045) := Lib.hid (by rw [List.length_append]; have := HE2.out; have := encRate_len num den; omega)
      have q3_9 : World.cell? _ ⟨w.heap.size, 9, none⟩ = (some (.int .u64 seq.toNat) : Option Value) := hb3.cell 9
      go_wp2_with fail
      go_must (refine (put_num g _ _ _ seq.toNat _ HP3.out (by have := HE3.out; omega) seq.toNat_lt).mono ?_)
      rintro e w4 ⟨rfl, A4, c4, hp, hs⟩
      have HP4 := Lib.hid hp
      have HS4 := Lib.hid (HS3.out.trans hs)
      clear q3_9
      clear hp hs hb3
      have hb4 := HS4.out.blk hb HF.out.1 HF.out.2
      have HE4 : Hid ((((((l ++ bs.take 5) ++ encS n) ++ encS max) ++ (encS num ++ encS den)) ++ encNum seq.toNat).length ≤ 8000055) := Lib.hid (by rw [List.length_append]; have := HE3.out; have := encNum_len10 seq.toNat_lt; omega)
      go_wp2_with fail
      go_end0
      refine ⟨rfl, A4, c4, ?_, PutS.nw hn0 HS4.out⟩
      have h := HP4.out
      have he : l ++ encStep ⟨kind, a, b, c', d, n, max, num, den, seq⟩ = (((((l ++ bs.take 5) ++ encS n) ++ encS max) ++ (encS num ++ encS den)) ++ encNum seq.toNat) := by rw [hbs.out]; simp [encStep, encU]
      rw [he]
      exact h
theorem put_step (g : Nat) (A : Option Addr) (c : Nat) (l : Bytes) (s : Step) (w : World) (hp : Put w g A c l) (hl : l.length ≤ 8000000) :
    Calls Try.prog 146 #[.pointer (some ⟨g, 0, none⟩), .agg s.cells.toArray] w (PutTo g A (l ++ encStep s) w) := put_step_ g A c l s w hp hl
set_option maxRecDepth 20000 in
set_option maxHeartbeats 400000 in
theorem put_got_ (g : Nat) (A : Option Addr) (c : Nat) (l : Bytes) (s : Got) (w : World) (hp : Put w g A c l) (hl : l.length ≤ 8000000) :
    Calls Try.prog 150 #[.pointer (some ⟨g, 0, none⟩), .agg #[.int .i64 s.x.toInt, .int .i64 s.y.toInt]] w (PutTo g A (l ++ encGot s) w) := by
  obtain ⟨f0, f1⟩ := s
  simp only []
  have HP0 := Lib.hid (hp.alloc (.cells #[.int .i64 f0.toInt, .int .i64 f1.toInt] 93))
  have HS0 := Lib.hid (PutS.refl (w.alloc (.cells #[.int .i64 f0.toInt, .int .i64 f1.toInt] 93)) g A)
  have hb := Blk.new w 93 #[.int .i64 f0.toInt, .int .i64 f1.toInt]
  have hb0 := hb
  have HF := Lib.hid (hp.far (Nat.le_refl _))
  have HE0 : Hid (l.length ≤ 8000000) := Lib.hid hl
  clear hp hl
  go_enter Try.func150, Try.ntmps150
  have q0_0 : World.cell? _ ⟨w.heap.size, 0, none⟩ = (some (.int .i64 f0.toInt) : Option Value) := hb0.cell 0
  go_wp2_with fail
  go_must (refine (put_sign g _ _ _ f0 _ HP0.out (by have := HE0.out; omega)).mono ?_)
  rintro e w1 ⟨rfl, A1, c1, hp, hs⟩
  have HP1 := Lib.hid hp
  have HS1 := Lib.hid (HS0.out.trans hs)
  clear q0_0
  clear hp hs hb0
  have hb1 := HS1.out.blk hb HF.out.1 HF.out.2
  have HE1 : Hid ((l ++ encS f0).length ≤ 8000010) := Lib.hid (by rw [List.length_append]; have := HE0.out; have := encS_len f0; omega)
  have q1_1 : World.cell? _ ⟨w.heap.size, 1, none⟩ = (some (.int .i64 f1.toInt) : Option Value) := hb1.cell 1
  go_wp2_with fail
  go_must (refine (put_sign g _ _ _ f1 _ HP1.out (by have := HE1.out; omega)).mono ?_)
  rintro e w2 ⟨rfl, A2, c2, hp, hs⟩
  have HP2 := Lib.hid hp
  have HS2 := Lib.hid (HS1.out.trans hs)
  clear q1_1
  clear hp hs hb1
  have hb2 := HS2.out.blk hb HF.out.1 HF.out.2
  have HE2 : Hid (((l ++ encS f0) ++ encS f1).length ≤ 8000020) := Lib.hid (by rw [List.length_append]; have := HE1.out; have := encS_len f1; omega)
  go_wp2_with fail
  go_end0
  refine ⟨rfl, A2, c2, ?_, HS2.out.alloc⟩
  have h := HP2.out
  have he : l ++ encGot ⟨f0, f1⟩ = ((l ++ encS f0) ++ encS f1) := by simp [encGot]
  rw [he]
  exact h
theorem put_got (g : Nat) (A : Option Addr) (c : Nat) (l : Bytes) (s : Got) (w : World) (hp : Put w g A c l) (hl : l.length ≤ 8000000) :
    Calls Try.prog 150 #[.pointer (some ⟨g, 0, none⟩), .agg s.cells.toArray] w (PutTo g A (l ++ encGot s) w) := put_got_ g A c l s w hp hl
set_option maxRecDepth 20000 in
set_option maxHeartbeats 400000 in
theorem put_line_ (g : Nat) (A : Option Addr) (c : Nat) (l : Bytes) (s : Line) (w : World) (hp : Put w g A c l) (hl : l.length ≤ 8000000) :
    Calls Try.prog 162 #[.pointer (some ⟨g, 0, none⟩), .agg #[.int .u8 s.cr.toNat, .int .u8 s.db.toNat, .int .u8 s.cu.toNat, .int .i64 s.limit.toInt, .int .i64 s.debt.toInt]] w (PutTo g A (l ++ encLine s) w) := by
  obtain ⟨f0, f1, f2, f3, f4⟩ := s
  simp only []
  have HP0 := Lib.hid (hp.alloc (.cells #[.int .u8 f0.toNat, .int .u8 f1.toNat, .int .u8 f2.toNat, .int .i64 f3.toInt, .int .i64 f4.toInt] 213))
  have HS0 := Lib.hid (PutS.refl (w.alloc (.cells #[.int .u8 f0.toNat, .int .u8 f1.toNat, .int .u8 f2.toNat, .int .i64 f3.toInt, .int .i64 f4.toInt] 213)) g A)
  have hb := Blk.new w 213 #[.int .u8 f0.toNat, .int .u8 f1.toNat, .int .u8 f2.toNat, .int .i64 f3.toInt, .int .i64 f4.toInt]
  have hb0 := hb
  have HF := Lib.hid (hp.far (Nat.le_refl _))
  have HE0 : Hid (l.length ≤ 8000000) := Lib.hid hl
  clear hp hl
  go_enter Try.func162, Try.ntmps162
  have q0_0 : World.cell? _ ⟨w.heap.size, 0, none⟩ = (some (.int .u8 f0.toNat) : Option Value) := hb0.cell 0
  go_wp2_with fail
  go_must (refine (put_byte g _ _ _ f0 _ HP0.out (by have := HE0.out; omega)).mono ?_)
  rintro e w1 ⟨rfl, A1, c1, hp, hs⟩
  have HP1 := Lib.hid hp
  have HS1 := Lib.hid (HS0.out.trans hs)
  clear q0_0
  clear hp hs hb0
  have hb1 := HS1.out.blk hb HF.out.1 HF.out.2
  have HE1 : Hid ((l ++ [f0]).length ≤ 8000001) := Lib.hid (by rw [List.length_append]; have := HE0.out; have := len_one f0; omega)
  have q1_1 : World.cell? _ ⟨w.heap.size, 1, none⟩ = (some (.int .u8 f1.toNat) : Option Value) := hb1.cell 1
  go_wp2_with fail
  go_must (refine (put_byte g _ _ _ f1 _ HP1.out (by have := HE1.out; omega)).mono ?_)
  rintro e w2 ⟨rfl, A2, c2, hp, hs⟩
  have HP2 := Lib.hid hp
  have HS2 := Lib.hid (HS1.out.trans hs)
  clear q1_1
  clear hp hs hb1
  have hb2 := HS2.out.blk hb HF.out.1 HF.out.2
  have HE2 : Hid (((l ++ [f0]) ++ [f1]).length ≤ 8000002) := Lib.hid (by rw [List.length_append]; have := HE1.out; have := len_one f1; omega)
  have q2_2 : World.cell? _ ⟨w.heap.size, 2, none⟩ = (some (.int .u8 f2.toNat) : Option Value) := hb2.cell 2
  go_wp2_with fail
  go_must (refine (put_byte g _ _ _ f2 _ HP2.out (by have := HE2.out; omega)).mono ?_)
  rintro e w3 ⟨rfl, A3, c3, hp, hs⟩
  have HP3 := Lib.hid hp
  have HS3 := Lib.hid (HS2.out.trans hs)
  clear q2_2
  clear hp hs hb2
  have hb3 := HS3.out.blk hb HF.out.1 HF.out.2
  have HE3 : Hid ((((l ++ [f0]) ++ [f1]) ++ [f2]).length ≤ 8000003) := Lib.hid (by rw [List.length_append]; have := HE2.out; have := len_one f2; omega)
  have q3_3 : World.cell? _ ⟨w.heap.size, 3, none⟩ = (some (.int .i64 f3.toInt) : Option Value) := hb3.cell 3
  go_wp2_with fail
  go_must (refine (put_sign g _ _ _ f3 _ HP3.out (by have := HE3.out; omega)).mono ?_)
  rintro e w4 ⟨rfl, A4, c4, hp, hs⟩
  have HP4 := Lib.hid hp
  have HS4 := Lib.hid (HS3.out.trans hs)
  clear q3_3
  clear hp hs hb3
  have hb4 := HS4.out.blk hb HF.out.1 HF.out.2
  have HE4 : Hid (((((l ++ [f0]) ++ [f1]) ++ [f2]) ++ encS f3).length ≤ 8000013) := Lib.hid (by rw [List.length_append]; have := HE3.out; have := encS_len f3; omega)
  have q4_4 : World.cell? _ ⟨w.heap.size, 4, none⟩ = (some (.int .i64 f4.toInt) : Option Value) := hb4.cell 4
  go_wp2_with fail
  go_must (refine (put_sign g _ _ _ f4 _ HP4.out (by have := HE4.out; omega)).mono ?_)
  rintro e w5 ⟨rfl, A5, c5, hp, hs⟩
  have HP5 := Lib.hid hp
  have HS5 := Lib.hid (HS4.out.trans hs)
  clear q4_4
  clear hp hs hb4
  have hb5 := HS5.out.blk hb HF.out.1 HF.out.2
  have HE5 : Hid ((((((l ++ [f0]) ++ [f1]) ++ [f2]) ++ encS f3) ++ encS f4).length ≤ 8000023) := Lib.hid (by rw [List.length_append]; have := HE4.out; have := encS_len f4; omega)
  go_wp2_with fail
  go_end0
  refine ⟨rfl, A5, c5, ?_, HS5.out.alloc⟩
  have h := HP5.out
  have he : l ++ encLine ⟨f0, f1, f2, f3, f4⟩ = (((((l ++ [f0]) ++ [f1]) ++ [f2]) ++ encS f3) ++ encS f4) := by simp [encLine]
  rw [he]
  exact h
theorem put_line (g : Nat) (A : Option Addr) (c : Nat) (l : Bytes) (s : Line) (w : World) (hp : Put w g A c l) (hl : l.length ≤ 8000000) :
    Calls Try.prog 162 #[.pointer (some ⟨g, 0, none⟩), .agg s.cells.toArray] w (PutTo g A (l ++ encLine s) w) := put_line_ g A c l s w hp hl
set_option maxRecDepth 20000 in
set_option maxHeartbeats 400000 in
theorem put_offer_ (g : Nat) (A : Option Addr) (c : Nat) (l : Bytes) (s : Offer) (w : World) (hp : Put w g A c l) (hl : l.length ≤ 8000000) :
    Calls Try.prog 164 #[.pointer (some ⟨g, 0, none⟩), .agg #[.int .u64 s.seq.toNat, .int .u8 s.owner.toNat, .int .u8 s.sell.toNat, .int .u8 s.buy.toNat, .int .i64 s.left.toInt, .int .i64 s.num.toInt, .int .i64 s.den.toInt]] w (PutTo g A (l ++ encOffer s) w) := by
  obtain ⟨f0, f1, f2, f3, f4, f5, f6⟩ := s
  simp only []
  have HP0 := Lib.hid (hp.alloc (.cells #[.int .u64 f0.toNat, .int .u8 f1.toNat, .int .u8 f2.toNat, .int .u8 f3.toNat, .int .i64 f4.toInt, .int .i64 f5.toInt, .int .i64 f6.toInt] 216))
  have HS0 := Lib.hid (PutS.refl (w.alloc (.cells #[.int .u64 f0.toNat, .int .u8 f1.toNat, .int .u8 f2.toNat, .int .u8 f3.toNat, .int .i64 f4.toInt, .int .i64 f5.toInt, .int .i64 f6.toInt] 216)) g A)
  have hb := Blk.new w 216 #[.int .u64 f0.toNat, .int .u8 f1.toNat, .int .u8 f2.toNat, .int .u8 f3.toNat, .int .i64 f4.toInt, .int .i64 f5.toInt, .int .i64 f6.toInt]
  have hb0 := hb
  have HF := Lib.hid (hp.far (Nat.le_refl _))
  have HE0 : Hid (l.length ≤ 8000000) := Lib.hid hl
  clear hp hl
  go_enter Try.func164, Try.ntmps164
  have q0_0 : World.cell? _ ⟨w.heap.size, 0, none⟩ = (some (.int .u64 f0.toNat) : Option Value) := hb0.cell 0
  go_wp2_with fail
  go_must (refine (put_num g _ _ _ f0.toNat _ HP0.out (by have := HE0.out; omega) f0.toNat_lt).mono ?_)
  rintro e w1 ⟨rfl, A1, c1, hp, hs⟩
  have HP1 := Lib.hid hp
  have HS1 := Lib.hid (HS0.out.trans hs)
  clear q0_0
  clear hp hs hb0
  have hb1 := HS1.out.blk hb HF.out.1 HF.out.2
  have HE1 : Hid ((l ++ encNum f0.toNat).length ≤ 8000010) := Lib.hid (by rw [List.length_append]; have := HE0.out; have := encNum_len10 f0.toNat_lt; omega)
  have q1_1 : World.cell? _ ⟨w.heap.size, 1, none⟩ = (some (.int .u8 f1.toNat) : Option Value) := hb1.cell 1
  go_wp2_with fail
  go_must (refine (put_byte g _ _ _ f1 _ HP1.out (by have := HE1.out; omega)).mono ?_)
  rintro e w2 ⟨rfl, A2, c2, hp, hs⟩
  have HP2 := Lib.hid hp
  have HS2 := Lib.hid (HS1.out.trans hs)
  clear q1_1
  clear hp hs hb1
  have hb2 := HS2.out.blk hb HF.out.1 HF.out.2
  have HE2 : Hid (((l ++ encNum f0.toNat) ++ [f1]).length ≤ 8000011) := Lib.hid (by rw [List.length_append]; have := HE1.out; have := len_one f1; omega)
  have q2_2 : World.cell? _ ⟨w.heap.size, 2, none⟩ = (some (.int .u8 f2.toNat) : Option Value) := hb2.cell 2
  go_wp2_with fail
  go_must (refine (put_byte g _ _ _ f2 _ HP2.out (by have := HE2.out; omega)).mono ?_)
  rintro e w3 ⟨rfl, A3, c3, hp, hs⟩
  have HP3 := Lib.hid hp
  have HS3 := Lib.hid (HS2.out.trans hs)
  clear q2_2
  clear hp hs hb2
  have hb3 := HS3.out.blk hb HF.out.1 HF.out.2
  have HE3 : Hid ((((l ++ encNum f0.toNat) ++ [f1]) ++ [f2]).length ≤ 8000012) := Lib.hid (by rw [List.length_append]; have := HE2.out; have := len_one f2; omega)
  have q3_3 : World.cell? _ ⟨w.heap.size, 3, none⟩ = (some (.int .u8 f3.toNat) : Option Value) := hb3.cell 3
  go_wp2_with fail
  go_must (refine (put_byte g _ _ _ f3 _ HP3.out (by have := HE3.out; omega)).mono ?_)
  rintro e w4 ⟨rfl, A4, c4, hp, hs⟩
  have HP4 := Lib.hid hp
  have HS4 := Lib.hid (HS3.out.trans hs)
  clear q3_3
  clear hp hs hb3
  have hb4 := HS4.out.blk hb HF.out.1 HF.out.2
  have HE4 : Hid (((((l ++ encNum f0.toNat) ++ [f1]) ++ [f2]) ++ [f3]).length ≤ 8000013) := Lib.hid (by rw [List.length_append]; have := HE3.out; have := len_one f3; omega)
  have q4_4 : World.cell? _ ⟨w.heap.size, 4, none⟩ = (some (.int .i64 f4.toInt) : Option Value) := hb4.cell 4
  go_wp2_with fail
  go_must (refine (put_sign g _ _ _ f4 _ HP4.out (by have := HE4.out; omega)).mono ?_)
  rintro e w5 ⟨rfl, A5, c5, hp, hs⟩
  have HP5 := Lib.hid hp
  have HS5 := Lib.hid (HS4.out.trans hs)
  clear q4_4
  clear hp hs hb4
  have hb5 := HS5.out.blk hb HF.out.1 HF.out.2
  have HE5 : Hid ((((((l ++ encNum f0.toNat) ++ [f1]) ++ [f2]) ++ [f3]) ++ encS f4).length ≤ 8000023) := Lib.hid (by rw [List.length_append]; have := HE4.out; have := encS_len f4; omega)
  go_wp2_with (first | ((with_reducible refine stopAt (.load 167 (.tmp 25)) rfl ?_); go_must (refine unStop (wpList_ldS rfl 167 (.tmp 25) rfl sS_rat w.heap.size 5 rfl hb5 [.int .i64 f5.toInt, .int .i64 f6.toInt] rfl rfl ?_))))
  go_must (refine (put_rate g _ _ _ f5 f6 _ HP5.out (by have := HE5.out; omega)).mono ?_)
  rintro e w6 ⟨rfl, A6, c6, hp, hs⟩
  have HP6 := Lib.hid hp
  have HS6 := Lib.hid (HS5.out.trans hs)
  clear hp hs hb5
  have hb6 := HS6.out.blk hb HF.out.1 HF.out.2
  have HE6 : Hid (((((((l ++ encNum f0.toNat) ++ [f1]) ++ [f2]) ++ [f3]) ++ encS f4) ++ (encS f5 ++ encS f6)).length ≤ 8000043) := Lib.hid (by rw [List.length_append]; have := HE5.out; have := encRate_len f5 f6; omega)
  go_wp2_with fail
  go_end0
  refine ⟨rfl, A6, c6, ?_, HS6.out.alloc⟩
  have h := HP6.out
  have he : l ++ encOffer ⟨f0, f1, f2, f3, f4, f5, f6⟩ = ((((((l ++ encNum f0.toNat) ++ [f1]) ++ [f2]) ++ [f3]) ++ encS f4) ++ (encS f5 ++ encS f6)) := by simp [encOffer, encU]
  rw [he]
  exact h
theorem put_offer (g : Nat) (A : Option Addr) (c : Nat) (l : Bytes) (s : Offer) (w : World) (hp : Put w g A c l) (hl : l.length ≤ 8000000) :
    Calls Try.prog 164 #[.pointer (some ⟨g, 0, none⟩), .agg s.cells.toArray] w (PutTo g A (l ++ encOffer s) w) := put_offer_ g A c l s w hp hl
set_option maxRecDepth 20000 in
set_option maxHeartbeats 400000 in
theorem put_list_step (g : Nat) (A : Option Addr) (c : Nat) (l : Bytes) (B : Option Addr) (d : Nat) (xs : List Step) (w : World) (hp : Put w g A c l) (hx : Rd w 10 B xs.length d (xs.flatMap Step.cells)) (ha : Away g A xs.length B) (hl : l.length ≤ 1000000) (hn : xs.length ≤ 1000) :
    Calls Try.prog 145 #[.pointer (some ⟨g, 0, none⟩), .slice B xs.length d, .func (.func 146) #[] #[]] w (PutTo g A (l ++ encList encStep xs) w) := by
  have HP := Lib.hid hp
  have HX := Lib.hid hx
  have HA := Lib.hid ha
  have HL : Hid (l.length ≤ 1000000) := Lib.hid hl
  have HN1 : Hid (xs.length ≤ 1000) := Lib.hid hn
  have HN : Hid (xs.length < u64) := Lib.hid (Nat.lt_of_le_of_lt hn (by decide))
  clear hp hx hl ha
  go_enter Try.func145, Try.ntmps145
  go_wp2_with fail
  go_must (refine (put_num g A c l xs.length w HP.out (by have := HL.out; omega) HN.out).mono ?_)
  rintro e w1 ⟨rfl, A1, c1, hp1, hs1⟩
  have HP1 := Lib.hid hp1
  have HX1 := Lib.hid (hs1.rd HX.out HA.out)
  have HA1 := Lib.hid (hs1.away HX.out (by omega) HA.out)
  have HS1 := Lib.hid hs1
  clear hp1 hs1
  have HL1 : Hid ((l ++ encNum xs.length).length ≤ 1000010) := Lib.hid (by rw [List.length_append]; have := HL.out; have := encNum_len10 HN.out; omega)
  go_wp2_with fail
  go_loopw [15] (fun i wr => ∃ (k : Nat) (A' : Option Addr) (c2 : Nat), k ≤ xs.length ∧ i = .int .i64 k ∧ Put wr g A' c2 (l ++ encNum xs.length ++ (xs.take k).flatMap encStep) ∧ PutS w1 wr g A1 A') (fun i _ => xs.length - (intOf i).toNat)
  case atStart => exact ⟨0, A1, c1, by omega, rfl, by simpa using HP1.out, PutS.refl _ _ _⟩
  case round =>
    obtain ⟨k, A', c2, hk, rfl, hpr, hsr⟩ := hrel
    have HPR := Lib.hid hpr
    have HSR := Lib.hid hsr
    have HXR := Lib.hid (hsr.rd HX1.out HA1.out)
    clear hpr hsr
    by_cases hlt : k < xs.length
    · obtain ⟨ad, rfl, hc⟩ := HXR.out.elem (fun _ => rfl) hlt (by omega)
      obtain ⟨x, hx⟩ : ∃ x, x = xs[k] := ⟨_, rfl⟩
      rw [← hx] at hc
      have HC := Lib.hid hc
      replace hx := Lib.hid hx
      clear hc
      go_wp2_with (first
        | ((with_reducible refine stopAt (.load 169 (.tmp 17)) rfl ?_); go_must (refine unStop (wpList_ldP rfl 169 (.tmp 17) rfl sS_step _ rfl x.cells HC.out rfl ?_)))
        | ((with_reducible refine stopAt (.store 169 (.tmp 7) (.tmp 18)) rfl ?_); go_must (refine unStop (wpList_stN rfl 169 (.tmp 7) (.tmp 18) rfl x.cells sS_step rfl rfl rfl rfl rfl (step_one x) ?_)))
        | ((with_reducible refine stopAt (.load 169 (.tmp 7)) rfl ?_); go_must (refine unStop (wpList_ldS rfl 169 (.tmp 7) rfl sS_step _ 0 rfl (Blk.new _ _ _) x.cells rfl rfl ?_))))
      have hle : ((xs.take k).flatMap encStep).length ≤ 55000 := by have h1 := flat_le encStep encStep_len (xs.take k); have := HN1.out; rw [List.length_take] at h1; omega
      go_must (refine (put_step g A' c2 _ x _ (HPR.out.alloc _) (by rw [List.length_append]; have := HL1.out; omega)).mono ?_)
      rintro e w2 ⟨rfl, A2, c3, hp2, hs2⟩
      go_wp2_with fail
      go_roundw
      case rel => exact ⟨k + 1, A2, c3, by omega, by go_num, by rw [take_more' xs k hlt, ← hx.out, ← List.append_assoc]; exact hp2, HSR.out.trans hs2.alloc⟩
      case measure => simp [intOf]; omega
    · obtain rfl : k = xs.length := by omega
      go_wp2_with fail
      go_end0
      refine ⟨rfl, A', c2, ?_, HS1.out.trans HSR.out⟩
      have := HPR.out
      rw [List.take_length, List.append_assoc] at this
      exact this
set_option maxRecDepth 20000 in
set_option maxHeartbeats 400000 in
theorem put_list_got (g : Nat) (A : Option Addr) (c : Nat) (l : Bytes) (B : Option Addr) (d : Nat) (xs : List Got) (w : World) (hp : Put w g A c l) (hx : Rd w 2 B xs.length d (xs.flatMap Got.cells)) (ha : Away g A xs.length B) (hl : l.length ≤ 1000000) (hn : xs.length ≤ 1000) :
    Calls Try.prog 149 #[.pointer (some ⟨g, 0, none⟩), .slice B xs.length d, .func (.func 150) #[] #[]] w (PutTo g A (l ++ encList encGot xs) w) := by
  have HP := Lib.hid hp
  have HX := Lib.hid hx
  have HA := Lib.hid ha
  have HL : Hid (l.length ≤ 1000000) := Lib.hid hl
  have HN1 : Hid (xs.length ≤ 1000) := Lib.hid hn
  have HN : Hid (xs.length < u64) := Lib.hid (Nat.lt_of_le_of_lt hn (by decide))
  clear hp hx hl ha
  go_enter Try.func149, Try.ntmps149
  go_wp2_with fail
  go_must (refine (put_num g A c l xs.length w HP.out (by have := HL.out; omega) HN.out).mono ?_)
  rintro e w1 ⟨rfl, A1, c1, hp1, hs1⟩
  have HP1 := Lib.hid hp1
  have HX1 := Lib.hid (hs1.rd HX.out HA.out)
  have HA1 := Lib.hid (hs1.away HX.out (by omega) HA.out)
  have HS1 := Lib.hid hs1
  clear hp1 hs1
  have HL1 : Hid ((l ++ encNum xs.length).length ≤ 1000010) := Lib.hid (by rw [List.length_append]; have := HL.out; have := encNum_len10 HN.out; omega)
  go_wp2_with fail
  go_loopw [15] (fun i wr => ∃ (k : Nat) (A' : Option Addr) (c2 : Nat), k ≤ xs.length ∧ i = .int .i64 k ∧ Put wr g A' c2 (l ++ encNum xs.length ++ (xs.take k).flatMap encGot) ∧ PutS w1 wr g A1 A') (fun i _ => xs.length - (intOf i).toNat)
  case atStart => exact ⟨0, A1, c1, by omega, rfl, by simpa using HP1.out, PutS.refl _ _ _⟩
  case round =>
    obtain ⟨k, A', c2, hk, rfl, hpr, hsr⟩ := hrel
    have HPR := Lib.hid hpr
    have HSR := Lib.hid hsr
    have HXR := Lib.hid (hsr.rd HX1.out HA1.out)
    clear hpr hsr
    by_cases hlt : k < xs.length
    · obtain ⟨ad, rfl, hc⟩ := HXR.out.elem (fun _ => rfl) hlt (by omega)
      obtain ⟨x, hx⟩ : ∃ x, x = xs[k] := ⟨_, rfl⟩
      rw [← hx] at hc
      have HC := Lib.hid hc
      replace hx := Lib.hid hx
      clear hc
      go_wp2_with (first
        | ((with_reducible refine stopAt (.load 93 (.tmp 17)) rfl ?_); go_must (refine unStop (wpList_ldP rfl 93 (.tmp 17) rfl sS_got _ rfl x.cells HC.out rfl ?_)))
        | ((with_reducible refine stopAt (.store 93 (.tmp 7) (.tmp 18)) rfl ?_); go_must (refine unStop (wpList_stN rfl 93 (.tmp 7) (.tmp 18) rfl x.cells sS_got rfl rfl rfl rfl rfl (got_one1 x) ?_)))
        | ((with_reducible refine stopAt (.load 93 (.tmp 7)) rfl ?_); go_must (refine unStop (wpList_ldS rfl 93 (.tmp 7) rfl sS_got _ 0 rfl (Blk.new _ _ _) x.cells rfl rfl ?_))))
      have hle : ((xs.take k).flatMap encGot).length ≤ 55000 := by have h1 := flat_le encGot encGot_len (xs.take k); have := HN1.out; rw [List.length_take] at h1; omega
      go_must (refine (put_got g A' c2 _ x _ (HPR.out.alloc _) (by rw [List.length_append]; have := HL1.out; omega)).mono ?_)
      rintro e w2 ⟨rfl, A2, c3, hp2, hs2⟩
      go_wp2_with fail
      go_roundw
      case rel => exact ⟨k + 1, A2, c3, by omega, by go_num, by rw [take_more' xs k hlt, ← hx.out, ← List.append_assoc]; exact hp2, HSR.out.trans hs2.alloc⟩
      case measure => simp [intOf]; omega
    · obtain rfl : k = xs.length := by omega
      go_wp2_with fail
      go_end0
      refine ⟨rfl, A', c2, ?_, HS1.out.trans HSR.out⟩
      have := HPR.out
      rw [List.take_length, List.append_assoc] at this
      exact this
set_option maxRecDepth 20000 in
set_option maxHeartbeats 400000 in
theorem put_list_line (g : Nat) (A : Option Addr) (c : Nat) (l : Bytes) (B : Option Addr) (d : Nat) (xs : List Line) (w : World) (hp : Put w g A c l) (hx : Rd w 5 B xs.length d (xs.flatMap Line.cells)) (ha : Away g A xs.length B) (hl : l.length ≤ 1000000) (hn : xs.length ≤ 1000) :
    Calls Try.prog 161 #[.pointer (some ⟨g, 0, none⟩), .slice B xs.length d, .func (.func 162) #[] #[]] w (PutTo g A (l ++ encList encLine xs) w) := by
  have HP := Lib.hid hp
  have HX := Lib.hid hx
  have HA := Lib.hid ha
  have HL : Hid (l.length ≤ 1000000) := Lib.hid hl
  have HN1 : Hid (xs.length ≤ 1000) := Lib.hid hn
  have HN : Hid (xs.length < u64) := Lib.hid (Nat.lt_of_le_of_lt hn (by decide))
  clear hp hx hl ha
  go_enter Try.func161, Try.ntmps161
  go_wp2_with fail
  go_must (refine (put_num g A c l xs.length w HP.out (by have := HL.out; omega) HN.out).mono ?_)
  rintro e w1 ⟨rfl, A1, c1, hp1, hs1⟩
  have HP1 := Lib.hid hp1
  have HX1 := Lib.hid (hs1.rd HX.out HA.out)
  have HA1 := Lib.hid (hs1.away HX.out (by omega) HA.out)
  have HS1 := Lib.hid hs1
  clear hp1 hs1
  have HL1 : Hid ((l ++ encNum xs.length).length ≤ 1000010) := Lib.hid (by rw [List.length_append]; have := HL.out; have := encNum_len10 HN.out; omega)
  go_wp2_with fail
  go_loopw [15] (fun i wr => ∃ (k : Nat) (A' : Option Addr) (c2 : Nat), k ≤ xs.length ∧ i = .int .i64 k ∧ Put wr g A' c2 (l ++ encNum xs.length ++ (xs.take k).flatMap encLine) ∧ PutS w1 wr g A1 A') (fun i _ => xs.length - (intOf i).toNat)
  case atStart => exact ⟨0, A1, c1, by omega, rfl, by simpa using HP1.out, PutS.refl _ _ _⟩
  case round =>
    obtain ⟨k, A', c2, hk, rfl, hpr, hsr⟩ := hrel
    have HPR := Lib.hid hpr
    have HSR := Lib.hid hsr
    have HXR := Lib.hid (hsr.rd HX1.out HA1.out)
    clear hpr hsr
    by_cases hlt : k < xs.length
    · obtain ⟨ad, rfl, hc⟩ := HXR.out.elem (fun _ => rfl) hlt (by omega)
      obtain ⟨x, hx⟩ : ∃ x, x = xs[k] := ⟨_, rfl⟩
      rw [← hx] at hc
      have HC := Lib.hid hc
      replace hx := Lib.hid hx
      clear hc
      go_wp2_with (first
        | ((with_reducible refine stopAt (.load 213 (.tmp 17)) rfl ?_); go_must (refine unStop (wpList_ldP rfl 213 (.tmp 17) rfl sS_line _ rfl x.cells HC.out rfl ?_)))
        | ((with_reducible refine stopAt (.store 213 (.tmp 7) (.tmp 18)) rfl ?_); go_must (refine unStop (wpList_stN rfl 213 (.tmp 7) (.tmp 18) rfl x.cells sS_line rfl rfl rfl rfl rfl (line_one x) ?_)))
        | ((with_reducible refine stopAt (.load 213 (.tmp 7)) rfl ?_); go_must (refine unStop (wpList_ldS rfl 213 (.tmp 7) rfl sS_line _ 0 rfl (Blk.new _ _ _) x.cells rfl rfl ?_))))
      have hle : ((xs.take k).flatMap encLine).length ≤ 55000 := by have h1 := flat_le encLine encLine_len (xs.take k); have := HN1.out; rw [List.length_take] at h1; omega
      go_must (refine (put_line g A' c2 _ x _ (HPR.out.alloc _) (by rw [List.length_append]; have := HL1.out; omega)).mono ?_)
      rintro e w2 ⟨rfl, A2, c3, hp2, hs2⟩
      go_wp2_with fail
      go_roundw
      case rel => exact ⟨k + 1, A2, c3, by omega, by go_num, by rw [take_more' xs k hlt, ← hx.out, ← List.append_assoc]; exact hp2, HSR.out.trans hs2.alloc⟩
      case measure => simp [intOf]; omega
    · obtain rfl : k = xs.length := by omega
      go_wp2_with fail
      go_end0
      refine ⟨rfl, A', c2, ?_, HS1.out.trans HSR.out⟩
      have := HPR.out
      rw [List.take_length, List.append_assoc] at this
      exact this
set_option maxRecDepth 20000 in
set_option maxHeartbeats 400000 in
theorem put_list_offer (g : Nat) (A : Option Addr) (c : Nat) (l : Bytes) (B : Option Addr) (d : Nat) (xs : List Offer) (w : World) (hp : Put w g A c l) (hx : Rd w 7 B xs.length d (xs.flatMap Offer.cells)) (ha : Away g A xs.length B) (hl : l.length ≤ 1000000) (hn : xs.length ≤ 1000) :
    Calls Try.prog 163 #[.pointer (some ⟨g, 0, none⟩), .slice B xs.length d, .func (.func 164) #[] #[]] w (PutTo g A (l ++ encList encOffer xs) w) := by
  have HP := Lib.hid hp
  have HX := Lib.hid hx
  have HA := Lib.hid ha
  have HL : Hid (l.length ≤ 1000000) := Lib.hid hl
  have HN1 : Hid (xs.length ≤ 1000) := Lib.hid hn
  have HN : Hid (xs.length < u64) := Lib.hid (Nat.lt_of_le_of_lt hn (by decide))
  clear hp hx hl ha
  go_enter Try.func163, Try.ntmps163
  go_wp2_with fail
  go_must (refine (put_num g A c l xs.length w HP.out (by have := HL.out; omega) HN.out).mono ?_)
  rintro e w1 ⟨rfl, A1, c1, hp1, hs1⟩
  have HP1 := Lib.hid hp1
  have HX1 := Lib.hid (hs1.rd HX.out HA.out)
  have HA1 := Lib.hid (hs1.away HX.out (by omega) HA.out)
  have HS1 := Lib.hid hs1
  clear hp1 hs1
  have HL1 : Hid ((l ++ encNum xs.length).length ≤ 1000010) := Lib.hid (by rw [List.length_append]; have := HL.out; have := encNum_len10 HN.out; omega)
  go_wp2_with fail
  go_loopw [15] (fun i wr => ∃ (k : Nat) (A' : Option Addr) (c2 : Nat), k ≤ xs.length ∧ i = .int .i64 k ∧ Put wr g A' c2 (l ++ encNum xs.length ++ (xs.take k).flatMap encOffer) ∧ PutS w1 wr g A1 A') (fun i _ => xs.length - (intOf i).toNat)
  case atStart => exact ⟨0, A1, c1, by omega, rfl, by simpa using HP1.out, PutS.refl _ _ _⟩
  case round =>
    obtain ⟨k, A', c2, hk, rfl, hpr, hsr⟩ := hrel
    have HPR := Lib.hid hpr
    have HSR := Lib.hid hsr
    have HXR := Lib.hid (hsr.rd HX1.out HA1.out)
    clear hpr hsr
    by_cases hlt : k < xs.length
    · obtain ⟨ad, rfl, hc⟩ := HXR.out.elem (fun _ => rfl) hlt (by omega)
      obtain ⟨x, hx⟩ : ∃ x, x = xs[k] := ⟨_, rfl⟩
      rw [← hx] at hc
      have HC := Lib.hid hc
      replace hx := Lib.hid hx
      clear hc
      go_wp2_with (first
        | ((with_reducible refine stopAt (.load 216 (.tmp 17)) rfl ?_); go_must (refine unStop (wpList_ldP rfl 216 (.tmp 17) rfl sS_offer _ rfl x.cells HC.out rfl ?_)))
        | ((with_reducible refine stopAt (.store 216 (.tmp 7) (.tmp 18)) rfl ?_); go_must (refine unStop (wpList_stN rfl 216 (.tmp 7) (.tmp 18) rfl x.cells sS_offer rfl rfl rfl rfl rfl (offer_one x) ?_)))
        | ((with_reducible refine stopAt (.load 216 (.tmp 7)) rfl ?_); go_must (refine unStop (wpList_ldS rfl 216 (.tmp 7) rfl sS_offer _ 0 rfl (Blk.new _ _ _) x.cells rfl rfl ?_))))
      have hle : ((xs.take k).flatMap encOffer).length ≤ 55000 := by have h1 := flat_le encOffer encOffer_len (xs.take k); have := HN1.out; rw [List.length_take] at h1; omega
      go_must (refine (put_offer g A' c2 _ x _ (HPR.out.alloc _) (by rw [List.length_append]; have := HL1.out; omega)).mono ?_)
      rintro e w2 ⟨rfl, A2, c3, hp2, hs2⟩
      go_wp2_with fail
      go_roundw
      case rel => exact ⟨k + 1, A2, c3, by omega, by go_num, by rw [take_more' xs k hlt, ← hx.out, ← List.append_assoc]; exact hp2, HSR.out.trans hs2.alloc⟩
      case measure => simp [intOf]; omega
    · obtain rfl : k = xs.length := by omega
      go_wp2_with fail
      go_end0
      refine ⟨rfl, A', c2, ?_, HS1.out.trans HSR.out⟩
      have := HPR.out
      rw [List.take_length, List.append_assoc] at this
      exact this
end Go.Proofs.Ytiimdnachgkomaa
