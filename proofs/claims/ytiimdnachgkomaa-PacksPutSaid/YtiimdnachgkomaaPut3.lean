/- packs: a command, a reply, an entry, a state are put; PutCommand, PutReply, PutEntry, PutState. -/
import Derived.Test.YtiimdnachgkomaaPut2
namespace Go.Proofs.Ytiimdnachgkomaa
open Go Go.RowKit
abbrev RdL (w : World) (A : Option Addr) (c : Nat) (l : List Line) : Prop := Rd w 5 A l.length c (l.flatMap Line.cells)
abbrev RdO (w : World) (A : Option Addr) (c : Nat) (l : List Offer) : Prop := Rd w 7 A l.length c (l.flatMap Offer.cells)
theorem Rd.bytes {w : World} {A : Option Addr} {n c : Nat} {xs : Bytes} (h : Rd w 1 A n c (xs.map bv)) {i : Nat} (hi : i < xs.length) (hn : 0 < n) : ∃ ad, A = some ad ∧ w.cell? (ad.add i) = some (.int .u8 xs[i].toNat) := by
  obtain ⟨ad, hA, hc⟩ := h.at_ hn
  exact ⟨ad, hA, hc i _ (by simp [hi, bv])⟩
set_option maxRecDepth 20000 in
set_option maxHeartbeats 400000 in
theorem put_party (g : Nat) (A : Option Addr) (c : Nat) (l : Bytes) (x : UInt8) (w : World) (hp : Put w g A c l) (hl : l.length ≤ 8000000) :
    Calls Try.prog 160 #[.pointer (some ⟨g, 0, none⟩), .int .u8 x.toNat] w (PutTo g A (l ++ [x]) w) := by
  have HP := Lib.hid hp
  clear hp
  go_enter Try.func160, Try.ntmps160
  go_wp2_with fail
  go_must (refine (put_byte g A c l x w HP.out (by omega)).mono ?_)
  rintro e w1 ⟨rfl, A', c', h1, h2⟩
  go_wp2_with fail
  go_end0
  exact ⟨rfl, A', c', h1, h2⟩
set_option maxRecDepth 20000 in
set_option maxHeartbeats 400000 in
theorem put_list_party (g : Nat) (A : Option Addr) (c : Nat) (l : Bytes) (B : Option Addr) (d : Nat) (xs : Bytes) (w : World) (hp : Put w g A c l) (hx : RdB w B d xs) (ha : Away g A xs.length B) (hl : l.length ≤ 1000000) (hn : xs.length ≤ 1000) :
    Calls Try.prog 159 #[.pointer (some ⟨g, 0, none⟩), .slice B xs.length d, .func (.func 160) #[] #[]] w (PutTo g A (l ++ encList encByte xs) w) := by
  have HP := Lib.hid hp
  have HX := Lib.hid hx
  have HA := Lib.hid ha
  have HL : Hid (l.length ≤ 1000000) := Lib.hid hl
  have HN1 : Hid (xs.length ≤ 1000) := Lib.hid hn
  have HN : Hid (xs.length < u64) := Lib.hid (Nat.lt_of_le_of_lt hn (by decide))
  clear hp hx hl ha
  go_enter Try.func159, Try.ntmps159
  go_wp2_with fail
  go_must (refine (put_num g A c l xs.length w HP.out (by have := HL.out; omega) HN.out).mono ?_)
  rintro e w1 ⟨rfl, A1, c1, hp1, hs1⟩
  have HP1 := Lib.hid hp1
  have HX1 := Lib.hid (hs1.rd HX.out HA.out)
  have HA1 := Lib.hid (hs1.away HX.out (by omega) HA.out)
  have HS1 := Lib.hid hs1
  clear hp1 hs1
  have HL1 : Hid ((l ++ encNum xs.length).length ≤ 1000010) := Lib.hid (by rw [List.length_append]; have := HL.out; have := encNum_len10 HN.out; omega)
  go_wp2_with fail
  go_loopw [15] (fun i wr => ∃ (k : Nat) (A' : Option Addr) (c2 : Nat), k ≤ xs.length ∧ i = .int .i64 k ∧ Put wr g A' c2 (l ++ encNum xs.length ++ (xs.take k).flatMap encByte) ∧ PutS w1 wr g A1 A') (fun i _ => xs.length - (intOf i).toNat)
  case atStart => exact ⟨0, A1, c1, by omega, rfl, by simpa using HP1.out, PutS.refl _ _ _⟩
  case round =>
    obtain ⟨k, A', c2, hk, rfl, hpr, hsr⟩ := hrel
    have HPR := Lib.hid hpr
    have HSR := Lib.hid hsr
    have HXR := Lib.hid (hsr.rd HX1.out HA1.out)
    clear hpr hsr
    by_cases hlt : k < xs.length
    · obtain ⟨ad, rfl, hc⟩ := HXR.out.bytes hlt (by omega)
      obtain ⟨x, hx⟩ : ∃ x, x = xs[k] := ⟨_, rfl⟩
      rw [← hx] at hc
      replace hx := Lib.hid hx
      go_wp2_with fail
      have hle : ((xs.take k).flatMap encByte).length ≤ 55000 := by have h1 := flat_le encByte (fun _ => by simp) (xs.take k); have := HN1.out; rw [List.length_take] at h1; omega
      go_must (refine (put_party g A' c2 _ x _ HPR.out (by rw [List.length_append]; have := HL1.out; omega)).mono ?_)
      rintro e w2 ⟨rfl, A2, c3, hp2, hs2⟩
      go_wp2_with fail
      go_roundw
      case rel => exact ⟨k + 1, A2, c3, by omega, by go_num, by rw [take_more' xs k hlt, ← hx.out, ← List.append_assoc]; exact hp2, HSR.out.trans hs2⟩
      case measure => simp [intOf]; omega
    · obtain rfl : k = xs.length := by omega
      go_wp2_with fail
      go_end0
      refine ⟨rfl, A', c2, ?_, HS1.out.trans HSR.out⟩
      have := HPR.out
      rw [List.take_length, List.append_assoc] at this
      exact this
set_option maxRecDepth 20000 in
set_option maxHeartbeats 400000 in
theorem put_command (g : Nat) (A : Option Addr) (c : Nat) (l : Bytes) (B : Option Addr) (d : Nat) (xs : List Step) (w : World) (hp : Put w g A c l) (hx1 : RdSt w B d xs) (ha1 : Away g A xs.length B) (hn1 : xs.length ≤ 1000) (hl : l.length ≤ 900000) :
    Calls Try.prog 109 #[.pointer (some ⟨g, 0, none⟩), .agg #[.slice B xs.length d]] w (PutTo g A (l ++ encList encStep xs) w) := by
  have HX1 := Lib.hid (hx1.alloc (.cells #[.slice B xs.length d] 24))
  have HA1 := Lib.hid ha1
  have HN1 := Lib.hid hn1
  clear hx1 ha1 hn1
  have HP0 := Lib.hid (hp.alloc (.cells #[.slice B xs.length d] 24))
  have HS0 := Lib.hid (PutS.refl (w.alloc (.cells #[.slice B xs.length d] 24)) g A)
  have hb := Blk.new w 24 #[.slice B xs.length d]
  have hb0 := hb
  have HF := Lib.hid (hp.far (Nat.le_refl _))
  have HE0 : Hid (l.length ≤ 900000) := Lib.hid hl
  clear hp hl
  go_enter Try.func109, Try.ntmps109
  have q0_0 : World.cell? _ ⟨w.heap.size, 0, none⟩ = (some (.slice B xs.length d) : Option Value) := hb0.cell 0
  go_wp2_with fail
  go_must (refine (put_list_step g _ _ _ B d xs _ HP0.out (HS0.out.rd HX1.out HA1.out) (HS0.out.away HX1.out (by omega) HA1.out) (by have := HE0.out; omega) HN1.out).mono ?_)
  rintro e w1 ⟨rfl, A1, c1, hp, hs⟩
  have HP1 := Lib.hid hp
  have HS1 := Lib.hid (HS0.out.trans hs)
  clear q0_0
  clear hp hs hb0
  have hb1 := HS1.out.blk hb HF.out.1 HF.out.2
  have HE1 : Hid ((l ++ encList encStep xs).length ≤ 955010) := Lib.hid (by rw [List.length_append]; have := HE0.out; have := encList_len encStep encStep_len xs (Nat.lt_of_le_of_lt HN1.out (by decide)); have := HN1.out; omega)
  go_wp2_with fail
  go_end0
  refine ⟨rfl, A1, c1, ?_, HS1.out.alloc⟩
  have h := HP1.out
  skip
  exact h
set_option maxRecDepth 20000 in
set_option maxHeartbeats 400000 in
theorem put_reply (g : Nat) (A : Option Addr) (c : Nat) (l : Bytes) (e at_ : Int64) (B : Option Addr) (d : Nat) (xs : List Got) (w : World) (hp : Put w g A c l) (hx1 : RdG w B d xs) (ha1 : Away g A xs.length B) (hn1 : xs.length ≤ 1000) (hl : l.length ≤ 800000) :
    Calls Try.prog 112 #[.pointer (some ⟨g, 0, none⟩), .agg #[.int .i64 e.toInt, .int .i64 at_.toInt, .slice B xs.length d]] w (PutTo g A (l ++ encReply ⟨e, at_, xs⟩) w) := by
  have HX1 := Lib.hid (hx1.alloc (.cells #[.int .i64 e.toInt, .int .i64 at_.toInt, .slice B xs.length d] 34))
  have HA1 := Lib.hid ha1
  have HN1 := Lib.hid hn1
  clear hx1 ha1 hn1
  have HP0 := Lib.hid (hp.alloc (.cells #[.int .i64 e.toInt, .int .i64 at_.toInt, .slice B xs.length d] 34))
  have HS0 := Lib.hid (PutS.refl (w.alloc (.cells #[.int .i64 e.toInt, .int .i64 at_.toInt, .slice B xs.length d] 34)) g A)
  have hb := Blk.new w 34 #[.int .i64 e.toInt, .int .i64 at_.toInt, .slice B xs.length d]
  have hb0 := hb
  have HF := Lib.hid (hp.far (Nat.le_refl _))
  have HE0 : Hid (l.length ≤ 800000) := Lib.hid hl
  clear hp hl
  go_enter Try.func112, Try.ntmps112
  have q0_0 : World.cell? _ ⟨w.heap.size, 0, none⟩ = (some (.int .i64 e.toInt) : Option Value) := hb0.cell 0
  go_wp2_with fail
  go_must (refine (put_sign g _ _ _ e _ HP0.out (by have := HE0.out; omega)).mono ?_)
  rintro e w1 ⟨rfl, A1, c1, hp, hs⟩
  have HP1 := Lib.hid hp
  have HS1 := Lib.hid (HS0.out.trans hs)
  clear q0_0
  clear hp hs hb0
  have hb1 := HS1.out.blk hb HF.out.1 HF.out.2
  have HE1 : Hid ((l ++ encS e).length ≤ 800010) := Lib.hid (by rw [List.length_append]; have := HE0.out; have := encS_len e; omega)
  have q1_1 : World.cell? _ ⟨w.heap.size, 1, none⟩ = (some (.int .i64 at_.toInt) : Option Value) := hb1.cell 1
  go_wp2_with fail
  go_must (refine (put_sign g _ _ _ at_ _ HP1.out (by have := HE1.out; omega)).mono ?_)
  rintro e w2 ⟨rfl, A2, c2, hp, hs⟩
  have HP2 := Lib.hid hp
  have HS2 := Lib.hid (HS1.out.trans hs)
  clear q1_1
  clear hp hs hb1
  have hb2 := HS2.out.blk hb HF.out.1 HF.out.2
  have HE2 : Hid (((l ++ encS e) ++ encS at_).length ≤ 800020) := Lib.hid (by rw [List.length_append]; have := HE1.out; have := encS_len at_; omega)
  have q2_2 : World.cell? _ ⟨w.heap.size, 2, none⟩ = (some (.slice B xs.length d) : Option Value) := hb2.cell 2
  go_wp2_with fail
  go_must (refine (put_list_got g _ _ _ B d xs _ HP2.out (HS2.out.rd HX1.out HA1.out) (HS2.out.away HX1.out (by omega) HA1.out) (by have := HE2.out; omega) HN1.out).mono ?_)
  rintro e w3 ⟨rfl, A3, c3, hp, hs⟩
  have HP3 := Lib.hid hp
  have HS3 := Lib.hid (HS2.out.trans hs)
  clear q2_2
  clear hp hs hb2
  have hb3 := HS3.out.blk hb HF.out.1 HF.out.2
  have HE3 : Hid ((((l ++ encS e) ++ encS at_) ++ encList encGot xs).length ≤ 855030) := Lib.hid (by rw [List.length_append]; have := HE2.out; have := encList_len encGot encGot_len xs (Nat.lt_of_le_of_lt HN1.out (by decide)); have := HN1.out; omega)
  go_wp2_with fail
  go_end0
  refine ⟨rfl, A3, c3, ?_, HS3.out.alloc⟩
  have h := HP3.out
  have he : l ++ encReply ⟨e, at_, xs⟩ = (((l ++ encS e) ++ encS at_) ++ encList encGot xs) := by simp [encReply]
  rw [he]
  exact h
set_option maxRecDepth 20000 in
set_option maxHeartbeats 400000 in
theorem put_entry (g : Nat) (A : Option Addr) (c : Nat) (l : Bytes) (index term : UInt64) (cl : UInt8) (num : UInt64) (B : Option Addr) (d : Nat) (xs : List Step) (w : World) (hp : Put w g A c l) (hx1 : RdSt w B d xs) (ha1 : Away g A xs.length B) (hn1 : xs.length ≤ 1000) (hl : l.length ≤ 800000) :
    Calls Try.prog 106 #[.pointer (some ⟨g, 0, none⟩), .agg #[.int .u64 index.toNat, .int .u64 term.toNat, .int .u8 cl.toNat, .int .u64 num.toNat, .slice B xs.length d]] w (PutTo g A (l ++ encEntry ⟨index, term, cl, num, xs⟩) w) := by
  have HX1 := Lib.hid (hx1.alloc (.cells #[.int .u64 index.toNat, .int .u64 term.toNat, .int .u8 cl.toNat, .int .u64 num.toNat, .slice B xs.length d] 124))
  have HA1 := Lib.hid ha1
  have HN1 := Lib.hid hn1
  clear hx1 ha1 hn1
  have HP0 := Lib.hid (hp.alloc (.cells #[.int .u64 index.toNat, .int .u64 term.toNat, .int .u8 cl.toNat, .int .u64 num.toNat, .slice B xs.length d] 124))
  have HS0 := Lib.hid (PutS.refl (w.alloc (.cells #[.int .u64 index.toNat, .int .u64 term.toNat, .int .u8 cl.toNat, .int .u64 num.toNat, .slice B xs.length d] 124)) g A)
  have hb := Blk.new w 124 #[.int .u64 index.toNat, .int .u64 term.toNat, .int .u8 cl.toNat, .int .u64 num.toNat, .slice B xs.length d]
  have hb0 := hb
  have HF := Lib.hid (hp.far (Nat.le_refl _))
  have HE0 : Hid (l.length ≤ 800000) := Lib.hid hl
  clear hp hl
  go_enter Try.func106, Try.ntmps106
  have q0_0 : World.cell? _ ⟨w.heap.size, 0, none⟩ = (some (.int .u64 index.toNat) : Option Value) := hb0.cell 0
  go_wp2_with fail
  go_must (refine (put_num g _ _ _ index.toNat _ HP0.out (by have := HE0.out; omega) index.toNat_lt).mono ?_)
  rintro e w1 ⟨rfl, A1, c1, hp, hs⟩
  have HP1 := Lib.hid hp
  have HS1 := Lib.hid (HS0.out.trans hs)
  clear q0_0
  clear hp hs hb0
  have hb1 := HS1.out.blk hb HF.out.1 HF.out.2
  have HE1 : Hid ((l ++ encNum index.toNat).length ≤ 800010) := Lib.hid (by rw [List.length_append]; have := HE0.out; have := encNum_len10 index.toNat_lt; omega)
  have q1_1 : World.cell? _ ⟨w.heap.size, 1, none⟩ = (some (.int .u64 term.toNat) : Option Value) := hb1.cell 1
  go_wp2_with fail
  go_must (refine (put_num g _ _ _ term.toNat _ HP1.out (by have := HE1.out; omega) term.toNat_lt).mono ?_)
  rintro e w2 ⟨rfl, A2, c2, hp, hs⟩
  have HP2 := Lib.hid hp
  have HS2 := Lib.hid (HS1.out.trans hs)
  clear q1_1
  clear hp hs hb1
  have hb2 := HS2.out.blk hb HF.out.1 HF.out.2
  have HE2 : Hid (((l ++ encNum index.toNat) ++ encNum term.toNat).length ≤ 800020) := Lib.hid (by rw [List.length_append]; have := HE1.out; have := encNum_len10 term.toNat_lt; omega)
  have q2_2 : World.cell? _ ⟨w.heap.size, 2, none⟩ = (some (.int .u8 cl.toNat) : Option Value) := hb2.cell 2
  go_wp2_with fail
  go_must (refine (put_byte g _ _ _ cl _ HP2.out (by have := HE2.out; omega)).mono ?_)
  rintro e w3 ⟨rfl, A3, c3, hp, hs⟩
  have HP3 := Lib.hid hp
  have HS3 := Lib.hid (HS2.out.trans hs)
  clear q2_2
  clear hp hs hb2
  have hb3 := HS3.out.blk hb HF.out.1 HF.out.2
  have HE3 : Hid ((((l ++ encNum index.toNat) ++ encNum term.toNat) ++ [cl]).length ≤ 800021) := Lib.hid (by rw [List.length_append]; have := HE2.out; have := len_one cl; omega)
  have q3_3 : World.cell? _ ⟨w.heap.size, 3, none⟩ = (some (.int .u64 num.toNat) : Option Value) := hb3.cell 3
  go_wp2_with fail
  go_must (refine (put_num g _ _ _ num.toNat _ HP3.out (by have := HE3.out; omega) num.toNat_lt).mono ?_)
  rintro e w4 ⟨rfl, A4, c4, hp, hs⟩
  have HP4 := Lib.hid hp
  have HS4 := Lib.hid (HS3.out.trans hs)
  clear q3_3
  clear hp hs hb3
  have hb4 := HS4.out.blk hb HF.out.1 HF.out.2
  have HE4 : Hid (((((l ++ encNum index.toNat) ++ encNum term.toNat) ++ [cl]) ++ encNum num.toNat).length ≤ 800031) := Lib.hid (by rw [List.length_append]; have := HE3.out; have := encNum_len10 num.toNat_lt; omega)
  go_wp2_with (first | ((with_reducible refine stopAt (.load 24 (.tmp 24)) rfl ?_); go_must (refine unStop (wpList_ldS rfl 24 (.tmp 24) rfl sS_command w.heap.size 4 rfl hb4 [.slice B xs.length d] rfl rfl ?_))))
  go_must (refine (put_command g _ _ _ B d xs _ HP4.out (HS4.out.rd HX1.out HA1.out) (HS4.out.away HX1.out (by omega) HA1.out) HN1.out (by have := HE4.out; omega)).mono ?_)
  rintro e w5 ⟨rfl, A5, c5, hp, hs⟩
  have HP5 := Lib.hid hp
  have HS5 := Lib.hid (HS4.out.trans hs)
  clear hp hs hb4
  have hb5 := HS5.out.blk hb HF.out.1 HF.out.2
  have HE5 : Hid ((((((l ++ encNum index.toNat) ++ encNum term.toNat) ++ [cl]) ++ encNum num.toNat) ++ encList encStep xs).length ≤ 855041) := Lib.hid (by rw [List.length_append]; have := HE4.out; have := encList_len encStep encStep_len xs (Nat.lt_of_le_of_lt HN1.out (by decide)); have := HN1.out; omega)
  go_wp2_with fail
  go_end0
  refine ⟨rfl, A5, c5, ?_, HS5.out.alloc⟩
  have h := HP5.out
  have he : l ++ encEntry ⟨index, term, cl, num, xs⟩ = (((((l ++ encNum index.toNat) ++ encNum term.toNat) ++ [cl]) ++ encNum num.toNat) ++ encList encStep xs) := by simp [encEntry, encU]
  rw [he]
  exact h
set_option maxRecDepth 20000 in
set_option maxHeartbeats 400000 in
theorem put_state (g : Nat) (A : Option Addr) (c : Nat) (l : Bytes) (B1 : Option Addr) (d1 : Nat) (ps : Bytes) (B2 : Option Addr) (d2 : Nat) (ls : List Line) (B3 : Option Addr) (d3 : Nat) (os : List Offer) (next : UInt64) (w : World) (hp : Put w g A c l) (hx1 : RdB w B1 d1 ps) (ha1 : Away g A ps.length B1) (hn1 : ps.length ≤ 1000) (hx2 : RdL w B2 d2 ls) (ha2 : Away g A ls.length B2) (hn2 : ls.length ≤ 1000) (hx3 : RdO w B3 d3 os) (ha3 : Away g A os.length B3) (hn3 : os.length ≤ 1000) (hl : l.length ≤ 800000) :
    Calls Try.prog 123 #[.pointer (some ⟨g, 0, none⟩), .agg #[.slice B1 ps.length d1, .slice B2 ls.length d2, .slice B3 os.length d3, .int .u64 next.toNat]] w (PutTo g A (l ++ encState ⟨ps, ls, os, next⟩) w) := by
  have HX1 := Lib.hid (hx1.alloc (.cells #[.slice B1 ps.length d1, .slice B2 ls.length d2, .slice B3 os.length d3, .int .u64 next.toNat] 143))
  have HA1 := Lib.hid ha1
  have HN1 := Lib.hid hn1
  clear hx1 ha1 hn1
  have HX2 := Lib.hid (hx2.alloc (.cells #[.slice B1 ps.length d1, .slice B2 ls.length d2, .slice B3 os.length d3, .int .u64 next.toNat] 143))
  have HA2 := Lib.hid ha2
  have HN2 := Lib.hid hn2
  clear hx2 ha2 hn2
  have HX3 := Lib.hid (hx3.alloc (.cells #[.slice B1 ps.length d1, .slice B2 ls.length d2, .slice B3 os.length d3, .int .u64 next.toNat] 143))
  have HA3 := Lib.hid ha3
  have HN3 := Lib.hid hn3
  clear hx3 ha3 hn3
  have HP0 := Lib.hid (hp.alloc (.cells #[.slice B1 ps.length d1, .slice B2 ls.length d2, .slice B3 os.length d3, .int .u64 next.toNat] 143))
  have HS0 := Lib.hid (PutS.refl (w.alloc (.cells #[.slice B1 ps.length d1, .slice B2 ls.length d2, .slice B3 os.length d3, .int .u64 next.toNat] 143)) g A)
  have hb := Blk.new w 143 #[.slice B1 ps.length d1, .slice B2 ls.length d2, .slice B3 os.length d3, .int .u64 next.toNat]
  have hb0 := hb
  have HF := Lib.hid (hp.far (Nat.le_refl _))
  have HE0 : Hid (l.length ≤ 800000) := Lib.hid hl
  clear hp hl
  go_enter Try.func123, Try.ntmps123
  have q0_0 : World.cell? _ ⟨w.heap.size, 0, none⟩ = (some (.slice B1 ps.length d1) : Option Value) := hb0.cell 0
  go_wp2_with fail
  go_must (refine (put_list_party g _ _ _ B1 d1 ps _ HP0.out (HS0.out.rd HX1.out HA1.out) (HS0.out.away HX1.out (by omega) HA1.out) (by have := HE0.out; omega) HN1.out).mono ?_)
  rintro e w1 ⟨rfl, A1, c1, hp, hs⟩
  have HP1 := Lib.hid hp
  have HS1 := Lib.hid (HS0.out.trans hs)
  clear q0_0
  clear hp hs hb0
  have hb1 := HS1.out.blk hb HF.out.1 HF.out.2
  have HE1 : Hid ((l ++ encList encByte ps).length ≤ 855010) := Lib.hid (by rw [List.length_append]; have := HE0.out; have := encList_len encByte encByte_len ps (Nat.lt_of_le_of_lt HN1.out (by decide)); have := HN1.out; omega)
  have q1_1 : World.cell? _ ⟨w.heap.size, 1, none⟩ = (some (.slice B2 ls.length d2) : Option Value) := hb1.cell 1
  go_wp2_with fail
  go_must (refine (put_list_line g _ _ _ B2 d2 ls _ HP1.out (HS1.out.rd HX2.out HA2.out) (HS1.out.away HX2.out (by omega) HA2.out) (by have := HE1.out; omega) HN2.out).mono ?_)
  rintro e w2 ⟨rfl, A2, c2, hp, hs⟩
  have HP2 := Lib.hid hp
  have HS2 := Lib.hid (HS1.out.trans hs)
  clear q1_1
  clear hp hs hb1
  have hb2 := HS2.out.blk hb HF.out.1 HF.out.2
  have HE2 : Hid (((l ++ encList encByte ps) ++ encList encLine ls).length ≤ 910020) := Lib.hid (by rw [List.length_append]; have := HE1.out; have := encList_len encLine encLine_len ls (Nat.lt_of_le_of_lt HN2.out (by decide)); have := HN2.out; omega)
  have q2_2 : World.cell? _ ⟨w.heap.size, 2, none⟩ = (some (.slice B3 os.length d3) : Option Value) := hb2.cell 2
  go_wp2_with fail
  go_must (refine (put_list_offer g _ _ _ B3 d3 os _ HP2.out (HS2.out.rd HX3.out HA3.out) (HS2.out.away HX3.out (by omega) HA3.out) (by have := HE2.out; omega) HN3.out).mono ?_)
  rintro e w3 ⟨rfl, A3, c3, hp, hs⟩
  have HP3 := Lib.hid hp
  have HS3 := Lib.hid (HS2.out.trans hs)
  clear q2_2
  clear hp hs hb2
  have hb3 := HS3.out.blk hb HF.out.1 HF.out.2
  have HE3 : Hid ((((l ++ encList encByte ps) ++ encList encLine ls) ++ encList encOffer os).length ≤ 965030) := Lib.hid (by rw [List.length_append]; have := HE2.out; have := encList_len encOffer encOffer_len os (Nat.lt_of_le_of_lt HN3.out (by decide)); have := HN3.out; omega)
  have q3_3 : World.cell? _ ⟨w.heap.size, 3, none⟩ = (some (.int .u64 next.toNat) : Option Value) := hb3.cell 3
  go_wp2_with fail
  go_must (refine (put_num g _ _ _ next.toNat _ HP3.out (by have := HE3.out; omega) next.toNat_lt).mono ?_)
  rintro e w4 ⟨rfl, A4, c4, hp, hs⟩
  have HP4 := Lib.hid hp
  have HS4 := Lib.hid (HS3.out.trans hs)
  clear q3_3
  clear hp hs hb3
  have hb4 := HS4.out.blk hb HF.out.1 HF.out.2
  have HE4 : Hid (((((l ++ encList encByte ps) ++ encList encLine ls) ++ encList encOffer os) ++ encNum next.toNat).length ≤ 965040) := Lib.hid (by rw [List.length_append]; have := HE3.out; have := encNum_len10 next.toNat_lt; omega)
  go_wp2_with fail
  go_end0
  refine ⟨rfl, A4, c4, ?_, HS4.out.alloc⟩
  have h := HP4.out
  have he : l ++ encState ⟨ps, ls, os, next⟩ = ((((l ++ encList encByte ps) ++ encList encLine ls) ++ encList encOffer os) ++ encNum next.toNat) := by simp [encState, encU]
  rw [he]
  exact h
end Go.Proofs.Ytiimdnachgkomaa
