/- PacksBack: the walk. -/
import Derived.Test.YtiimdnachgkomaaLives16
import Derived.Test.YtiimdnachgkomaaOne16
import Derived.Test.YtiimdnachgkomaaActRead
import Derived.Test.YtiimdnachgkomaaStill
namespace Go.Proofs.Ytiimdnachgkomaa
open Go Go.RowKit
def EGot (x : EntP) (w : World) (e : Ending) (w' : World) : Prop := ∃ A1, e = .returned (.tuple #[.agg #[.int .u64 x.index.toNat, .int .u64 x.term.toNat, .int .u8 x.cl.toNat, .int .u64 x.num.toNat, .slice A1 x.steps.length x.steps.length], .int .i64 0]) ∧ OwnSt w' w.heap.size A1 x.steps.length x.steps ∧ Nw w w'
def ENot (k : Nat) (w : World) (e : Ending) (w' : World) : Prop := e = .returned (.tuple #[.agg #[.int .u64 0, .int .u64 0, .int .u8 0, .int .u64 0, .slice none 0 0], .int .i64 k]) ∧ Nw w w'
def RGot (x : RepP) (w : World) (e : Ending) (w' : World) : Prop := ∃ A1, e = .returned (.tuple #[.agg #[.int .i64 x.e.toInt, .int .i64 x.at_.toInt, .slice A1 x.got.length x.got.length], .int .i64 0]) ∧ OwnG w' w.heap.size A1 x.got.length x.got ∧ Nw w w'
def RNot (k : Nat) (w : World) (e : Ending) (w' : World) : Prop := e = .returned (.tuple #[.agg #[.int .i64 0, .int .i64 0, .slice none 0 0], .int .i64 k]) ∧ Nw w w'

theorem GetEntry_back {x : EntP} {l : Bytes} (hx : okEntry x) (hl : l = encEntry x) (A : Option Addr) (c : Nat) (w : World) (hr : RdB w A c l) :
    Calls Try.prog 66 #[.slice A l.length c] w (EGot x w) := by
  refine (GetEntry_ A c l w hr).mono ?_
  intro e w' h
  have hp := codec_entry.all_back x hx
  rw [← hl] at hp
  rcases h.ways with ⟨a, v, h1, rfl, ⟨A1, rfl, ho⟩, hk⟩ | ⟨k, h1, _⟩
  · rw [hp] at h1; injection h1 with h1; subst h1; exact ⟨A1, rfl, ho, hk⟩
  · rw [hp] at h1; cases h1
theorem GetEntry_cut {x : EntP} {l : Bytes} (hx : okEntry x) (hl : l = encEntry x) (A : Option Addr) (c q : Nat) (hq : q < l.length) (w : World) (hr : RdB w A c l) :
    Calls Try.prog 66 #[.slice A q c] w (ENot 5 w) := by
  have ht : (l.take q).length = q := by rw [List.length_take]; omega
  have hr2 : RdB w A c (l.take q) := by
    have := hr.take (k := q) (by omega)
    rw [Nat.mul_one, ← List.map_take] at this
    show Rd _ _ _ _ _ _
    rw [ht]; exact this
  have hg := GetEntry_ A c (l.take q) w hr2
  rw [ht] at hg
  refine hg.mono ?_
  intro e w' h
  have hp := codec_entry.all_cut x hx q (by rw [← hl]; exact hq)
  rw [← hl] at hp
  rcases h.ways with ⟨a, v, h1, _⟩ | ⟨k, h1, rfl, hk⟩
  · rw [hp] at h1; cases h1
  · rw [hp] at h1; injection h1 with h1; subst h1; exact ⟨rfl, hk⟩
theorem GetEntry_more {x : EntP} {l : Bytes} (hx : okEntry x) (hl : l = encEntry x) (A : Option Addr) (c : Nat) (b : UInt8) (w : World) (hr : RdB w A c (l ++ [b])) :
    Calls Try.prog 66 #[.slice A (l.length + 1) c] w (ENot 4 w) := by
  have hg := GetEntry_ A c (l ++ [b]) w hr
  rw [List.length_append] at hg
  refine hg.mono ?_
  intro e w' h
  have hp := codec_entry.all_more x hx b []
  rw [← hl] at hp
  rcases h.ways with ⟨a, v, h1, _⟩ | ⟨k, h1, rfl, hk⟩
  · rw [hp] at h1; cases h1
  · rw [hp] at h1; injection h1 with h1; subst h1; exact ⟨rfl, hk⟩
theorem GetReply_back {x : RepP} {l : Bytes} (hx : okReply x) (hl : l = encReply x) (A : Option Addr) (c : Nat) (w : World) (hr : RdB w A c l) :
    Calls Try.prog 68 #[.slice A l.length c] w (RGot x w) := by
  refine (GetReply_ A c l w hr).mono ?_
  intro e w' h
  have hp := codec_reply.all_back x hx
  rw [← hl] at hp
  rcases h.ways with ⟨a, v, h1, rfl, ⟨A1, rfl, ho⟩, hk⟩ | ⟨k, h1, _⟩
  · rw [hp] at h1; injection h1 with h1; subst h1; exact ⟨A1, rfl, ho, hk⟩
  · rw [hp] at h1; cases h1
theorem GetReply_cut {x : RepP} {l : Bytes} (hx : okReply x) (hl : l = encReply x) (A : Option Addr) (c q : Nat) (hq : q < l.length) (w : World) (hr : RdB w A c l) :
    Calls Try.prog 68 #[.slice A q c] w (RNot 5 w) := by
  have ht : (l.take q).length = q := by rw [List.length_take]; omega
  have hr2 : RdB w A c (l.take q) := by
    have := hr.take (k := q) (by omega)
    rw [Nat.mul_one, ← List.map_take] at this
    show Rd _ _ _ _ _ _
    rw [ht]; exact this
  have hg := GetReply_ A c (l.take q) w hr2
  rw [ht] at hg
  refine hg.mono ?_
  intro e w' h
  have hp := codec_reply.all_cut x hx q (by rw [← hl]; exact hq)
  rw [← hl] at hp
  rcases h.ways with ⟨a, v, h1, _⟩ | ⟨k, h1, rfl, hk⟩
  · rw [hp] at h1; cases h1
  · rw [hp] at h1; injection h1 with h1; subst h1; exact ⟨rfl, hk⟩
theorem GetReply_more {x : RepP} {l : Bytes} (hx : okReply x) (hl : l = encReply x) (A : Option Addr) (c : Nat) (b : UInt8) (w : World) (hr : RdB w A c (l ++ [b])) :
    Calls Try.prog 68 #[.slice A (l.length + 1) c] w (RNot 4 w) := by
  have hg := GetReply_ A c (l ++ [b]) w hr
  rw [List.length_append] at hg
  refine hg.mono ?_
  intro e w' h
  have hp := codec_reply.all_more x hx b []
  rw [← hl] at hp
  rcases h.ways with ⟨a, v, h1, _⟩ | ⟨k, h1, rfl, hk⟩
  · rw [hp] at h1; cases h1
  · rw [hp] at h1; injection h1 with h1; subst h1; exact ⟨rfl, hk⟩
theorem u16_byte (z : UInt16) : Value.int .u8 ((z.toNat : Int) % 256) = bv (UInt8.ofNat z.toNat) := by
  unfold bv
  rw [UInt8.toNat_ofNat']
  congr 1
theorem ents_one {w : World} {N : Nat} (x : EntV) (hb : Blk w N 124 x.cells.toArray) (hs : RdSt w x.steps.A x.steps.c x.steps.l) (hr : Reach x.steps.l.length) : EntsOk w ⟨[x], some ⟨N, 0, none⟩, 1⟩ :=
  ⟨⟨rfl, Nat.le_refl _, by simp [maxLen], fun _ => ⟨_, rfl, fun j u hu => by rw [add_lit_, hb.cell]; simpa using hu⟩⟩, fun i r h => by
    match i, h with
    | 0, h => cases h; exact ⟨hs, hr⟩, by simp [Reach]⟩
/-- Two entries of the same content. -/
theorem SameEntries_one {w : World} {N M : Nat} (x y : EntV) (hb : Blk w N 124 x.cells.toArray) (hs : RdSt w x.steps.A x.steps.c x.steps.l) (hr : Reach x.steps.l.length) (hb' : Blk w M 124 y.cells.toArray) (hs' : RdSt w y.steps.A y.steps.c y.steps.l) (hl : x.Like y) :
    Calls Try.prog 67 #[.slice (some ⟨N, 0, none⟩) 1 1, .slice (some ⟨M, 0, none⟩) 1 1] w fun e w' => e = .returned (.bool true) ∧ Nw w w' :=
  SameEntries_ ⟨[x], some ⟨N, 0, none⟩, 1⟩ ⟨[y], some ⟨M, 0, none⟩, 1⟩ w (ents_one x hb hs hr) (ents_one y hb' hs' (by rw [← hl.2.2.2.2]; exact hr)) ⟨rfl, fun i a b h1 h2 => by
    match i, h1, h2 with
    | 0, h1, h2 => cases h1; cases h2; exact hl⟩

theorem slice_mod (A : Option Addr) (n c : Nat) (z : UInt16) (hn : 0 < n) (hc : n ≤ c) (w : World) : (Instr.sliceAt 28 (.slice A n c) none (some (.int .i64 ((z.toNat : Int) % (n : Int)))) none).run Try.prog w = .ok (.slice A (z.toNat % n) c) w := by
  have := slice_to A n c (z.toNat % n) (by have := Nat.mod_lt z.toNat hn; omega) w
  rwa [Int.natCast_emod] at this
set_option maxRecDepth 100000 in
set_option maxHeartbeats 4000000 in
theorem back16_calls (x : EntV) (r : RepV) (z0 z1 : UInt16) (w : World) (hx : x.Ok w) (hr : r.Ok w) :
    Calls Try.prog 12 #[.agg x.cells.toArray, .agg r.cells.toArray, .agg #[.int .u16 z0.toNat, .int .u16 z1.toNat]] w fun e w' => e = .returned (.bool true) ∧ Nw w w' := by
  obtain ⟨i0, hi0, hz0, hz1, hz2⟩ := info_parts info_byte
  obtain ⟨index, term, cl, num, ⟨xs, B, d⟩⟩ := x
  obtain ⟨rE, rAt, ⟨gs, C, dg⟩⟩ := r
  have HX : Hid (RdSt w B d xs) := Lib.hid hx.rd
  have HG : Hid (RdG w C dg gs) := Lib.hid hr.rd
  have HXR : Hid (Reach xs.length) := Lib.hid hx.r
  clear hx hr
  have HB3 : Hid (Blk (((w.alloc (.cells #[.int .u64 index.toNat, .int .u64 term.toNat, .int .u8 cl.toNat, .int .u64 num.toNat, .slice B xs.length d] 124)).alloc (.cells #[.int .i64 rE.toInt, .int .i64 rAt.toInt, .slice C gs.length dg] 34)).alloc (.cells #[.int .u16 z0.toNat, .int .u16 z1.toNat] 132)) w.heap.size 124 #[.int .u64 index.toNat, .int .u64 term.toNat, .int .u8 cl.toNat, .int .u64 num.toNat, .slice B xs.length d]) := Lib.hid (((Blk.new _ _ _).alloc _).alloc _)
  have HB4 : Hid (Blk (((w.alloc (.cells #[.int .u64 index.toNat, .int .u64 term.toNat, .int .u8 cl.toNat, .int .u64 num.toNat, .slice B xs.length d] 124)).alloc (.cells #[.int .i64 rE.toInt, .int .i64 rAt.toInt, .slice C gs.length dg] 34)).alloc (.cells #[.int .u16 z0.toNat, .int .u16 z1.toNat] 132)) (w.heap.size + 1) 34 #[.int .i64 rE.toInt, .int .i64 rAt.toInt, .slice C gs.length dg]) := Lib.hid ((Blk.newAt (by simp) _ _).alloc _)
  have HB5 : Hid (Blk (((w.alloc (.cells #[.int .u64 index.toNat, .int .u64 term.toNat, .int .u8 cl.toNat, .int .u64 num.toNat, .slice B xs.length d] 124)).alloc (.cells #[.int .i64 rE.toInt, .int .i64 rAt.toInt, .slice C gs.length dg] 34)).alloc (.cells #[.int .u16 z0.toNat, .int .u16 z1.toNat] 132)) (w.heap.size + 1 + 1) 132 #[.int .u16 z0.toNat, .int .u16 z1.toNat]) := Lib.hid (Blk.newAt (by simp) _ _)
  have HN0 : Hid (Nw w (((w.alloc (.cells #[.int .u64 index.toNat, .int .u64 term.toNat, .int .u8 cl.toNat, .int .u64 num.toNat, .slice B xs.length d] 124)).alloc (.cells #[.int .i64 rE.toInt, .int .i64 rAt.toInt, .slice C gs.length dg] 34)).alloc (.cells #[.int .u16 z0.toNat, .int .u16 z1.toNat] 132))) := Lib.hid ((((Kp.refl _ w).alloc _).alloc _).alloc _)
  have lives_ : ∀ w0, Nw w w0 → Calls Try.prog 54 #[] w0 fun e w' => e = .returned (.bool true) ∧ Nw w w' := fun w0 h => (lives16 w0).mono fun e w' ⟨h1, h2⟩ => ⟨h1, h.trans h2 (fun _ _ e => e)⟩
  have HL := Lib.hid lives_
  have zb0 : (z0.toNat : Int) ≤ 65535 := by have := z0.toNat_lt; omega
  have zb1 : (z1.toNat : Int) ≤ 65535 := by have := z1.toNat_lt; omega
  clear lives_
  show Calls Try.prog 12 #[.agg #[.int .u64 index.toNat, .int .u64 term.toNat, .int .u8 cl.toNat, .int .u64 num.toNat, .slice B xs.length d], .agg #[.int .i64 rE.toInt, .int .i64 rAt.toInt, .slice C gs.length dg], .agg #[.int .u16 z0.toNat, .int .u16 z1.toNat]] w _
  by_cases hg : 100 < xs.length
  · have hd1 : decide ((100 : Int) < (xs.length : Int)) = true := decide_eq_true (by omega)
    go_enter Try.func12, Try.ntmps12
    go_wp2_with fail
    go_must (refine (HL.out _ HN0.out).mono ?_)
    rintro e w1 ⟨rfl, hk⟩
    go_wp2_with fail
    go_ret
    exact ⟨rfl, hk⟩
  have hd1 : decide ((100 : Int) < (xs.length : Int)) = false := decide_eq_false (by omega)
  by_cases hg2 : 100 < gs.length
  · have hd2 : decide ((100 : Int) < (gs.length : Int)) = true := decide_eq_true (by omega)
    go_enter Try.func12, Try.ntmps12
    go_wp2_with fail
    go_must (refine (HL.out _ HN0.out).mono ?_)
    rintro e w1 ⟨rfl, hk⟩
    go_wp2_with fail
    go_ret
    exact ⟨rfl, hk⟩
  have hd2 : decide ((100 : Int) < (gs.length : Int)) = false := decide_eq_false (by omega)
  clear hg hg2
  have HZ : Hid (w.heap.size + 1 + 1 + 1 ≤ (((w.alloc (.cells #[.int .u64 index.toNat, .int .u64 term.toNat, .int .u8 cl.toNat, .int .u64 num.toNat, .slice B xs.length d] 124)).alloc (.cells #[.int .i64 rE.toInt, .int .i64 rAt.toInt, .slice C gs.length dg] 34)).alloc (.cells #[.int .u16 z0.toNat, .int .u16 z1.toNat] 132)).heap.size) := Lib.hid (by simp)

  by_cases h8 : xs.length ≤ 8
  all_goals by_cases g8 : gs.length ≤ 8
  · have t1 : decide ((xs.length : Int) ≤ 8) = true := decide_eq_true (by omega)
    have t2 : decide ((gs.length : Int) ≤ 8) = true := decide_eq_true (by omega)
    go_enter Try.func12, Try.ntmps12
    go_wp2_with ((with_reducible refine stopAt (.load 124 (.tmp 3)) rfl ?_); go_must (refine unStop (wpList_ldS rfl 124 (.tmp 3) rfl sS_entry w.heap.size 0 rfl HB3.out [.int .u64 index.toNat, .int .u64 term.toNat, .int .u8 cl.toNat, .int .u64 num.toNat, .slice B xs.length d] rfl rfl ?_)))
    generalize (((w.alloc (.cells #[.int .u64 index.toNat, .int .u64 term.toNat, .int .u8 cl.toNat, .int .u64 num.toNat, .slice B xs.length d] 124)).alloc (.cells #[.int .i64 rE.toInt, .int .i64 rAt.toInt, .slice C gs.length dg] 34)).alloc (.cells #[.int .u16 z0.toNat, .int .u16 z1.toNat] 132)) = w0 at *
    go_must (refine (PutEntry_ok index term cl num B d xs w0 (HX.out.nw HN0.out) h8).mono ?_)
    rintro e w1 ⟨A1, rfl, ho1, hk1⟩
    obtain ⟨l, hl⟩ : ∃ l, l = encEntry ⟨index, term, cl, num, xs⟩ := ⟨_, rfl⟩
    rw [← hl] at ho1 ⊢
    replace hl := Lib.hid hl
    have HD1 : Hid (∀ i, blkOf A1 = some i → i < w1.heap.size) := Lib.hid (fun i e => (ho1.lt i e).2)
    have HP1 : Hid (1 ≤ l.length) := Lib.hid (by rw [hl.out]; simp only [encEntry, List.length_append]; have := encList_pos encStep xs; omega)
    have HLL : Hid (l.length ≤ 1000) := Lib.hid (by rw [hl.out]; simp only [encEntry, List.length_append]; have := encList_len encStep encStep_len xs (Nat.lt_of_le_of_lt h8 (by decide)); have := encU_len index; have := encU_len term; have := encU_len num; simp; omega)
    have HO1 := Lib.hid ho1
    clear ho1
    have HM1 := Lib.hid hk1
    clear hk1
    go_wp2_with ((with_reducible refine stopAt (.load 34 (.tmp 4)) rfl ?_); go_must (refine unStop (wpList_ldS rfl 34 (.tmp 4) rfl sS_reply (w.heap.size + 1) 0 rfl (HB4.out.nw HM1.out) [.int .i64 rE.toInt, .int .i64 rAt.toInt, .slice C gs.length dg] rfl rfl ?_)))
    go_must (refine (PutReply_ok rE rAt C dg gs w1 (HG.out.nw (HN0.out.nw HM1.out)) g8).mono ?_)
    rintro e w2 ⟨A2, rfl, ho2, hk2⟩
    obtain ⟨m, hm⟩ : ∃ m, m = encReply ⟨rE, rAt, gs⟩ := ⟨_, rfl⟩
    rw [← hm] at ho2 ⊢
    replace hm := Lib.hid hm
    have HP2 : Hid (1 ≤ m.length) := Lib.hid (by rw [hm.out]; simp only [encReply, List.length_append]; have := encList_pos encGot gs; omega)
    have HO2 := Lib.hid ho2
    clear ho2
    have HM2 := Lib.hid (HM1.out.nw hk2)
    replace HO1 := Lib.hid (HO1.out.nw hk2)
    clear hk2 HM1
    have HN2 := Lib.hid (HN0.out.nw HM2.out)
    have q4 : w2.cell? ⟨w.heap.size, 4, none⟩ = some (.slice B xs.length d) := (HB3.out.nw HM2.out).cell 4
    have q2 : w2.cell? ⟨w.heap.size + 1, 2, none⟩ = some (.slice C gs.length dg) := (HB4.out.nw HM2.out).cell 2
    go_wp2_with fail
    clear q4 q2 t1 t2 hd1 hd2
    go_must (refine (GetEntry_back (x := ⟨index, term, cl, num, xs⟩) h8 hl.out A1 l.length w2 HO1.out.rd).mono ?_)
    rintro e w3 ⟨E1, rfl, hoE, hk3⟩
    have HOE := Lib.hid hoE
    have HM3 := Lib.hid (HM2.out.nw hk3)
    replace HO1 := Lib.hid (HO1.out.nw hk3)
    replace HO2 := Lib.hid (HO2.out.nw hk3)
    clear hoE hk3
    have l0 : ((l.length : Int) == 0) = false := beq_eq_false_iff_ne.2 (by have := HP1.out; omega)
    have HMa := Lib.hid (HM3.out.alloc (.cells #[.int .u64 index.toNat, .int .u64 term.toNat, .int .u8 cl.toNat, .int .u64 num.toNat, .slice E1 xs.length xs.length] 124))
    have HMb := Lib.hid (HMa.out.alloc (.cells #[.int .u64 index.toNat, .int .u64 term.toNat, .int .u8 cl.toNat, .int .u64 num.toNat, .slice B xs.length d] 124))
    have HMc := Lib.hid (HMb.out.alloc (.cells #[.int .u64 index.toNat, .int .u64 term.toNat, .int .u8 cl.toNat, .int .u64 num.toNat, .slice E1 xs.length xs.length] 124))
    have HSE : Hid (Calls Try.prog 67 #[.slice (some ⟨w3.heap.size + 1, 0, none⟩) 1 1, .slice (some ⟨w3.heap.size + 1 + 1, 0, none⟩) 1 1] (((w3.alloc (.cells #[.int .u64 index.toNat, .int .u64 term.toNat, .int .u8 cl.toNat, .int .u64 num.toNat, .slice E1 xs.length xs.length] 124)).alloc (.cells #[.int .u64 index.toNat, .int .u64 term.toNat, .int .u8 cl.toNat, .int .u64 num.toNat, .slice B xs.length d] 124)).alloc (.cells #[.int .u64 index.toNat, .int .u64 term.toNat, .int .u8 cl.toNat, .int .u64 num.toNat, .slice E1 xs.length xs.length] 124)) fun e w' => e = .returned (.bool true) ∧ Nw (((w3.alloc (.cells #[.int .u64 index.toNat, .int .u64 term.toNat, .int .u8 cl.toNat, .int .u64 num.toNat, .slice E1 xs.length xs.length] 124)).alloc (.cells #[.int .u64 index.toNat, .int .u64 term.toNat, .int .u8 cl.toNat, .int .u64 num.toNat, .slice B xs.length d] 124)).alloc (.cells #[.int .u64 index.toNat, .int .u64 term.toNat, .int .u8 cl.toNat, .int .u64 num.toNat, .slice E1 xs.length xs.length] 124)) w') := Lib.hid (SameEntries_one ⟨index, term, cl, num, ⟨xs, B, d⟩⟩ ⟨index, term, cl, num, ⟨xs, E1, xs.length⟩⟩ ((Blk.newAt (by simp) _ _).alloc _) (HX.out.nw (HN0.out.nw HMc.out)) HXR.out (Blk.newAt (by simp) _ _) (((HOE.out.rd.alloc _).alloc _).alloc _) ⟨rfl, rfl, rfl, rfl, rfl⟩)
    go_wp2_with (first
      | ((with_reducible refine stopAt (.store 124 (.tmp 11) (.tmp 67)) rfl ?_); go_must (refine unStop (wpList_stN rfl 124 (.tmp 11) (.tmp 67) rfl [.int .u64 index.toNat, .int .u64 term.toNat, .int .u8 cl.toNat, .int .u64 num.toNat, .slice E1 xs.length xs.length] sS_entry rfl rfl rfl rfl rfl (by simp [Value.oneCell']) ?_)))
      | ((with_reducible refine stopAt (.load 124 (.tmp 3)) rfl ?_); go_must (refine unStop (wpList_ug (by kernel_rfl) (wpList_ldS rfl 124 (.tmp 3) rfl sS_entry w.heap.size 0 rfl (HB3.out.nw HMa.out) [.int .u64 index.toNat, .int .u64 term.toNat, .int .u8 cl.toNat, .int .u64 num.toNat, .slice B xs.length d] rfl rfl ?_))))
      | ((with_reducible refine stopAt (.buildSlice 27 1 #[(0, .tmp 77)]) rfl ?_); go_must (refine unStop (wpList_ug (by kernel_rfl) (wpList_bs1 rfl 27 124 (.tmp 77) rfl [.int .u64 index.toNat, .int .u64 term.toNat, .int .u8 cl.toNat, .int .u64 num.toNat, .slice B xs.length d] Try.underlying27 info_entry rfl rfl (by omega) (by omega) ?_))))
      | ((with_reducible refine stopAt (.load 124 (.tmp 11)) rfl ?_); go_must (refine unStop (wpList_ug (by kernel_rfl) (wpList_ldS rfl 124 (.tmp 11) rfl sS_entry w3.heap.size 0 rfl ((Blk.new _ _ _).alloc _) [.int .u64 index.toNat, .int .u64 term.toNat, .int .u8 cl.toNat, .int .u64 num.toNat, .slice E1 xs.length xs.length] rfl rfl ?_))))
      | ((with_reducible refine stopAt (.buildSlice 27 1 #[(0, .tmp 79)]) rfl ?_); go_must (refine unStop (wpList_ug (by kernel_rfl) (wpList_bs1 rfl 27 124 (.tmp 79) rfl [.int .u64 index.toNat, .int .u64 term.toNat, .int .u8 cl.toNat, .int .u64 num.toNat, .slice E1 xs.length xs.length] Try.underlying27 info_entry rfl rfl (by omega) (by omega) ?_))))
      | (go_at_call 67; go_must (refine HSE.out.mono ?_); rintro e w4 ⟨rfl, hk4⟩; have HM4 := Lib.hid (HMc.out.nw hk4); have HO4 := Lib.hid ((((HO1.out.alloc _).alloc _).alloc _).nw hk4); have HP4 := Lib.hid ((((HO2.out.alloc _).alloc _).alloc _).nw hk4); clear hk4; have z0' : w4.cell? ⟨w.heap.size + 1 + 1, 0, none⟩ = some (.int .u16 z0.toNat) := (HB5.out.nw HM4.out).cell 0; have n0 : ¬ l.length = 0 := (by have := HP1.out; omega); have hsl := slice_mod A1 l.length l.length z0 (by have := HP1.out; omega) (Nat.le_refl _)))
    clear HSE HMa HMb HMc hsl n0 z0'
    go_must (refine (GetEntry_cut (x := ⟨index, term, cl, num, xs⟩) h8 hl.out A1 l.length (z0.toNat % l.length) (Nat.mod_lt _ HP1.out) w4 HO4.out.rd).mono ?_)
    rintro e w5 ⟨rfl, hk5⟩
    have HM5 := Lib.hid (HM4.out.nw hk5)
    replace HO4 := Lib.hid (HO4.out.nw hk5)
    replace HP4 := Lib.hid (HP4.out.nw hk5)
    clear hk5 HM4 HM3 HM2 HN2 HO1 HOE l0 HO2
    have z1' : w5.cell? ⟨w.heap.size + 1 + 1, 1, none⟩ = some (.int .u16 z1.toNat) := (HB5.out.nw HM5.out).cell 1
    have hlt5 : w.heap.size + 1 + 1 < w5.heap.size := (HB5.out.nw HM5.out).lt
    have HMd := Lib.hid ((HM5.out.alloc (.cells #[.int .u64 0, .int .u64 0, .int .u8 0, .int .u64 0, .slice none 0 0] 124)).alloc (.cells #[.int .u8 ((z1.toNat : Int) % 256)] 5))
    have HOd := Lib.hid (((HO4.out.alloc (.cells #[.int .u64 0, .int .u64 0, .int .u8 0, .int .u64 0, .slice none 0 0] 124)).alloc (.cells #[.int .u8 ((z1.toNat : Int) % 256)] 5)).low (Nat.zero_le _))
    have HPd := Lib.hid ((HP4.out.alloc (.cells #[.int .u64 0, .int .u64 0, .int .u8 0, .int .u64 0, .slice none 0 0] 124)).alloc (.cells #[.int .u8 ((z1.toNat : Int) % 256)] 5))
    have HD : Hid (∀ i, blkOf A1 = some i → i < w1.heap.size) := HD1
    have HFar : Hid (∀ i, blkOf A1 = some i → w0.heap.size ≤ i) := Lib.hid (fun i e => (HO4.out.lt i e).1)
    go_wp2_with (first
      | ((with_reducible refine stopAt (.store 124 (.tmp 13) (.tmp 94)) rfl ?_); go_must (refine unStop (wpList_stN rfl 124 (.tmp 13) (.tmp 94) rfl [.int .u64 0, .int .u64 0, .int .u8 0, .int .u64 0, .slice none 0 0] sS_entry rfl rfl rfl rfl rfl (by simp [Value.oneCell']) ?_)))
      | (at_builtin; go_must (refine wpList_append_ _ rfl (.tmp 97) (.tmp 101) 28 rfl 0 5 i0 _ 1 1 Try.underlying28 hi0 hz0 hz1 hz2 rfl A1 l.length l.length _ rfl HOd.out _ 1 1 [.int .u8 ((z1.toNat : Int) % 256)] rfl (Own.of_newAt (by simp) _ 1 1 #[.int .u8 ((z1.toNat : Int) % 256)] rfl (by simp [maxLen])).rd (by simp [Value.oneCell']) (Fits.of (by have := HLL.out; unfold big; omega) (by omega)) (by omega) ?_); intro A6 c6 w6 ho6 hk6 hb6))
    have HM6 : Hid (Nw w0 w6) := Lib.hid (HMd.out.trans hk6 (fun i hi e => by have := HFar.out i e; omega))
    have hr6 : RdB w6 A6 c6 (l ++ [UInt8.ofNat z1.toNat]) := by
      have := ho6.rd
      rw [u16_byte] at this
      show Rd _ _ _ _ _ _
      rw [List.map_append, List.length_append]
      exact this
    have HP6 := Lib.hid (HPd.out.kp hk6 (fun i e2 e => by have := (HP4.out.lt i e2).1; have := HD.out i e; omega))
    clear ho6 hk6 hb6 z1' HMd HOd HFar HPd HP4 HD HM5 HO4 hlt5
    go_must (refine (GetEntry_more (x := ⟨index, term, cl, num, xs⟩) h8 hl.out A6 c6 _ w6 hr6).mono ?_)
    rintro e w7 ⟨rfl, hk7⟩
    have HM7 := Lib.hid ((HM6.out.nw hk7).alloc (.cells #[.int .u64 0, .int .u64 0, .int .u8 0, .int .u64 0, .slice none 0 0] 124))
    have HP7 := Lib.hid ((HP6.out.nw hk7).alloc (.cells #[.int .u64 0, .int .u64 0, .int .u8 0, .int .u64 0, .slice none 0 0] 124))
    clear hk7 HM6 hr6 HP6
    go_wp2_with ((with_reducible refine stopAt (.store 124 (.tmp 15) (.tmp 104)) rfl ?_); go_must (refine unStop (wpList_stN rfl 124 (.tmp 15) (.tmp 104) rfl [.int .u64 0, .int .u64 0, .int .u8 0, .int .u64 0, .slice none 0 0] sS_entry rfl rfl rfl rfl rfl (by simp [Value.oneCell']) ?_)))
    generalize w7.alloc (.cells #[.int .u64 0, .int .u64 0, .int .u8 0, .int .u64 0, .slice none 0 0] 124) = w8 at *
    go_must (refine (GetReply_back (x := ⟨rE, rAt, gs⟩) g8 hm.out A2 m.length w8 HP7.out.rd).mono ?_)
    rintro e w9 ⟨G1, rfl, hoG, hk9⟩
    have HM9 := Lib.hid ((HM7.out.nw hk9).alloc (.cells #[.int .i64 rE.toInt, .int .i64 rAt.toInt, .slice G1 gs.length gs.length] 34))
    have HP9 := Lib.hid ((HP7.out.nw hk9).alloc (.cells #[.int .i64 rE.toInt, .int .i64 rAt.toInt, .slice G1 gs.length gs.length] 34))
    have HSR := Lib.hid (SameReply_ rE.toInt rAt.toInt C G1 dg gs.length gs (w9.alloc (.cells #[.int .i64 rE.toInt, .int .i64 rAt.toInt, .slice G1 gs.length gs.length] 34)) (HG.out.nw (HN0.out.nw HM9.out)) (hoG.rd.alloc _))
    clear hoG hk9 HM7 HP7
    have m0 : ((m.length : Int) == 0) = false := beq_eq_false_iff_ne.2 (by have := HP2.out; omega)
    go_wp2_with (first
      | ((with_reducible refine stopAt (.store 34 (.tmp 17) (.tmp 117)) rfl ?_); go_must (refine unStop (wpList_stN rfl 34 (.tmp 17) (.tmp 117) rfl [.int .i64 rE.toInt, .int .i64 rAt.toInt, .slice G1 gs.length gs.length] sS_reply rfl rfl rfl rfl rfl (by simp [Value.oneCell']) ?_)))
      | ((with_reducible refine stopAt (.load 34 (.tmp 4)) rfl ?_); go_must (refine unStop (wpList_ug (by kernel_rfl) (wpList_ldS rfl 34 (.tmp 4) rfl sS_reply (w.heap.size + 1) 0 rfl (HB4.out.nw HM9.out) [.int .i64 rE.toInt, .int .i64 rAt.toInt, .slice C gs.length dg] rfl rfl ?_))))
      | ((with_reducible refine stopAt (.load 34 (.tmp 17)) rfl ?_); go_must (refine unStop (wpList_ug (by kernel_rfl) (wpList_ldS rfl 34 (.tmp 17) rfl sS_reply w9.heap.size 0 rfl (Blk.new _ _ _) [.int .i64 rE.toInt, .int .i64 rAt.toInt, .slice G1 gs.length gs.length] rfl rfl ?_))))
      | (go_at_call 35; go_must (refine HSR.out.mono ?_); rintro e w10 ⟨rfl, hk10⟩; have HMt := Lib.hid (HM9.out.nw hk10); have HPt := Lib.hid (HP9.out.nw hk10); clear hk10; have z0' : w10.cell? ⟨w.heap.size + 1 + 1, 0, none⟩ = some (.int .u16 z0.toNat) := (HB5.out.nw HMt.out).cell 0; have n0 : ¬ m.length = 0 := (by have := HP2.out; omega); have hsl := slice_mod A2 m.length m.length z0 (by have := HP2.out; omega) (Nat.le_refl _)))
    clear HSR HM9 HP9 hsl n0 z0' m0
    go_must (refine (GetReply_cut (x := ⟨rE, rAt, gs⟩) g8 hm.out A2 m.length (z0.toNat % m.length) (Nat.mod_lt _ HP2.out) w10 HPt.out.rd).mono ?_)
    rintro e w11 ⟨rfl, hk11⟩
    have HM8 := Lib.hid ((HMt.out.nw hk11).alloc (.cells #[.int .i64 0, .int .i64 0, .slice none 0 0] 34))
    clear hk11 HMt HPt
    go_wp2_with ((with_reducible refine stopAt (.store 34 (.tmp 19) (.tmp 142)) rfl ?_); go_must (refine unStop (wpList_stN rfl 34 (.tmp 19) (.tmp 142) rfl [.int .i64 0, .int .i64 0, .slice none 0 0] sS_reply rfl rfl rfl rfl rfl (by simp [Value.oneCell']) ?_)))
    go_must (refine (HL.out _ (HN0.out.nw HM8.out)).mono ?_)
    rintro e w12 ⟨rfl, hk12⟩
    go_wp2_with fail
    go_ret
    exact ⟨rfl, hk12⟩
  · have t1 : decide ((xs.length : Int) ≤ 8) = true := decide_eq_true (by omega)
    have t2 : decide ((gs.length : Int) ≤ 8) = false := decide_eq_false (by omega)
    go_enter Try.func12, Try.ntmps12
    go_wp2_with ((with_reducible refine stopAt (.load 124 (.tmp 3)) rfl ?_); go_must (refine unStop (wpList_ldS rfl 124 (.tmp 3) rfl sS_entry w.heap.size 0 rfl HB3.out [.int .u64 index.toNat, .int .u64 term.toNat, .int .u8 cl.toNat, .int .u64 num.toNat, .slice B xs.length d] rfl rfl ?_)))
    generalize (((w.alloc (.cells #[.int .u64 index.toNat, .int .u64 term.toNat, .int .u8 cl.toNat, .int .u64 num.toNat, .slice B xs.length d] 124)).alloc (.cells #[.int .i64 rE.toInt, .int .i64 rAt.toInt, .slice C gs.length dg] 34)).alloc (.cells #[.int .u16 z0.toNat, .int .u16 z1.toNat] 132)) = w0 at *
    go_must (refine (PutEntry_ok index term cl num B d xs w0 (HX.out.nw HN0.out) h8).mono ?_)
    rintro e w1 ⟨A1, rfl, ho1, hk1⟩
    obtain ⟨l, hl⟩ : ∃ l, l = encEntry ⟨index, term, cl, num, xs⟩ := ⟨_, rfl⟩
    rw [← hl] at ho1 ⊢
    replace hl := Lib.hid hl
    have HP1 : Hid (1 ≤ l.length) := Lib.hid (by rw [hl.out]; simp only [encEntry, List.length_append]; have := encList_pos encStep xs; omega)
    have HLL : Hid (l.length ≤ 1000) := Lib.hid (by rw [hl.out]; simp only [encEntry, List.length_append]; have := encList_len encStep encStep_len xs (Nat.lt_of_le_of_lt h8 (by decide)); have := encU_len index; have := encU_len term; have := encU_len num; simp; omega)
    have HO1 := Lib.hid ho1
    clear ho1
    have HM1 := Lib.hid hk1
    clear hk1
    go_wp2_with ((with_reducible refine stopAt (.load 34 (.tmp 4)) rfl ?_); go_must (refine unStop (wpList_ldS rfl 34 (.tmp 4) rfl sS_reply (w.heap.size + 1) 0 rfl (HB4.out.nw HM1.out) [.int .i64 rE.toInt, .int .i64 rAt.toInt, .slice C gs.length dg] rfl rfl ?_)))
    go_must (refine (PutReply_not rE rAt C dg gs w1 (by omega)).mono ?_)
    rintro e w2 ⟨rfl, hk2⟩
    have HM2 := Lib.hid (HM1.out.nw hk2)
    replace HO1 := Lib.hid (HO1.out.nw hk2)
    clear hk2 HM1
    have HN2 := Lib.hid (HN0.out.nw HM2.out)
    have q4 : w2.cell? ⟨w.heap.size, 4, none⟩ = some (.slice B xs.length d) := (HB3.out.nw HM2.out).cell 4
    have q2 : w2.cell? ⟨w.heap.size + 1, 2, none⟩ = some (.slice C gs.length dg) := (HB4.out.nw HM2.out).cell 2
    go_wp2_with fail
    clear q4 q2 t1 t2 hd1 hd2
    go_must (refine (GetEntry_back (x := ⟨index, term, cl, num, xs⟩) h8 hl.out A1 l.length w2 HO1.out.rd).mono ?_)
    rintro e w3 ⟨E1, rfl, hoE, hk3⟩
    have HOE := Lib.hid hoE
    have HM3 := Lib.hid (HM2.out.nw hk3)
    replace HO1 := Lib.hid (HO1.out.nw hk3)
    clear hoE hk3
    have l0 : ((l.length : Int) == 0) = false := beq_eq_false_iff_ne.2 (by have := HP1.out; omega)
    have HMa := Lib.hid (HM3.out.alloc (.cells #[.int .u64 index.toNat, .int .u64 term.toNat, .int .u8 cl.toNat, .int .u64 num.toNat, .slice E1 xs.length xs.length] 124))
    have HMb := Lib.hid (HMa.out.alloc (.cells #[.int .u64 index.toNat, .int .u64 term.toNat, .int .u8 cl.toNat, .int .u64 num.toNat, .slice B xs.length d] 124))
    have HMc := Lib.hid (HMb.out.alloc (.cells #[.int .u64 index.toNat, .int .u64 term.toNat, .int .u8 cl.toNat, .int .u64 num.toNat, .slice E1 xs.length xs.length] 124))
    have HSE : Hid (Calls Try.prog 67 #[.slice (some ⟨w3.heap.size + 1, 0, none⟩) 1 1, .slice (some ⟨w3.heap.size + 1 + 1, 0, none⟩) 1 1] (((w3.alloc (.cells #[.int .u64 index.toNat, .int .u64 term.toNat, .int .u8 cl.toNat, .int .u64 num.toNat, .slice E1 xs.length xs.length] 124)).alloc (.cells #[.int .u64 index.toNat, .int .u64 term.toNat, .int .u8 cl.toNat, .int .u64 num.toNat, .slice B xs.length d] 124)).alloc (.cells #[.int .u64 index.toNat, .int .u64 term.toNat, .int .u8 cl.toNat, .int .u64 num.toNat, .slice E1 xs.length xs.length] 124)) fun e w' => e = .returned (.bool true) ∧ Nw (((w3.alloc (.cells #[.int .u64 index.toNat, .int .u64 term.toNat, .int .u8 cl.toNat, .int .u64 num.toNat, .slice E1 xs.length xs.length] 124)).alloc (.cells #[.int .u64 index.toNat, .int .u64 term.toNat, .int .u8 cl.toNat, .int .u64 num.toNat, .slice B xs.length d] 124)).alloc (.cells #[.int .u64 index.toNat, .int .u64 term.toNat, .int .u8 cl.toNat, .int .u64 num.toNat, .slice E1 xs.length xs.length] 124)) w') := Lib.hid (SameEntries_one ⟨index, term, cl, num, ⟨xs, B, d⟩⟩ ⟨index, term, cl, num, ⟨xs, E1, xs.length⟩⟩ ((Blk.newAt (by simp) _ _).alloc _) (HX.out.nw (HN0.out.nw HMc.out)) HXR.out (Blk.newAt (by simp) _ _) (((HOE.out.rd.alloc _).alloc _).alloc _) ⟨rfl, rfl, rfl, rfl, rfl⟩)
    go_wp2_with (first
      | ((with_reducible refine stopAt (.store 124 (.tmp 11) (.tmp 67)) rfl ?_); go_must (refine unStop (wpList_stN rfl 124 (.tmp 11) (.tmp 67) rfl [.int .u64 index.toNat, .int .u64 term.toNat, .int .u8 cl.toNat, .int .u64 num.toNat, .slice E1 xs.length xs.length] sS_entry rfl rfl rfl rfl rfl (by simp [Value.oneCell']) ?_)))
      | ((with_reducible refine stopAt (.load 124 (.tmp 3)) rfl ?_); go_must (refine unStop (wpList_ug (by kernel_rfl) (wpList_ldS rfl 124 (.tmp 3) rfl sS_entry w.heap.size 0 rfl (HB3.out.nw HMa.out) [.int .u64 index.toNat, .int .u64 term.toNat, .int .u8 cl.toNat, .int .u64 num.toNat, .slice B xs.length d] rfl rfl ?_))))
      | ((with_reducible refine stopAt (.buildSlice 27 1 #[(0, .tmp 77)]) rfl ?_); go_must (refine unStop (wpList_ug (by kernel_rfl) (wpList_bs1 rfl 27 124 (.tmp 77) rfl [.int .u64 index.toNat, .int .u64 term.toNat, .int .u8 cl.toNat, .int .u64 num.toNat, .slice B xs.length d] Try.underlying27 info_entry rfl rfl (by omega) (by omega) ?_))))
      | ((with_reducible refine stopAt (.load 124 (.tmp 11)) rfl ?_); go_must (refine unStop (wpList_ug (by kernel_rfl) (wpList_ldS rfl 124 (.tmp 11) rfl sS_entry w3.heap.size 0 rfl ((Blk.new _ _ _).alloc _) [.int .u64 index.toNat, .int .u64 term.toNat, .int .u8 cl.toNat, .int .u64 num.toNat, .slice E1 xs.length xs.length] rfl rfl ?_))))
      | ((with_reducible refine stopAt (.buildSlice 27 1 #[(0, .tmp 79)]) rfl ?_); go_must (refine unStop (wpList_ug (by kernel_rfl) (wpList_bs1 rfl 27 124 (.tmp 79) rfl [.int .u64 index.toNat, .int .u64 term.toNat, .int .u8 cl.toNat, .int .u64 num.toNat, .slice E1 xs.length xs.length] Try.underlying27 info_entry rfl rfl (by omega) (by omega) ?_))))
      | (go_at_call 67; go_must (refine HSE.out.mono ?_); rintro e w4 ⟨rfl, hk4⟩; have HM4 := Lib.hid (HMc.out.nw hk4); have HO4 := Lib.hid ((((HO1.out.alloc _).alloc _).alloc _).nw hk4); clear hk4; have z0' : w4.cell? ⟨w.heap.size + 1 + 1, 0, none⟩ = some (.int .u16 z0.toNat) := (HB5.out.nw HM4.out).cell 0; have n0 : ¬ l.length = 0 := (by have := HP1.out; omega); have hsl := slice_mod A1 l.length l.length z0 (by have := HP1.out; omega) (Nat.le_refl _)))
    clear HSE HMa HMb HMc hsl n0 z0'
    go_must (refine (GetEntry_cut (x := ⟨index, term, cl, num, xs⟩) h8 hl.out A1 l.length (z0.toNat % l.length) (Nat.mod_lt _ HP1.out) w4 HO4.out.rd).mono ?_)
    rintro e w5 ⟨rfl, hk5⟩
    have HM5 := Lib.hid (HM4.out.nw hk5)
    replace HO4 := Lib.hid (HO4.out.nw hk5)
    clear hk5 HM4 HM3 HM2 HN2 HO1 HOE l0
    have z1' : w5.cell? ⟨w.heap.size + 1 + 1, 1, none⟩ = some (.int .u16 z1.toNat) := (HB5.out.nw HM5.out).cell 1
    have hlt5 : w.heap.size + 1 + 1 < w5.heap.size := (HB5.out.nw HM5.out).lt
    have HMd := Lib.hid ((HM5.out.alloc (.cells #[.int .u64 0, .int .u64 0, .int .u8 0, .int .u64 0, .slice none 0 0] 124)).alloc (.cells #[.int .u8 ((z1.toNat : Int) % 256)] 5))
    have HOd := Lib.hid (((HO4.out.alloc (.cells #[.int .u64 0, .int .u64 0, .int .u8 0, .int .u64 0, .slice none 0 0] 124)).alloc (.cells #[.int .u8 ((z1.toNat : Int) % 256)] 5)).low (Nat.zero_le _))
    have HFar : Hid (∀ i, blkOf A1 = some i → w0.heap.size ≤ i) := Lib.hid (fun i e => (HO4.out.lt i e).1)
    go_wp2_with (first
      | ((with_reducible refine stopAt (.store 124 (.tmp 13) (.tmp 94)) rfl ?_); go_must (refine unStop (wpList_stN rfl 124 (.tmp 13) (.tmp 94) rfl [.int .u64 0, .int .u64 0, .int .u8 0, .int .u64 0, .slice none 0 0] sS_entry rfl rfl rfl rfl rfl (by simp [Value.oneCell']) ?_)))
      | (at_builtin; go_must (refine wpList_append_ _ rfl (.tmp 97) (.tmp 101) 28 rfl 0 5 i0 _ 1 1 Try.underlying28 hi0 hz0 hz1 hz2 rfl A1 l.length l.length _ rfl HOd.out _ 1 1 [.int .u8 ((z1.toNat : Int) % 256)] rfl (Own.of_newAt (by simp) _ 1 1 #[.int .u8 ((z1.toNat : Int) % 256)] rfl (by simp [maxLen])).rd (by simp [Value.oneCell']) (Fits.of (by have := HLL.out; unfold big; omega) (by omega)) (by omega) ?_); intro A6 c6 w6 ho6 hk6 hb6))
    have HM6 : Hid (Nw w0 w6) := Lib.hid (HMd.out.trans hk6 (fun i hi e => by have := HFar.out i e; omega))
    have hr6 : RdB w6 A6 c6 (l ++ [UInt8.ofNat z1.toNat]) := by
      have := ho6.rd
      rw [u16_byte] at this
      show Rd _ _ _ _ _ _
      rw [List.map_append, List.length_append]
      exact this
    clear ho6 hk6 hb6 z1' HMd HOd HFar HM5 HO4 hlt5
    go_must (refine (GetEntry_more (x := ⟨index, term, cl, num, xs⟩) h8 hl.out A6 c6 _ w6 hr6).mono ?_)
    rintro e w7 ⟨rfl, hk7⟩
    have HM7 := Lib.hid ((HM6.out.nw hk7).alloc (.cells #[.int .u64 0, .int .u64 0, .int .u8 0, .int .u64 0, .slice none 0 0] 124))
    clear hk7 HM6 hr6
    go_wp2_with ((with_reducible refine stopAt (.store 124 (.tmp 15) (.tmp 104)) rfl ?_); go_must (refine unStop (wpList_stN rfl 124 (.tmp 15) (.tmp 104) rfl [.int .u64 0, .int .u64 0, .int .u8 0, .int .u64 0, .slice none 0 0] sS_entry rfl rfl rfl rfl rfl (by simp [Value.oneCell']) ?_)))
    generalize w7.alloc (.cells #[.int .u64 0, .int .u64 0, .int .u8 0, .int .u64 0, .slice none 0 0] 124) = w8 at *
    have HM8 := HM7
    go_must (refine (HL.out _ (HN0.out.nw HM8.out)).mono ?_)
    rintro e w12 ⟨rfl, hk12⟩
    go_wp2_with fail
    go_ret
    exact ⟨rfl, hk12⟩
  · have t1 : decide ((xs.length : Int) ≤ 8) = false := decide_eq_false (by omega)
    have t2 : decide ((gs.length : Int) ≤ 8) = true := decide_eq_true (by omega)
    go_enter Try.func12, Try.ntmps12
    go_wp2_with ((with_reducible refine stopAt (.load 124 (.tmp 3)) rfl ?_); go_must (refine unStop (wpList_ldS rfl 124 (.tmp 3) rfl sS_entry w.heap.size 0 rfl HB3.out [.int .u64 index.toNat, .int .u64 term.toNat, .int .u8 cl.toNat, .int .u64 num.toNat, .slice B xs.length d] rfl rfl ?_)))
    generalize (((w.alloc (.cells #[.int .u64 index.toNat, .int .u64 term.toNat, .int .u8 cl.toNat, .int .u64 num.toNat, .slice B xs.length d] 124)).alloc (.cells #[.int .i64 rE.toInt, .int .i64 rAt.toInt, .slice C gs.length dg] 34)).alloc (.cells #[.int .u16 z0.toNat, .int .u16 z1.toNat] 132)) = w0 at *
    go_must (refine (PutEntry_not index term cl num B d xs w0 (by omega)).mono ?_)
    rintro e w1 ⟨rfl, hk1⟩
    have HM1 := Lib.hid hk1
    clear hk1
    go_wp2_with ((with_reducible refine stopAt (.load 34 (.tmp 4)) rfl ?_); go_must (refine unStop (wpList_ldS rfl 34 (.tmp 4) rfl sS_reply (w.heap.size + 1) 0 rfl (HB4.out.nw HM1.out) [.int .i64 rE.toInt, .int .i64 rAt.toInt, .slice C gs.length dg] rfl rfl ?_)))
    go_must (refine (PutReply_ok rE rAt C dg gs w1 (HG.out.nw (HN0.out.nw HM1.out)) g8).mono ?_)
    rintro e w2 ⟨A2, rfl, ho2, hk2⟩
    obtain ⟨m, hm⟩ : ∃ m, m = encReply ⟨rE, rAt, gs⟩ := ⟨_, rfl⟩
    rw [← hm] at ho2 ⊢
    replace hm := Lib.hid hm
    have HP2 : Hid (1 ≤ m.length) := Lib.hid (by rw [hm.out]; simp only [encReply, List.length_append]; have := encList_pos encGot gs; omega)
    have HO2 := Lib.hid ho2
    clear ho2
    have HM2 := Lib.hid (HM1.out.nw hk2)
    clear hk2 HM1
    have HN2 := Lib.hid (HN0.out.nw HM2.out)
    have q4 : w2.cell? ⟨w.heap.size, 4, none⟩ = some (.slice B xs.length d) := (HB3.out.nw HM2.out).cell 4
    have q2 : w2.cell? ⟨w.heap.size + 1, 2, none⟩ = some (.slice C gs.length dg) := (HB4.out.nw HM2.out).cell 2
    go_wp2_with fail
    clear q4 q2 t1 t2 hd1 hd2
    generalize w2 = w8 at *
    have HM7 := HM2
    have HP7 := HO2
    clear HM2 HN2 HO2
    go_must (refine (GetReply_back (x := ⟨rE, rAt, gs⟩) g8 hm.out A2 m.length w8 HP7.out.rd).mono ?_)
    rintro e w9 ⟨G1, rfl, hoG, hk9⟩
    have HM9 := Lib.hid ((HM7.out.nw hk9).alloc (.cells #[.int .i64 rE.toInt, .int .i64 rAt.toInt, .slice G1 gs.length gs.length] 34))
    have HP9 := Lib.hid ((HP7.out.nw hk9).alloc (.cells #[.int .i64 rE.toInt, .int .i64 rAt.toInt, .slice G1 gs.length gs.length] 34))
    have HSR := Lib.hid (SameReply_ rE.toInt rAt.toInt C G1 dg gs.length gs (w9.alloc (.cells #[.int .i64 rE.toInt, .int .i64 rAt.toInt, .slice G1 gs.length gs.length] 34)) (HG.out.nw (HN0.out.nw HM9.out)) (hoG.rd.alloc _))
    clear hoG hk9 HM7 HP7
    have m0 : ((m.length : Int) == 0) = false := beq_eq_false_iff_ne.2 (by have := HP2.out; omega)
    go_wp2_with (first
      | ((with_reducible refine stopAt (.store 34 (.tmp 17) (.tmp 117)) rfl ?_); go_must (refine unStop (wpList_stN rfl 34 (.tmp 17) (.tmp 117) rfl [.int .i64 rE.toInt, .int .i64 rAt.toInt, .slice G1 gs.length gs.length] sS_reply rfl rfl rfl rfl rfl (by simp [Value.oneCell']) ?_)))
      | ((with_reducible refine stopAt (.load 34 (.tmp 4)) rfl ?_); go_must (refine unStop (wpList_ug (by kernel_rfl) (wpList_ldS rfl 34 (.tmp 4) rfl sS_reply (w.heap.size + 1) 0 rfl (HB4.out.nw HM9.out) [.int .i64 rE.toInt, .int .i64 rAt.toInt, .slice C gs.length dg] rfl rfl ?_))))
      | ((with_reducible refine stopAt (.load 34 (.tmp 17)) rfl ?_); go_must (refine unStop (wpList_ug (by kernel_rfl) (wpList_ldS rfl 34 (.tmp 17) rfl sS_reply w9.heap.size 0 rfl (Blk.new _ _ _) [.int .i64 rE.toInt, .int .i64 rAt.toInt, .slice G1 gs.length gs.length] rfl rfl ?_))))
      | (go_at_call 35; go_must (refine HSR.out.mono ?_); rintro e w10 ⟨rfl, hk10⟩; have HMt := Lib.hid (HM9.out.nw hk10); have HPt := Lib.hid (HP9.out.nw hk10); clear hk10; have z0' : w10.cell? ⟨w.heap.size + 1 + 1, 0, none⟩ = some (.int .u16 z0.toNat) := (HB5.out.nw HMt.out).cell 0; have n0 : ¬ m.length = 0 := (by have := HP2.out; omega); have hsl := slice_mod A2 m.length m.length z0 (by have := HP2.out; omega) (Nat.le_refl _)))
    clear HSR HM9 HP9 hsl n0 z0' m0
    go_must (refine (GetReply_cut (x := ⟨rE, rAt, gs⟩) g8 hm.out A2 m.length (z0.toNat % m.length) (Nat.mod_lt _ HP2.out) w10 HPt.out.rd).mono ?_)
    rintro e w11 ⟨rfl, hk11⟩
    have HM8 := Lib.hid ((HMt.out.nw hk11).alloc (.cells #[.int .i64 0, .int .i64 0, .slice none 0 0] 34))
    clear hk11 HMt HPt
    go_wp2_with ((with_reducible refine stopAt (.store 34 (.tmp 19) (.tmp 142)) rfl ?_); go_must (refine unStop (wpList_stN rfl 34 (.tmp 19) (.tmp 142) rfl [.int .i64 0, .int .i64 0, .slice none 0 0] sS_reply rfl rfl rfl rfl rfl (by simp [Value.oneCell']) ?_)))
    go_must (refine (HL.out _ (HN0.out.nw HM8.out)).mono ?_)
    rintro e w12 ⟨rfl, hk12⟩
    go_wp2_with fail
    go_ret
    exact ⟨rfl, hk12⟩
  · have t1 : decide ((xs.length : Int) ≤ 8) = false := decide_eq_false (by omega)
    have t2 : decide ((gs.length : Int) ≤ 8) = false := decide_eq_false (by omega)
    go_enter Try.func12, Try.ntmps12
    go_wp2_with ((with_reducible refine stopAt (.load 124 (.tmp 3)) rfl ?_); go_must (refine unStop (wpList_ldS rfl 124 (.tmp 3) rfl sS_entry w.heap.size 0 rfl HB3.out [.int .u64 index.toNat, .int .u64 term.toNat, .int .u8 cl.toNat, .int .u64 num.toNat, .slice B xs.length d] rfl rfl ?_)))
    generalize (((w.alloc (.cells #[.int .u64 index.toNat, .int .u64 term.toNat, .int .u8 cl.toNat, .int .u64 num.toNat, .slice B xs.length d] 124)).alloc (.cells #[.int .i64 rE.toInt, .int .i64 rAt.toInt, .slice C gs.length dg] 34)).alloc (.cells #[.int .u16 z0.toNat, .int .u16 z1.toNat] 132)) = w0 at *
    go_must (refine (PutEntry_not index term cl num B d xs w0 (by omega)).mono ?_)
    rintro e w1 ⟨rfl, hk1⟩
    have HM1 := Lib.hid hk1
    clear hk1
    go_wp2_with ((with_reducible refine stopAt (.load 34 (.tmp 4)) rfl ?_); go_must (refine unStop (wpList_ldS rfl 34 (.tmp 4) rfl sS_reply (w.heap.size + 1) 0 rfl (HB4.out.nw HM1.out) [.int .i64 rE.toInt, .int .i64 rAt.toInt, .slice C gs.length dg] rfl rfl ?_)))
    go_must (refine (PutReply_not rE rAt C dg gs w1 (by omega)).mono ?_)
    rintro e w2 ⟨rfl, hk2⟩
    have HM2 := Lib.hid (HM1.out.nw hk2)
    clear hk2 HM1
    have HN2 := Lib.hid (HN0.out.nw HM2.out)
    have q4 : w2.cell? ⟨w.heap.size, 4, none⟩ = some (.slice B xs.length d) := (HB3.out.nw HM2.out).cell 4
    have q2 : w2.cell? ⟨w.heap.size + 1, 2, none⟩ = some (.slice C gs.length dg) := (HB4.out.nw HM2.out).cell 2
    go_wp2_with fail
    clear q4 q2 t1 t2 hd1 hd2
    generalize w2 = w8 at *
    have HM7 := HM2
    clear HM2 HN2
    have HM8 := HM7
    go_must (refine (HL.out _ (HN0.out.nw HM8.out)).mono ?_)
    rintro e w12 ⟨rfl, hk12⟩
    go_wp2_with fail
    go_ret
    exact ⟨rfl, hk12⟩
end Go.Proofs.Ytiimdnachgkomaa
