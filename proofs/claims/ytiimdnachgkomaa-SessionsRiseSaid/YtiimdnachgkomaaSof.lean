/- Package sessions: Of: the book of bytes. -/
import Derived.Test.YtiimdnachgkomaaSone
import Derived.WalkMore
import Derived.ScopeJumps
namespace Go.Proofs.Ytiimdnachgkomaa
open Go Go.RowKit
theorem pPages_0 (last : UInt8) (ps : List PgP) : pPages 0 last ps [] = some ps := rfl
theorem pPages_00 (last : UInt8) (ps : List PgP) {l : Bytes} (h : l ≠ []) : pPages 0 last ps l = none := by
  cases l with
  | nil => exact absurd rfl h
  | cons b r => rfl
theorem pPages_n {m : Nat} {last : UInt8} {ps : List PgP} {l : Bytes} (h : oneP ps l = none) : pPages (m + 1) last ps l = none := by
  unfold oneP at h
  simp only [pPages]
  cases h1 : pOne l with
  | none => rfl
  | some x =>
    obtain ⟨c, num, rep, r⟩ := x
    simp only [h1] at h
    simp only []
    cases h2 : noteP ps c num rep with
    | none => rfl
    | some ps2 => simp only [h2] at h; cases h
theorem pPages_s {m : Nat} {last c : UInt8} {ps ps2 : List PgP} {l r : Bytes} (h : oneP ps l = some (c, ps2, r)) : pPages (m + 1) last ps l = if c.toNat ≤ last.toNat then none else pPages m c ps2 r := by
  unfold oneP at h
  simp only [pPages]
  cases h1 : pOne l with
  | none => simp only [h1] at h; cases h
  | some x =>
    obtain ⟨c', num, rep, r'⟩ := x
    simp only [h1] at h
    simp only []
    cases h2 : noteP ps c' num rep with
    | none => simp only [h2] at h; cases h
    | some ps2' =>
      simp only [h2] at h
      injection h with h
      injection h with h3 h4
      injection h4 with h4 h5
      subst h3 h4 h5
      rfl
set_option maxRecDepth 20000 in
theorem slice_from (A : Option Addr) (c : Nat) (l r : Bytes) (q : Nat) (w : World) (hr : RdB w A c l) (hq : q ≤ l.length) (hd : l.drop q = r) : ∃ A1, (∀ W, (Instr.sliceAt 28 (.slice A l.length c) (some (.int .i64 q)) none none).run Try.prog W = .ok (.slice A1 r.length (c - q)) W) ∧ (∀ w', RdB w' A c l → RdB w' A1 (c - q) r) ∧ blkOf A1 = blkOf A := by
  obtain ⟨i0, hi0, hz0, hz1, hz2⟩ := info_parts info_byte
  have hu : Try.prog.underlying 28 = some (.slice (Try.prog.elem 28)) := Try.underlying28
  have hlen : l.length - q = r.length := by rw [← hd, List.length_drop]
  refine ⟨if c = q then A else A.map (·.add (q * 1)), fun W => ?_, fun w' h => ?_, ?_⟩
  · rw [run_sliceAt_slice W _ _ _ _ _ hu, run_slice_l W _ A l.length c hu .i64 q (by omega) (by omega)]
    have e : (sizeOf (Try.prog.elem 28)).run Try.prog W = .ok 1 W := by
      have : Try.prog.elem 28 = 5 := by kernel_rfl
      rw [this]; simp [sizeOf, typeInfo, hi0, hz1]
    rw [e]
    simp only [Result.andThen, sliced, Int.toNat_natCast, hlen]
  · have h2 := h.cut hq
    rw [hlen, Nat.mul_one, ← List.map_drop, hd] at h2
    simpa using h2
  · split
    · rfl
    · rcases A with _ | ad
      · rfl
      · simp [blkOf, block_add]
theorem wp_scope_jumps' {P : Program} {a : Act} {w : World} {Q : Exit → Act → World → Prop} {c body : Code} (l : Nat) (J : Act → World → Prop) (μ : Act → World → Nat) (hf : findLabel c l = some (Code.skip.seq body))
    (first : (∀ a w, J a w → body.wp P (Exit.jump l J Q) a w) → c.wp P (Exit.jump l J Q) a w)
    (pass : ∀ a w, J a w → body.wp P (Exit.jump l (fun a' w' => J a' w' ∧ μ a' w' < μ a w) Q) a w) : (Code.scope c).wp P Q a w :=
  wp_scope_jumps l J μ hf (first fun a w h => Code.wp_mono (fun e a2 w2 h => by cases e <;> first | exact h | exact ⟨h.1, h.2.1⟩) (pass a w h)) (fun a w h => wp_seq (wp_skip (pass a w h)))
def OfQ (l : Bytes) (w : World) (e : Ending) (w' : World) : Prop :=
  (pBook l = none ∧ e = .returned (.tuple #[.pointer none, .int .i64 4]) ∧ Nw w w') ∨
  (∃ (g : Nat) (ps : List Pg), pBook l = some (ps.map Pg.pl) ∧ e = .returned (.tuple #[.pointer (some ⟨g, 0, none⟩), .int .i64 0]) ∧ w.heap.size ≤ g ∧ Bk w' g ps ∧ Nw w w')
theorem noPages_pl : noPages.map Pg.pl = noPls := rfl
def OfJ (ad : Addr) (c : Nat) (l : Bytes) (b : UInt8) (A1 : Option Addr) (r : Bytes) (w : World) (a' : Act) (w' : World) : Prop :=
  ∃ (g m : Nat) (last : UInt8) (left : Bytes) (A' : Option Addr) (c' : Nat) (ps : List Pg) (u8 u9 u10 u20 u21 u22 u23 u24 u25 u26 u27 u28 u29 u30 u31 u32 u33 u34 u35 u36 u37 u38 u39 u40 u41 u42 u43 u44 u45 u46 u47 u48 u49 u50 u51 : Value), a' = { tmps := #[.slice (some ad) l.length c, undef, .pointer none, .int .i64 0, .pointer (some ⟨g, 0, none⟩), .slice A' left.length c', .int .u8 (m : Int), .int .u8 (last.toNat : Int), u8, u9, u10, .slice (some ad) l.length c, .int .i64 l.length, .bool false, .pointer (some ⟨g, 0, none⟩), .slice (some ad) l.length c, .slice A1 r.length (c - 1), .slice (some ad) l.length c, .pointer (some ad), .int .u8 b.toNat, u20, u21, u22, u23, u24, u25, u26, u27, u28, u29, u30, u31, u32, u33, u34, u35, u36, u37, u38, u39, u40, u41, u42, u43, u44, u45, u46, u47, u48, u49, u50, u51], defers := [] } ∧ m ≤ 255 ∧ left.length ≤ l.length ∧ RdB w' A' c' left ∧ blkOf A' = some ad.block ∧ w.heap.size ≤ g ∧ Bk w' g ps ∧ pPages m last (ps.map Pg.pl) left = pBook l ∧ Nw w w'
set_option maxRecDepth 20000 in
set_option maxHeartbeats 1000000 in
theorem Of_ (A : Option Addr) (c : Nat) (l : Bytes) (w : World) (hr : RdB w A c l) (hl : l.length ≤ 10000) :
    Calls Try.prog 82 #[.slice A l.length c] w (OfQ l w) := by
  have HR := Lib.hid hr
  have HL := Lib.hid hl
  clear hr hl
  by_cases h0 : l.length = 0
  · have h0' : ((l.length : Int) == 0) = true := by rw [h0]; rfl
    have hnil := Lib.hid (List.eq_nil_of_length_eq_zero h0)
    clear h0
    go_enter Try.func82, Try.ntmps82
    go_wp2_with fail
    go_step3
    go_wp2_with fail
    rw [Exit.noGoto_ret]
    go_ret2
    exact .inl ⟨by rw [hnil.out]; rfl, rfl, Kp.refl _ _⟩
  · obtain ⟨b, r, hbr⟩ : ∃ b r, l = b :: r := by
      cases l with
      | nil => exact absurd rfl h0
      | cons b r => exact ⟨b, r, rfl⟩
    have h0' : ((l.length : Int) == 0) = false := beq_eq_false_iff_ne.2 (by omega)
    obtain ⟨ad, rfl, hcw⟩ : ∃ ad, A = some ad ∧ w.cell? ad = some (.int .u8 b.toNat) := (hbr ▸ HR.out).head
    have HHd : Hid (∀ w', RdB w' (some ad) c l → w'.cell? ad = some (.int .u8 b.toNat)) := Lib.hid (fun w' h => by
      obtain ⟨ad', h1, h2⟩ := (hbr ▸ h : RdB w' (some ad) c (b :: r)).head
      injection h1 with h1
      rw [h1]; exact h2)
    have had : ad.block < w.heap.size := World.block_lt_of_cell? w _ hcw
    clear hcw
    have HAd := Lib.hid had
    have h1i : (0 : Int) < (l.length : Int) := by omega
    clear had
    have h1 : 1 ≤ l.length := by omega
    have hl0 : 0 < l.length := h1
    have hl1 : ¬ l.length = 0 := by omega
    have HBr := Lib.hid hbr
    obtain ⟨A1, hsl, hsr, hsb⟩ := slice_from (some ad) c l r 1 w HR.out h1 (by rw [hbr]; rfl)
    replace hsl : ∀ W, (Instr.sliceAt 28 (.slice (some ad) l.length c) (some (.int .i64 1)) none none).run Try.prog W = .ok (.slice A1 r.length (c - 1)) W := hsl
    have HSr := Lib.hid hsr
    have HSb := Lib.hid hsb
    clear hbr h0 hsr hsb
    go_enter Try.func82, Try.ntmps82
    go_wp2_with fail
    refine wp_scope_jumps' 0 (OfJ ad c l b A1 r w) (fun a' _ => (intOf (a'.tmps.getD 6 undef)).toNat) rfl (fun hp => ?_) ?_
    focus
      go_wp2_with fail
      go_must (refine (SNew _).mono ?_)
      rintro e w1 ⟨g, rfl, hg, hb1, hk1⟩
      have HB1 := Lib.hid hb1
      have HK1 := Lib.hid hk1
      have hc0 := HHd.out _ (HR.out.nw hk1)
      clear hb1 hk1
      go_wp2_with fail
      go_quiet (fail)
      go_wp2_with fail
      go_step3
      go_step
      go_step
      refine hp _ _ ⟨g, b.toNat, 0, r, A1, c - 1, noPages, _, _, _, _, _, _, _, _, _, _, _, _, _, _, _, _, _, _, _, _, _, _, _, _, _, _, _, _, _, _, _, _, _, _, _, rfl, ?_, ?_, ?_, ?_, hg, ?_, ?_, ?_⟩
      · have := b.toNat_lt; omega
      · rw [HBr.out, List.length_cons]; omega
      · exact (HSr.out _ (HR.out.nw HK1.out)).drewN _
      · rw [HSb.out]; rfl
      · exact HB1.out.nw ((Kp.refl _ w1).drewN _)
      · rw [HBr.out, noPages_pl]; rfl
      · exact HK1.out.drewN _
    focus
      rintro a w2 ⟨g, m, last, left, A', c', ps, u8, u9, u10, u20, u21, u22, u23, u24, u25, u26, u27, u28, u29, u30, u31, u32, u33, u34, u35, u36, u37, u38, u39, u40, u41, u42, u43, u44, u45, u46, u47, u48, u49, u50, u51, rfl, hm, hll, hr2, hbl, hgw, hb2, hpp, hk2⟩
      have had := HAd.out
      have hng : ad.block ≠ g := by omega
      have hneg : blkOf A' ≠ some g := by rw [hbl]; intro e; injection e with e; exact hng e
      have HB2 := Lib.hid hb2
      have HK2 := Lib.hid hk2
      have HR2 := Lib.hid hr2
      have HPp := Lib.hid hpp
      have HOne : Hid (Calls Try.prog 134 #[.pointer (some ⟨g, 0, none⟩), .slice A' left.length c'] w2 (OneQ g ps left w2)) := Lib.hid (one_calls g ps A' c' left w2 hb2 hr2 (by have := HL.out; omega) hneg)
      have HNxt : Hid (∀ w', Kp (fun j => j = g) w2 w' → Nw w w') := Lib.hid (fun w' h => hk2.trans h (fun i hi e => by omega))
      have HRd : Hid (∀ w', Kp (fun j => j = g) w2 w' → RdB w' A' c' left) := Lib.hid (fun w' h => hr2.kp h (fun hn k hk e => by rw [hbl] at hk; injection hk with hk; omega))
      have HBl := Lib.hid hbl
      have HLl := Lib.hid hll
      have HGw := Lib.hid hgw
      clear hb2 hk2 hr2 hpp hneg hbl hll hgw hng had
      by_cases hm0 : m = 0
      · subst hm0
        by_cases hl0' : left.length = 0
        · have hq0 : ((left.length : Int) == 0) = true := by rw [hl0']; rfl
          have hnil := Lib.hid (List.eq_nil_of_length_eq_zero hl0')
          clear hl0'
          go_wp2_with fail
          simp only [Exit.jump]
          go_ret2
          refine .inr ⟨g, ps, ?_, rfl, HGw.out, HB2.out, HK2.out⟩
          rw [← HPp.out, hnil.out]; rfl
        · have hq0 : ((left.length : Int) == 0) = false := beq_eq_false_iff_ne.2 (by omega)
          have hnn : Hid (left ≠ []) := Lib.hid (fun e => hl0' (by rw [e]; rfl))
          clear hl0'
          go_wp2_with (go_at_call 134; go_must (refine HOne.out.mono ?_); rintro e w3 ⟨v1, v2, ok, ps2, rfl, hk3, hb3, ho⟩; clear ho)
          simp only [Exit.jump]
          go_ret2
          refine .inl ⟨?_, rfl, HNxt.out _ hk3⟩
          rw [← HPp.out, pPages_00 _ _ hnn.out]
      · obtain ⟨k, rfl⟩ : ∃ k, m = k + 1 := ⟨m - 1, by omega⟩
        have hq0 : (((k + 1 : Nat) : Int) == 0) = false := beq_eq_false_iff_ne.2 (by omega)
        clear hm0
        have hq1 : (((k : Int) + 1) == 0) = false := beq_eq_false_iff_ne.2 (by omega)
        have hki : (k : Int) ≤ 254 := by omega
        have HKi := Lib.hid hki
        have hk0 : (0 : Int) ≤ (k : Int) := by omega
        clear hm
        go_wp2_with fail
        go_must (refine HOne.out.mono ?_)
        rintro e w3 ⟨v1, v2, ok, ps2, rfl, hk3, hb3, ho⟩
        rcases ho with ⟨rfl, ho⟩ | ⟨rfl, hv2, ho⟩
        focus
          have HO := Lib.hid ho
          have HK3 := Lib.hid hk3
          clear ho hk3 hb3
          go_wp2_with fail
          simp only [Exit.jump]
          go_ret2
          refine .inl ⟨?_, rfl, HNxt.out _ HK3.out⟩
          rw [← HPp.out, pPages_n HO.out]
        focus
          have HO := Lib.hid ho
          have HK3 := Lib.hid hk3
          have HB3 := Lib.hid hb3
          have HR3 := Lib.hid (HRd.out _ hk3)
          clear ho hk3 hb3
          by_cases hlast : v1.toNat ≤ last.toNat
          · have hq2 : decide ((v1.toNat : Int) ≤ (last.toNat : Int)) = true := decide_eq_true (by omega)
            have hq3 : decide (v1.toNat ≤ last.toNat) = true := decide_eq_true hlast
            have HLast := Lib.hid hlast
            clear hlast
            go_wp2_with fail
            simp only [Exit.jump]
            go_ret2
            refine .inl ⟨?_, rfl, HNxt.out _ HK3.out⟩
            rw [← HPp.out, pPages_s HO.out, if_pos HLast.out]
          · have hq2 : decide ((v1.toNat : Int) ≤ (last.toNat : Int)) = false := decide_eq_false (by omega)
            have hq3 : decide (v1.toNat ≤ last.toNat) = false := decide_eq_false hlast
            have HLast := Lib.hid hlast
            obtain ⟨nx, hnx⟩ : ∃ nx, left.drop v2 = nx := ⟨_, rfl⟩
            have HNx := Lib.hid hnx
            clear hlast hnx
            go_wp2_with ((with_reducible refine stopAt (.slice 28 (.tmp 46) (some (.tmp 47)) none none) rfl ?_); go_must (refine unStop (wpList_fromB rfl (.tmp 46) (.tmp 47) rfl rfl HR3.out (k := v2) rfl hv2 HNx.out ?_)); intro A5 c5 hr5 hb5)
            have hps : pPages k v1 (ps2.map Pg.pl) nx = pBook l := by
              rw [← HPp.out, pPages_s HO.out, if_neg HLast.out, HNx.out]
            have hnl : nx.length ≤ l.length := by rw [← HNx.out, List.length_drop]; have := HLl.out; omega
            go_step3
            refine ⟨rfl, ⟨g, k, v1, nx, A5, c5, ps2, _, _, _, _, _, _, _, _, _, _, _, _, _, _, _, _, _, _, _, _, _, _, _, _, _, _, _, _, _, _, _, _, _, _, _, rfl, ?_, hnl, hr5, ?_, HGw.out, HB3.out, hps, HNxt.out _ HK3.out⟩, ?_⟩
            · have := HKi.out; omega
            · rw [hb5]; exact HBl.out
            · simp [intOf]
end Go.Proofs.Ytiimdnachgkomaa
