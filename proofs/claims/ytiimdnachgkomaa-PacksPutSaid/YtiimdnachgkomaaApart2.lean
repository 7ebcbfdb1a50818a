/- law01's book of pages: does each stand by itself? -/
import Derived.Test.YtiimdnachgkomaaApart
namespace Go.Proofs.Ytiimdnachgkomaa
open Go Go.RowKit
/-- The pages' lists: each in memory of its own, below base. -/
structure Lone (ps : List PgV) (base : Nat) : Prop where
  low : ∀ p ∈ ps, ∀ k, blkOf p.A = some k → k < base
  two : ∀ (i j : Nat) (p q : PgV), ps[i]? = some p → ps[j]? = some q → i ≠ j → ∀ k, blkOf p.A = some k → blkOf q.A ≠ some k
/-- Lists that were made one behind the other. -/
theorem Lone.up {ps : List PgV} {base : Nat} (lo : Nat → Nat) (hm : ∀ i, lo i ≤ lo (i + 1)) (hb : lo ps.length ≤ base) (h : ∀ (i : Nat) (p : PgV), ps[i]? = some p → ∀ k, blkOf p.A = some k → lo i ≤ k ∧ k < lo (i + 1)) : Lone ps base := by
  have mono : ∀ d i, lo i ≤ lo (i + d) := fun d => by
    induction d with
    | zero => intro i; exact Nat.le_refl _
    | succ d ih => intro i; exact Nat.le_trans (ih i) (hm (i + d))
  refine ⟨fun p hp k hk => ?_, fun i j p q hi hj hij k hk hk2 => ?_⟩
  · obtain ⟨i, hi⟩ := List.mem_iff_getElem?.1 hp
    have h1 := (h i p hi k hk).2
    have h2 : i + 1 ≤ ps.length := (List.getElem?_eq_some_iff.1 hi).1
    have h3 := mono (ps.length - (i + 1)) (i + 1)
    rw [Nat.add_sub_cancel' h2] at h3
    omega
  · have h1 := h i p hi k hk
    have h2 := h j q hj k hk2
    rcases Nat.lt_or_gt_of_ne hij with hlt | hlt
    · have h3 := mono (j - (i + 1)) (i + 1)
      rw [Nat.add_sub_cancel' hlt] at h3
      omega
    · have h3 := mono (i - (j + 1)) (j + 1)
      rw [Nat.add_sub_cancel' hlt] at h3
      omega
theorem PgV.step {ps : List PgV} {base q st : Nat} {w w' : World} {p : PgV} (hl : Lone ps base) (hq : ps[q]? = some p)
    (h : ∀ (i : Nat) (r : PgV), ps[i]? = some r → r.row w (if i < q then st + 1 else st)) (hp : p.row w' (st + 1)) (hk : Kp (fun j => blkOf p.A = some j) w w') :
    ∀ (i : Nat) (r : PgV), ps[i]? = some r → r.row w' (if i < q + 1 then st + 1 else st) := by
  intro i r hr
  by_cases hi : i = q
  · subst hi
    rw [hq] at hr
    cases hr
    rw [if_pos (by omega)]
    exact hp
  · have h1 := h i r hr
    rw [show (if i < q + 1 then st + 1 else st) = (if i < q then st + 1 else st) by split <;> split <;> omega]
    exact PgV.row_kp h1 hk (fun g hg e => hl.two i q r p hr hq hi g hg e)
set_option maxRecDepth 20000 in
set_option maxHeartbeats 4000000 in
theorem Apart01 (g base : Nat) (ps : List PgV) (w : World) (hb : Bo w g base (ps.map PgV.val)) (hl : Lone ps base) (h0 : ∀ p ∈ ps, p.row w 0) (hn : 0 < ps.length) (hn1 : ps.length ≤ 100) (hg : base ≤ g) :
    Calls Try.prog 49 #[.pointer (some ⟨g, 0, none⟩)] w fun e w' => e = .returned (.bool true) ∧ Kp (fun j => ∃ p ∈ ps, blkOf p.A = some j) w w' := by
  obtain ⟨A, c, hb, ho, hne⟩ := hb.is
  rw [List.length_map] at hb ho
  obtain ⟨ad, hA, hc⟩ := ho.rd.at_ hn
  subst hA
  have hcell : ∀ (i : Nat) (p : PgV), ps[i]? = some p → w.cell? (ad.add i) = some p.val := fun i p hp => hc i _ (by rw [List.getElem?_map, hp]; rfl)
  have had : base ≤ ad.block := (ho.lt _ rfl).1
  have HCe := Lib.hid hcell
  have HL := Lib.hid hl
  have HB := Lib.hid hb
  have h00 : ∀ (i : Nat) (p : PgV), ps[i]? = some p → p.row w (if i < 0 then 0 + 1 else 0) := fun i p hp => h0 p (List.mem_of_getElem? hp)
  have H00 := Lib.hid h00
  have c0 : w.cell? ⟨g, 0, none⟩ = some (.slice (some ad) ps.length c) := hb.cell 0
  have hgl := hb.lt
  have hn2 : (ps.length : Int) ≤ 100 := by omega
  have HK0 : Hid (∀ w', Kp (fun j => ∃ p ∈ ps, blkOf p.A = some j) w w' → w'.cell? ⟨g, 0, none⟩ = some (.slice (some ad) ps.length c) ∧ ∀ (i : Nat) (p : PgV), ps[i]? = some p → w'.cell? (ad.add i) = some p.val) := Lib.hid (fun w' hk => by
    have hno : ∀ k, base ≤ k → ¬ ∃ p ∈ ps, blkOf p.A = some k := fun k hk ⟨p, hp, e⟩ => by have := hl.low p hp k e; omega
    refine ⟨hk.cell c0 (hno g hg), fun i p hp => hk.cell (hcell i p hp) ?_⟩
    rw [block_add]
    exact hno _ had)
  clear hb ho hc hcell h0 h00 hl
  go_enter Try.func49, Try.ntmps49
  go_wp2_with fail
  go_loopw [3] (fun i wr => ∃ q : Nat, i = .int .i64 q ∧ q ≤ ps.length ∧ (∀ (i : Nat) (p : PgV), ps[i]? = some p → p.row wr (if i < q then 0 + 1 else 0)) ∧ Kp (fun j => ∃ p ∈ ps, blkOf p.A = some j) w wr) (fun i _ => ps.length - (intOf i).toNat)
  case atStart => exact ⟨0, rfl, by omega, H00.out, Kp.refl _ _⟩
  case round =>
    obtain ⟨q, rfl, hq, hrow, hk⟩ := hrel
    obtain ⟨z0, hz⟩ := HK0.out _ hk
    have HK := Lib.hid hk
    have HR := Lib.hid hrow
    clear hk hrow
    by_cases hlt : q < ps.length
    · obtain ⟨p, hp⟩ : ∃ p, ps[q]? = some p := ⟨_, List.getElem?_eq_getElem hlt⟩
      have z1 := hz q p hp
      have hrp := HR.out q p hp
      rw [if_neg (by omega)] at hrp
      have HP := Lib.hid hp
      have hd1 : decide ((q : Int) < (ps.length : Int)) = true := decide_eq_true (by omega)
      clear hz hp
      obtain ⟨A, n, d, kind⟩ := p
      cases kind with
      | byte m b =>
        have HC := Lib.hid (rowByte_write A n d m b wr hrp)
        simp only [PgV.val] at z1
        clear hrp
        go_wp2_with (go_at_call 236; go_must (refine HC.out.mono ?_); rintro e w2 ⟨rfl, hr2, hk2⟩)
        exact ⟨⟨q + 1, by go_num, by omega, PgV.step HL.out HP.out HR.out hr2 hk2, HK.out.trans (hk2.more (S' := fun j => ∃ p ∈ ps, blkOf p.A = some j) (fun i _ e => ⟨_, List.mem_of_getElem? HP.out, e⟩)) (fun _ _ e => e)⟩, by simp [intOf]; omega⟩
      | got m b =>
        have HC := Lib.hid (rowGot_write A n d m b wr hrp)
        simp only [PgV.val] at z1
        clear hrp
        go_wp2_with (go_at_call 213; go_must (refine HC.out.mono ?_); rintro e w2 ⟨rfl, hr2, hk2⟩)
        exact ⟨⟨q + 1, by go_num, by omega, PgV.step HL.out HP.out HR.out hr2 hk2, HK.out.trans (hk2.more (S' := fun j => ∃ p ∈ ps, blkOf p.A = some j) (fun i _ e => ⟨_, List.mem_of_getElem? HP.out, e⟩)) (fun _ _ e => e)⟩, by simp [intOf]; omega⟩
    · obtain rfl : q = ps.length := by omega
      have hd1 : decide ((ps.length : Int) < (ps.length : Int)) = false := decide_eq_false (by omega)
      clear hz
      go_wp2_with fail
      go_loopw [4] (fun i wr => ∃ q : Nat, i = .int .i64 q ∧ q ≤ ps.length ∧ (∀ (i : Nat) (p : PgV), ps[i]? = some p → p.row wr (if i < q then 1 + 1 else 1)) ∧ Kp (fun j => ∃ p ∈ ps, blkOf p.A = some j) w wr) (fun i _ => ps.length - (intOf i).toNat)
      case atStart => exact ⟨0, rfl, by omega, fun i p hp => by rw [if_neg (by omega)]; have := HR.out i p hp; rw [if_pos (by have := (List.getElem?_eq_some_iff.1 hp).1; omega)] at this; exact this, HK.out⟩
      case round =>
        obtain ⟨q, rfl, hq, hrow, hk⟩ := hrel
        obtain ⟨z0, hz⟩ := HK0.out _ hk
        replace HK := Lib.hid hk
        replace HR := Lib.hid hrow
        clear hk hrow
        by_cases hlt : q < ps.length
        · obtain ⟨p, hp⟩ : ∃ p, ps[q]? = some p := ⟨_, List.getElem?_eq_getElem hlt⟩
          have z1 := hz q p hp
          have hrp := HR.out q p hp
          rw [if_neg (by omega)] at hrp
          have HP := Lib.hid hp
          have hd1 : decide ((q : Int) < (ps.length : Int)) = true := decide_eq_true (by omega)
          clear hz hp
          obtain ⟨A, n, d, kind⟩ := p
          cases kind with
          | byte m b =>
            have HC := Lib.hid (rowByte_writeBehind A n d m b wr hrp)
            simp only [PgV.val] at z1
            clear hrp
            go_wp2_with (go_at_call 237; go_must (refine HC.out.mono ?_); rintro e w2 ⟨rfl, hr2, hk2⟩)
            exact ⟨⟨q + 1, by go_num, by omega, PgV.step HL.out HP.out HR.out hr2 hk2, HK.out.trans (hk2.more (S' := fun j => ∃ p ∈ ps, blkOf p.A = some j) (fun i _ e => ⟨_, List.mem_of_getElem? HP.out, e⟩)) (fun _ _ e => e)⟩, by simp [intOf]; omega⟩
          | got m b =>
            have HC := Lib.hid (rowGot_writeBehind A n d m b wr hrp)
            simp only [PgV.val] at z1
            clear hrp
            go_wp2_with (go_at_call 214; go_must (refine HC.out.mono ?_); rintro e w2 ⟨rfl, hr2, hk2⟩)
            exact ⟨⟨q + 1, by go_num, by omega, PgV.step HL.out HP.out HR.out hr2 hk2, HK.out.trans (hk2.more (S' := fun j => ∃ p ∈ ps, blkOf p.A = some j) (fun i _ e => ⟨_, List.mem_of_getElem? HP.out, e⟩)) (fun _ _ e => e)⟩, by simp [intOf]; omega⟩
        · obtain rfl : q = ps.length := by omega
          have hd1 : decide ((ps.length : Int) < (ps.length : Int)) = false := decide_eq_false (by omega)
          clear hz
          go_wp2_with fail
          go_loopw [5] (fun i wr => ∃ q : Nat, i = .int .i64 q ∧ q ≤ ps.length ∧ (∀ (i : Nat) (p : PgV), ps[i]? = some p → p.row wr (if i < q then 2 else 2)) ∧ Kp (fun j => ∃ p ∈ ps, blkOf p.A = some j) w wr) (fun i _ => ps.length - (intOf i).toNat)
          case atStart => exact ⟨0, rfl, by omega, fun i p hp => by rw [if_neg (by omega)]; have := HR.out i p hp; rw [if_pos (by have := (List.getElem?_eq_some_iff.1 hp).1; omega)] at this; exact this, HK.out⟩
          case round =>
            obtain ⟨q, rfl, hq, hrow, hk⟩ := hrel
            obtain ⟨z0, hz⟩ := HK0.out _ hk
            replace HK := Lib.hid hk
            replace HR := Lib.hid hrow
            clear hk hrow
            by_cases hlt : q < ps.length
            · obtain ⟨p, hp⟩ : ∃ p, ps[q]? = some p := ⟨_, List.getElem?_eq_getElem hlt⟩
              have z1 := hz q p hp
              have hrp := HR.out q p hp
              rw [if_neg (by omega)] at hrp
              have HP := Lib.hid hp
              have hd1 : decide ((q : Int) < (ps.length : Int)) = true := decide_eq_true (by omega)
              clear hz hp
              obtain ⟨A, n, d, kind⟩ := p
              cases kind with
              | byte m b =>
                have HC := Lib.hid (rowByte_stands A n d m b wr hrp)
                simp only [PgV.val] at z1
                clear hrp
                go_wp2_with (go_at_call 235; go_must (refine HC.out.mono ?_); rintro e w2 ⟨rfl, hk2⟩)
                exact ⟨⟨q + 1, by go_num, by omega, fun i p hp => by rw [ite_self]; have := HR.out i p hp; rw [ite_self] at this; exact PgV.row_kp this hk2 (fun _ _ => id), HK.out.nw hk2⟩, by simp [intOf]; omega⟩
              | got m b =>
                have HC := Lib.hid (rowGot_stands A n d m b wr hrp)
                simp only [PgV.val] at z1
                clear hrp
                go_wp2_with (go_at_call 212; go_must (refine HC.out.mono ?_); rintro e w2 ⟨rfl, hk2⟩)
                exact ⟨⟨q + 1, by go_num, by omega, fun i p hp => by rw [ite_self]; have := HR.out i p hp; rw [ite_self] at this; exact PgV.row_kp this hk2 (fun _ _ => id), HK.out.nw hk2⟩, by simp [intOf]; omega⟩
            · obtain rfl : q = ps.length := by omega
              have hd1 : decide ((ps.length : Int) < (ps.length : Int)) = false := decide_eq_false (by omega)
              clear hz
              go_wp2_with fail
              go_ret
              exact ⟨rfl, HK.out⟩
end Go.Proofs.Ytiimdnachgkomaa
