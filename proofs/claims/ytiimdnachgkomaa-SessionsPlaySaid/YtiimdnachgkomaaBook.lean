/- The book of package sessions as bytes: what is put, and what is got of bytes. No program in sight. -/
import Derived.Test.YtiimdnachgkomaaPk3
namespace Go.Proofs.Ytiimdnachgkomaa
/-- A page, plain. -/
structure PgP where
  num : UInt64
  rep : RepP
  deriving DecidableEq
def PgP.none : PgP := ⟨0, ⟨0, 0, []⟩⟩
def noPls : List PgP := List.replicate 8 PgP.none
def encPage (i : Nat) (p : PgP) : Bytes := if p.num = 0 then [] else [UInt8.ofNat (i + 1)] ++ encNum p.num.toNat ++ encNum (encReply p.rep).length ++ encReply p.rep
/-- The pages from page i on. -/
def encPages : Nat → List PgP → Bytes
  | _, [] => []
  | i, p :: ps => encPage i p ++ encPages (i + 1) ps
def cntPages (ps : List PgP) : Nat := (ps.filter fun p => decide (p.num ≠ 0)).length
def encBook (ps : List PgP) : Bytes := UInt8.ofNat (cntPages ps) :: encPages 0 ps

theorem encPages_append (ps qs : List PgP) : ∀ i, encPages i (ps ++ qs) = encPages i ps ++ encPages (i + ps.length) qs := by
  induction ps with
  | nil => intro i; simp [encPages]
  | cons p ps ih =>
    intro i
    simp only [List.cons_append, encPages, ih, List.append_assoc, List.length_cons]
    rw [show i + 1 + ps.length = i + (ps.length + 1) by omega]
theorem cntPages_append (ps qs : List PgP) : cntPages (ps ++ qs) = cntPages ps + cntPages qs := by
  unfold cntPages; rw [List.filter_append, List.length_append]
theorem cntPages_le (ps : List PgP) : cntPages ps ≤ ps.length := List.length_filter_le _ _
theorem encReply_len {x : RepP} (h : x.got.length ≤ 8) : (encReply x).length ≤ 470 := by
  unfold encReply
  have h1 := encS_len x.e
  have h2 := encS_len x.at_
  have h3 := encList_len encGot encGot_len x.got (Nat.lt_of_le_of_lt h (by decide))
  simp only [List.length_append]
  omega
theorem encReply_pos (x : RepP) : 1 ≤ (encReply x).length := by
  unfold encReply
  have := encList_pos encGot x.got
  simp only [List.length_append]
  omega
theorem encPage_len (i : Nat) {p : PgP} (h : p.rep.got.length ≤ 8) : (encPage i p).length ≤ 500 := by
  unfold encPage
  split
  · simp
  · have h1 := encReply_len h
    have h2 := encNum_len10 (n := p.num.toNat) p.num.toNat_lt
    have h3 := encNum_len10 (n := (encReply p.rep).length) (Nat.lt_of_le_of_lt h1 (by decide))
    simp only [List.length_append, List.length_cons, List.length_nil]
    omega
theorem encPages_len : ∀ (ps : List PgP) (i : Nat), (∀ p ∈ ps, p.rep.got.length ≤ 8) → (encPages i ps).length ≤ ps.length * 500
  | [], _, _ => by simp [encPages]
  | p :: ps, i, h => by
    have h1 := encPage_len i (h p (by simp))
    have h2 := encPages_len ps (i + 1) (fun q hq => h q (by simp [hq]))
    simp only [encPages, List.length_append, List.length_cons, Nat.add_mul]
    omega

/-- One page of bytes: the client, his number, the reply, and what is left. -/
def pOne : Bytes → Option (UInt8 × Nat × RepP × Bytes)
  | [] => none
  | c :: r => match pNum r with
    | .error _ => none
    | .ok (num, r1) => match pNum r1 with
      | .error _ => none
      | .ok (long, r2) =>
        if num = 0 ∨ r2.length < long then none else
        match pAll pReply (r2.take long) with
        | .error _ => none
        | .ok rep => some (c, num, rep, r2.drop long)
/-- A page that may be noted: the pages behind. -/
def noteP (ps : List PgP) (c : UInt8) (num : Nat) (rep : RepP) : Option (List PgP) :=
  if 1 ≤ c.toNat ∧ c.toNat ≤ 8 ∧ ((ps[c.toNat - 1]?).map fun p => decide (p.num.toNat < num)) = some true then some (ps.set (c.toNat - 1) ⟨UInt64.ofNat num, rep⟩) else none
/-- So many pages, of clients behind one. -/
def pPages : Nat → UInt8 → List PgP → Bytes → Option (List PgP)
  | 0, _, ps, [] => some ps
  | 0, _, _, _ :: _ => none
  | m + 1, last, ps, l => match pOne l with
    | none => none
    | some (c, num, rep, r) => match noteP ps c num rep with
      | none => none
      | some ps2 => if c.toNat ≤ last.toNat then none else pPages m c ps2 r
def pBook : Bytes → Option (List PgP)
  | [] => none
  | c :: r => pPages c.toNat 0 noPls r

theorem pOne_back (i : Nat) (_hi : i < 8) {p : PgP} (hn : p.num ≠ 0) (ho : okReply p.rep) (r : Bytes) : pOne (encPage i p ++ r) = some (UInt8.ofNat (i + 1), p.num.toNat, p.rep, r) := by
  have h1 := encReply_len (x := p.rep) ho
  have h0 : p.num.toNat ≠ 0 := fun e => hn (UInt64.toNat_inj.1 (by simpa using e))
  have h2 : pNum (encNum p.num.toNat ++ (encNum (encReply p.rep).length ++ (encReply p.rep ++ r))) = .ok (p.num.toNat, encNum (encReply p.rep).length ++ (encReply p.rep ++ r)) := codec_num.back _ _ p.num.toNat_lt
  have h3 : pNum (encNum (encReply p.rep).length ++ (encReply p.rep ++ r)) = .ok ((encReply p.rep).length, encReply p.rep ++ r) := codec_num.back _ _ (Nat.lt_of_le_of_lt h1 (by decide))
  unfold encPage
  rw [if_neg hn]
  simp only [List.append_assoc, List.cons_append, List.nil_append, pOne, h2, h3]
  rw [if_neg (by simp [h0])]
  rw [List.take_left' rfl, List.drop_left' rfl, codec_reply.all_back _ ho]

theorem u8_of {n : Nat} (h : n < 256) : (UInt8.ofNat n).toNat = n := by rw [UInt8.toNat_ofNat', Nat.mod_eq_of_lt (by omega)]
theorem PgP.none_num : PgP.none.num.toNat = 0 := rfl

/-- What is put of pages is got as these. -/
theorem pPages_back : ∀ (qs ps : List PgP) (last : UInt8), ps.length + qs.length = 8 → last.toNat ≤ ps.length → (∀ q ∈ qs, okReply q.rep ∧ (q.num = 0 → q = PgP.none)) →
    pPages (cntPages qs) last (ps ++ List.replicate qs.length PgP.none) (encPages ps.length qs) = some (ps ++ qs)
  | [], ps, last, _, _, _ => by simp [cntPages, encPages, pPages]
  | q :: qs, ps, last, hl, hlast, hq => by
    obtain ⟨ho, hz⟩ := hq q (by simp)
    simp only [List.length_cons] at hl
    by_cases hn : q.num = 0
    · have e := hz hn
      have ih := pPages_back qs (ps ++ [q]) last (by simp; omega) (by simp; omega) (fun x hx => hq x (by simp [hx]))
      have ec : cntPages (q :: qs) = cntPages qs := by simp [cntPages, hn]
      have ee : encPages ps.length (q :: qs) = encPages (ps ++ [q]).length qs := by simp [encPages, encPage, hn]
      rw [ec, ee]
      simp only [List.append_assoc, List.cons_append, List.nil_append] at ih
      rw [← ih, List.length_cons, List.replicate_succ]
      congr 1
      simp [e]
    · have ec : cntPages (q :: qs) = cntPages qs + 1 := by simp [cntPages, hn]
      have h0 : q.num.toNat ≠ 0 := fun e => hn (UInt64.toNat_inj.1 (by simpa using e))
      have e1 : (UInt8.ofNat (ps.length + 1)).toNat = ps.length + 1 := u8_of (by omega)
      have ih := pPages_back qs (ps ++ [q]) (UInt8.ofNat (ps.length + 1)) (by simp; omega) (by rw [e1]; simp) (fun x hx => hq x (by simp [hx]))
      rw [ec]
      simp only [pPages, encPages]
      rw [pOne_back ps.length (by omega) hn ho]
      simp only []
      have hno : noteP (ps ++ List.replicate (q :: qs).length PgP.none) (UInt8.ofNat (ps.length + 1)) q.num.toNat q.rep = some (ps ++ [q] ++ List.replicate qs.length PgP.none) := by
        unfold noteP
        rw [e1]
        rw [if_pos]
        · congr 1
          simp only [Nat.add_sub_cancel, List.length_cons, List.replicate_succ]
          rw [List.set_append_right _ _ (Nat.le_refl _)]
          simp
        · refine ⟨by omega, by omega, ?_⟩
          simp only [Nat.add_sub_cancel, List.length_cons, List.replicate_succ]
          rw [List.getElem?_append_right (Nat.le_refl _)]
          simp [PgP.none]
          omega
      rw [hno]
      simp only []
      rw [if_neg (by rw [e1]; omega)]
      simp only [List.append_assoc, List.cons_append, List.nil_append, List.length_append, List.length_cons, List.length_nil] at ih ⊢
      exact ih
theorem pBook_back (ps : List PgP) (h : ps.length = 8) (hq : ∀ q ∈ ps, okReply q.rep ∧ (q.num = 0 → q = PgP.none)) : pBook (encBook ps) = some ps := by
  have := pPages_back ps [] 0 (by simpa using h) (Nat.le_refl _) hq
  simp only [List.length_nil, List.nil_append] at this
  unfold encBook pBook noPls
  simp only []
  rw [u8_of (by have := cntPages_le ps; omega), ← this, h]
end Go.Proofs.Ytiimdnachgkomaa
