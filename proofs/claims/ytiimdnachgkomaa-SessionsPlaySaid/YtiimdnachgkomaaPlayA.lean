/- SessionsPlay: both books, of the same pages: Note, Last, Ask, of whatever client. -/
import Derived.Test.YtiimdnachgkomaaR25c
import Derived.Test.YtiimdnachgkomaaGreat25
import Derived.Test.YtiimdnachgkomaaLives25
namespace Go.Proofs.Ytiimdnachgkomaa
open Go Go.RowKit
def RepV.rp (r : RepV) : RepP := ⟨r.e, r.at_, r.got.l⟩
/-- Block g is the program's book of these pages, whose lists lie neither in block h nor where F says. -/
structure PlA (w : World) (g h : Nat) (F : Nat → Prop) (pls : List PgP) : Prop where
  is : ∃ ps, Bk w g ps ∧ ps.map Pg.pl = pls ∧ ∀ (i : Nat) (p : Pg), ps[i]? = some p → 0 < p.got.l.length → ∀ k, blkOf p.got.A = some k → k ≠ h ∧ ¬ F k
/-- Block h is the document's. -/
structure PlB (w : World) (h g : Nat) (F : Nat → Prop) (pls : List PgP) : Prop where
  is : ∃ ns rs, RBk w h ns rs ∧ (∀ (i : Nat) (p : PgP), pls[i]? = some p → ns[i + 1]? = some p.num ∧ ∃ r, rs[i + 1]? = some r ∧ r.rp = p.rep) ∧ ∀ (i : Nat) (r : RepV), rs[i]? = some r → 0 < r.got.l.length → ∀ k, blkOf r.got.A = some k → k ≠ g ∧ ¬ F k
section
variable {w w' : World} {g h : Nat} {F S : Nat → Prop} {pls : List PgP}
theorem PlA.kp (ha : PlA w g h F pls) (hk : Kp S w w') (hs : ∀ k, S k → k < w.heap.size → k ≠ g ∧ (k = h ∨ F k)) : PlA w' g h F pls := by
  obtain ⟨ps, hb, hp, hf⟩ := ha.is
  refine ⟨ps, ⟨hb.blk.kp hk (fun e => (hs g e hb.blk.lt).1 rfl), hb.len, fun i p hi => ?_⟩, hp, hf⟩
  obtain ⟨h1, h2, h3⟩ := hb.each i p hi
  refine ⟨h1.kp hk (fun hn k hk' e => ?_), h2, h3⟩
  obtain ⟨k', e1, e2⟩ := h1.blk_lt hn (by omega)
  rw [e1] at hk'
  injection hk' with hk'
  subst hk'
  obtain ⟨a1, a2⟩ := hf i p hi hn _ e1
  rcases (hs _ e e2).2 with e3 | e3
  · exact a1 e3
  · exact a2 e3
theorem PlB.kp (ha : PlB w h g F pls) (hk : Kp S w w') (hs : ∀ k, S k → k < w.heap.size → k ≠ h ∧ (k = g ∨ F k)) : PlB w' h g F pls := by
  obtain ⟨ns, rs, hb, hp, hf⟩ := ha.is
  refine ⟨ns, rs, ⟨hb.blk.kp hk (fun e => (hs h e hb.blk.lt).1 rfl), hb.nl, hb.rl, fun i p hi => ?_⟩, hp, hf⟩
  obtain ⟨h1, h2, h3⟩ := hb.each i p hi
  refine ⟨h1.kp hk (fun hn k hk' e => ?_), h2, h3⟩
  obtain ⟨k', e1, e2⟩ := h1.blk_lt hn (by omega)
  rw [e1] at hk'
  injection hk' with hk'
  subst hk'
  obtain ⟨a1, a2⟩ := hf i p hi hn _ e1
  rcases (hs _ e e2).2 with e3 | e3
  · exact a1 e3
  · exact a2 e3
theorem PlA.nw (ha : PlA w g h F pls) (hk : Nw w w') : PlA w' g h F pls := ha.kp hk (fun _ e => e.elim)
theorem PlB.nw (ha : PlB w h g F pls) (hk : Nw w w') : PlB w' h g F pls := ha.kp hk (fun _ e => e.elim)
theorem PlA.avoid {F' : Nat → Prop} (ha : PlA w g h F pls) (hF : ∀ k, k < w.heap.size → F' k → F k) : PlA w g h F' pls := by
  obtain ⟨ps, hb, hp, hf⟩ := ha.is
  refine ⟨ps, hb, hp, fun i p hi hn k hk => ⟨(hf i p hi hn k hk).1, fun e => (hf i p hi hn k hk).2 (hF k ?_ e)⟩⟩
  obtain ⟨k', e1, e2⟩ := (hb.each i p hi).1.blk_lt hn (by omega)
  rw [e1] at hk; injection hk with hk; omega
theorem PlB.avoid {F' : Nat → Prop} (ha : PlB w h g F pls) (hF : ∀ k, k < w.heap.size → F' k → F k) : PlB w h g F' pls := by
  obtain ⟨ns, rs, hb, hp, hf⟩ := ha.is
  refine ⟨ns, rs, hb, hp, fun i p hi hn k hk => ⟨(hf i p hi hn k hk).1, fun e => (hf i p hi hn k hk).2 (hF k ?_ e)⟩⟩
  obtain ⟨k', e1, e2⟩ := (hb.each i p hi).1.blk_lt hn (by omega)
  rw [e1] at hk; injection hk with hk; omega
theorem PlA.lt (ha : PlA w g h F pls) : g < w.heap.size := by obtain ⟨ps, hb, _⟩ := ha.is; exact hb.blk.lt
theorem PlB.lt (ha : PlB w h g F pls) : h < w.heap.size := by obtain ⟨ns, rs, hb, _⟩ := ha.is; exact hb.blk.lt
theorem PlA.len (ha : PlA w g h F pls) : pls.length = 8 := by obtain ⟨ps, hb, hp, _⟩ := ha.is; rw [← hp, List.length_map, hb.len]
theorem PlA.rep (ha : PlA w g h F pls) : ∀ q ∈ pls, okReply q.rep := by
  obtain ⟨ps, hb, hp, _⟩ := ha.is
  intro q hq
  rw [← hp] at hq
  obtain ⟨p, hp', rfl⟩ := List.mem_map.1 hq
  obtain ⟨i, hi⟩ := List.mem_iff_getElem?.1 hp'
  exact (hb.each i p hi).2.1
end
/-- What Note answers, and the pages behind. -/
def nCode (pls : List PgP) (c : UInt8) (num : UInt64) (n : Nat) : Nat :=
  if isCl c = false ∨ 8 < n then 1 else match pls[c.toNat - 1]? with
    | some p => if num.toNat ≤ p.num.toNat then 18 else 0
    | none => 0
def nPls (pls : List PgP) (c : UInt8) (num : UInt64) (r : RepP) : List PgP := if nCode pls c num r.got.length = 0 then pls.set (c.toNat - 1) ⟨num, r⟩ else pls
theorem nPls_len (pls : List PgP) (c : UInt8) (num : UInt64) (r : RepP) : (nPls pls c num r).length = pls.length := by unfold nPls; split <;> simp
theorem cl_ix {c : UInt8} (h : isCl c = true) : ∃ i, i < 8 ∧ c.toNat = i + 1 := by
  obtain ⟨h1, h2⟩ := of_decide_eq_true h
  exact ⟨c.toNat - 1, by omega, by omega⟩
def NoteA (g h : Nat) (F : Nat → Prop) (pls : List PgP) (c : UInt8) (num : UInt64) (r : RepP) (w : World) (e : Ending) (w' : World) : Prop :=
  e = .returned (.int .i64 (nCode pls c num r.got.length)) ∧ PlA w' g h F (nPls pls c num r) ∧ Kp (fun j => j = g) w w'
def NoteB (g h : Nat) (F : Nat → Prop) (pls : List PgP) (c : UInt8) (num : UInt64) (r : RepP) (w : World) (e : Ending) (w' : World) : Prop :=
  e = .returned (.int .i64 (nCode pls c num r.got.length)) ∧ PlB w' h g F (nPls pls c num r) ∧ Kp (fun j => j = h) w w'
theorem Note_A {w : World} {g h : Nat} {F : Nat → Prop} {pls : List PgP} (ha : PlA w g h F pls) (hh : h < w.heap.size) (hF : ∀ k, F k → k < w.heap.size) (c : UInt8) (num : UInt64) (e at_ : Int64) (B : Option Addr) (d : Nat) (l : List Got) (hr : RdG w B d l) :
    Calls Try.prog 39 #[.pointer (some ⟨g, 0, none⟩), .int .u8 c.toNat, .int .u64 num.toNat, .agg #[.int .i64 e.toInt, .int .i64 at_.toInt, .slice B l.length d]] w (NoteA g h F pls c num ⟨e, at_, l⟩ w) := by
  obtain ⟨ps, hb, hp, hf⟩ := ha.is
  by_cases hc : isCl c = true
  · obtain ⟨i, hi, hci⟩ := cl_ix hc
    obtain ⟨p, hpi⟩ : ∃ p, ps[i]? = some p := ⟨_, List.getElem?_eq_getElem (by rw [hb.len]; exact hi)⟩
    have hpl : pls[c.toNat - 1]? = some p.pl := by rw [hci, Nat.add_sub_cancel, ← hp, List.getElem?_map, hpi]; rfl
    rw [show (c.toNat : Int) = ((i + 1 : Nat) : Int) by rw [hci]]
    by_cases h8 : 8 < l.length
    · have e1 : nCode pls c num l.length = 1 := by unfold nCode; rw [if_pos (.inr h8)]
      have e2 : nPls pls c num ⟨e, at_, l⟩ = pls := by unfold nPls; simp only []; rw [e1, if_neg (by decide)]
      refine (Note_arg g ps i hi num.toNat _ _ _ _ _ w hb h8).mono ?_
      rintro e w' ⟨rfl, hk⟩
      exact ⟨by simp only []; rw [e1], by rw [e2]; exact ha.nw hk, hk.kp⟩
    · by_cases hn : num.toNat ≤ p.num.toNat
      · have e1 : nCode pls c num l.length = 18 := by unfold nCode; rw [if_neg (by rw [hc]; simp; omega), hpl]; exact if_pos hn
        have e2 : nPls pls c num ⟨e, at_, l⟩ = pls := by unfold nPls; simp only []; rw [e1, if_neg (by decide)]
        refine (Note_old g ps i p hpi num _ _ _ _ _ w hb (by omega) hn).mono ?_
        rintro e w' ⟨rfl, hk⟩
        exact ⟨by simp only []; rw [e1], by rw [e2]; exact ha.nw hk, hk.kp⟩
      · have e1 : nCode pls c num l.length = 0 := by unfold nCode; rw [if_neg (by rw [hc]; simp; omega), hpl]; exact if_neg hn
        have e2 : nPls pls c num ⟨e, at_, l⟩ = pls.set (c.toNat - 1) ⟨num, e, at_, l⟩ := by unfold nPls; simp only []; rw [e1, if_pos rfl]
        refine (Note_ok g ps i p hpi num e at_ B d l w hb hr (by omega) (by omega)).mono ?_
        rintro e' w' ⟨A2, rfl, hb2, ho2, hk⟩
        refine ⟨by simp only []; rw [e1]; rfl, ⟨_, hb2, ?_, fun j q hq hl k hk' => ?_⟩, hk⟩
        · rw [e2, List.map_set, hp, hci, Nat.add_sub_cancel]; rfl
        · rw [List.getElem?_set] at hq
          split at hq
          · split at hq
            · injection hq with hq
              subst hq
              have := (ho2.lt k hk').1
              exact ⟨by omega, fun e => by have := hF k e; omega⟩
            · cases hq
          · exact hf j q hq hl k hk'
  · have hc' : isCl c = false := by simpa using hc
    have e1 : nCode pls c num l.length = 1 := by unfold nCode; rw [if_pos (.inl hc')]
    have e2 : nPls pls c num ⟨e, at_, l⟩ = pls := by unfold nPls; simp only []; rw [e1, if_neg (by decide)]
    refine (Note_err (some ⟨g, 0, none⟩) c num.toNat _ _ _ _ _ 1 (.inl rfl) w (fun w1 hk => page_arg g ps c w1 (hb.nw hk) ?_)).mono ?_
    · have := of_decide_eq_false hc'; omega
    rintro e w' ⟨rfl, hk⟩
    exact ⟨by simp only []; rw [e1], by rw [e2]; exact ha.nw hk, hk.kp⟩
theorem Note_B {w : World} {g h : Nat} {F : Nat → Prop} {pls : List PgP} (ha : PlB w h g F pls) (hlen : pls.length = 8) (hg : g < w.heap.size) (hF : ∀ k, F k → k < w.heap.size) (c : UInt8) (num : UInt64) (e at_ : Int64) (B : Option Addr) (d : Nat) (l : List Got) (hr : RdG w B d l) (hB : 0 < l.length → blkOf B ≠ some h) :
    Calls Try.prog 40 #[.pointer (some ⟨h, 0, none⟩), .int .u8 c.toNat, .int .u64 num.toNat, .agg #[.int .i64 e.toInt, .int .i64 at_.toInt, .slice B l.length d]] w (NoteB g h F pls c num ⟨e, at_, l⟩ w) := by
  obtain ⟨ns, rs, hb, hp, hf⟩ := ha.is
  by_cases hc8 : isCl c = false ∨ 8 < l.length
  · have e1 : nCode pls c num l.length = 1 := by unfold nCode; rw [if_pos hc8]
    have e2 : nPls pls c num ⟨e, at_, l⟩ = pls := by unfold nPls; simp only []; rw [e1, if_neg (by decide)]
    refine (RNote_arg (some ⟨h, 0, none⟩) c num.toNat _ _ _ _ _ w hc8).mono ?_
    rintro e w' ⟨rfl, hk⟩
    exact ⟨by simp only []; rw [e1], by rw [e2]; exact ha.nw hk, hk.kp⟩
  · have hc : isCl c = true := by
      cases h : isCl c with
      | true => rfl
      | false => exact absurd (.inl h) hc8
    have h8 : l.length ≤ 8 := by
      rcases Nat.lt_or_ge 8 l.length with h | h
      · exact absurd (.inr h) hc8
      · exact h
    obtain ⟨i, hi, hci⟩ := cl_ix hc
    obtain ⟨p, hpl⟩ : ∃ p, pls[i]? = some p := ⟨_, List.getElem?_eq_getElem (by omega)⟩
    obtain ⟨hn0, r0, hr0, hrp0⟩ := hp i p hpl
    have hpl' : pls[c.toNat - 1]? = some p := by rw [hci, Nat.add_sub_cancel]; exact hpl
    rw [← hci] at hn0 hr0
    by_cases hn : num.toNat ≤ p.num.toNat
    · have e1 : nCode pls c num l.length = 18 := by unfold nCode; rw [if_neg hc8, hpl']; exact if_pos hn
      have e2 : nPls pls c num ⟨e, at_, l⟩ = pls := by unfold nPls; simp only []; rw [e1, if_neg (by decide)]
      refine (RNote_old h ns rs c num p.num _ _ _ _ _ w hb hc h8 hn0 hn).mono ?_
      rintro e w' ⟨rfl, hk⟩
      exact ⟨by simp only []; rw [e1], by rw [e2]; exact ha.nw hk, hk.kp⟩
    · have e1 : nCode pls c num l.length = 0 := by unfold nCode; rw [if_neg hc8, hpl']; exact if_neg hn
      have e2 : nPls pls c num ⟨e, at_, l⟩ = pls.set (c.toNat - 1) ⟨num, e, at_, l⟩ := by unfold nPls; simp only []; rw [e1, if_pos rfl]
      refine (RNote_ok h ns rs c num p.num e at_ B d l w hb hc hr hB h8 hn0 (by omega)).mono ?_
      rintro e' w' ⟨A2, c2, rfl, hb2, ho2, hk⟩
      refine ⟨by simp only []; rw [e1]; rfl, ⟨_, _, hb2, fun j q hq => ?_, fun j q hq hl k hk' => ?_⟩, hk⟩
      · rw [e2, hci, Nat.add_sub_cancel, List.getElem?_set] at hq
        rw [hci]
        split at hq
        · next hij =>
          subst hij
          split at hq
          · injection hq with hq
            subst hq
            have h1 := hb.nl
            have h2 := hb.rl
            refine ⟨by rw [List.getElem?_set]; simp; omega, ⟨e, at_, ⟨l, A2, c2⟩⟩, by rw [List.getElem?_set]; simp; omega, rfl⟩
          · cases hq
        · next hij =>
          obtain ⟨q1, q2, q3, q4⟩ := hp j q hq
          exact ⟨by rw [List.getElem?_set, if_neg (by omega)]; exact q1, q2, by rw [List.getElem?_set, if_neg (by omega)]; exact q3, q4⟩
      · rw [List.getElem?_set] at hq
        split at hq
        · split at hq
          · injection hq with hq
            subst hq
            have := (ho2.lt k hk').1
            exact ⟨by omega, fun e => by have := hF k e; omega⟩
          · cases hq
        · exact hf j q hq hl k hk'
/-- The last number of a client. -/
def lastOf (pls : List PgP) (c : UInt8) : Nat := if isCl c then match pls[c.toNat - 1]? with
    | some p => p.num.toNat
    | none => 0 else 0
theorem Last_A {w : World} {g h : Nat} {F : Nat → Prop} {pls : List PgP} (ha : PlA w g h F pls) (c : UInt8) :
    Calls Try.prog 42 #[.pointer (some ⟨g, 0, none⟩), .int .u8 c.toNat] w fun e w' => e = .returned (.int .u64 (lastOf pls c)) ∧ w' = w := by
  obtain ⟨ps, hb, hp, hf⟩ := ha.is
  by_cases hc : isCl c = true
  · obtain ⟨i, hi, hci⟩ := cl_ix hc
    obtain ⟨p, hpi⟩ : ∃ p, ps[i]? = some p := ⟨_, List.getElem?_eq_getElem (by rw [hb.len]; exact hi)⟩
    have hpl : pls[c.toNat - 1]? = some p.pl := by rw [hci, Nat.add_sub_cancel, ← hp, List.getElem?_map, hpi]; rfl
    have e1 : lastOf pls c = p.num.toNat := by unfold lastOf; rw [if_pos hc, hpl]; rfl
    rw [show (c.toNat : Int) = ((i + 1 : Nat) : Int) by rw [hci], e1]
    exact Last_ok g ps i p hpi w hb
  · have hc' : isCl c = false := by simpa using hc
    have e1 : lastOf pls c = 0 := by unfold lastOf; rw [if_neg hc]
    rw [e1]
    exact Last_err (some ⟨g, 0, none⟩) c 1 (.inl rfl) w (page_arg g ps c w hb (by have := of_decide_eq_false hc'; omega))
/-- What Ask answers. -/
def askOf (pls : List PgP) (c : UInt8) (num : UInt64) : RepP × Bool × Nat :=
  if isCl c then match pls[c.toNat - 1]? with
    | some p => if p.num.toNat < num.toNat then (⟨0, 0, []⟩, false, 0) else if num = p.num ∧ num.toNat ≠ 0 then (p.rep, true, 0) else (⟨0, 0, []⟩, false, 18)
    | none => (⟨0, 0, []⟩, false, 1) else (⟨0, 0, []⟩, false, 1)
def AskA (a : RepP × Bool × Nat) (w : World) (e : Ending) (w' : World) : Prop :=
  ∃ A2 c2, e = .returned (.tuple #[.agg #[.int .i64 a.1.e.toInt, .int .i64 a.1.at_.toInt, .slice A2 a.1.got.length c2], .bool a.2.1, .int .i64 a.2.2]) ∧ OwnG w' w.heap.size A2 c2 a.1.got ∧ Nw w w'
def AskB (a : RepP × Bool × Nat) (w : World) (e : Ending) (w' : World) : Prop :=
  ∃ A2 c2, e = .returned (.tuple #[.agg #[.int .i64 a.1.e.toInt, .int .i64 a.1.at_.toInt, .slice A2 a.1.got.length c2], .bool a.2.1, .int .i64 a.2.2]) ∧ RdG w' A2 c2 a.1.got ∧ Nw w w'
theorem Ask_A {w : World} {g h : Nat} {F : Nat → Prop} {pls : List PgP} (ha : PlA w g h F pls) (c : UInt8) (num : UInt64) :
    Calls Try.prog 43 #[.pointer (some ⟨g, 0, none⟩), .int .u8 c.toNat, .int .u64 num.toNat] w (AskA (askOf pls c num) w) := by
  obtain ⟨ps, hb, hp, hf⟩ := ha.is
  by_cases hc : isCl c = true
  · obtain ⟨i, hi, hci⟩ := cl_ix hc
    obtain ⟨p, hpi⟩ : ∃ p, ps[i]? = some p := ⟨_, List.getElem?_eq_getElem (by rw [hb.len]; exact hi)⟩
    have hpl : pls[c.toNat - 1]? = some p.pl := by rw [hci, Nat.add_sub_cancel, ← hp, List.getElem?_map, hpi]; rfl
    rw [show (c.toNat : Int) = ((i + 1 : Nat) : Int) by rw [hci]]
    by_cases hlt : p.num.toNat < num.toNat
    · have e1 : askOf pls c num = (⟨0, 0, []⟩, false, 0) := by unfold askOf; rw [if_pos hc, hpl]; exact if_pos hlt
      rw [e1]
      refine (Ask_new g ps i p hpi num w hb hlt).mono ?_
      rintro e w' ⟨rfl, hk⟩
      exact ⟨none, 0, rfl, Own.nil _ _ _ 2, hk⟩
    · by_cases he : num = p.num ∧ num.toNat ≠ 0
      · have e1 : askOf pls c num = (p.pl.rep, true, 0) := by unfold askOf; rw [if_pos hc, hpl]; simp only []; rw [if_neg (show ¬ p.pl.num.toNat < num.toNat from hlt)]; exact if_pos he
        rw [e1]
        refine (Ask_is g ps i p hpi num w hb he.1 he.2).mono ?_
        rintro e w' ⟨A2, rfl, ho, hk⟩
        exact ⟨A2, _, rfl, ho, hk⟩
      · have e1 : askOf pls c num = (⟨0, 0, []⟩, false, 18) := by unfold askOf; rw [if_pos hc, hpl]; simp only []; rw [if_neg (show ¬ p.pl.num.toNat < num.toNat from hlt)]; exact if_neg he
        rw [e1]
        refine (Ask_old g ps i p hpi num w hb ?_).mono ?_
        · rcases Nat.lt_or_ge num.toNat p.num.toNat with h1 | h1
          · exact .inl h1
          · refine .inr (Classical.byContradiction fun h0 => he ⟨UInt64.toNat.inj (by omega), h0⟩)
        rintro e w' ⟨rfl, hk⟩
        exact ⟨none, 0, rfl, Own.nil _ _ _ 2, hk⟩
  · have hc' : isCl c = false := by simpa using hc
    have e1 : askOf pls c num = (⟨0, 0, []⟩, false, 1) := by unfold askOf; rw [if_neg hc]
    rw [e1]
    refine (Ask_err (some ⟨g, 0, none⟩) c num.toNat 1 (.inl rfl) w (fun w1 hk => page_arg g ps c w1 (hb.nw hk) (by have := of_decide_eq_false hc'; omega))).mono ?_
    rintro e w' ⟨rfl, hk⟩
    exact ⟨none, 0, rfl, Own.nil _ _ _ 2, hk⟩
theorem Ask_B {w : World} {g h : Nat} {F : Nat → Prop} {pls : List PgP} (ha : PlB w h g F pls) (hlen : pls.length = 8) (c : UInt8) (num : UInt64) :
    Calls Try.prog 44 #[.pointer (some ⟨h, 0, none⟩), .int .u8 c.toNat, .int .u64 num.toNat] w (AskB (askOf pls c num) w) := by
  obtain ⟨ns, rs, hb, hp, hf⟩ := ha.is
  by_cases hc : isCl c = true
  · obtain ⟨i, hi, hci⟩ := cl_ix hc
    obtain ⟨p, hpl⟩ : ∃ p, pls[i]? = some p := ⟨_, List.getElem?_eq_getElem (by omega)⟩
    obtain ⟨hn0, r0, hr0, hrp0⟩ := hp i p hpl
    have hpl' : pls[c.toNat - 1]? = some p := by rw [hci, Nat.add_sub_cancel]; exact hpl
    rw [← hci] at hn0 hr0
    by_cases hlt : p.num.toNat < num.toNat
    · have e1 : askOf pls c num = (⟨0, 0, []⟩, false, 0) := by unfold askOf; rw [if_pos hc, hpl']; exact if_pos hlt
      rw [e1]
      refine (RAsk_new h ns rs c num p.num w hb hc hn0 hlt).mono ?_
      rintro e w' ⟨rfl, hk⟩
      exact ⟨none, 0, rfl, Rd.nil _ 2, hk⟩
    · by_cases he : num = p.num ∧ num.toNat ≠ 0
      · have e1 : askOf pls c num = (p.rep, true, 0) := by unfold askOf; rw [if_pos hc, hpl']; simp only []; rw [if_neg hlt, if_pos he]
        rw [e1, ← hrp0]
        refine (RAsk_is h ns rs c num r0 w hb hc (by rw [he.1]; exact hn0) he.2 hr0).mono ?_
        rintro e w' ⟨rfl, hk⟩
        exact ⟨_, _, rfl, (hb.each _ r0 hr0).1.nw hk, hk⟩
      · have e1 : askOf pls c num = (⟨0, 0, []⟩, false, 18) := by unfold askOf; rw [if_pos hc, hpl']; simp only []; rw [if_neg hlt, if_neg he]
        rw [e1]
        refine (RAsk_old h ns rs c num p.num w hb hc hn0 ?_).mono ?_
        · rcases Nat.lt_or_ge num.toNat p.num.toNat with h1 | h1
          · exact .inl h1
          · refine .inr ⟨by omega, Classical.byContradiction fun h0 => he ⟨UInt64.toNat.inj (by omega), h0⟩⟩
        rintro e w' ⟨rfl, hk⟩
        exact ⟨none, 0, rfl, Rd.nil _ 2, hk⟩
  · have hc' : isCl c = false := by simpa using hc
    have e1 : askOf pls c num = (⟨0, 0, []⟩, false, 1) := by unfold askOf; rw [if_neg hc]
    rw [e1]
    refine (RAsk_err (some ⟨h, 0, none⟩) c num.toNat w hc').mono ?_
    rintro e w' ⟨rfl, hk⟩
    exact ⟨none, 0, rfl, Rd.nil _ 2, hk⟩
theorem askOf_got {pls : List PgP} (h : ∀ q ∈ pls, okReply q.rep) (c : UInt8) (num : UInt64) : (askOf pls c num).1.got.length ≤ 8 := by
  unfold askOf
  split
  · split
    · next p hp =>
      split
      · simp
      · split
        · exact h p (List.mem_of_getElem? hp)
        · simp
    · simp
  · simp
end Go.Proofs.Ytiimdnachgkomaa
