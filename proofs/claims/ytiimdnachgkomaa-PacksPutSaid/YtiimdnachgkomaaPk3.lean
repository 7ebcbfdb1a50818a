/- More of the plain coders: how long; what is greater has no fewer bytes. No program in sight. -/
import Derived.Test.YtiimdnachgkomaaPk2
namespace Go.Proofs.Ytiimdnachgkomaa
theorem encNum_mono : ∀ (b a : Nat), a ≤ b → (encNum a).length ≤ (encNum b).length := by
  intro b
  induction b using Nat.strongRecOn with
  | ind b ih =>
    intro a h
    by_cases ha : a < 128
    · rw [encNum_small ha]; exact encNum_pos b
    · rw [encNum_big ha, encNum_big (show ¬ b < 128 by omega)]
      have := ih (b / 128) (by omega) (a / 128) (Nat.div_le_div_right h)
      simpa using this
theorem encNum_inj {a b : Nat} (ha : a < u64) (hb : b < u64) (h : encNum a = encNum b) : a = b := by
  have h1 := codec_num.back a [] ha
  have h2 := codec_num.back b [] hb
  rw [h, h2] at h1
  injection h1 with h1; injection h1 with h1; exact h1.symm
theorem encU_len (n : UInt64) : (encU n).length ≤ 10 := encNum_len10 n.toNat_lt
theorem encS_len (n : Int64) : (encS n).length ≤ 10 := encNum_len10 (zig_lt n)
theorem encStep_len (x : Step) : (encStep x).length ≤ 55 := by
  have := encS_len x.n; have := encS_len x.max; have := encS_len x.num; have := encS_len x.den; have := encU_len x.seq
  simp [encStep]; omega
theorem encGot_len (x : Got) : (encGot x).length ≤ 55 := by
  have := encS_len x.x; have := encS_len x.y
  simp [encGot]; omega
theorem encLine_len (x : Line) : (encLine x).length ≤ 55 := by
  have := encS_len x.limit; have := encS_len x.debt
  simp [encLine]; omega
theorem encOffer_len (x : Offer) : (encOffer x).length ≤ 55 := by
  have := encU_len x.seq; have := encS_len x.left; have := encS_len x.num; have := encS_len x.den
  simp [encOffer]; omega
theorem flat_le {α : Type} (e : α → Bytes) (h : ∀ x, (e x).length ≤ 55) (l : List α) : (l.flatMap e).length ≤ l.length * 55 := by
  induction l with
  | nil => simp
  | cons x l ih => have := h x; simp only [List.flatMap_cons, List.length_append, List.length_cons]; omega
theorem encList_len {α : Type} (e : α → Bytes) (h : ∀ x, (e x).length ≤ 55) (l : List α) (hl : l.length < u64) : (encList e l).length ≤ 10 + l.length * 55 := by
  have h1 := flat_le e h l
  have h2 := encNum_len10 hl
  simp only [encList, List.length_append]; omega
theorem encStep_pos (x : Step) : 1 ≤ (encStep x).length := by simp [encStep]
theorem encList_pos {α : Type} (e : α → Bytes) (l : List α) : 1 ≤ (encList e l).length := by
  have := encNum_pos l.length
  simp only [encList, List.length_append]; omega
theorem numA_errs : ∀ (k i acc : Nat) (l : Bytes) (e : Nat), pNumA k i acc l = .error e → e = 4 ∨ e = 5
  | 0, _, _, _, _, h => by injection h with h; exact .inl h.symm
  | _ + 1, _, _, [], _, h => by injection h with h; exact .inr h.symm
  | k + 1, i, acc, c :: r, e, h => by
    simp only [pNumA] at h
    split at h
    · injection h with h; exact .inl h.symm
    · split at h
      · cases h
      · exact numA_errs k _ _ r e h
/-- What may be wrong of bytes. -/
def Errs {α : Type} (d : Ps α) : Prop := ∀ l k, d l = .error k → k = 3 ∨ k = 4 ∨ k = 5
theorem errs_pure {α : Type} (a : α) : Errs (Ps.pure a) := fun l k h => by cases h
theorem errs_bind {α β : Type} {d : Ps α} {f : α → Ps β} (h : Errs d) (hf : ∀ a, Errs (f a)) : Errs (d.bind f) := fun l k he => by
  unfold Ps.bind at he
  match hd : d l with
  | .error e => rw [hd] at he; injection he with he; subst he; exact h l _ hd
  | .ok (a, r) => rw [hd] at he; exact hf a r k he
theorem errs_byte : Errs pByte := fun l k h => by
  match l with
  | [] => injection h with h; exact .inr (.inr h.symm)
  | c :: r => cases h
theorem errs_num : Errs pNum := fun l k h => .inr (numA_errs _ _ _ l k h)
theorem errs_u : Errs pU := errs_bind errs_num fun _ => errs_pure _
theorem errs_s : Errs pS := errs_bind errs_num fun _ => errs_pure _
theorem errs_rep {α : Type} {d : Ps α} (h : Errs d) : ∀ k, Errs (pRep d k)
  | 0 => errs_pure _
  | k + 1 => errs_bind h fun _ => errs_bind (errs_rep h k) fun _ => errs_pure _
theorem errs_list {α : Type} {d : Ps α} (h : Errs d) (m : Nat) : Errs (pList m d) := errs_bind errs_num fun n => by
  intro l k he
  split at he
  · injection he with he; exact .inl he.symm
  · exact errs_rep h n l k he
theorem errs_step : Errs pStep := errs_bind errs_byte fun _ => errs_bind errs_byte fun _ => errs_bind errs_byte fun _ => errs_bind errs_byte fun _ => errs_bind errs_byte fun _ => errs_bind errs_s fun _ => errs_bind errs_s fun _ => errs_bind errs_s fun _ => errs_bind errs_s fun _ => errs_bind errs_u fun _ => errs_pure _
theorem errs_got : Errs pGot := errs_bind errs_s fun _ => errs_bind errs_s fun _ => errs_pure _
theorem errs_line : Errs pLine := errs_bind errs_byte fun _ => errs_bind errs_byte fun _ => errs_bind errs_byte fun _ => errs_bind errs_s fun _ => errs_bind errs_s fun _ => errs_pure _
theorem errs_offer : Errs pOffer := errs_bind errs_u fun _ => errs_bind errs_byte fun _ => errs_bind errs_byte fun _ => errs_bind errs_byte fun _ => errs_bind errs_s fun _ => errs_bind errs_s fun _ => errs_bind errs_s fun _ => errs_pure _
theorem errs_reply : Errs pReply := errs_bind errs_s fun _ => errs_bind errs_s fun _ => errs_bind (errs_list errs_got 8) fun _ => errs_pure _
theorem errs_entry : Errs pEntry := errs_bind errs_u fun _ => errs_bind errs_u fun _ => errs_bind errs_byte fun _ => errs_bind errs_u fun _ => errs_bind (errs_list errs_step 8) fun _ => errs_pure _
theorem errs_state : Errs pState := errs_bind (errs_list errs_byte 16) fun _ => errs_bind (errs_list errs_line 64) fun _ => errs_bind (errs_list errs_offer 32) fun _ => errs_bind errs_u fun _ => errs_pure _
theorem errs_all {α : Type} {d : Ps α} (h : Errs d) (l : Bytes) (k : Nat) (he : pAll d l = .error k) : k = 3 ∨ k = 4 ∨ k = 5 := by
  unfold pAll at he
  split at he
  · next e hd => injection he with he; subst he; exact h l _ hd
  · cases he
  · injection he with he; exact .inr (.inl he.symm)
end Go.Proofs.Ytiimdnachgkomaa
