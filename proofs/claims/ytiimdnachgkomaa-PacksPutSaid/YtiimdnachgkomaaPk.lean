/- The plain coders of packs: a codec is what is put, and what is got of bytes; sequences, lists, numbers with a sign. No program in sight. -/
import Derived.Test.YtiimdnachgkomaaPlain
namespace Go.Proofs.Ytiimdnachgkomaa

abbrev Bytes := List UInt8
/-- What is got of bytes, and what is left of them; or what is wrong first. -/
abbrev Ps (α : Type) := Bytes → Except Nat (α × Bytes)
def Ps.bind {α β : Type} (d : Ps α) (f : α → Ps β) : Ps β := fun l => match d l with
  | .error e => .error e
  | .ok (a, r) => f a r
def Ps.pure {α : Type} (a : α) : Ps α := fun l => .ok (a, l)

section
variable {α β γ : Type}
theorem Ps.bind_ok {d : Ps α} {f : α → Ps β} {l r : Bytes} {a : α} (h : d l = .ok (a, r)) : d.bind f l = f a r := by unfold Ps.bind; rw [h]
theorem Ps.bind_err {d : Ps α} {f : α → Ps β} {l : Bytes} {e : Nat} (h : d l = .error e) : d.bind f l = .error e := by unfold Ps.bind; rw [h]
theorem Ps.bind_inv {d : Ps α} {f : α → Ps β} {l r : Bytes} {b : β} (h : d.bind f l = .ok (b, r)) : ∃ a r1, d l = .ok (a, r1) ∧ f a r1 = .ok (b, r) := by
  unfold Ps.bind at h
  match hd : d l with
  | .error e => rw [hd] at h; cases h
  | .ok (a, r1) => rw [hd] at h; exact ⟨a, r1, rfl, h⟩
theorem Ps.bind_assoc (d : Ps α) (f : α → Ps β) (g : β → Ps γ) : (d.bind f).bind g = d.bind fun a => (f a).bind g := by
  funext l
  unfold Ps.bind
  match d l with
  | .error e => rfl
  | .ok (a, r) => rfl
theorem Ps.pure_bind (a : α) (f : α → Ps β) : (Ps.pure a).bind f = f a := rfl
theorem Ps.pure_inv {a b : α} {l r : Bytes} (h : Ps.pure a l = .ok (b, r)) : a = b ∧ l = r := by
  unfold Ps.pure at h; injection h with h; injection h with h1 h2; exact ⟨h1, h2⟩
end

/-- What is put is got, and nothing else; cut off, it is too short. -/
structure Codec {α : Type} (V : α → Prop) (enc : α → Bytes) (dec : Ps α) : Prop where
  back : ∀ a r, V a → dec (enc a ++ r) = .ok (a, r)
  inv : ∀ l a r, dec l = .ok (a, r) → V a ∧ l = enc a ++ r
  cut : ∀ a t u, V a → enc a = t ++ u → u ≠ [] → dec t = .error 5

section
variable {α β : Type} {V : α → Prop} {V2 : β → Prop} {e : α → Bytes} {e2 : β → Bytes} {d : Ps α} {d2 : Ps β}
theorem Codec.cut_seq (h1 : Codec V e d) {f : α → Ps β} {a : α} {b t u : Bytes} (hv : V a) (hf : ∀ t u, b = t ++ u → u ≠ [] → f a t = .error 5) (he : e a ++ b = t ++ u) (hu : u ≠ []) : d.bind f t = .error 5 := by
  rcases List.append_eq_append_iff.1 he with ⟨c, h3, h4⟩ | ⟨c, h3, h4⟩
  · rw [h3, Ps.bind_ok (h1.back a c hv)]
    exact hf c u h4 hu
  · cases c with
    | nil =>
      have : t = e a ++ [] := by simpa using h3.symm
      rw [this, Ps.bind_ok (h1.back a [] hv)]
      exact hf [] u (by simpa using h4.symm) hu
    | cons x c => exact Ps.bind_err (h1.cut a t (x :: c) hv h3 (by simp))
theorem Codec.seq (h1 : Codec V e d) (h2 : Codec V2 e2 d2) : Codec (fun p : α × β => V p.1 ∧ V2 p.2) (fun p => e p.1 ++ e2 p.2) (d.bind fun a => d2.bind fun b => Ps.pure (a, b)) where
  back := fun ⟨a, b⟩ r ⟨hv, hv2⟩ => by
    simp only [List.append_assoc]
    rw [Ps.bind_ok (h1.back a _ hv), Ps.bind_ok (h2.back b r hv2)]
    rfl
  inv := fun l p r h => by
    obtain ⟨a, r1, ha, h⟩ := Ps.bind_inv h
    obtain ⟨b, r2, hb, h⟩ := Ps.bind_inv h
    obtain ⟨rfl, rfl⟩ := Ps.pure_inv h
    obtain ⟨hv, rfl⟩ := h1.inv l a r1 ha
    obtain ⟨hv2, rfl⟩ := h2.inv r1 b r2 hb
    exact ⟨⟨hv, hv2⟩, by simp⟩
  cut := fun ⟨a, b⟩ t u ⟨hv, hv2⟩ he hu => h1.cut_seq hv (fun t u h hu => Ps.bind_err (h2.cut b t u hv2 h hu)) he hu
theorem Codec.map (h : Codec V e d) (f : α → β) (g : β → α) (hg : ∀ b, f (g b) = b) (hf : ∀ a, g (f a) = a) : Codec (fun b => V (g b)) (fun b => e (g b)) (d.bind fun a => Ps.pure (f a)) where
  back := fun b r hv => by rw [Ps.bind_ok (h.back (g b) r hv), hg]; rfl
  inv := fun l b r hb => by
    obtain ⟨a, r1, ha, hp⟩ := Ps.bind_inv hb
    obtain ⟨rfl, rfl⟩ := Ps.pure_inv hp
    rw [hf]
    exact h.inv l a r1 ha
  cut := fun b t u hv he hu => Ps.bind_err (h.cut (g b) t u hv he hu)
theorem Codec.of {V' : α → Prop} {e' : α → Bytes} {d' : Ps α} (h : Codec V e d) (hV : ∀ a, V' a ↔ V a) (he : ∀ a, e' a = e a) (hd : d' = d) : Codec V' e' d' := by
  obtain rfl : V' = V := funext fun a => propext (hV a)
  obtain rfl : e' = e := funext he
  rw [hd]; exact h

/-- So many, one behind the other. -/
def pRep (d : Ps α) : Nat → Ps (List α)
  | 0 => Ps.pure []
  | k + 1 => d.bind fun x => (pRep d k).bind fun xs => Ps.pure (x :: xs)
theorem codec_rep (h : Codec V e d) (k : Nat) : Codec (fun l : List α => l.length = k ∧ ∀ x ∈ l, V x) (fun l => l.flatMap e) (pRep d k) := by
  induction k with
  | zero => exact ⟨fun a r hv => by
      obtain rfl := List.eq_nil_of_length_eq_zero hv.1
      rfl, fun l a r hp => by
      obtain ⟨rfl, rfl⟩ := Ps.pure_inv hp
      exact ⟨⟨rfl, by simp⟩, rfl⟩, fun a t u hv he hu => by
      obtain rfl := List.eq_nil_of_length_eq_zero hv.1
      simp at he
      exact absurd he.2 hu⟩
  | succ k ih =>
    refine ⟨fun a r hv => ?_, fun l a r hp => ?_, fun a t u hv he hu => ?_⟩
    · match a, hv with
      | x :: xs, hv =>
        simp only [List.flatMap_cons, List.append_assoc]
        show (d.bind _) _ = _
        rw [Ps.bind_ok (h.back x _ (hv.2 x (by simp))), Ps.bind_ok (ih.back xs r ⟨by simpa using hv.1, fun y hy => hv.2 y (by simp [hy])⟩)]
        rfl
    · obtain ⟨x, r1, hx, hp⟩ := Ps.bind_inv hp
      obtain ⟨xs, r2, hxs, hp⟩ := Ps.bind_inv hp
      obtain ⟨rfl, rfl⟩ := Ps.pure_inv hp
      obtain ⟨hv, rfl⟩ := h.inv l x r1 hx
      obtain ⟨⟨h3, h4⟩, rfl⟩ := ih.inv r1 xs r2 hxs
      refine ⟨⟨by simp [h3], fun y hy => ?_⟩, by simp⟩
      rcases List.mem_cons.1 hy with rfl | hy
      · exact hv
      · exact h4 y hy
    · match a, hv with
      | x :: xs, hv =>
        refine h.cut_seq (hv.2 x (by simp)) (fun t u h hu => ?_) (by simpa using he) hu
        exact Ps.bind_err (ih.cut xs t u ⟨by simpa using hv.1, fun y hy => hv.2 y (by simp [hy])⟩ h hu)
/-- A list behind those that were got already. -/
def pre (xs : List α) : Except Nat (List α × Bytes) → Except Nat (List α × Bytes)
  | .error e => .error e
  | .ok (ys, r) => .ok (xs ++ ys, r)
theorem pre_nil (r : Except Nat (List α × Bytes)) : pre [] r = r := by
  match r with
  | .error e => rfl
  | .ok (ys, r) => rfl
theorem pre_zero (xs : List α) (l : Bytes) : pre xs (pRep d 0 l) = .ok (xs, l) := by simp [pRep, pre, Ps.pure]
theorem pre_ok {xs : List α} {l r : Bytes} {x : α} {k : Nat} (h : d l = .ok (x, r)) : pre xs (pRep d (k + 1) l) = pre (xs ++ [x]) (pRep d k r) := by
  show pre xs ((d.bind _) l) = _
  rw [Ps.bind_ok h]
  unfold Ps.bind
  match pRep d k r with
  | .error e => rfl
  | .ok (ys, r) => simp [pre, Ps.pure]
theorem pre_err {xs : List α} {l : Bytes} {e : Nat} {k : Nat} (h : d l = .error e) : pre xs (pRep d (k + 1) l) = .error e := by
  show pre xs ((d.bind _) l) = _
  rw [Ps.bind_err h]
  rfl
end

/-! Bytes, numbers. -/
def pByte : Ps UInt8
  | [] => .error 5
  | c :: r => .ok (c, r)
theorem codec_byte : Codec (fun _ => True) (fun c : UInt8 => [c]) pByte where
  back := fun a r _ => rfl
  inv := fun l a r h => by
    match l with
    | [] => cases h
    | c :: l => injection h with h; injection h with h1 h2; subst h1 h2; exact ⟨trivial, rfl⟩
  cut := fun a t u _ he hu => by
    match t with
    | [] => rfl
    | c :: t =>
      simp at he
      exact absurd he.2.2 hu

/-- k bytes at most, from byte i on; acc: what there is. -/
def pNumA : Nat → Nat → Nat → Ps Nat
  | 0, _, _, _ => .error 4
  | _ + 1, _, _, [] => .error 5
  | k + 1, i, acc, c :: r =>
    if i = 9 ∧ 1 < c.toNat ∨ 0 < i ∧ c.toNat = 0 then .error 4
    else if c.toNat < 128 then .ok (acc + c.toNat * 128 ^ i, r)
    else pNumA k (i + 1) (acc + (c.toNat - 128) * 128 ^ i) r
def pNum : Ps Nat := pNumA 10 0 0

theorem pow_dvd_u64 (i : Nat) (h : i ≤ 8) : ∃ q, u64 = 128 ^ (i + 1) * q := by
  have : ∀ i : Fin 9, 128 ^ (i.val + 1) * (u64 / 128 ^ (i.val + 1)) = u64 := by decide
  exact ⟨u64 / 128 ^ (i + 1), (this ⟨i, by omega⟩).symm⟩
theorem pow9 : 128 ^ 9 * 2 = u64 := by decide
theorem numA_back : ∀ (k i acc m : Nat) (r : Bytes), i + k = 10 → 1 ≤ k → m * 128 ^ i < u64 → (0 < i → 0 < m) → pNumA k i acc (encNum m ++ r) = .ok (acc + m * 128 ^ i, r)
  | 0, _, _, _, _, _, h, _, _ => absurd h (by omega)
  | k + 1, i, acc, m, r, hk, _, hm, h0 => by
    have h9 : i = 9 → m ≤ 1 := fun e => by
      subst e
      rw [← pow9] at hm
      have := Nat.lt_of_mul_lt_mul_right (a := 128 ^ 9) (b := m) (c := 2) (by rw [Nat.mul_comm 2]; exact hm)
      omega
    by_cases hs : m < 128
    · rw [encNum_small hs]
      have e : (UInt8.ofNat m).toNat = m := by rw [UInt8.toNat_ofNat', Nat.mod_eq_of_lt (by omega)]
      simp only [List.cons_append, List.nil_append, pNumA, e]
      rw [if_neg (by rintro (⟨h1, h2⟩ | ⟨h1, h2⟩); exact absurd (h9 h1) (by omega); exact absurd (h0 h1) (by omega)), if_pos hs]
    · rw [encNum_big hs]
      have e : (UInt8.ofNat (128 + m % 128)).toNat = 128 + m % 128 := by rw [UInt8.toNat_ofNat', Nat.mod_eq_of_lt (by omega)]
      have hi9 : i ≠ 9 := fun e => by have := h9 e; omega
      simp only [List.cons_append, pNumA, e]
      rw [if_neg (by rintro (⟨h1, h2⟩ | ⟨h1, h2⟩) <;> omega), if_neg (by omega)]
      have e2 : m / 128 * 128 ^ (i + 1) = m / 128 * 128 * 128 ^ i := by rw [Nat.pow_succ, Nat.mul_comm (128 ^ i), Nat.mul_assoc]
      have e3 : m % 128 * 128 ^ i + m / 128 * 128 ^ (i + 1) = m * 128 ^ i := by
        rw [e2, ← Nat.add_mul]; congr 1; omega
      rw [numA_back k (i + 1) _ (m / 128) r (by omega) (by omega) (by omega) (fun _ => by omega)]
      rw [show 128 + m % 128 - 128 = m % 128 by omega, Nat.add_assoc, e3]
theorem numA_inv : ∀ (k i acc n : Nat) (l r : Bytes), i + k = 10 → pNumA k i acc l = .ok (n, r) → ∃ m, n = acc + m * 128 ^ i ∧ l = encNum m ++ r ∧ m * 128 ^ i < u64 ∧ (0 < i → 0 < m)
  | 0, _, _, _, _, _, _, h => by cases h
  | k + 1, _, _, _, [], _, _, h => by cases h
  | k + 1, i, acc, n, c :: l, r, hk, h => by
    have hc := c.toNat_lt
    simp only [pNumA] at h
    split at h
    · cases h
    · next hne =>
      have hne1 : i = 9 → c.toNat ≤ 1 := fun e => by
        rcases Nat.lt_or_ge 1 c.toNat with h1 | h1
        · exact absurd (Or.inl ⟨e, h1⟩) hne
        · exact h1
      have hne2 : 0 < i → 0 < c.toNat := fun e => by
        rcases Nat.eq_zero_or_pos c.toNat with h1 | h1
        · exact absurd (Or.inr ⟨e, h1⟩) hne
        · exact h1
      split at h
      · next hs =>
        injection h with h; injection h with h1 h2
        subst h1 h2
        refine ⟨c.toNat, rfl, by rw [encNum_small hs]; simp, ?_, hne2⟩
        by_cases hi : i = 9
        · have := hne1 hi
          subst hi
          rw [← pow9, Nat.mul_comm]
          exact Nat.mul_lt_mul_of_pos_left (by omega) (by decide)
        · obtain ⟨q, hq⟩ := pow_dvd_u64 i (by omega)
          have hq0 : 0 < q := by
            rcases Nat.eq_zero_or_pos q with rfl | h0
            · exact absurd hq (by simp [u64])
            · exact h0
          rw [hq, Nat.pow_succ, Nat.mul_assoc, Nat.mul_comm]
          exact Nat.mul_lt_mul_of_pos_left (by omega) (Nat.pow_pos (by omega))
      · next hb =>
        have hi : i ≠ 9 := fun e => by have := hne1 e; omega
        obtain ⟨m, h1, h2, h3, h4⟩ := numA_inv k (i + 1) _ n l r (by omega) h
        have hm := h4 (by omega)
        refine ⟨c.toNat - 128 + 128 * m, ?_, ?_, ?_, fun _ => by omega⟩
        · rw [h1, Nat.pow_succ, Nat.add_mul, Nat.add_assoc]
          congr 2
          rw [Nat.mul_comm (128 ^ i) 128, ← Nat.mul_assoc, Nat.mul_comm m]
        · rw [encNum_big (by omega), h2]
          rw [show (c.toNat - 128 + 128 * m) / 128 = m by omega, show 128 + (c.toNat - 128 + 128 * m) % 128 = c.toNat by omega]
          simp
        · obtain ⟨q, hq⟩ := pow_dvd_u64 i (by omega)
          have h5 : m < q := by
            rw [hq, Nat.mul_comm m] at h3
            exact Nat.lt_of_mul_lt_mul_left h3
          have h6 : 128 ^ (i + 1) * (m + 1) ≤ u64 := by rw [hq]; exact Nat.mul_le_mul_left _ h5
          have h7 : (c.toNat - 128) * 128 ^ i < 128 * 128 ^ i := Nat.mul_lt_mul_of_pos_right (by omega) (Nat.pow_pos (by omega))
          have h8 : 128 ^ (i + 1) * (m + 1) = 128 * m * 128 ^ i + 128 * 128 ^ i := by
            rw [Nat.pow_succ, Nat.mul_add, Nat.mul_one, Nat.mul_comm (128 ^ i) 128]
            congr 1
            rw [Nat.mul_assoc, Nat.mul_comm (128 ^ i) m, Nat.mul_assoc]
          rw [Nat.add_mul]
          omega
theorem numA_cut : ∀ (k i acc m : Nat) (t u : Bytes), i + k = 10 → 1 ≤ k → m * 128 ^ i < u64 → encNum m = t ++ u → u ≠ [] → pNumA k i acc t = .error 5
  | 0, _, _, _, _, _, _, h, _, _, _ => absurd h (by omega)
  | k + 1, i, acc, m, [], u, _, _, _, _, _ => rfl
  | k + 1, i, acc, m, c :: t, u, hk, _, hm, he, hu => by
    have h9 : i = 9 → m ≤ 1 := fun e => by
      subst e
      rw [← pow9] at hm
      have := Nat.lt_of_mul_lt_mul_right (a := 128 ^ 9) (b := m) (c := 2) (by rw [Nat.mul_comm 2]; exact hm)
      omega
    by_cases hs : m < 128
    · rw [encNum_small hs] at he
      simp at he
      exact absurd he.2.2 hu
    · rw [encNum_big hs] at he
      injection he with h1 h2
      have e : (UInt8.ofNat (128 + m % 128)).toNat = 128 + m % 128 := by rw [UInt8.toNat_ofNat', Nat.mod_eq_of_lt (by omega)]
      have hi9 : i ≠ 9 := fun e => by have := h9 e; omega
      subst h1
      simp only [pNumA, e]
      rw [if_neg (by rintro (⟨h1, h2⟩ | ⟨h1, h2⟩) <;> omega), if_neg (by omega)]
      have e2 : m / 128 * 128 ^ (i + 1) = m / 128 * 128 * 128 ^ i := by rw [Nat.pow_succ, Nat.mul_comm (128 ^ i), Nat.mul_assoc]
      refine numA_cut k (i + 1) _ (m / 128) t u (by omega) (by omega) ?_ h2 hu
      rw [e2]
      exact Nat.lt_of_le_of_lt (Nat.mul_le_mul_right _ (by omega)) hm
theorem codec_num : Codec (fun n => n < u64) encNum pNum where
  back := fun a r h => by
    have := numA_back 10 0 0 a r rfl (by omega) (by simpa using h) (fun h => absurd h (by omega))
    simpa [pNum] using this
  inv := fun l a r h => by
    obtain ⟨m, h1, h2, h3, _⟩ := numA_inv 10 0 0 a l r rfl h
    obtain rfl : a = m := by simpa using h1
    exact ⟨by simpa using h3, h2⟩
  cut := fun a t u h he hu => numA_cut 10 0 0 a t u rfl (by omega) (by simpa using h) he hu
def encU (n : UInt64) : Bytes := encNum n.toNat
def pU : Ps UInt64 := pNum.bind fun n => Ps.pure (UInt64.ofNat n)
theorem codec_u : Codec (fun _ => True) encU pU where
  back := fun a r _ => by
    unfold pU encU
    rw [Ps.bind_ok (codec_num.back a.toNat r a.toNat_lt)]
    simp [Ps.pure]
  inv := fun l a r h => by
    obtain ⟨n, r1, hn, h⟩ := Ps.bind_inv h
    obtain ⟨rfl, rfl⟩ := Ps.pure_inv h
    obtain ⟨h1, h2⟩ := codec_num.inv l n r1 hn
    refine ⟨trivial, ?_⟩
    unfold encU
    rw [UInt64.toNat_ofNat', Nat.mod_eq_of_lt (show n < 2 ^ 64 from h1)]
    exact h2
  cut := fun a t u _ he hu => Ps.bind_err (codec_num.cut a.toNat t u a.toNat_lt he hu)
/-- A number with a sign, as one without. -/
def zigN (n : Int) : Nat := if 0 ≤ n then (2 * n).toNat else (-2 * n - 1).toNat
def zagI (n : Nat) : Int := if n % 2 = 0 then ((n / 2 : Nat) : Int) else -((n / 2 : Nat) : Int) - 1
theorem zag_zig (n : Int) : zagI (zigN n) = n := by
  unfold zagI zigN
  by_cases h : 0 ≤ n
  · rw [if_pos h, if_pos (by omega)]; omega
  · rw [if_neg h, if_neg (by omega)]; omega
theorem zig_zag (n : Nat) : zigN (zagI n) = n := by
  unfold zagI zigN
  by_cases h : n % 2 = 0
  · rw [if_pos h, if_pos (by omega)]; omega
  · rw [if_neg h, if_neg (by omega)]; omega
theorem zig_lt (n : Int64) : zigN n.toInt < u64 := by
  have := n.toInt_lt; have := n.le_toInt
  unfold zigN u64
  split <;> omega
def encS (n : Int64) : Bytes := encNum (zigN n.toInt)
def pS : Ps Int64 := pNum.bind fun n => Ps.pure (Int64.ofInt (zagI n))
theorem codec_s : Codec (fun _ => True) encS pS where
  back := fun a r _ => by
    unfold pS encS
    rw [Ps.bind_ok (codec_num.back _ r (zig_lt a)), zag_zig]
    simp [Ps.pure]
  inv := fun l a r h => by
    obtain ⟨n, r1, hn, h⟩ := Ps.bind_inv h
    obtain ⟨rfl, rfl⟩ := Ps.pure_inv h
    obtain ⟨h1, h2⟩ := codec_num.inv l n r1 hn
    refine ⟨trivial, ?_⟩
    unfold encS
    rw [Int64.toInt_ofInt_of_le (by unfold u64 at h1; unfold zagI; split <;> omega) (by unfold u64 at h1; unfold zagI; split <;> omega), zig_zag]
    exact h2
  cut := fun a t u _ he hu => Ps.bind_err (codec_num.cut _ t u (zig_lt a) he hu)
/-- A list, of so many at most. -/
def pList {α : Type} (most : Nat) (d : Ps α) : Ps (List α) := pNum.bind fun n => if most < n then fun _ => .error 3 else pRep d n
def encList {α : Type} (e : α → Bytes) (l : List α) : Bytes := encNum l.length ++ l.flatMap e
theorem codec_list {α : Type} {V : α → Prop} {e : α → Bytes} {d : Ps α} (h : Codec V e d) (most : Nat) (hm : most < u64) : Codec (fun l : List α => l.length ≤ most ∧ ∀ x ∈ l, V x) (encList e) (pList most d) where
  back := fun a r hv => by
    unfold encList pList
    rw [List.append_assoc, Ps.bind_ok (codec_num.back _ _ (Nat.lt_of_le_of_lt hv.1 hm)), if_neg (by omega)]
    exact (codec_rep h a.length).back a r ⟨rfl, hv.2⟩
  inv := fun l a r hp => by
    obtain ⟨n, r1, hn, hq⟩ := Ps.bind_inv hp
    clear hp
    obtain ⟨h1, rfl⟩ := codec_num.inv l n r1 hn
    by_cases hle : most < n
    · rw [if_pos hle] at hq
      cases hq
    · rw [if_neg hle] at hq
      obtain ⟨⟨h2, h3⟩, rfl⟩ := (codec_rep h n).inv r1 a r hq
      exact ⟨⟨by omega, h3⟩, by unfold encList; rw [h2, List.append_assoc]⟩
  cut := fun a t u hv he hu => by
    refine codec_num.cut_seq (Nat.lt_of_le_of_lt hv.1 hm) (fun t u h2 hu => ?_) he hu
    rw [if_neg (by omega)]
    exact (codec_rep h a.length).cut a t u ⟨rfl, hv.2⟩ h2 hu
/-- All bytes. -/
def pAll {α : Type} (d : Ps α) (l : Bytes) : Except Nat α := match d l with
  | .error e => .error e
  | .ok (a, []) => .ok a
  | .ok (_, _ :: _) => .error 4
section
variable {α : Type} {V : α → Prop} {e : α → Bytes} {d : Ps α}
theorem Codec.all_back (h : Codec V e d) (a : α) (hv : V a) : pAll d (e a) = .ok a := by
  have := h.back a [] hv
  rw [List.append_nil] at this
  unfold pAll; rw [this]
theorem Codec.all_more (h : Codec V e d) (a : α) (hv : V a) (c : UInt8) (r : Bytes) : pAll d (e a ++ c :: r) = .error 4 := by
  have := h.back a (c :: r) hv
  unfold pAll; rw [this]
theorem Codec.all_cut (h : Codec V e d) (a : α) (hv : V a) (k : Nat) (hk : k < (e a).length) : pAll d ((e a).take k) = .error 5 := by
  have := h.cut a ((e a).take k) ((e a).drop k) hv (List.take_append_drop k _).symm (by simp; omega)
  unfold pAll; rw [this]
theorem Codec.all_inv (h : Codec V e d) (l : Bytes) (a : α) (hp : pAll d l = .ok a) : V a ∧ l = e a := by
  unfold pAll at hp
  split at hp
  · cases hp
  · next b hb => injection hp with hp; subst hp; have := h.inv l b [] hb; simpa using this
  · cases hp
end
end Go.Proofs.Ytiimdnachgkomaa
