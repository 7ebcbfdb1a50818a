/- Memory: 's[i:j]' of a slice that reads, an element of an array by value, a byte of one's own row set. -/
import Derived.Test.YtiimdnachgkomaaMem3
namespace Go.Proofs.Ytiimdnachgkomaa
open Go Go.RowKit
section
variable {P : Program} {w : World} {ops : Array Oper} {rest : List Oper} {op : Oper} {a : Act} {Q : Exit → Act → World → Prop}
/-- 's[k:m]' of a slice that reads. -/
theorem wpList_part (hgd : op.guard = none) (t e : TypeId) (x lo hi' : Operand) (ho : op.op = .slice t x (some lo) (some hi') none) {i : TypeInfo} (hu : P.underlying t = some (.slice e)) (hi : P.info? e = some i) {size : Nat} (hs : i.size = size)
    {A : Option Addr} {n c : Nat} {xs : List Value} (hx : a.eval x = .slice A n c) (hr : Rd w size A n c xs) {kd kd2 : IntKind} {k m : Nat} (hlo : a.eval lo = .int kd k) (hhi : a.eval hi' = .int kd2 m) (hk : k ≤ m) (hm : m ≤ n)
    (h : ∀ A2, Rd w size A2 (m - k) (c - k) ((xs.take (m * size)).drop (k * size)) → blkOf A2 = blkOf A → wpList P ops Q rest (a.put op.dst (.slice A2 (m - k) (c - k))) w) : wpList P ops Q (op :: rest) a w :=
  wpList_plain hgd fun _ hK => by
    have he : P.elem t = e := by unfold Program.elem; rw [hu]
    have hsz : (sizeOf e).run P w = .ok size w := by simp [sizeOf, typeInfo, hi, hs]
    have hcap := hr.cap
    have hrun := run_slice_lh (P := P) w t A n c (by rw [he]; exact hu) kd kd2 k m (by omega) (by omega) (by omega)
    rw [he, hsz] at hrun
    simp only [Result.andThen, sliced, Int.toNat_natCast] at hrun
    have hat : (Instr.sliceAt t (.slice A n c) (some (.int kd k)) (some (.int kd2 m)) none).run P w = .ok (.slice (if c = k then A else A.map (·.add (k * size))) (m - k) (c - k)) w := by
      rw [run_sliceAt_slice w t _ _ _ _ (by rw [he]; exact hu)]; exact hrun
    unfold Oper.wp execOp
    simp only [ho, hx, hlo, hhi, Option.map, Sem.run_bind, hat, Result.andThen_ok, Sem.run_pure]
    refine hK _ _ (h _ ((hr.take hm).cut hk) ?_)
    split
    · rfl
    · rcases A with _ | ad
      · rfl
      · simp [blkOf, block_add]
/-- 'l[i]' of an array by value, whose elements are structs. -/
theorem wpList_idx {α : Type} {f : α → List Value} (hgd : op.guard = none) (t e : TypeId) (x y : Operand) (ho : op.op = .index t x y) {k n : Nat} (hu : P.underlying t = some (.array n e)) (hs : IsS P e k) (hf : ∀ x, (f x).length = k)
    {xs : List α} (hx : a.eval x = .agg (xs.flatMap f).toArray) {kd : IntKind} {i : Nat} (hy : a.eval y = .int kd i) (hin : i < n) {v : α} (hv : xs[i]? = some v)
    (h : wpList P ops Q rest (a.put op.dst (.agg (f v).toArray)) w) : wpList P ops Q (op :: rest) a w :=
  wpList_plain hgd fun _ hK => by
    obtain ⟨⟨d, hud, hd⟩, hi⟩ := hs
    have hagg : (isAgg e).run P w = .ok true w := by
      unfold isAgg
      rw [Sem.run_bind, run_underlying hud w]
      cases d <;> simp_all
    have hsz : (sizeOf e).run P w = .ok k w := by
      cases hq : P.info? e with
      | none => simp [hq] at hi
      | some j => simp [hq] at hi; simp [sizeOf, typeInfo, hq, hi]
    obtain ⟨hil, hiv⟩ := List.getElem?_eq_some_iff.1 hv
    have hex : (xs.flatMap f).toArray.extract (i * k) (i * k + k) = (f v).toArray := by
      apply Array.ext'
      rw [Array.toList_extract]
      simp only [List.extract_eq_take_drop]
      have hp : xs = xs.take i ++ xs[i] :: xs.drop (i + 1) := by simp
      have l1 : ((xs.take i).flatMap f).length = i * k := by rw [flat_len f k hf, List.length_take, Nat.min_eq_left (by omega)]
      conv => lhs; rw [hp]
      rw [List.flatMap_append, List.flatMap_cons, List.drop_left' l1, hiv, List.take_left' (by rw [hf]; omega)]
    have hrun : (Instr.index t (.agg (xs.flatMap f).toArray) (.int kd i)).run P w = .ok (.agg (f v).toArray) w := by
      simp only [Instr.index, asIntOf, Sem.run_bind, Sem.run_pure, Result.andThen_ok, run_underlying hu]
      rw [if_pos ⟨by omega, by omega⟩]
      simp only [part, Sem.run_bind, hsz, hagg, Result.andThen_ok, Int.toNat_natCast, if_true, Sem.run_pure, hex]
    unfold Oper.wp execOp
    simp only [ho, hx, hy, Sem.run_bind, hrun, Result.andThen_ok, Sem.run_pure]
    exact hK _ _ h
end
section
variable {w : World} {base : Nat} {t : TypeId} {A : Option Addr} {n c : Nat} {xs : List Value}
/-- One cell of one's own row is set. -/
theorem Own.set1 (h : Own w base t 1 A n c xs) {ad : Addr} (hA : A = some ad) {j : Nat} (_hj : j < n) (u : Value) : Own (w.setCell (ad.add j) u) base t 1 A n c (xs.set j u) := by
  subst hA
  refine ⟨by rw [List.length_set]; exact h.len, h.cap, h.max, ?_⟩
  rcases h.at_ with ⟨h1, _⟩ | ⟨g, cur, h1, hb, hg, hsz, ht⟩
  · cases h1
  · injection h1 with h1
    subst h1
    rw [add_lit_]
    refine .inr ⟨g, _, rfl, hb, hg.set_ j u, by simpa using hsz, ?_⟩
    rw [Array.toList_setIfInBounds, List.take_set, ht]
theorem Own.set1_kp (h : Own w base t 1 A n c xs) {ad : Addr} (hA : A = some ad) (j : Nat) (u : Value) : Kp (fun k => blkOf A = some k) w (w.setCell (ad.add j) u) := by
  subst hA
  exact Kp.setCell (Kp.refl _ w) (fun _ => by rw [block_add]; rfl) u
end
end Go.Proofs.Ytiimdnachgkomaa
