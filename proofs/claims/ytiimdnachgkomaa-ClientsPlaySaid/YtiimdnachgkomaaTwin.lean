/- twin, left: a list in other memory, with two places of room that have a mark. -/
import Derived.Test.YtiimdnachgkomaaSame
import Derived.Laws.MakeOwn
namespace Go.Proofs.Ytiimdnachgkomaa
open Go Go.RowKit
section
variable {P : Program} {w : World} {ops : Array Oper} {rest : List Oper} {op : Oper} {a : Act} {Q : Exit → Act → World → Prop}
theorem wpList_mk (hgd : op.guard = none) (t e : TypeId) (x y : Operand) (ho : op.op = .makeSlice t x y) (i : TypeInfo) (z : Value) (size bytes : Nat) (ht : P.underlying t = some (.slice e)) (hi : P.info? e = some i) (hz : i.zero = some z)
    (hsize : i.size = size) (hby : i.bytes = bytes) (c : Nat) (hx : a.eval x = .int .i64 0) (hy : a.eval y = .int .i64 c) (hfit : Fits c bytes) {N : Nat} (hN : w.heap.size = N)
    (h : ∀ w2, Own w2 N e size (some ⟨N, 0, none⟩) 0 c [] → Nw w w2 → wpList P ops Q rest (a.put op.dst (.slice (some ⟨N, 0, none⟩) 0 c)) w2) : wpList P ops Q (op :: rest) a w :=
  wpList_plain hgd fun _ hK => by
    subst hN
    obtain ⟨h1, h2⟩ := hfit
    have hb : (i.bytes : Int) * (c : Int) ≤ 281474976710656 := by
      rw [hby]
      have : ((bytes * c : Nat) : Int) ≤ 281474976710656 := by rw [Nat.mul_comm]; omega
      rwa [Int.natCast_mul] at this
    have hr := run_make (P := P) w t e i z ht hi hz .i64 .i64 0 c (Int.le_refl _) (by omega) hb (by simp [maxLen] at h1; omega)
    unfold Oper.wp execOp
    simp only [Int.toNat_zero, Int.toNat_natCast] at hr
    simp only [ho, hx, hy, Sem.run_bind, hr, Result.andThen_ok, Sem.run_pure]
    refine hK _ _ (h _ ⟨by simp, Nat.zero_le _, h1, .inr ⟨_, _, rfl, Nat.le_refl _, Blk.new _ _ _, ?_, by simp⟩⟩ ((Kp.refl _ w).alloc _))
    rw [size_madeCells, hsize]
    exact Nat.le_refl _
theorem fill_two (vs ws : List Value) (k : Nat) (hk : vs.length = k) (hk2 : ws.length = k) (zs : Array Value) (hz : zs.size = 2 * k) :
    Instr.fill (fun i => some (i * k, k)) zs [(0, .agg vs.toArray), (1, .agg ws.toArray)] = some (vs ++ ws).toArray := by
  have e := fold_lay vs 0 0 zs (by omega)
  have z1 : lay zs (0 + 0) vs = vs ++ zs.toList.drop k := by simp [lay, hk]
  rw [z1] at e
  have e2 : Array.foldl (fun (cs : Array Value) (x : Value × Nat) => cs.setIfInBounds (0 + x.2) x.1) zs vs.toArray.zipIdx = (vs ++ zs.toList.drop k).toArray := by
    rw [← Array.foldl_toList, Array.toList_zipIdx]; exact e
  have hs2 : (vs ++ zs.toList.drop k).toArray.size = 2 * k := by simp; omega
  have f := fold_lay ws 0 k (vs ++ zs.toList.drop k).toArray (by omega)
  have z2 : lay (vs ++ zs.toList.drop k).toArray (k + 0) ws = vs ++ ws := by
    simp only [lay, Nat.add_zero]
    rw [List.take_left' hk, List.drop_eq_nil_of_le (by simp; omega)]
    simp
  rw [z2] at f
  have f2 : Array.foldl (fun (cs : Array Value) (x : Value × Nat) => cs.setIfInBounds (k + x.2) x.1) (vs ++ zs.toList.drop k).toArray ws.toArray.zipIdx = (vs ++ ws).toArray := by
    rw [← Array.foldl_toList, Array.toList_zipIdx]; exact f
  simp only [Instr.fill, Value.cells, Nat.zero_mul, Nat.one_mul]
  rw [if_neg (by simp; omega), e2, if_neg (by simp; omega)]
  exact congrArg some f2
theorem wpList_bs2 (hgd : op.guard = none) (t e : TypeId) (x y : Operand) (ho : op.op = .buildSlice t 2 #[(0, x), (1, y)]) (vs ws : List Value) {z : Value} {k bytes : Nat}
    (hu : P.underlying t = some (.slice e)) (hinf : (P.info? e).map (fun i => (i.zero, i.size, i.bytes)) = some (some z, k, bytes)) (hx : a.eval x = .agg vs.toArray) (hy : a.eval y = .agg ws.toArray) (hk : vs.length = k) (hk2 : ws.length = k) (h0 : 0 < k) (hb : k ≤ 1000)
    (h : wpList P ops Q rest (a.put op.dst (.slice (some ⟨w.heap.size, 0, none⟩) 2 2)) (w.alloc (.cells (vs ++ ws).toArray e))) : wpList P ops Q (op :: rest) a w := by
  obtain ⟨i, hi, hz, hs, _⟩ := info_parts hinf
  refine wpList_buildSlice hgd t e 2 _ ho (vs ++ ws).toArray i z hu hi hz (by omega) (by omega) ?_ h
  simp only [List.map_toArray, List.map_cons, List.map_nil, hx, hy, hs]
  exact fill_two vs ws k hk hk2 _ (by simp)
theorem Own.cutTo {base : Nat} {t : TypeId} {size : Nat} {A : Option Addr} {n c k : Nat} {xs : List Value} (h : Own w base t size A n c xs) (hk : k ≤ n) : Own w base t size A k c (xs.take (k * size)) := by
  have hle : k * size ≤ n * size := Nat.mul_le_mul_right _ hk
  refine ⟨by rw [List.length_take, h.len]; omega, Nat.le_trans hk h.cap, h.max, ?_⟩
  rcases h.at_ with h' | ⟨g, cur, rfl, hb, hg, hc, ht⟩
  · exact .inl h'
  · refine .inr ⟨g, cur, rfl, hb, hg, hc, ?_⟩
    rw [← ht, List.take_take, Nat.min_eq_left hle]
end

theorem isS_step : IsS Try.prog 169 10 := ⟨⟨_, Try.underlying169, rfl⟩, by kernel_rfl⟩

set_option maxRecDepth 20000 in
set_option maxHeartbeats 1000000 in
theorem twinSt (A : Option Addr) (c : Nat) (l : List Step) (m : Step) (w : World) (hr : RdSt w A c l) (hl : (l.length : Int) ≤ 100000) :
    Calls Try.prog 91 #[.slice A l.length c, .agg m.cells.toArray] w fun e w' =>
      ∃ g c2, e = .returned (.slice (some ⟨g, 0, none⟩) l.length c2) ∧ Own w' w.heap.size 169 10 (some ⟨g, 0, none⟩) (l.length + 2) c2 ((l ++ [m, m]).flatMap Step.cells) ∧ Nw w w' := by
  obtain ⟨i0, hi0, hz0, hz1, hz2⟩ := info_parts info_step
  have HR := Lib.hid hr
  have hL := Lib.hid hl
  clear hr
  go_enter Try.func91, Try.ntmps91
  have hrd : ∀ {w2 : World}, Nw (w.alloc (.cells m.cells.toArray 169)) w2 → RdSt w2 A c l := fun hk => (HR.out.alloc _).nw hk
  go_wp2_with (first
    | ((with_reducible refine stopAt (.makeSlice 22 (.const (.int .i64 0)) (.tmp 8)) rfl ?_); go_must (refine unStop (wpList_mk rfl 22 169 _ _ rfl i0 _ 10 48 Try.underlying22 hi0 hz0 hz1 hz2 (l.length + 2) rfl rfl (Fits.of (by have := hL.out; unfold big; omega) (by omega)) (N := w.heap.size + 1) (by simp) ?_)); intro w2 ho2 hk2)
    | ((with_reducible refine stopAt (.call { callee := .builtin .append, args := #[.tmp 10, .tmp 11], argTypes := #[22, 22] }) rfl ?_); go_must (refine unStop (wpList_append_ _ rfl _ _ 22 rfl (w.heap.size + 1) 169 i0 _ 10 48 Try.underlying22 hi0 hz0 hz1 hz2 rfl _ 0 _ _ rfl ho2 A l.length c _ rfl (hrd hk2) (st_one l) (Fits.of (by have := hL.out; unfold big; omega) (by omega)) (by have := hk2.size; simp at this; omega) ?_)); intro A3 c3 w3 ho3 hk3 hb3; (simp only [Nat.zero_add, List.nil_append] at ho3);
       have hm3 : Blk w3 w.heap.size 169 m.cells.toArray := ((Blk.newAt rfl _ _).nw hk2).kp hk3 (by simp [blkOf]))
    | ((with_reducible refine stopAt (.load 169 (.tmp 3)) rfl ?_); go_must (refine unStop (wpList_ldS rfl 169 (.tmp 3) rfl isS_step w.heap.size 0 rfl hm3 m.cells rfl rfl ?_)))
    | ((with_reducible refine stopAt (.buildSlice 22 2 #[(0, .tmp 14), (1, .tmp 15)]) rfl ?_); go_must (refine unStop (wpList_bs2 rfl 22 169 (.tmp 14) (.tmp 15) rfl m.cells m.cells Try.underlying22 info_step rfl rfl rfl rfl (by omega) (by omega) ?_)))
    | ((with_reducible refine stopAt (.call { callee := .builtin .append, args := #[.tmp 13, .tmp 16], argTypes := #[22, 22] }) rfl ?_); go_must (refine unStop (wpList_append_ _ rfl _ _ 22 rfl (w.heap.size + 1) 169 i0 _ 10 48 Try.underlying22 hi0 hz0 hz1 hz2 rfl A3 l.length c3 _ rfl (ho3.alloc (.cells (m.cells ++ m.cells).toArray 169)) (some ⟨w3.heap.size, 0, none⟩) 2 2 (m.cells ++ m.cells) rfl (Own.of_new w3 169 10 2 (m.cells ++ m.cells).toArray rfl (by simp [maxLen])).rd (by simpa using st_one [m, m]) (Fits.of (by have := hL.out; unfold big; omega) (by omega)) (by have := hk2.size; have := hk3.size; simp at *; omega) ?_)); intro A4 c4 w4 ho4 hk4 hb4;
       have hc4 : (l.length : Int) ≤ c4 := by have := ho4.cap; omega))
  go_ret
  have hn3 : Nw w w3 := (((Kp.refl _ w).alloc _).nw hk2).trans hk3 (fun i hi e => by simp [blkOf] at e; omega)
  have hn4 : Nw w w4 := (hn3.alloc _).trans hk4 (fun i hi e => by have := (ho3.lt i e).1; omega)
  rcases ho4.at_ with ⟨_, h0⟩ | ⟨g, cur, rfl, _⟩
  · have := ho4.cap; omega
  refine ⟨g, c4, rfl, ?_, hn4⟩
  rw [List.flatMap_append]
  have := ho4.low (base' := w.heap.size) (by omega)
  simpa using this
end Go.Proofs.Ytiimdnachgkomaa
