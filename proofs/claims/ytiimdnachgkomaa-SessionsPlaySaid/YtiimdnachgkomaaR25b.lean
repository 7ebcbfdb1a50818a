/- The document's book of sessions: Note. -/
import Derived.Test.YtiimdnachgkomaaR25
namespace Go.Proofs.Ytiimdnachgkomaa
open Go Go.RowKit
set_option maxRecDepth 20000 in
set_option maxHeartbeats 400000 in
theorem RNote_arg (A : Option Addr) (c : UInt8) (num : Int) (re rat : Int) (B : Option Addr) (n d : Nat) (w : World) (h : isCl c = false ∨ 8 < n) :
    Calls Try.prog 40 #[.pointer A, .int .u8 c.toNat, .int .u64 num, .agg #[.int .i64 re, .int .i64 rat, .slice B n d]] w (Err w 1) := by
  have HI := Lib.hid (Is25 c (w.alloc (.cells #[.int .i64 re, .int .i64 rat, .slice B n d] 34)))
  by_cases hc : isCl c = true
  · rw [hc] at HI
    have t1 : decide ((8 : Int) < (n : Int)) = true := decide_eq_true (by rcases h with h | h; rw [hc] at h; cases h; omega)
    clear h hc
    go_enter Try.func40, Try.ntmps40
    go_wp2_with (go_at_call 41; go_must (refine HI.out.mono ?_); rintro e w2 ⟨rfl, rfl⟩)
    go_ret
    exact ⟨rfl, (Kp.refl _ w).alloc _⟩
  · have hc' : isCl c = false := by simpa using hc
    rw [hc'] at HI
    clear h hc hc'
    go_enter Try.func40, Try.ntmps40
    go_wp2_with (go_at_call 41; go_must (refine HI.out.mono ?_); rintro e w2 ⟨rfl, rfl⟩)
    go_ret
    exact ⟨rfl, (Kp.refl _ w).alloc _⟩
set_option maxRecDepth 20000 in
set_option maxHeartbeats 400000 in
theorem RNote_old (g : Nat) (ns : List UInt64) (rs : List RepV) (c : UInt8) (num n : UInt64) (re rat : Int) (B : Option Addr) (k d : Nat) (w : World) (hb : RBk w g ns rs) (h : isCl c = true) (hk : k ≤ 8) (hn : ns[c.toNat]? = some n) (hle : num.toNat ≤ n.toNat) :
    Calls Try.prog 40 #[.pointer (some ⟨g, 0, none⟩), .int .u8 c.toNat, .int .u64 num.toNat, .agg #[.int .i64 re, .int .i64 rat, .slice B k d]] w (Err w 18) := by
  have HI := Lib.hid (Is25 c (w.alloc (.cells #[.int .i64 re, .int .i64 rat, .slice B k d] 34)))
  rw [h] at HI
  have hc8 : c.toNat ≤ 8 := (of_decide_eq_true h).2
  have hci : (c.toNat : Int) ≤ 8 := by omega
  have hg := hb.blk.lt
  have c0 := hb.num hn
  have z0 := Nw.cell ((Kp.refl _ w).alloc (.cells #[.int .i64 re, .int .i64 rat, .slice B k d] 34)) c0
  have t1 : decide ((8 : Int) < (k : Int)) = false := decide_eq_false (by omega)
  have t2 : decide ((num.toNat : Int) ≤ (n.toNat : Int)) = true := decide_eq_true (by omega)
  have t3 : decide (num.toNat ≤ n.toNat) = true := decide_eq_true hle
  clear h hb hn hle hc8 hk
  go_enter Try.func40, Try.ntmps40
  go_wp2_with (go_at_call 41; go_must (refine HI.out.mono ?_); rintro e w2 ⟨rfl, rfl⟩)
  go_ret
  exact ⟨rfl, (Kp.refl _ w).alloc _⟩
theorem rb_set (ns : List UInt64) (rs : List RepV) (i : Nat) (n : UInt64) (hi : i < ns.length) : (rbCells ns rs).setIfInBounds i (.int .u64 n.toNat) = rbCells (ns.set i n) rs := by
  unfold rbCells
  rw [List.setIfInBounds_toArray, List.set_append_left _ _ (by simpa using hi), List.map_set]
theorem rb_lay (ns : List UInt64) (rs : List RepV) (i : Nat) (r : RepV) (hn : ns.length = 9) (hi : i < rs.length) : lay (rbCells ns rs) (9 + i * 3) r.cells = (rbCells ns (rs.set i r)).toList := by
  have hs : rs.set i r = rs.take i ++ r :: rs.drop (i + 1) := List.set_eq_take_append_cons_drop.trans (if_pos hi)
  have hp : rs = rs.take i ++ rs[i] :: rs.drop (i + 1) := by simp
  have l1 : ((ns.map fun n => Value.int .u64 n.toNat) ++ (rs.take i).flatMap RepV.cells).length = 9 + i * 3 := by rw [List.length_append, flat_len RepV.cells 3 (fun _ => rfl), List.length_take, Nat.min_eq_left (by omega), List.length_map, hn]
  have e : (ns.map fun n => Value.int .u64 n.toNat) ++ rs.flatMap RepV.cells = ((ns.map fun n => Value.int .u64 n.toNat) ++ (rs.take i).flatMap RepV.cells) ++ (rs[i].cells ++ (rs.drop (i + 1)).flatMap RepV.cells) := by
    conv => lhs; rw [hp]
    rw [List.flatMap_append, List.flatMap_cons, List.append_assoc]
  unfold rbCells lay
  simp only []
  rw [e, hs, List.flatMap_append, List.flatMap_cons, List.take_left' l1, ← List.append_assoc, List.append_assoc, List.append_assoc, List.append_assoc]
  congr 2
  congr 1
  rw [show 9 + i * 3 + r.cells.length = (((ns.map fun n => Value.int .u64 n.toNat) ++ (rs.take i).flatMap RepV.cells) ++ rs[i].cells).length by rw [List.length_append, l1]; simp only [RepV.cells, List.length_cons, List.length_nil], ← List.append_assoc _ rs[i].cells, List.drop_left' rfl]
def RNoted (w : World) (g : Nat) (ns : List UInt64) (rs : List RepV) (c : UInt8) (num : UInt64) (re rat : Int64) (l : List Got) (e : Ending) (w' : World) : Prop :=
  ∃ A2 c2, e = .returned (.int .i64 0) ∧ RBk w' g (ns.set c.toNat num) (rs.set c.toNat ⟨re, rat, ⟨l, A2, c2⟩⟩) ∧ OwnG w' w.heap.size A2 c2 l ∧ Kp (fun k => k = g) w w'
set_option maxRecDepth 20000 in
set_option maxHeartbeats 1000000 in
theorem RNote_ok (g : Nat) (ns : List UInt64) (rs : List RepV) (c : UInt8) (num n : UInt64) (re rat : Int64) (B : Option Addr) (d : Nat) (l : List Got) (w : World) (hb : RBk w g ns rs) (h : isCl c = true) (hr : RdG w B d l) (hne : 0 < l.length → blkOf B ≠ some g) (hk : l.length ≤ 8) (hn : ns[c.toNat]? = some n) (hlt : n.toNat < num.toNat) :
    Calls Try.prog 40 #[.pointer (some ⟨g, 0, none⟩), .int .u8 c.toNat, .int .u64 num.toNat, .agg #[.int .i64 re.toInt, .int .i64 rat.toInt, .slice B l.length d]] w (RNoted w g ns rs c num re rat l) := by
  obtain ⟨i0, hi0, hz0, hz1, hz2⟩ := info_parts info_got
  have HI := Lib.hid (Is25 c (w.alloc (.cells #[.int .i64 re.toInt, .int .i64 rat.toInt, .slice B l.length d] 34)))
  rw [h] at HI
  have hc8 : c.toNat ≤ 8 := (of_decide_eq_true h).2
  have hci : (c.toNat : Int) ≤ 8 := by omega
  have hg := hb.blk.lt
  have hfz := (hb.blk.alloc (.cells #[.int .i64 re.toInt, .int .i64 rat.toInt, .slice B l.length d] 34)).free c.toNat
  have z0 := Nw.cell ((Kp.refl _ w).alloc (.cells #[.int .i64 re.toInt, .int .i64 rat.toInt, .slice B l.length d] 34)) (hb.num hn)
  have t1 : decide ((8 : Int) < (l.length : Int)) = false := decide_eq_false (by omega)
  have t2 : decide ((num.toNat : Int) ≤ (n.toNat : Int)) = false := decide_eq_false (by omega)
  have t3 : decide (num.toNat ≤ n.toNat) = false := decide_eq_false (by omega)
  have HBk := Lib.hid hb
  have HL8 := Lib.hid hk
  have HC8 := Lib.hid hc8
  have HR5 : Hid (RdG ((w.setCell ⟨g, c.toNat, none⟩ (.int .u64 num.toNat)).alloc (.cells #[.int .i64 re.toInt, .int .i64 rat.toInt, .slice B l.length d] 34)) B d l) := Lib.hid ((hr.setCell (p := ⟨g, c.toNat, none⟩) hne _).alloc _)
  clear h hb hn hlt hc8 hk hr hne
  go_enter Try.func40, Try.ntmps40
  go_wp2_with (first
    | (go_at_call 41; go_must (refine HI.out.mono ?_); rintro e w2 ⟨rfl, rfl⟩)
    | (at_builtin; go_must (refine wpList_append_ _ rfl (.const (.slice none 0 0)) (.tmp 33) 32 rfl (w.heap.size + 1) 93 i0 _ 2 16 Try.underlying32 hi0 hz0 hz1 hz2 rfl none 0 0 [] rfl (Own.nil _ _ _ 2) B l.length d (l.flatMap Got.cells) rfl HR5.out (got_one l) (Fits.of (by have := HL8.out; unfold big; omega) (by omega)) (by simp) ?_); intro A2 c2 w6 ho6 hk6 hb6; have HO6 := Lib.hid ho6; have HK6 : Hid (Nw ((w.setCell ⟨g, c.toNat, none⟩ (.int .u64 num.toNat)).alloc (.cells #[.int .i64 re.toInt, .int .i64 rat.toInt, .slice B l.length d] 34)) w6) := Lib.hid (hk6.more (fun k hk e => by simp [blkOf] at e)); have hbN := (Blk.newAt (W := w.setCell ⟨g, c.toNat, none⟩ (.int .u64 num.toNat)) (N := w.heap.size) (by simp) 34 #[.int .i64 re.toInt, .int .i64 rat.toInt, .slice B l.length d]).nw HK6.out; have hf2 := hbN.free 2; have hx2 : w6.cell? ⟨w.heap.size, 2, none⟩ = some (.slice B l.length d) := hbN.cell 2; have HBN := Lib.hid hbN; clear ho6 hk6 hb6 hbN))
  have hgN : g ≠ w.heap.size := by omega
  have HG6 : Hid (Blk (w6.setCell ⟨w.heap.size, 2, none⟩ (.slice A2 l.length c2)) g 88 (rbCells (ns.set c.toNat num) rs)) := Lib.hid (by
    have h1 := (((HBk.out.blk.set_ c.toNat (.int .u64 num.toNat)).alloc (.cells #[.int .i64 re.toInt, .int .i64 rat.toInt, .slice B l.length d] 34)).nw HK6.out).far (p := ⟨w.heap.size, 2, none⟩) (by show g ≠ w.heap.size; omega) (.slice A2 l.length c2)
    rw [rb_set ns rs c.toNat num (by rw [HBk.out.nl]; have := HC8.out; omega)] at h1
    exact h1)
  have hb7 := HBN.out.set_ 2 (.slice A2 l.length c2)
  have y0 : (w6.setCell ⟨w.heap.size, 2, none⟩ (.slice A2 l.length c2)).cell? ⟨w.heap.size, 0, none⟩ = some (.int .i64 re.toInt) := hb7.cell 0
  have y1 : (w6.setCell ⟨w.heap.size, 2, none⟩ (.slice A2 l.length c2)).cell? ⟨w.heap.size, 1, none⟩ = some (.int .i64 rat.toInt) := hb7.cell 1
  have y2 : (w6.setCell ⟨w.heap.size, 2, none⟩ (.slice A2 l.length c2)).cell? ⟨w.heap.size, 2, none⟩ = some (.slice A2 l.length c2) := hb7.cell 2
  have HK7 : Hid (Kp (fun j => j = g) w (w6.setCell ⟨w.heap.size, 2, none⟩ (.slice A2 l.length c2))) := Lib.hid ((((Kp.setCell (S := fun j => j = g) (p := ⟨g, c.toNat, none⟩) (Kp.refl _ w) (fun _ => rfl) _).alloc _).nw HK6.out).setNew (p := ⟨w.heap.size, 2, none⟩) (Nat.le_refl _) _)
  have HO7 : Hid (OwnG (w6.setCell ⟨w.heap.size, 2, none⟩ (.slice A2 l.length c2)) (w.heap.size + 1) A2 c2 l) := Lib.hid (by
    have h1 := HO6.out
    rw [Nat.zero_add] at h1
    exact h1.setCell (p := ⟨w.heap.size, 2, none⟩) (h1.fresh (by show w.heap.size < w.heap.size + 1; omega)) _)
  have hcb0 : (0 : Int) ≤ (c.toNat : Int) := by omega
  have hcb1 : (c.toNat : Int) < 9 := by omega
  clear hb7 hf2 hx2 z0 hfz
  generalize w6.setCell ⟨w.heap.size, 2, none⟩ (.slice A2 l.length c2) = w7 at *
  have HRl : Hid (9 + c.toNat * 3 + 3 ≤ (rbCells (ns.set c.toNat num) rs).size) := Lib.hid (by
    unfold rbCells
    have := HC8.out
    simp [flat_len RepV.cells 3 (fun _ => rfl), HBk.out.nl, HBk.out.rl]
    omega)
  refine wp_region_still_tail 6 (by kernel_rfl) (by kernel_rfl) ?_
  simp only [List.take_succ_cons, List.take_zero, List.drop_succ_cons, List.drop_zero]
  iterate 6 still_step
  with_reducible refine wpStill_nil ?_
  go_wp2_with ((with_reducible refine stopAt (.store 34 (.tmp 41) (.tmp 38)) rfl ?_); go_must (refine unStop (wpList_stS rfl 34 (.tmp 41) (.tmp 38) rfl (RepV.cells ⟨re, rat, ⟨l, A2, c2⟩⟩) sS_reply g (9 + c.toNat * 3) rfl rfl rfl HG6.out.drew (rbCells (ns.set c.toNat num) (rs.set c.toNat ⟨re, rat, ⟨l, A2, c2⟩⟩)).toList HRl.out (by simp [RepV.cells, Value.oneCell']) (rb_lay _ rs c.toNat _ (by rw [List.length_set, HBk.out.nl]) (by rw [HBk.out.rl]; have := HC8.out; omega)) ?_)); intro w8 hb8 hk8)
  go_ret
  have hne8 : blkOf A2 ≠ some g := HO7.out.fresh (by omega)
  have ho8 : OwnG w8 w.heap.size A2 c2 l := (HO7.out.drew.low (base' := w.heap.size) (Nat.le_succ _)).kp hk8 (fun k hk e => hne8 (by rw [hk, e]))
  have hk9 : Kp (fun j => j = g) w w8 := HK7.out.drew.trans hk8 (fun _ _ e => e)
  rw [Array.toArray_toList] at hb8
  refine ⟨A2, c2, rfl, ⟨hb8, by rw [List.length_set]; exact HBk.out.nl, by rw [List.length_set]; exact HBk.out.rl, fun i r hi => ?_⟩, ho8, hk9⟩
  rw [List.getElem?_set] at hi
  split at hi
  · split at hi
    · injection hi with hi
      subst hi
      exact ⟨ho8.rd, HL8.out, fun _ => hne8⟩
    · cases hi
  · obtain ⟨q1, q2, q3⟩ := HBk.out.each i r hi
    exact ⟨q1.kp hk9 (fun hn k hk e => q3 hn (by rw [hk, e])), q2, q3⟩
end Go.Proofs.Ytiimdnachgkomaa
