/- packs: a command, a reply, an entry, a state are got. -/
import Derived.Test.YtiimdnachgkomaaGet3
namespace Go.Proofs.Ytiimdnachgkomaa
open Go Go.RowKit
def VCommand (base : Nat) (xs : List Step) (w : World) (x : Value) : Prop := ∃ A, x = .agg #[.slice A xs.length xs.length] ∧ OwnSt w base A xs.length xs
def VReply (base : Nat) (r : RepP) (w : World) (x : Value) : Prop := ∃ A, x = .agg #[iv r.e, iv r.at_, .slice A r.got.length r.got.length] ∧ OwnG w base A r.got.length r.got
def VEntry (base : Nat) (r : EntP) (w : World) (x : Value) : Prop := ∃ A, x = .agg #[uv r.index, uv r.term, bv r.cl, uv r.num, .slice A r.steps.length r.steps.length] ∧ OwnSt w base A r.steps.length r.steps
def VState (base : Nat) (s : StaP) (w : World) (x : Value) : Prop := ∃ A1 A2 A3, x = .agg #[.slice A1 s.parties.length s.parties.length, .slice A2 s.lines.length s.lines.length, .slice A3 s.offers.length s.offers.length, uv s.next] ∧
  Own w base 164 1 A1 s.parties.length s.parties.length (s.parties.map bv) ∧ Own w base 213 5 A2 s.lines.length s.lines.length (s.lines.flatMap Line.cells) ∧ Own w base 216 7 A3 s.offers.length s.offers.length (s.offers.flatMap Offer.cells)
abbrev pCommand : Ps (List Step) := pList 8 pStep

set_option maxRecDepth 20000 in
set_option maxHeartbeats 1000000 in
theorem get_command (B g : Nat) (l : Bytes) (w : World) (hg : Gs B w g l) :
    Calls Try.prog 154 #[.pointer (some ⟨g, 0, none⟩)] w (GetTo B g w (VCommand w.heap.size) (pCommand l)) := by
  have HG0 := Lib.hid (hg.alloc (.cells #[.slice none 0 0] 24))
  have HK0 : Hid (Kp (fun k => k = g) w (w.alloc (.cells #[.slice none 0 0] 24))) := Lib.hid ((Kp.refl _ w).alloc _)
  have HB0 : Hid (Blk (w.alloc (.cells #[.slice none 0 0] 24)) w.heap.size 24 #[.slice none 0 0]) := Lib.hid (Blk.new _ _ _)
  have HNE : Hid (w.heap.size ≠ g) := Lib.hid (by have := hg.lt; omega)
  have HBN : Hid (B ≤ w.heap.size) := Lib.hid (by have := hg.lt; have := hg.base; omega)
  have HZ0 : Hid (w.heap.size + 1 ≤ (w.alloc (.cells #[.slice none 0 0] 24)).heap.size) := Lib.hid (by simp)
  clear hg
  go_enter Try.func154, Try.ntmps154
  go_wp2_with fail
  go_must (refine (get_list_step B g _ _ HG0.out).mono ?_)
  rintro e w1 h
  rcases h.ways with ⟨xs, r, x, hp, rfl, ⟨A, rfl, ho⟩, hg, hk⟩ | ⟨k, hp, rfl, hk⟩
  rotate_left
  · have hc := Lib.hid hp
    clear hp
    unfold wrongE
    go_wp2_with fail
    exact ⟨rfl, GetTo.err hc.out rfl (HK0.out.trans hk (fun _ _ e => e))⟩
  have HC1 := Lib.hid hp
  have HG1 := Lib.hid hg
  have HK1 := Lib.hid (HK0.out.trans hk (fun _ _ e => e))
  have HB1 := Lib.hid (HB0.out.kp hk HNE.out)
  have HO := Lib.hid (ho.low HZ0.out)
  clear hp hg hk ho
  go_wp2_with ((with_reducible refine stopAt (.store 24 (.tmp 2) (.tmp 5)) rfl ?_); go_must (refine unStop (wpList_stS rfl 24 (.tmp 2) (.tmp 5) rfl [.slice A xs.length xs.length] sS_command w.heap.size 0 rfl rfl rfl HB1.out [.slice A xs.length xs.length] (by simp) (by simp [Value.oneCell']) rfl ?_)); intro w' hb' hk')
  have hg' := HG1.out.kp hk' (fun k e => by subst e; exact ⟨HBN.out, HNE.out⟩)
  have ho' := HO.out.kp hk' (fun k hk e => by have := (HO.out.lt k hk).1; omega)
  exact bodyPost_ret (res_c rfl sS_command _ rfl hb' [.slice A xs.length xs.length] rfl rfl) rfl (GetTo.ok HC1.out ⟨A, rfl, ho'.low (Nat.le_succ _)⟩ (HK1.out.trans hk' (fun i hi e => by omega)) hg')
set_option maxRecDepth 20000 in
set_option maxHeartbeats 1000000 in
theorem get_reply (B g : Nat) (l : Bytes) (w : World) (hg : Gs B w g l) :
    Calls Try.prog 118 #[.pointer (some ⟨g, 0, none⟩)] w (GetTo B g w (VReply w.heap.size) (pReply l)) := by
  have HG0 := Lib.hid (hg.alloc (.cells #[.int .i64 0, .int .i64 0, .slice none 0 0] 34))
  have HK0 : Hid (Kp (fun k => k = g) w (w.alloc (.cells #[.int .i64 0, .int .i64 0, .slice none 0 0] 34))) := Lib.hid ((Kp.refl _ w).alloc _)
  have HB0 : Hid (Blk (w.alloc (.cells #[.int .i64 0, .int .i64 0, .slice none 0 0] 34)) w.heap.size 34 #[.int .i64 0, .int .i64 0, .slice none 0 0]) := Lib.hid (Blk.new _ _ _)
  have HNE : Hid (w.heap.size ≠ g) := Lib.hid (by have := hg.lt; omega)
  have HGL : Hid (g < w.heap.size) := Lib.hid hg.lt
  have HBN : Hid (B ≤ w.heap.size) := Lib.hid (by have := hg.lt; have := hg.base; omega)
  have HZ0 : Hid (w.heap.size + 1 ≤ (w.alloc (.cells #[.int .i64 0, .int .i64 0, .slice none 0 0] 34)).heap.size) := Lib.hid (by simp)
  clear hg
  go_enter Try.func118, Try.ntmps118
  go_wp2_with fail
  go_must (refine (get_sign B g _ _ HG0.out).mono ?_)
  rintro e w1 h
  rcases h.isWays with ⟨a0, r1, hp, rfl, hg, hk⟩ | ⟨k, hp, rfl, hk⟩
  rotate_left
  · have hc := Lib.hid ((show pReply l = .error k from Ps.bind_err hp))
    clear hp
    unfold wrongE
    go_wp2_with fail
    exact ⟨rfl, GetTo.err hc.out rfl (HK0.out.trans hk (fun _ _ e => e))⟩
  have HC1 := Lib.hid ((show pReply l = _ from Ps.bind_ok hp))
  have HG1 := Lib.hid hg
  have HK1 := Lib.hid (HK0.out.trans hk (fun _ _ e => e))
  have HB1 := Lib.hid (HB0.out.kp hk HNE.out)
  have HZ1 := Lib.hid (Nat.le_trans HZ0.out hk.size)
  clear hp hg hk
  go_wp2_with fail
  go_must (refine (get_sign B g _ _ HG1.out).mono ?_)
  rintro e w2 h
  rcases h.isWays with ⟨a1, r2, hp, rfl, hg, hk⟩ | ⟨k, hp, rfl, hk⟩
  rotate_left
  · have hc := Lib.hid (HC1.out.trans (Ps.bind_err hp))
    clear hp
    unfold wrongE
    go_wp2_with fail
    exact ⟨rfl, GetTo.err hc.out rfl (HK1.out.trans hk (fun _ _ e => e))⟩
  have HC2 := Lib.hid (HC1.out.trans (Ps.bind_ok hp))
  have HG2 := Lib.hid hg
  have HK2 := Lib.hid (HK1.out.trans hk (fun _ _ e => e))
  have HB2 := Lib.hid (HB1.out.kp hk HNE.out)
  have HZ2 := Lib.hid (Nat.le_trans HZ1.out hk.size)
  clear hp hg hk
  go_wp2_with fail
  go_must (refine (get_list_got B g _ _ HG2.out).mono ?_)
  rintro e w3 h
  rcases h.ways with ⟨a2, r3, x, hp, rfl, ⟨A2, rfl, ho⟩, hg, hk⟩ | ⟨k, hp, rfl, hk⟩
  rotate_left
  · have hc := Lib.hid (HC2.out.trans (Ps.bind_err hp))
    clear hp
    unfold wrongE
    go_wp2_with fail
    exact ⟨rfl, GetTo.err hc.out rfl (HK2.out.trans hk (fun _ _ e => e))⟩
  have HC3 := Lib.hid (HC2.out.trans (Ps.bind_ok hp))
  have HG3 := Lib.hid hg
  have HK3 := Lib.hid (HK2.out.trans hk (fun _ _ e => e))
  have HB3 := Lib.hid (HB2.out.kp hk HNE.out)
  have HZ3 := Lib.hid (Nat.le_trans HZ2.out hk.size)
  have HO2 := Lib.hid (ho.low HZ2.out)
  clear ho
  clear hp hg hk
  go_wp2_with ((with_reducible refine stopAt (.store 34 (.tmp 2) (.tmp 9)) rfl ?_); go_must (refine unStop (wpList_stS rfl 34 (.tmp 2) (.tmp 9) rfl [iv a0, iv a1, .slice A2 a2.length a2.length] sS_reply w.heap.size 0 rfl rfl rfl HB3.out [iv a0, iv a1, .slice A2 a2.length a2.length] (by simp) (by simp [iv, Value.oneCell']) rfl ?_)); intro w' hb' hk')
  have hg' := HG3.out.kp hk' (fun k e => by subst e; exact ⟨HBN.out, HNE.out⟩)
  have ho2 := HO2.out.kp hk' (fun k hk e => by have := (HO2.out.lt k hk).1; omega)
  exact bodyPost_ret (res_c rfl sS_reply _ rfl hb' [iv a0, iv a1, .slice A2 a2.length a2.length] rfl rfl) rfl (GetTo.ok HC3.out ⟨A2, rfl, ho2.low (Nat.le_succ _)⟩ (HK3.out.trans hk' (fun i hi e => by omega)) hg')
set_option maxRecDepth 20000 in
set_option maxHeartbeats 1000000 in
theorem get_entry (B g : Nat) (l : Bytes) (w : World) (hg : Gs B w g l) :
    Calls Try.prog 115 #[.pointer (some ⟨g, 0, none⟩)] w (GetTo B g w (VEntry w.heap.size) (pEntry l)) := by
  have HG0 := Lib.hid (hg.alloc (.cells #[.int .u64 0, .int .u64 0, .int .u8 0, .int .u64 0, .slice none 0 0] 124))
  have HK0 : Hid (Kp (fun k => k = g) w (w.alloc (.cells #[.int .u64 0, .int .u64 0, .int .u8 0, .int .u64 0, .slice none 0 0] 124))) := Lib.hid ((Kp.refl _ w).alloc _)
  have HB0 : Hid (Blk (w.alloc (.cells #[.int .u64 0, .int .u64 0, .int .u8 0, .int .u64 0, .slice none 0 0] 124)) w.heap.size 124 #[.int .u64 0, .int .u64 0, .int .u8 0, .int .u64 0, .slice none 0 0]) := Lib.hid (Blk.new _ _ _)
  have HNE : Hid (w.heap.size ≠ g) := Lib.hid (by have := hg.lt; omega)
  have HGL : Hid (g < w.heap.size) := Lib.hid hg.lt
  have HBN : Hid (B ≤ w.heap.size) := Lib.hid (by have := hg.lt; have := hg.base; omega)
  have HZ0 : Hid (w.heap.size + 1 ≤ (w.alloc (.cells #[.int .u64 0, .int .u64 0, .int .u8 0, .int .u64 0, .slice none 0 0] 124)).heap.size) := Lib.hid (by simp)
  clear hg
  go_enter Try.func115, Try.ntmps115
  go_wp2_with fail
  go_must (refine (get_u B g _ _ HG0.out).mono ?_)
  rintro e w1 h
  rcases h.isWays with ⟨a0, r1, hp, rfl, hg, hk⟩ | ⟨k, hp, rfl, hk⟩
  rotate_left
  · have hc := Lib.hid ((show pEntry l = .error k from Ps.bind_err hp))
    clear hp
    unfold wrongE
    go_wp2_with fail
    exact ⟨rfl, GetTo.err hc.out rfl (HK0.out.trans hk (fun _ _ e => e))⟩
  have HC1 := Lib.hid ((show pEntry l = _ from Ps.bind_ok hp))
  have HG1 := Lib.hid hg
  have HK1 := Lib.hid (HK0.out.trans hk (fun _ _ e => e))
  have HB1 := Lib.hid (HB0.out.kp hk HNE.out)
  have HZ1 := Lib.hid (Nat.le_trans HZ0.out hk.size)
  clear hp hg hk
  go_wp2_with fail
  go_must (refine (get_u B g _ _ HG1.out).mono ?_)
  rintro e w2 h
  rcases h.isWays with ⟨a1, r2, hp, rfl, hg, hk⟩ | ⟨k, hp, rfl, hk⟩
  rotate_left
  · have hc := Lib.hid (HC1.out.trans (Ps.bind_err hp))
    clear hp
    unfold wrongE
    go_wp2_with fail
    exact ⟨rfl, GetTo.err hc.out rfl (HK1.out.trans hk (fun _ _ e => e))⟩
  have HC2 := Lib.hid (HC1.out.trans (Ps.bind_ok hp))
  have HG2 := Lib.hid hg
  have HK2 := Lib.hid (HK1.out.trans hk (fun _ _ e => e))
  have HB2 := Lib.hid (HB1.out.kp hk HNE.out)
  have HZ2 := Lib.hid (Nat.le_trans HZ1.out hk.size)
  clear hp hg hk
  go_wp2_with fail
  go_must (refine (get_byte B g _ _ HG2.out).mono ?_)
  rintro e w3 h
  rcases h.isWays with ⟨a2, r3, hp, rfl, hg, hk⟩ | ⟨k, hp, rfl, hk⟩
  rotate_left
  · have hc := Lib.hid (HC2.out.trans (Ps.bind_err hp))
    clear hp
    unfold wrongE
    go_wp2_with fail
    exact ⟨rfl, GetTo.err hc.out rfl (HK2.out.trans hk (fun _ _ e => e))⟩
  have HC3 := Lib.hid (HC2.out.trans (Ps.bind_ok hp))
  have HG3 := Lib.hid hg
  have HK3 := Lib.hid (HK2.out.trans hk (fun _ _ e => e))
  have HB3 := Lib.hid (HB2.out.kp hk HNE.out)
  have HZ3 := Lib.hid (Nat.le_trans HZ2.out hk.size)
  clear hp hg hk
  go_wp2_with fail
  go_must (refine (get_u B g _ _ HG3.out).mono ?_)
  rintro e w4 h
  rcases h.isWays with ⟨a3, r4, hp, rfl, hg, hk⟩ | ⟨k, hp, rfl, hk⟩
  rotate_left
  · have hc := Lib.hid (HC3.out.trans (Ps.bind_err hp))
    clear hp
    unfold wrongE
    go_wp2_with fail
    exact ⟨rfl, GetTo.err hc.out rfl (HK3.out.trans hk (fun _ _ e => e))⟩
  have HC4 := Lib.hid (HC3.out.trans (Ps.bind_ok hp))
  have HG4 := Lib.hid hg
  have HK4 := Lib.hid (HK3.out.trans hk (fun _ _ e => e))
  have HB4 := Lib.hid (HB3.out.kp hk HNE.out)
  have HZ4 := Lib.hid (Nat.le_trans HZ3.out hk.size)
  clear hp hg hk
  go_wp2_with fail
  go_must (refine (get_command B g _ _ HG4.out).mono ?_)
  rintro e w5 h
  rcases h.ways with ⟨a4, r5, x, hp, rfl, ⟨A4, rfl, ho⟩, hg, hk⟩ | ⟨k, hp, rfl, hk⟩
  rotate_left
  · have hc := Lib.hid (HC4.out.trans (Ps.bind_err hp))
    clear hp
    unfold wrongE
    go_wp2_with fail
    exact ⟨rfl, GetTo.err hc.out rfl (HK4.out.trans hk (fun _ _ e => e))⟩
  have HC5 := Lib.hid (HC4.out.trans (Ps.bind_ok hp))
  have HG5 := Lib.hid hg
  have HK5 := Lib.hid (HK4.out.trans hk (fun _ _ e => e))
  have HB5 := Lib.hid (HB4.out.kp hk HNE.out)
  have HZ5 := Lib.hid (Nat.le_trans HZ4.out hk.size)
  have HO4 := Lib.hid (ho.low HZ4.out)
  clear ho
  clear hp hg hk
  go_wp2_with ((with_reducible refine stopAt (.store 124 (.tmp 2) (.tmp 14)) rfl ?_); go_must (refine unStop (wpList_stS rfl 124 (.tmp 2) (.tmp 14) rfl [uv a0, uv a1, bv a2, uv a3, .slice A4 a4.length a4.length] sS_entry w.heap.size 0 rfl rfl rfl HB5.out [uv a0, uv a1, bv a2, uv a3, .slice A4 a4.length a4.length] (by simp) (by simp [uv, bv, Value.oneCell']) rfl ?_)); intro w' hb' hk')
  have hg' := HG5.out.kp hk' (fun k e => by subst e; exact ⟨HBN.out, HNE.out⟩)
  have ho4 := HO4.out.kp hk' (fun k hk e => by have := (HO4.out.lt k hk).1; omega)
  exact bodyPost_ret (res_c rfl sS_entry _ rfl hb' [uv a0, uv a1, bv a2, uv a3, .slice A4 a4.length a4.length] rfl rfl) rfl (GetTo.ok HC5.out ⟨A4, rfl, ho4.low (Nat.le_succ _)⟩ (HK5.out.trans hk' (fun i hi e => by omega)) hg')
set_option maxRecDepth 20000 in
set_option maxHeartbeats 1000000 in
theorem get_state (B g : Nat) (l : Bytes) (w : World) (hg : Gs B w g l) :
    Calls Try.prog 129 #[.pointer (some ⟨g, 0, none⟩)] w (GetTo B g w (VState w.heap.size) (pState l)) := by
  have HG0 := Lib.hid (hg.alloc (.cells #[.slice none 0 0, .slice none 0 0, .slice none 0 0, .int .u64 0] 143))
  have HK0 : Hid (Kp (fun k => k = g) w (w.alloc (.cells #[.slice none 0 0, .slice none 0 0, .slice none 0 0, .int .u64 0] 143))) := Lib.hid ((Kp.refl _ w).alloc _)
  have HB0 : Hid (Blk (w.alloc (.cells #[.slice none 0 0, .slice none 0 0, .slice none 0 0, .int .u64 0] 143)) w.heap.size 143 #[.slice none 0 0, .slice none 0 0, .slice none 0 0, .int .u64 0]) := Lib.hid (Blk.new _ _ _)
  have HNE : Hid (w.heap.size ≠ g) := Lib.hid (by have := hg.lt; omega)
  have HGL : Hid (g < w.heap.size) := Lib.hid hg.lt
  have HBN : Hid (B ≤ w.heap.size) := Lib.hid (by have := hg.lt; have := hg.base; omega)
  have HZ0 : Hid (w.heap.size + 1 ≤ (w.alloc (.cells #[.slice none 0 0, .slice none 0 0, .slice none 0 0, .int .u64 0] 143)).heap.size) := Lib.hid (by simp)
  clear hg
  go_enter Try.func129, Try.ntmps129
  go_wp2_with fail
  go_must (refine (get_list_party B g _ _ HG0.out).mono ?_)
  rintro e w1 h
  rcases h.ways with ⟨a0, r1, x, hp, rfl, ⟨A0, rfl, ho⟩, hg, hk⟩ | ⟨k, hp, rfl, hk⟩
  rotate_left
  · have hc := Lib.hid ((show pState l = .error k from Ps.bind_err hp))
    clear hp
    unfold wrongE
    go_wp2_with fail
    exact ⟨rfl, GetTo.err hc.out rfl (HK0.out.trans hk (fun _ _ e => e))⟩
  have HC1 := Lib.hid ((show pState l = _ from Ps.bind_ok hp))
  have HG1 := Lib.hid hg
  have HK1 := Lib.hid (HK0.out.trans hk (fun _ _ e => e))
  have HB1 := Lib.hid (HB0.out.kp hk HNE.out)
  have HZ1 := Lib.hid (Nat.le_trans HZ0.out hk.size)
  have HO0 := Lib.hid (ho.low HZ0.out)
  clear ho
  clear hp hg hk
  go_wp2_with fail
  go_must (refine (get_list_line B g _ _ HG1.out).mono ?_)
  rintro e w2 h
  rcases h.ways with ⟨a1, r2, x, hp, rfl, ⟨A1, rfl, ho⟩, hg, hk⟩ | ⟨k, hp, rfl, hk⟩
  rotate_left
  · have hc := Lib.hid (HC1.out.trans (Ps.bind_err hp))
    clear hp
    unfold wrongE
    go_wp2_with fail
    exact ⟨rfl, GetTo.err hc.out rfl (HK1.out.trans hk (fun _ _ e => e))⟩
  have HC2 := Lib.hid (HC1.out.trans (Ps.bind_ok hp))
  have HG2 := Lib.hid hg
  have HK2 := Lib.hid (HK1.out.trans hk (fun _ _ e => e))
  have HB2 := Lib.hid (HB1.out.kp hk HNE.out)
  have HZ2 := Lib.hid (Nat.le_trans HZ1.out hk.size)
  replace HO0 := Lib.hid (HO0.out.kp hk (fun k hk e => by have := (HO0.out.lt k hk).1; have := HGL.out; omega))
  have HO1 := Lib.hid (ho.low HZ1.out)
  clear ho
  clear hp hg hk
  go_wp2_with fail
  go_must (refine (get_list_offer B g _ _ HG2.out).mono ?_)
  rintro e w3 h
  rcases h.ways with ⟨a2, r3, x, hp, rfl, ⟨A2, rfl, ho⟩, hg, hk⟩ | ⟨k, hp, rfl, hk⟩
  rotate_left
  · have hc := Lib.hid (HC2.out.trans (Ps.bind_err hp))
    clear hp
    unfold wrongE
    go_wp2_with fail
    exact ⟨rfl, GetTo.err hc.out rfl (HK2.out.trans hk (fun _ _ e => e))⟩
  have HC3 := Lib.hid (HC2.out.trans (Ps.bind_ok hp))
  have HG3 := Lib.hid hg
  have HK3 := Lib.hid (HK2.out.trans hk (fun _ _ e => e))
  have HB3 := Lib.hid (HB2.out.kp hk HNE.out)
  have HZ3 := Lib.hid (Nat.le_trans HZ2.out hk.size)
  replace HO0 := Lib.hid (HO0.out.kp hk (fun k hk e => by have := (HO0.out.lt k hk).1; have := HGL.out; omega))
  replace HO1 := Lib.hid (HO1.out.kp hk (fun k hk e => by have := (HO1.out.lt k hk).1; have := HGL.out; omega))
  have HO2 := Lib.hid (ho.low HZ2.out)
  clear ho
  clear hp hg hk
  go_wp2_with fail
  go_must (refine (get_u B g _ _ HG3.out).mono ?_)
  rintro e w4 h
  rcases h.isWays with ⟨a3, r4, hp, rfl, hg, hk⟩ | ⟨k, hp, rfl, hk⟩
  rotate_left
  · have hc := Lib.hid (HC3.out.trans (Ps.bind_err hp))
    clear hp
    unfold wrongE
    go_wp2_with fail
    exact ⟨rfl, GetTo.err hc.out rfl (HK3.out.trans hk (fun _ _ e => e))⟩
  have HC4 := Lib.hid (HC3.out.trans (Ps.bind_ok hp))
  have HG4 := Lib.hid hg
  have HK4 := Lib.hid (HK3.out.trans hk (fun _ _ e => e))
  have HB4 := Lib.hid (HB3.out.kp hk HNE.out)
  have HZ4 := Lib.hid (Nat.le_trans HZ3.out hk.size)
  replace HO0 := Lib.hid (HO0.out.kp hk (fun k hk e => by have := (HO0.out.lt k hk).1; have := HGL.out; omega))
  replace HO1 := Lib.hid (HO1.out.kp hk (fun k hk e => by have := (HO1.out.lt k hk).1; have := HGL.out; omega))
  replace HO2 := Lib.hid (HO2.out.kp hk (fun k hk e => by have := (HO2.out.lt k hk).1; have := HGL.out; omega))
  clear hp hg hk
  go_wp2_with ((with_reducible refine stopAt (.store 143 (.tmp 2) (.tmp 11)) rfl ?_); go_must (refine unStop (wpList_stS rfl 143 (.tmp 2) (.tmp 11) rfl [.slice A0 a0.length a0.length, .slice A1 a1.length a1.length, .slice A2 a2.length a2.length, uv a3] sS_state w.heap.size 0 rfl rfl rfl HB4.out [.slice A0 a0.length a0.length, .slice A1 a1.length a1.length, .slice A2 a2.length a2.length, uv a3] (by simp) (by simp [uv, Value.oneCell']) rfl ?_)); intro w' hb' hk')
  have hg' := HG4.out.kp hk' (fun k e => by subst e; exact ⟨HBN.out, HNE.out⟩)
  have ho0 := HO0.out.kp hk' (fun k hk e => by have := (HO0.out.lt k hk).1; omega)
  have ho1 := HO1.out.kp hk' (fun k hk e => by have := (HO1.out.lt k hk).1; omega)
  have ho2 := HO2.out.kp hk' (fun k hk e => by have := (HO2.out.lt k hk).1; omega)
  exact bodyPost_ret (res_c rfl sS_state _ rfl hb' [.slice A0 a0.length a0.length, .slice A1 a1.length a1.length, .slice A2 a2.length a2.length, uv a3] rfl rfl) rfl (GetTo.ok HC4.out ⟨A0, A1, A2, rfl, by rw [← bv_flat]; exact ho0.low (Nat.le_succ _), ho1.low (Nat.le_succ _), ho2.low (Nat.le_succ _)⟩ (HK4.out.trans hk' (fun i hi e => by omega)) hg')
end Go.Proofs.Ytiimdnachgkomaa
