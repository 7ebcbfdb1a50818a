/- packs: a rate, a step, a line, an offer, lists of them are got. -/
import Derived.Test.YtiimdnachgkomaaGet2
import Derived.Test.YtiimdnachgkomaaPut4
namespace Go.Proofs.Ytiimdnachgkomaa
open Go Go.RowKit
def pRate : Ps (Int64 × Int64) := pS.bind fun x => pS.bind fun y => Ps.pure (x, y)
theorem rate_bind {α : Type} {F : Int64 → Int64 → Ps α} (l : Bytes) : (pS.bind fun x => pS.bind fun y => F x y) l = (pRate.bind fun p => F p.1 p.2) l := by simp only [pRate, Ps.bind_assoc, Ps.pure_bind]
theorem get_u (B g : Nat) (l : Bytes) (w : World) (hg : Gs B w g l) :
    Calls Try.prog 152 #[.pointer (some ⟨g, 0, none⟩)] w (GetTo B g w (Is uv) (pU l)) := by
  refine (get_num B g l w hg).mono ?_
  intro e w' h
  rcases h.isWays with ⟨n, r, hp, rfl, hg, hk⟩ | ⟨k, hp, rfl, hk⟩
  · have hn := (codec_num.inv l n r hp).1
    refine GetTo.ok (Ps.bind_ok hp) ?_ hk hg
    show Value.int .u64 (n : Int) = uv (UInt64.ofNat n)
    unfold uv
    rw [UInt64.toNat_ofNat', Nat.mod_eq_of_lt (show n < 2 ^ 64 from hn)]
  · exact GetTo.err (Ps.bind_err hp) rfl hk

set_option maxRecDepth 20000 in
set_option maxHeartbeats 1000000 in
theorem get_rate (B g : Nat) (l : Bytes) (w : World) (hg : Gs B w g l) :
    Calls Try.prog 193 #[.pointer (some ⟨g, 0, none⟩)] w (GetTo B g w (Is fun p : Int64 × Int64 => .agg #[iv p.1, iv p.2]) (pRate l)) := by
  have HG0 := Lib.hid (hg.alloc (.cells #[.int .i64 0, .int .i64 0] 167))
  have HK0 : Hid (Kp (fun k => k = g) w (w.alloc (.cells #[.int .i64 0, .int .i64 0] 167))) := Lib.hid ((Kp.refl _ w).alloc _)
  have HB0 : Hid (Blk (w.alloc (.cells #[.int .i64 0, .int .i64 0] 167)) w.heap.size 167 #[.int .i64 0, .int .i64 0]) := Lib.hid (Blk.new _ _ _)
  have HNE : Hid (w.heap.size ≠ g) := Lib.hid (by have := hg.lt; omega)
  have HGL : Hid (g < w.heap.size) := Lib.hid hg.lt
  have HBN : Hid (B ≤ w.heap.size) := Lib.hid (by have := hg.lt; have := hg.base; omega)
  have HZ0 : Hid (w.heap.size + 1 ≤ (w.alloc (.cells #[.int .i64 0, .int .i64 0] 167)).heap.size) := Lib.hid (by simp)
  clear hg
  go_enter Try.func193, Try.ntmps193
  go_wp2_with fail
  go_must (refine (get_sign B g _ _ HG0.out).mono ?_)
  rintro e w1 h
  rcases h.isWays with ⟨a0, r1, hp, rfl, hg, hk⟩ | ⟨k, hp, rfl, hk⟩
  rotate_left
  · have hc := Lib.hid ((show pRate l = .error k from Ps.bind_err hp))
    clear hp
    unfold wrongE
    go_wp2_with fail
    exact ⟨rfl, GetTo.err hc.out rfl (HK0.out.trans hk (fun _ _ e => e))⟩
  have HC1 := Lib.hid ((show pRate l = _ from Ps.bind_ok hp))
  have HG1 := Lib.hid hg
  have HK1 := Lib.hid (HK0.out.trans hk (fun _ _ e => e))
  have HB1 := Lib.hid (HB0.out.kp hk HNE.out)
  have HZ1 := Lib.hid (Nat.le_trans HZ0.out hk.size)
  clear hp hg hk
  go_wp2_with fail
  go_must (refine (get_sign B g _ _ HG1.out).mono ?_)
  rintro e w2 h
  rcases h.isWays with ⟨a1, r2, hp, rfl, hg, hk⟩ | ⟨k, hp, rfl, hk⟩
  rotate_left
  · have hc := Lib.hid (HC1.out.trans (Ps.bind_err hp))
    clear hp
    unfold wrongE
    go_wp2_with fail
    exact ⟨rfl, GetTo.err hc.out rfl (HK1.out.trans hk (fun _ _ e => e))⟩
  have HC2 := Lib.hid (HC1.out.trans (Ps.bind_ok hp))
  have HG2 := Lib.hid hg
  have HK2 := Lib.hid (HK1.out.trans hk (fun _ _ e => e))
  have HB2 := Lib.hid (HB1.out.kp hk HNE.out)
  have HZ2 := Lib.hid (Nat.le_trans HZ1.out hk.size)
  clear hp hg hk
  go_wp2_with ((with_reducible refine stopAt (.store 167 (.tmp 2) (.tmp 7)) rfl ?_); go_must (refine unStop (wpList_stS rfl 167 (.tmp 2) (.tmp 7) rfl [iv a0, iv a1] sS_rat w.heap.size 0 rfl rfl rfl HB2.out [iv a0, iv a1] (by simp) (by simp [iv, Value.oneCell']) rfl ?_)); intro w' hb' hk')
  have hg' := HG2.out.kp hk' (fun k e => by subst e; exact ⟨HBN.out, HNE.out⟩)
  exact bodyPost_ret (res_c rfl sS_rat _ rfl hb' [iv a0, iv a1] rfl rfl) rfl (GetTo.ok HC2.out rfl (HK2.out.trans hk' (fun i hi e => by omega)) hg')
set_option maxRecDepth 20000 in
set_option maxHeartbeats 1000000 in
theorem get_step (B g : Nat) (l : Bytes) (w : World) (hg : Gs B w g l) :
    Calls Try.prog 189 #[.pointer (some ⟨g, 0, none⟩)] w (GetTo B g w (Is fun x : Step => .agg x.cells.toArray) (pStep l)) := by
  have HG0 := Lib.hid (hg.alloc (.cells #[.int .u8 0, .int .u8 0, .int .u8 0, .int .u8 0, .int .u8 0, .int .i64 0, .int .i64 0, .int .i64 0, .int .i64 0, .int .u64 0] 169))
  have HK0 : Hid (Kp (fun k => k = g) w (w.alloc (.cells #[.int .u8 0, .int .u8 0, .int .u8 0, .int .u8 0, .int .u8 0, .int .i64 0, .int .i64 0, .int .i64 0, .int .i64 0, .int .u64 0] 169))) := Lib.hid ((Kp.refl _ w).alloc _)
  have HB0 : Hid (Blk (w.alloc (.cells #[.int .u8 0, .int .u8 0, .int .u8 0, .int .u8 0, .int .u8 0, .int .i64 0, .int .i64 0, .int .i64 0, .int .i64 0, .int .u64 0] 169)) w.heap.size 169 #[.int .u8 0, .int .u8 0, .int .u8 0, .int .u8 0, .int .u8 0, .int .i64 0, .int .i64 0, .int .i64 0, .int .i64 0, .int .u64 0]) := Lib.hid (Blk.new _ _ _)
  have HNE : Hid (w.heap.size ≠ g) := Lib.hid (by have := hg.lt; omega)
  have HGL : Hid (g < w.heap.size) := Lib.hid hg.lt
  have HBN : Hid (B ≤ w.heap.size) := Lib.hid (by have := hg.lt; have := hg.base; omega)
  have HZ0 : Hid (w.heap.size + 1 ≤ (w.alloc (.cells #[.int .u8 0, .int .u8 0, .int .u8 0, .int .u8 0, .int .u8 0, .int .i64 0, .int .i64 0, .int .i64 0, .int .i64 0, .int .u64 0] 169)).heap.size) := Lib.hid (by simp)
  clear hg
  go_enter Try.func189, Try.ntmps189
  go_wp2_with fail
  go_must (refine (get_byte B g _ _ HG0.out).mono ?_)
  rintro e w1 h
  rcases h.isWays with ⟨a0, r1, hp, rfl, hg, hk⟩ | ⟨k, hp, rfl, hk⟩
  rotate_left
  · have hc := Lib.hid ((show pStep l = .error k from Ps.bind_err hp))
    clear hp
    unfold wrongE
    go_wp2_with fail
    exact ⟨rfl, GetTo.err hc.out rfl (HK0.out.trans hk (fun _ _ e => e))⟩
  have HC1 := Lib.hid ((show pStep l = _ from Ps.bind_ok hp))
  have HG1 := Lib.hid hg
  have HK1 := Lib.hid (HK0.out.trans hk (fun _ _ e => e))
  have HB1 := Lib.hid (HB0.out.kp hk HNE.out)
  have HZ1 := Lib.hid (Nat.le_trans HZ0.out hk.size)
  clear hp hg hk
  go_wp2_with fail
  go_must (refine (get_byte B g _ _ HG1.out).mono ?_)
  rintro e w2 h
  rcases h.isWays with ⟨a1, r2, hp, rfl, hg, hk⟩ | ⟨k, hp, rfl, hk⟩
  rotate_left
  · have hc := Lib.hid (HC1.out.trans (Ps.bind_err hp))
    clear hp
    unfold wrongE
    go_wp2_with fail
    exact ⟨rfl, GetTo.err hc.out rfl (HK1.out.trans hk (fun _ _ e => e))⟩
  have HC2 := Lib.hid (HC1.out.trans (Ps.bind_ok hp))
  have HG2 := Lib.hid hg
  have HK2 := Lib.hid (HK1.out.trans hk (fun _ _ e => e))
  have HB2 := Lib.hid (HB1.out.kp hk HNE.out)
  have HZ2 := Lib.hid (Nat.le_trans HZ1.out hk.size)
  clear hp hg hk
  go_wp2_with fail
  go_must (refine (get_byte B g _ _ HG2.out).mono ?_)
  rintro e w3 h
  rcases h.isWays with ⟨a2, r3, hp, rfl, hg, hk⟩ | ⟨k, hp, rfl, hk⟩
  rotate_left
  · have hc := Lib.hid (HC2.out.trans (Ps.bind_err hp))
    clear hp
    unfold wrongE
    go_wp2_with fail
    exact ⟨rfl, GetTo.err hc.out rfl (HK2.out.trans hk (fun _ _ e => e))⟩
  have HC3 := Lib.hid (HC2.out.trans (Ps.bind_ok hp))
  have HG3 := Lib.hid hg
  have HK3 := Lib.hid (HK2.out.trans hk (fun _ _ e => e))
  have HB3 := Lib.hid (HB2.out.kp hk HNE.out)
  have HZ3 := Lib.hid (Nat.le_trans HZ2.out hk.size)
  clear hp hg hk
  go_wp2_with fail
  go_must (refine (get_byte B g _ _ HG3.out).mono ?_)
  rintro e w4 h
  rcases h.isWays with ⟨a3, r4, hp, rfl, hg, hk⟩ | ⟨k, hp, rfl, hk⟩
  rotate_left
  · have hc := Lib.hid (HC3.out.trans (Ps.bind_err hp))
    clear hp
    unfold wrongE
    go_wp2_with fail
    exact ⟨rfl, GetTo.err hc.out rfl (HK3.out.trans hk (fun _ _ e => e))⟩
  have HC4 := Lib.hid (HC3.out.trans (Ps.bind_ok hp))
  have HG4 := Lib.hid hg
  have HK4 := Lib.hid (HK3.out.trans hk (fun _ _ e => e))
  have HB4 := Lib.hid (HB3.out.kp hk HNE.out)
  have HZ4 := Lib.hid (Nat.le_trans HZ3.out hk.size)
  clear hp hg hk
  go_wp2_with fail
  go_must (refine (get_byte B g _ _ HG4.out).mono ?_)
  rintro e w5 h
  rcases h.isWays with ⟨a4, r5, hp, rfl, hg, hk⟩ | ⟨k, hp, rfl, hk⟩
  rotate_left
  · have hc := Lib.hid (HC4.out.trans (Ps.bind_err hp))
    clear hp
    unfold wrongE
    go_wp2_with fail
    exact ⟨rfl, GetTo.err hc.out rfl (HK4.out.trans hk (fun _ _ e => e))⟩
  have HC5 := Lib.hid (HC4.out.trans (Ps.bind_ok hp))
  have HG5 := Lib.hid hg
  have HK5 := Lib.hid (HK4.out.trans hk (fun _ _ e => e))
  have HB5 := Lib.hid (HB4.out.kp hk HNE.out)
  have HZ5 := Lib.hid (Nat.le_trans HZ4.out hk.size)
  clear hp hg hk
  go_wp2_with fail
  go_must (refine (get_sign B g _ _ HG5.out).mono ?_)
  rintro e w6 h
  rcases h.isWays with ⟨a5, r6, hp, rfl, hg, hk⟩ | ⟨k, hp, rfl, hk⟩
  rotate_left
  · have hc := Lib.hid (HC5.out.trans (Ps.bind_err hp))
    clear hp
    unfold wrongE
    go_wp2_with fail
    exact ⟨rfl, GetTo.err hc.out rfl (HK5.out.trans hk (fun _ _ e => e))⟩
  have HC6 := Lib.hid (HC5.out.trans (Ps.bind_ok hp))
  have HG6 := Lib.hid hg
  have HK6 := Lib.hid (HK5.out.trans hk (fun _ _ e => e))
  have HB6 := Lib.hid (HB5.out.kp hk HNE.out)
  have HZ6 := Lib.hid (Nat.le_trans HZ5.out hk.size)
  clear hp hg hk
  go_wp2_with fail
  go_must (refine (get_sign B g _ _ HG6.out).mono ?_)
  rintro e w7 h
  rcases h.isWays with ⟨a6, r7, hp, rfl, hg, hk⟩ | ⟨k, hp, rfl, hk⟩
  rotate_left
  · have hc := Lib.hid (HC6.out.trans (Ps.bind_err hp))
    clear hp
    unfold wrongE
    go_wp2_with fail
    exact ⟨rfl, GetTo.err hc.out rfl (HK6.out.trans hk (fun _ _ e => e))⟩
  have HC7 := Lib.hid (HC6.out.trans (Ps.bind_ok hp))
  have HG7 := Lib.hid hg
  have HK7 := Lib.hid (HK6.out.trans hk (fun _ _ e => e))
  have HB7 := Lib.hid (HB6.out.kp hk HNE.out)
  have HZ7 := Lib.hid (Nat.le_trans HZ6.out hk.size)
  clear hp hg hk
  go_wp2_with fail
  replace HC7 := Lib.hid (HC7.out.trans (rate_bind _))
  go_must (refine (get_rate B g _ _ HG7.out).mono ?_)
  rintro e w8 h
  rcases h.isWays with ⟨⟨a7, b7⟩, r8, hp, rfl, hg, hk⟩ | ⟨k, hp, rfl, hk⟩
  rotate_left
  · have hc := Lib.hid (HC7.out.trans (Ps.bind_err hp))
    clear hp
    unfold wrongE
    go_wp2_with fail
    exact ⟨rfl, GetTo.err hc.out rfl (HK7.out.trans hk (fun _ _ e => e))⟩
  have HC8 := Lib.hid (HC7.out.trans (Ps.bind_ok hp))
  have HG8 := Lib.hid hg
  have HK8 := Lib.hid (HK7.out.trans hk (fun _ _ e => e))
  have HB8 := Lib.hid (HB7.out.kp hk HNE.out)
  have HZ8 := Lib.hid (Nat.le_trans HZ7.out hk.size)
  clear hp hg hk
  go_wp2_with fail
  go_must (refine (get_u B g _ _ HG8.out).mono ?_)
  rintro e w9 h
  rcases h.isWays with ⟨a8, r9, hp, rfl, hg, hk⟩ | ⟨k, hp, rfl, hk⟩
  rotate_left
  · have hc := Lib.hid (HC8.out.trans (Ps.bind_err hp))
    clear hp
    unfold wrongE
    go_wp2_with fail
    exact ⟨rfl, GetTo.err hc.out rfl (HK8.out.trans hk (fun _ _ e => e))⟩
  have HC9 := Lib.hid (HC8.out.trans (Ps.bind_ok hp))
  have HG9 := Lib.hid hg
  have HK9 := Lib.hid (HK8.out.trans hk (fun _ _ e => e))
  have HB9 := Lib.hid (HB8.out.kp hk HNE.out)
  have HZ9 := Lib.hid (Nat.le_trans HZ8.out hk.size)
  clear hp hg hk
  go_wp2_with ((with_reducible refine stopAt (.store 169 (.tmp 2) (.tmp 21)) rfl ?_); go_must (refine unStop (wpList_stS rfl 169 (.tmp 2) (.tmp 21) rfl (Step.cells ⟨a0, a1, a2, a3, a4, a5, a6, a7, b7, a8⟩) sS_step w.heap.size 0 rfl rfl rfl HB9.out (Step.cells ⟨a0, a1, a2, a3, a4, a5, a6, a7, b7, a8⟩) (by simp [Step.cells]) (step_one _) rfl ?_)); intro w' hb' hk')
  have hg' := HG9.out.kp hk' (fun k e => by subst e; exact ⟨HBN.out, HNE.out⟩)
  exact bodyPost_ret (res_c rfl sS_step _ rfl hb' (Step.cells ⟨a0, a1, a2, a3, a4, a5, a6, a7, b7, a8⟩) rfl rfl) rfl (GetTo.ok HC9.out rfl (HK9.out.trans hk' (fun i hi e => by omega)) hg')
set_option maxRecDepth 20000 in
set_option maxHeartbeats 1000000 in
theorem get_got (B g : Nat) (l : Bytes) (w : World) (hg : Gs B w g l) :
    Calls Try.prog 158 #[.pointer (some ⟨g, 0, none⟩)] w (GetTo B g w (Is fun x : Got => .agg x.cells.toArray) (pGot l)) := by
  have HG0 := Lib.hid (hg.alloc (.cells #[.int .i64 0, .int .i64 0] 93))
  have HK0 : Hid (Kp (fun k => k = g) w (w.alloc (.cells #[.int .i64 0, .int .i64 0] 93))) := Lib.hid ((Kp.refl _ w).alloc _)
  have HB0 : Hid (Blk (w.alloc (.cells #[.int .i64 0, .int .i64 0] 93)) w.heap.size 93 #[.int .i64 0, .int .i64 0]) := Lib.hid (Blk.new _ _ _)
  have HNE : Hid (w.heap.size ≠ g) := Lib.hid (by have := hg.lt; omega)
  have HGL : Hid (g < w.heap.size) := Lib.hid hg.lt
  have HBN : Hid (B ≤ w.heap.size) := Lib.hid (by have := hg.lt; have := hg.base; omega)
  have HZ0 : Hid (w.heap.size + 1 ≤ (w.alloc (.cells #[.int .i64 0, .int .i64 0] 93)).heap.size) := Lib.hid (by simp)
  clear hg
  go_enter Try.func158, Try.ntmps158
  go_wp2_with fail
  go_must (refine (get_sign B g _ _ HG0.out).mono ?_)
  rintro e w1 h
  rcases h.isWays with ⟨a0, r1, hp, rfl, hg, hk⟩ | ⟨k, hp, rfl, hk⟩
  rotate_left
  · have hc := Lib.hid ((show pGot l = .error k from Ps.bind_err hp))
    clear hp
    unfold wrongE
    go_wp2_with fail
    exact ⟨rfl, GetTo.err hc.out rfl (HK0.out.trans hk (fun _ _ e => e))⟩
  have HC1 := Lib.hid ((show pGot l = _ from Ps.bind_ok hp))
  have HG1 := Lib.hid hg
  have HK1 := Lib.hid (HK0.out.trans hk (fun _ _ e => e))
  have HB1 := Lib.hid (HB0.out.kp hk HNE.out)
  have HZ1 := Lib.hid (Nat.le_trans HZ0.out hk.size)
  clear hp hg hk
  go_wp2_with fail
  go_must (refine (get_sign B g _ _ HG1.out).mono ?_)
  rintro e w2 h
  rcases h.isWays with ⟨a1, r2, hp, rfl, hg, hk⟩ | ⟨k, hp, rfl, hk⟩
  rotate_left
  · have hc := Lib.hid (HC1.out.trans (Ps.bind_err hp))
    clear hp
    unfold wrongE
    go_wp2_with fail
    exact ⟨rfl, GetTo.err hc.out rfl (HK1.out.trans hk (fun _ _ e => e))⟩
  have HC2 := Lib.hid (HC1.out.trans (Ps.bind_ok hp))
  have HG2 := Lib.hid hg
  have HK2 := Lib.hid (HK1.out.trans hk (fun _ _ e => e))
  have HB2 := Lib.hid (HB1.out.kp hk HNE.out)
  have HZ2 := Lib.hid (Nat.le_trans HZ1.out hk.size)
  clear hp hg hk
  go_wp2_with ((with_reducible refine stopAt (.store 93 (.tmp 2) (.tmp 7)) rfl ?_); go_must (refine unStop (wpList_stS rfl 93 (.tmp 2) (.tmp 7) rfl (Got.cells ⟨a0, a1⟩) sS_got w.heap.size 0 rfl rfl rfl HB2.out (Got.cells ⟨a0, a1⟩) (by simp [Got.cells]) (got_one1 _) rfl ?_)); intro w' hb' hk')
  have hg' := HG2.out.kp hk' (fun k e => by subst e; exact ⟨HBN.out, HNE.out⟩)
  exact bodyPost_ret (res_c rfl sS_got _ rfl hb' (Got.cells ⟨a0, a1⟩) rfl rfl) rfl (GetTo.ok HC2.out rfl (HK2.out.trans hk' (fun i hi e => by omega)) hg')
set_option maxRecDepth 20000 in
set_option maxHeartbeats 1000000 in
theorem get_line (B g : Nat) (l : Bytes) (w : World) (hg : Gs B w g l) :
    Calls Try.prog 172 #[.pointer (some ⟨g, 0, none⟩)] w (GetTo B g w (Is fun x : Line => .agg x.cells.toArray) (pLine l)) := by
  have HG0 := Lib.hid (hg.alloc (.cells #[.int .u8 0, .int .u8 0, .int .u8 0, .int .i64 0, .int .i64 0] 213))
  have HK0 : Hid (Kp (fun k => k = g) w (w.alloc (.cells #[.int .u8 0, .int .u8 0, .int .u8 0, .int .i64 0, .int .i64 0] 213))) := Lib.hid ((Kp.refl _ w).alloc _)
  have HB0 : Hid (Blk (w.alloc (.cells #[.int .u8 0, .int .u8 0, .int .u8 0, .int .i64 0, .int .i64 0] 213)) w.heap.size 213 #[.int .u8 0, .int .u8 0, .int .u8 0, .int .i64 0, .int .i64 0]) := Lib.hid (Blk.new _ _ _)
  have HNE : Hid (w.heap.size ≠ g) := Lib.hid (by have := hg.lt; omega)
  have HGL : Hid (g < w.heap.size) := Lib.hid hg.lt
  have HBN : Hid (B ≤ w.heap.size) := Lib.hid (by have := hg.lt; have := hg.base; omega)
  have HZ0 : Hid (w.heap.size + 1 ≤ (w.alloc (.cells #[.int .u8 0, .int .u8 0, .int .u8 0, .int .i64 0, .int .i64 0] 213)).heap.size) := Lib.hid (by simp)
  clear hg
  go_enter Try.func172, Try.ntmps172
  go_wp2_with fail
  go_must (refine (get_byte B g _ _ HG0.out).mono ?_)
  rintro e w1 h
  rcases h.isWays with ⟨a0, r1, hp, rfl, hg, hk⟩ | ⟨k, hp, rfl, hk⟩
  rotate_left
  · have hc := Lib.hid ((show pLine l = .error k from Ps.bind_err hp))
    clear hp
    unfold wrongE
    go_wp2_with fail
    exact ⟨rfl, GetTo.err hc.out rfl (HK0.out.trans hk (fun _ _ e => e))⟩
  have HC1 := Lib.hid ((show pLine l = _ from Ps.bind_ok hp))
  have HG1 := Lib.hid hg
  have HK1 := Lib.hid (HK0.out.trans hk (fun _ _ e => e))
  have HB1 := Lib.hid (HB0.out.kp hk HNE.out)
  have HZ1 := Lib.hid (Nat.le_trans HZ0.out hk.size)
  clear hp hg hk
  go_wp2_with fail
  go_must (refine (get_byte B g _ _ HG1.out).mono ?_)
  rintro e w2 h
  rcases h.isWays with ⟨a1, r2, hp, rfl, hg, hk⟩ | ⟨k, hp, rfl, hk⟩
  rotate_left
  · have hc := Lib.hid (HC1.out.trans (Ps.bind_err hp))
    clear hp
    unfold wrongE
    go_wp2_with fail
    exact ⟨rfl, GetTo.err hc.out rfl (HK1.out.trans hk (fun _ _ e => e))⟩
  have HC2 := Lib.hid (HC1.out.trans (Ps.bind_ok hp))
  have HG2 := Lib.hid hg
  have HK2 := Lib.hid (HK1.out.trans hk (fun _ _ e => e))
  have HB2 := Lib.hid (HB1.out.kp hk HNE.out)
  have HZ2 := Lib.hid (Nat.le_trans HZ1.out hk.size)
  clear hp hg hk
  go_wp2_with fail
  go_must (refine (get_byte B g _ _ HG2.out).mono ?_)
  rintro e w3 h
  rcases h.isWays with ⟨a2, r3, hp, rfl, hg, hk⟩ | ⟨k, hp, rfl, hk⟩
  rotate_left
  · have hc := Lib.hid (HC2.out.trans (Ps.bind_err hp))
    clear hp
    unfold wrongE
    go_wp2_with fail
    exact ⟨rfl, GetTo.err hc.out rfl (HK2.out.trans hk (fun _ _ e => e))⟩
  have HC3 := Lib.hid (HC2.out.trans (Ps.bind_ok hp))
  have HG3 := Lib.hid hg
  have HK3 := Lib.hid (HK2.out.trans hk (fun _ _ e => e))
  have HB3 := Lib.hid (HB2.out.kp hk HNE.out)
  have HZ3 := Lib.hid (Nat.le_trans HZ2.out hk.size)
  clear hp hg hk
  go_wp2_with fail
  go_must (refine (get_sign B g _ _ HG3.out).mono ?_)
  rintro e w4 h
  rcases h.isWays with ⟨a3, r4, hp, rfl, hg, hk⟩ | ⟨k, hp, rfl, hk⟩
  rotate_left
  · have hc := Lib.hid (HC3.out.trans (Ps.bind_err hp))
    clear hp
    unfold wrongE
    go_wp2_with fail
    exact ⟨rfl, GetTo.err hc.out rfl (HK3.out.trans hk (fun _ _ e => e))⟩
  have HC4 := Lib.hid (HC3.out.trans (Ps.bind_ok hp))
  have HG4 := Lib.hid hg
  have HK4 := Lib.hid (HK3.out.trans hk (fun _ _ e => e))
  have HB4 := Lib.hid (HB3.out.kp hk HNE.out)
  have HZ4 := Lib.hid (Nat.le_trans HZ3.out hk.size)
  clear hp hg hk
  go_wp2_with fail
  go_must (refine (get_sign B g _ _ HG4.out).mono ?_)
  rintro e w5 h
  rcases h.isWays with ⟨a4, r5, hp, rfl, hg, hk⟩ | ⟨k, hp, rfl, hk⟩
  rotate_left
  · have hc := Lib.hid (HC4.out.trans (Ps.bind_err hp))
    clear hp
    unfold wrongE
    go_wp2_with fail
    exact ⟨rfl, GetTo.err hc.out rfl (HK4.out.trans hk (fun _ _ e => e))⟩
  have HC5 := Lib.hid (HC4.out.trans (Ps.bind_ok hp))
  have HG5 := Lib.hid hg
  have HK5 := Lib.hid (HK4.out.trans hk (fun _ _ e => e))
  have HB5 := Lib.hid (HB4.out.kp hk HNE.out)
  have HZ5 := Lib.hid (Nat.le_trans HZ4.out hk.size)
  clear hp hg hk
  go_wp2_with ((with_reducible refine stopAt (.store 213 (.tmp 2) (.tmp 13)) rfl ?_); go_must (refine unStop (wpList_stS rfl 213 (.tmp 2) (.tmp 13) rfl (Line.cells ⟨a0, a1, a2, a3, a4⟩) sS_line w.heap.size 0 rfl rfl rfl HB5.out (Line.cells ⟨a0, a1, a2, a3, a4⟩) (by simp [Line.cells]) (line_one _) rfl ?_)); intro w' hb' hk')
  have hg' := HG5.out.kp hk' (fun k e => by subst e; exact ⟨HBN.out, HNE.out⟩)
  exact bodyPost_ret (res_c rfl sS_line _ rfl hb' (Line.cells ⟨a0, a1, a2, a3, a4⟩) rfl rfl) rfl (GetTo.ok HC5.out rfl (HK5.out.trans hk' (fun i hi e => by omega)) hg')
set_option maxRecDepth 20000 in
set_option maxHeartbeats 1000000 in
theorem get_offer (B g : Nat) (l : Bytes) (w : World) (hg : Gs B w g l) :
    Calls Try.prog 174 #[.pointer (some ⟨g, 0, none⟩)] w (GetTo B g w (Is fun x : Offer => .agg x.cells.toArray) (pOffer l)) := by
  have HG0 := Lib.hid (hg.alloc (.cells #[.int .u64 0, .int .u8 0, .int .u8 0, .int .u8 0, .int .i64 0, .int .i64 0, .int .i64 0] 216))
  have HK0 : Hid (Kp (fun k => k = g) w (w.alloc (.cells #[.int .u64 0, .int .u8 0, .int .u8 0, .int .u8 0, .int .i64 0, .int .i64 0, .int .i64 0] 216))) := Lib.hid ((Kp.refl _ w).alloc _)
  have HB0 : Hid (Blk (w.alloc (.cells #[.int .u64 0, .int .u8 0, .int .u8 0, .int .u8 0, .int .i64 0, .int .i64 0, .int .i64 0] 216)) w.heap.size 216 #[.int .u64 0, .int .u8 0, .int .u8 0, .int .u8 0, .int .i64 0, .int .i64 0, .int .i64 0]) := Lib.hid (Blk.new _ _ _)
  have HNE : Hid (w.heap.size ≠ g) := Lib.hid (by have := hg.lt; omega)
  have HGL : Hid (g < w.heap.size) := Lib.hid hg.lt
  have HBN : Hid (B ≤ w.heap.size) := Lib.hid (by have := hg.lt; have := hg.base; omega)
  have HZ0 : Hid (w.heap.size + 1 ≤ (w.alloc (.cells #[.int .u64 0, .int .u8 0, .int .u8 0, .int .u8 0, .int .i64 0, .int .i64 0, .int .i64 0] 216)).heap.size) := Lib.hid (by simp)
  clear hg
  go_enter Try.func174, Try.ntmps174
  go_wp2_with fail
  go_must (refine (get_u B g _ _ HG0.out).mono ?_)
  rintro e w1 h
  rcases h.isWays with ⟨a0, r1, hp, rfl, hg, hk⟩ | ⟨k, hp, rfl, hk⟩
  rotate_left
  · have hc := Lib.hid ((show pOffer l = .error k from Ps.bind_err hp))
    clear hp
    unfold wrongE
    go_wp2_with fail
    exact ⟨rfl, GetTo.err hc.out rfl (HK0.out.trans hk (fun _ _ e => e))⟩
  have HC1 := Lib.hid ((show pOffer l = _ from Ps.bind_ok hp))
  have HG1 := Lib.hid hg
  have HK1 := Lib.hid (HK0.out.trans hk (fun _ _ e => e))
  have HB1 := Lib.hid (HB0.out.kp hk HNE.out)
  have HZ1 := Lib.hid (Nat.le_trans HZ0.out hk.size)
  clear hp hg hk
  go_wp2_with fail
  go_must (refine (get_byte B g _ _ HG1.out).mono ?_)
  rintro e w2 h
  rcases h.isWays with ⟨a1, r2, hp, rfl, hg, hk⟩ | ⟨k, hp, rfl, hk⟩
  rotate_left
  · have hc := Lib.hid (HC1.out.trans (Ps.bind_err hp))
    clear hp
    unfold wrongE
    go_wp2_with fail
    exact ⟨rfl, GetTo.err hc.out rfl (HK1.out.trans hk (fun _ _ e => e))⟩
  have HC2 := Lib.hid (HC1.out.trans (Ps.bind_ok hp))
  have HG2 := Lib.hid hg
  have HK2 := Lib.hid (HK1.out.trans hk (fun _ _ e => e))
  have HB2 := Lib.hid (HB1.out.kp hk HNE.out)
  have HZ2 := Lib.hid (Nat.le_trans HZ1.out hk.size)
  clear hp hg hk
  go_wp2_with fail
  go_must (refine (get_byte B g _ _ HG2.out).mono ?_)
  rintro e w3 h
  rcases h.isWays with ⟨a2, r3, hp, rfl, hg, hk⟩ | ⟨k, hp, rfl, hk⟩
  rotate_left
  · have hc := Lib.hid (HC2.out.trans (Ps.bind_err hp))
    clear hp
    unfold wrongE
    go_wp2_with fail
    exact ⟨rfl, GetTo.err hc.out rfl (HK2.out.trans hk (fun _ _ e => e))⟩
  have HC3 := Lib.hid (HC2.out.trans (Ps.bind_ok hp))
  have HG3 := Lib.hid hg
  have HK3 := Lib.hid (HK2.out.trans hk (fun _ _ e => e))
  have HB3 := Lib.hid (HB2.out.kp hk HNE.out)
  have HZ3 := Lib.hid (Nat.le_trans HZ2.out hk.size)
  clear hp hg hk
  go_wp2_with fail
  go_must (refine (get_byte B g _ _ HG3.out).mono ?_)
  rintro e w4 h
  rcases h.isWays with ⟨a3, r4, hp, rfl, hg, hk⟩ | ⟨k, hp, rfl, hk⟩
  rotate_left
  · have hc := Lib.hid (HC3.out.trans (Ps.bind_err hp))
    clear hp
    unfold wrongE
    go_wp2_with fail
    exact ⟨rfl, GetTo.err hc.out rfl (HK3.out.trans hk (fun _ _ e => e))⟩
  have HC4 := Lib.hid (HC3.out.trans (Ps.bind_ok hp))
  have HG4 := Lib.hid hg
  have HK4 := Lib.hid (HK3.out.trans hk (fun _ _ e => e))
  have HB4 := Lib.hid (HB3.out.kp hk HNE.out)
  have HZ4 := Lib.hid (Nat.le_trans HZ3.out hk.size)
  clear hp hg hk
  go_wp2_with fail
  go_must (refine (get_sign B g _ _ HG4.out).mono ?_)
  rintro e w5 h
  rcases h.isWays with ⟨a4, r5, hp, rfl, hg, hk⟩ | ⟨k, hp, rfl, hk⟩
  rotate_left
  · have hc := Lib.hid (HC4.out.trans (Ps.bind_err hp))
    clear hp
    unfold wrongE
    go_wp2_with fail
    exact ⟨rfl, GetTo.err hc.out rfl (HK4.out.trans hk (fun _ _ e => e))⟩
  have HC5 := Lib.hid (HC4.out.trans (Ps.bind_ok hp))
  have HG5 := Lib.hid hg
  have HK5 := Lib.hid (HK4.out.trans hk (fun _ _ e => e))
  have HB5 := Lib.hid (HB4.out.kp hk HNE.out)
  have HZ5 := Lib.hid (Nat.le_trans HZ4.out hk.size)
  clear hp hg hk
  go_wp2_with fail
  replace HC5 := Lib.hid (HC5.out.trans (rate_bind _))
  go_must (refine (get_rate B g _ _ HG5.out).mono ?_)
  rintro e w6 h
  rcases h.isWays with ⟨⟨a5, b5⟩, r6, hp, rfl, hg, hk⟩ | ⟨k, hp, rfl, hk⟩
  rotate_left
  · have hc := Lib.hid (HC5.out.trans (Ps.bind_err hp))
    clear hp
    unfold wrongE
    go_wp2_with fail
    exact ⟨rfl, GetTo.err hc.out rfl (HK5.out.trans hk (fun _ _ e => e))⟩
  have HC6 := Lib.hid (HC5.out.trans (Ps.bind_ok hp))
  have HG6 := Lib.hid hg
  have HK6 := Lib.hid (HK5.out.trans hk (fun _ _ e => e))
  have HB6 := Lib.hid (HB5.out.kp hk HNE.out)
  have HZ6 := Lib.hid (Nat.le_trans HZ5.out hk.size)
  clear hp hg hk
  go_wp2_with ((with_reducible refine stopAt (.store 216 (.tmp 2) (.tmp 15)) rfl ?_); go_must (refine unStop (wpList_stS rfl 216 (.tmp 2) (.tmp 15) rfl (Offer.cells ⟨a0, a1, a2, a3, a4, a5, b5⟩) sS_offer w.heap.size 0 rfl rfl rfl HB6.out (Offer.cells ⟨a0, a1, a2, a3, a4, a5, b5⟩) (by simp [Offer.cells]) (offer_one _) rfl ?_)); intro w' hb' hk')
  have hg' := HG6.out.kp hk' (fun k e => by subst e; exact ⟨HBN.out, HNE.out⟩)
  exact bodyPost_ret (res_c rfl sS_offer _ rfl hb' (Offer.cells ⟨a0, a1, a2, a3, a4, a5, b5⟩) rfl rfl) rfl (GetTo.ok HC6.out rfl (HK6.out.trans hk' (fun i hi e => by omega)) hg')
/-- A list in memory of its own. -/
def VL {α : Type} (t : TypeId) (k : Nat) (f : α → List Value) (base : Nat) (xs : List α) (w : World) (x : Value) : Prop := ∃ A, x = .slice A xs.length xs.length ∧ Own w base t k A xs.length xs.length (xs.flatMap f)
theorem bv_flat (xs : Bytes) : xs.flatMap (fun c => [bv c]) = xs.map bv := by induction xs with | nil => rfl | cons x xs ih => simp [ih]

set_option maxRecDepth 20000 in
set_option maxHeartbeats 1000000 in
theorem get_party (B g : Nat) (l : Bytes) (w : World) (hg : Gs B w g l) :
    Calls Try.prog 170 #[.pointer (some ⟨g, 0, none⟩)] w (GetTo B g w (Is bv) (pByte l)) := by
  have HG := Lib.hid hg
  clear hg
  go_enter Try.func170, Try.ntmps170
  go_wp2_with fail
  go_must (refine (get_byte B g l w HG.out).mono ?_)
  rintro e w1 h
  rcases h.isWays with ⟨n, r, hp, rfl, hg, hk⟩ | ⟨k, hp, rfl, hk⟩
  · replace hp := Lib.hid hp
    go_wp2_with fail
    go_ret
    exact GetTo.ok hp.out rfl hk hg
  · replace hp := Lib.hid hp
    unfold wrongE
    go_wp2_with fail
    exact ⟨rfl, GetTo.err hp.out rfl hk⟩
set_option maxRecDepth 20000 in
set_option maxHeartbeats 1000000 in
theorem get_list_step (B g : Nat) (l : Bytes) (w : World) (hg : Gs B w g l) :
    Calls Try.prog 188 #[.pointer (some ⟨g, 0, none⟩), .int .i64 8, .func (.func 189) #[] #[]] w (GetTo B g w (VL 169 10 Step.cells w.heap.size) (pList 8 pStep l)) := by
  obtain ⟨i0, hi0, hz0, hz1, hz2⟩ := info_parts info_step
  have HG := Lib.hid hg
  have HGL : Hid (g < w.heap.size) := Lib.hid hg.lt
  clear hg
  go_enter Try.func188, Try.ntmps188
  go_wp2_with fail
  go_must (refine (get_num B g l w HG.out).mono ?_)
  rintro e w1 h
  rcases h.isWays with ⟨n, r, hp, rfl, hg1, hk1⟩ | ⟨k, hp, rfl, hk⟩
  rotate_left
  · have hc := Lib.hid (Ps.bind_err (f := fun n => if 8 < n then fun _ => Except.error 3 else pRep pStep n) hp)
    clear hp
    unfold wrongE
    go_wp2_with fail
    exact ⟨rfl, GetTo.err hc.out rfl hk⟩
  have HG1 := Lib.hid hg1
  have HK1 := Lib.hid hk1
  have hpl := Ps.bind_ok (f := fun n => if 8 < n then fun _ => Except.error 3 else pRep pStep n) hp
  clear hg1 hk1 hp
  by_cases hm : 8 < n
  · have hd : decide ((8 : Int) < (n : Int)) = true := decide_eq_true (by omega)
    have HE : Hid (pList 8 pStep l = .error 3) := Lib.hid (hpl.trans (by simp only [if_pos hm]))
    clear hpl
    go_wp2_with fail
    exact ⟨rfl, GetTo.err HE.out rfl HK1.out⟩
  have hd : decide ((8 : Int) < (n : Int)) = false := decide_eq_false (by omega)
  have HE : Hid (pList 8 pStep l = pRep pStep n r) := Lib.hid (hpl.trans (by simp only [if_neg hm]))
  clear hpl
  go_wp2_with fail
  go_loopw [6, 17] (fun v i wr => ∃ (xs : List Step) (q : Bytes) (A : Option Addr) (c : Nat), xs.length ≤ n ∧ i = .int .u64 xs.length ∧ v = .slice A xs.length c ∧ Own wr w.heap.size 169 10 A xs.length c (xs.flatMap Step.cells) ∧ Gs B wr g q ∧ Kp (fun k => k = g) w wr ∧ pRep pStep n r = pre xs (pRep pStep (n - xs.length) q)) (fun _ i _ => n - (intOf i).toNat)
  case atStart => exact ⟨[], r, none, 0, by simp, rfl, rfl, Own.nil _ _ _ _, HG1.out, HK1.out, (pre_nil _).symm⟩
  case round =>
    obtain ⟨xs, q, A, c, hx, rfl, rfl, ho, hg, hk, hp⟩ := hrel
    have HO := Lib.hid ho
    have HGR := Lib.hid hg
    have HKR := Lib.hid hk
    have HPR := Lib.hid hp
    clear ho hg hk hp
    by_cases hlt : xs.length < n
    · have HS : Hid (n - xs.length = n - (xs.length + 1) + 1) := Lib.hid (by omega)
      go_wp2_with fail
      go_must (refine (get_step B g q wr HGR.out).mono ?_)
      rintro e w2 h
      rcases h.isWays with ⟨x, q2, hp2, rfl, hg2, hk2⟩ | ⟨k, hp2, rfl, hk2⟩
      rotate_left
      · have hc : Hid (pList 8 pStep l = .error k) := Lib.hid (by rw [HE.out, HPR.out, HS.out]; exact pre_err hp2)
        clear hp2
        unfold wrongE
        go_wp2_with fail
        exact ⟨rfl, GetTo.err hc.out rfl (HKR.out.trans hk2 (fun _ _ e => e))⟩
      have HP2 : Hid (pRep pStep n r = pre (xs ++ [x]) (pRep pStep (n - (xs.length + 1)) q2)) := Lib.hid (by rw [HPR.out, HS.out]; exact pre_ok hp2)
      have HG2 := Lib.hid hg2
      have HK2 := Lib.hid (HKR.out.trans hk2 (fun _ _ e => e))
      have HO2 := Lib.hid (HO.out.kp hk2 (fun k hk e => by have := (HO.out.lt k hk).1; have := HGL.out; omega))
      have HZ2 : Hid (w.heap.size ≤ w2.heap.size) := Lib.hid HK2.out.size
      clear hp2 hg2 hk2
      go_wp2_with (first
        | ((with_reducible refine stopAt (.buildSlice 22 1 #[(0, .tmp 22)]) rfl ?_); go_must (refine unStop (wpList_bs1 rfl 22 169 (.tmp 22) rfl x.cells Try.underlying22 info_step rfl rfl (by omega) (by omega) ?_)))
        | (at_builtin; go_must (refine wpList_append_ _ rfl (.tmp 19) (.tmp 23) 22 rfl w.heap.size 169 i0 _ 10 48 Try.underlying22 hi0 hz0 hz1 hz2 rfl A xs.length c _ rfl (HO2.out.alloc _) _ 1 1 x.cells rfl (Own.of_new _ _ 10 1 x.cells.toArray rfl (by simp [maxLen])).rd (step_one x) (Fits.of (by unfold big; omega) (by omega)) (by have := HZ2.out; simp; omega) ?_); intro A3 c3 w3 ho3 hk3 hb3))
      have HK3 : Hid (Kp (fun k => k = g) w w3) := Lib.hid ((HK2.out.alloc _).trans hk3 (fun i hi e => by have := (HO2.out.lt i e).1; omega))
      have HG3 : Hid (Gs B w3 g q2) := Lib.hid ((HG2.out.alloc _).kp hk3 (fun k e => by have := (HO2.out.lt k e).1; have := HGL.out; have := HG2.out.base; omega))
      have HO3 : Hid (Own w3 w.heap.size 169 10 A3 (xs ++ [x]).length c3 ((xs ++ [x]).flatMap Step.cells)) := Lib.hid (by rw [List.flatMap_append, List.length_append]; simpa using ho3)
      clear ho3 hk3 hb3
      go_roundw
      case rel => exact ⟨xs ++ [x], q2, A3, c3, by simp; omega, by simp, by simp, HO3.out, HG3.out, HK3.out, by rw [HP2.out, List.length_append]; rfl⟩
      case measure => simp [intOf]; omega
    · have HN : Hid (n - xs.length = 0) := Lib.hid (by omega)
      have HC : Hid (pList 8 pStep l = .ok (xs, q)) := Lib.hid (by rw [HE.out, HPR.out, HN.out, pre_zero])
      go_wp2_with fail
      go_must (refine (clip_step _ _ _ _ HO.out.cap).mono ?_)
      rintro e w2 ⟨rfl, rfl⟩
      go_wp2_with fail
      go_ret
      exact GetTo.ok HC.out ⟨A, rfl, HO.out.clip⟩ HKR.out HGR.out
set_option maxRecDepth 20000 in
set_option maxHeartbeats 1000000 in
theorem get_list_got (B g : Nat) (l : Bytes) (w : World) (hg : Gs B w g l) :
    Calls Try.prog 157 #[.pointer (some ⟨g, 0, none⟩), .int .i64 8, .func (.func 158) #[] #[]] w (GetTo B g w (VL 93 2 Got.cells w.heap.size) (pList 8 pGot l)) := by
  obtain ⟨i0, hi0, hz0, hz1, hz2⟩ := info_parts info_got
  have HG := Lib.hid hg
  have HGL : Hid (g < w.heap.size) := Lib.hid hg.lt
  clear hg
  go_enter Try.func157, Try.ntmps157
  go_wp2_with fail
  go_must (refine (get_num B g l w HG.out).mono ?_)
  rintro e w1 h
  rcases h.isWays with ⟨n, r, hp, rfl, hg1, hk1⟩ | ⟨k, hp, rfl, hk⟩
  rotate_left
  · have hc := Lib.hid (Ps.bind_err (f := fun n => if 8 < n then fun _ => Except.error 3 else pRep pGot n) hp)
    clear hp
    unfold wrongE
    go_wp2_with fail
    exact ⟨rfl, GetTo.err hc.out rfl hk⟩
  have HG1 := Lib.hid hg1
  have HK1 := Lib.hid hk1
  have hpl := Ps.bind_ok (f := fun n => if 8 < n then fun _ => Except.error 3 else pRep pGot n) hp
  clear hg1 hk1 hp
  by_cases hm : 8 < n
  · have hd : decide ((8 : Int) < (n : Int)) = true := decide_eq_true (by omega)
    have HE : Hid (pList 8 pGot l = .error 3) := Lib.hid (hpl.trans (by simp only [if_pos hm]))
    clear hpl
    go_wp2_with fail
    exact ⟨rfl, GetTo.err HE.out rfl HK1.out⟩
  have hd : decide ((8 : Int) < (n : Int)) = false := decide_eq_false (by omega)
  have HE : Hid (pList 8 pGot l = pRep pGot n r) := Lib.hid (hpl.trans (by simp only [if_neg hm]))
  clear hpl
  go_wp2_with fail
  go_loopw [6, 17] (fun v i wr => ∃ (xs : List Got) (q : Bytes) (A : Option Addr) (c : Nat), xs.length ≤ n ∧ i = .int .u64 xs.length ∧ v = .slice A xs.length c ∧ Own wr w.heap.size 93 2 A xs.length c (xs.flatMap Got.cells) ∧ Gs B wr g q ∧ Kp (fun k => k = g) w wr ∧ pRep pGot n r = pre xs (pRep pGot (n - xs.length) q)) (fun _ i _ => n - (intOf i).toNat)
  case atStart => exact ⟨[], r, none, 0, by simp, rfl, rfl, Own.nil _ _ _ _, HG1.out, HK1.out, (pre_nil _).symm⟩
  case round =>
    obtain ⟨xs, q, A, c, hx, rfl, rfl, ho, hg, hk, hp⟩ := hrel
    have HO := Lib.hid ho
    have HGR := Lib.hid hg
    have HKR := Lib.hid hk
    have HPR := Lib.hid hp
    clear ho hg hk hp
    by_cases hlt : xs.length < n
    · have HS : Hid (n - xs.length = n - (xs.length + 1) + 1) := Lib.hid (by omega)
      go_wp2_with fail
      go_must (refine (get_got B g q wr HGR.out).mono ?_)
      rintro e w2 h
      rcases h.isWays with ⟨x, q2, hp2, rfl, hg2, hk2⟩ | ⟨k, hp2, rfl, hk2⟩
      rotate_left
      · have hc : Hid (pList 8 pGot l = .error k) := Lib.hid (by rw [HE.out, HPR.out, HS.out]; exact pre_err hp2)
        clear hp2
        unfold wrongE
        go_wp2_with fail
        exact ⟨rfl, GetTo.err hc.out rfl (HKR.out.trans hk2 (fun _ _ e => e))⟩
      have HP2 : Hid (pRep pGot n r = pre (xs ++ [x]) (pRep pGot (n - (xs.length + 1)) q2)) := Lib.hid (by rw [HPR.out, HS.out]; exact pre_ok hp2)
      have HG2 := Lib.hid hg2
      have HK2 := Lib.hid (HKR.out.trans hk2 (fun _ _ e => e))
      have HO2 := Lib.hid (HO.out.kp hk2 (fun k hk e => by have := (HO.out.lt k hk).1; have := HGL.out; omega))
      have HZ2 : Hid (w.heap.size ≤ w2.heap.size) := Lib.hid HK2.out.size
      clear hp2 hg2 hk2
      go_wp2_with (first
        | ((with_reducible refine stopAt (.buildSlice 32 1 #[(0, .tmp 22)]) rfl ?_); go_must (refine unStop (wpList_bs1 rfl 32 93 (.tmp 22) rfl x.cells Try.underlying32 info_got rfl rfl (by omega) (by omega) ?_)))
        | (at_builtin; go_must (refine wpList_append_ _ rfl (.tmp 19) (.tmp 23) 32 rfl w.heap.size 93 i0 _ 2 16 Try.underlying32 hi0 hz0 hz1 hz2 rfl A xs.length c _ rfl (HO2.out.alloc _) _ 1 1 x.cells rfl (Own.of_new _ _ 2 1 x.cells.toArray rfl (by simp [maxLen])).rd (got_one1 x) (Fits.of (by unfold big; omega) (by omega)) (by have := HZ2.out; simp; omega) ?_); intro A3 c3 w3 ho3 hk3 hb3))
      have HK3 : Hid (Kp (fun k => k = g) w w3) := Lib.hid ((HK2.out.alloc _).trans hk3 (fun i hi e => by have := (HO2.out.lt i e).1; omega))
      have HG3 : Hid (Gs B w3 g q2) := Lib.hid ((HG2.out.alloc _).kp hk3 (fun k e => by have := (HO2.out.lt k e).1; have := HGL.out; have := HG2.out.base; omega))
      have HO3 : Hid (Own w3 w.heap.size 93 2 A3 (xs ++ [x]).length c3 ((xs ++ [x]).flatMap Got.cells)) := Lib.hid (by rw [List.flatMap_append, List.length_append]; simpa using ho3)
      clear ho3 hk3 hb3
      go_roundw
      case rel => exact ⟨xs ++ [x], q2, A3, c3, by simp; omega, by simp, by simp, HO3.out, HG3.out, HK3.out, by rw [HP2.out, List.length_append]; rfl⟩
      case measure => simp [intOf]; omega
    · have HN : Hid (n - xs.length = 0) := Lib.hid (by omega)
      have HC : Hid (pList 8 pGot l = .ok (xs, q)) := Lib.hid (by rw [HE.out, HPR.out, HN.out, pre_zero])
      go_wp2_with fail
      go_must (refine (clip_got _ _ _ _ HO.out.cap).mono ?_)
      rintro e w2 ⟨rfl, rfl⟩
      go_wp2_with fail
      go_ret
      exact GetTo.ok HC.out ⟨A, rfl, HO.out.clip⟩ HKR.out HGR.out
set_option maxRecDepth 20000 in
set_option maxHeartbeats 1000000 in
theorem get_list_line (B g : Nat) (l : Bytes) (w : World) (hg : Gs B w g l) :
    Calls Try.prog 171 #[.pointer (some ⟨g, 0, none⟩), .int .i64 64, .func (.func 172) #[] #[]] w (GetTo B g w (VL 213 5 Line.cells w.heap.size) (pList 64 pLine l)) := by
  obtain ⟨i0, hi0, hz0, hz1, hz2⟩ := info_parts info_line
  have HG := Lib.hid hg
  have HGL : Hid (g < w.heap.size) := Lib.hid hg.lt
  clear hg
  go_enter Try.func171, Try.ntmps171
  go_wp2_with fail
  go_must (refine (get_num B g l w HG.out).mono ?_)
  rintro e w1 h
  rcases h.isWays with ⟨n, r, hp, rfl, hg1, hk1⟩ | ⟨k, hp, rfl, hk⟩
  rotate_left
  · have hc := Lib.hid (Ps.bind_err (f := fun n => if 64 < n then fun _ => Except.error 3 else pRep pLine n) hp)
    clear hp
    unfold wrongE
    go_wp2_with fail
    exact ⟨rfl, GetTo.err hc.out rfl hk⟩
  have HG1 := Lib.hid hg1
  have HK1 := Lib.hid hk1
  have hpl := Ps.bind_ok (f := fun n => if 64 < n then fun _ => Except.error 3 else pRep pLine n) hp
  clear hg1 hk1 hp
  by_cases hm : 64 < n
  · have hd : decide ((64 : Int) < (n : Int)) = true := decide_eq_true (by omega)
    have HE : Hid (pList 64 pLine l = .error 3) := Lib.hid (hpl.trans (by simp only [if_pos hm]))
    clear hpl
    go_wp2_with fail
    exact ⟨rfl, GetTo.err HE.out rfl HK1.out⟩
  have hd : decide ((64 : Int) < (n : Int)) = false := decide_eq_false (by omega)
  have HE : Hid (pList 64 pLine l = pRep pLine n r) := Lib.hid (hpl.trans (by simp only [if_neg hm]))
  clear hpl
  go_wp2_with fail
  go_loopw [6, 17] (fun v i wr => ∃ (xs : List Line) (q : Bytes) (A : Option Addr) (c : Nat), xs.length ≤ n ∧ i = .int .u64 xs.length ∧ v = .slice A xs.length c ∧ Own wr w.heap.size 213 5 A xs.length c (xs.flatMap Line.cells) ∧ Gs B wr g q ∧ Kp (fun k => k = g) w wr ∧ pRep pLine n r = pre xs (pRep pLine (n - xs.length) q)) (fun _ i _ => n - (intOf i).toNat)
  case atStart => exact ⟨[], r, none, 0, by simp, rfl, rfl, Own.nil _ _ _ _, HG1.out, HK1.out, (pre_nil _).symm⟩
  case round =>
    obtain ⟨xs, q, A, c, hx, rfl, rfl, ho, hg, hk, hp⟩ := hrel
    have HO := Lib.hid ho
    have HGR := Lib.hid hg
    have HKR := Lib.hid hk
    have HPR := Lib.hid hp
    clear ho hg hk hp
    by_cases hlt : xs.length < n
    · have HS : Hid (n - xs.length = n - (xs.length + 1) + 1) := Lib.hid (by omega)
      go_wp2_with fail
      go_must (refine (get_line B g q wr HGR.out).mono ?_)
      rintro e w2 h
      rcases h.isWays with ⟨x, q2, hp2, rfl, hg2, hk2⟩ | ⟨k, hp2, rfl, hk2⟩
      rotate_left
      · have hc : Hid (pList 64 pLine l = .error k) := Lib.hid (by rw [HE.out, HPR.out, HS.out]; exact pre_err hp2)
        clear hp2
        unfold wrongE
        go_wp2_with fail
        exact ⟨rfl, GetTo.err hc.out rfl (HKR.out.trans hk2 (fun _ _ e => e))⟩
      have HP2 : Hid (pRep pLine n r = pre (xs ++ [x]) (pRep pLine (n - (xs.length + 1)) q2)) := Lib.hid (by rw [HPR.out, HS.out]; exact pre_ok hp2)
      have HG2 := Lib.hid hg2
      have HK2 := Lib.hid (HKR.out.trans hk2 (fun _ _ e => e))
      have HO2 := Lib.hid (HO.out.kp hk2 (fun k hk e => by have := (HO.out.lt k hk).1; have := HGL.out; omega))
      have HZ2 : Hid (w.heap.size ≤ w2.heap.size) := Lib.hid HK2.out.size
      clear hp2 hg2 hk2
      go_wp2_with (first
        | ((with_reducible refine stopAt (.buildSlice 140 1 #[(0, .tmp 22)]) rfl ?_); go_must (refine unStop (wpList_bs1 rfl 140 213 (.tmp 22) rfl x.cells Try.underlying140 info_line rfl rfl (by omega) (by omega) ?_)))
        | (at_builtin; go_must (refine wpList_append_ _ rfl (.tmp 19) (.tmp 23) 140 rfl w.heap.size 213 i0 _ 5 24 Try.underlying140 hi0 hz0 hz1 hz2 rfl A xs.length c _ rfl (HO2.out.alloc _) _ 1 1 x.cells rfl (Own.of_new _ _ 5 1 x.cells.toArray rfl (by simp [maxLen])).rd (line_one x) (Fits.of (by unfold big; omega) (by omega)) (by have := HZ2.out; simp; omega) ?_); intro A3 c3 w3 ho3 hk3 hb3))
      have HK3 : Hid (Kp (fun k => k = g) w w3) := Lib.hid ((HK2.out.alloc _).trans hk3 (fun i hi e => by have := (HO2.out.lt i e).1; omega))
      have HG3 : Hid (Gs B w3 g q2) := Lib.hid ((HG2.out.alloc _).kp hk3 (fun k e => by have := (HO2.out.lt k e).1; have := HGL.out; have := HG2.out.base; omega))
      have HO3 : Hid (Own w3 w.heap.size 213 5 A3 (xs ++ [x]).length c3 ((xs ++ [x]).flatMap Line.cells)) := Lib.hid (by rw [List.flatMap_append, List.length_append]; simpa using ho3)
      clear ho3 hk3 hb3
      go_roundw
      case rel => exact ⟨xs ++ [x], q2, A3, c3, by simp; omega, by simp, by simp, HO3.out, HG3.out, HK3.out, by rw [HP2.out, List.length_append]; rfl⟩
      case measure => simp [intOf]; omega
    · have HN : Hid (n - xs.length = 0) := Lib.hid (by omega)
      have HC : Hid (pList 64 pLine l = .ok (xs, q)) := Lib.hid (by rw [HE.out, HPR.out, HN.out, pre_zero])
      go_wp2_with fail
      go_must (refine (clip_line _ _ _ _ HO.out.cap).mono ?_)
      rintro e w2 ⟨rfl, rfl⟩
      go_wp2_with fail
      go_ret
      exact GetTo.ok HC.out ⟨A, rfl, HO.out.clip⟩ HKR.out HGR.out
set_option maxRecDepth 20000 in
set_option maxHeartbeats 1000000 in
theorem get_list_offer (B g : Nat) (l : Bytes) (w : World) (hg : Gs B w g l) :
    Calls Try.prog 173 #[.pointer (some ⟨g, 0, none⟩), .int .i64 32, .func (.func 174) #[] #[]] w (GetTo B g w (VL 216 7 Offer.cells w.heap.size) (pList 32 pOffer l)) := by
  obtain ⟨i0, hi0, hz0, hz1, hz2⟩ := info_parts info_offer
  have HG := Lib.hid hg
  have HGL : Hid (g < w.heap.size) := Lib.hid hg.lt
  clear hg
  go_enter Try.func173, Try.ntmps173
  go_wp2_with fail
  go_must (refine (get_num B g l w HG.out).mono ?_)
  rintro e w1 h
  rcases h.isWays with ⟨n, r, hp, rfl, hg1, hk1⟩ | ⟨k, hp, rfl, hk⟩
  rotate_left
  · have hc := Lib.hid (Ps.bind_err (f := fun n => if 32 < n then fun _ => Except.error 3 else pRep pOffer n) hp)
    clear hp
    unfold wrongE
    go_wp2_with fail
    exact ⟨rfl, GetTo.err hc.out rfl hk⟩
  have HG1 := Lib.hid hg1
  have HK1 := Lib.hid hk1
  have hpl := Ps.bind_ok (f := fun n => if 32 < n then fun _ => Except.error 3 else pRep pOffer n) hp
  clear hg1 hk1 hp
  by_cases hm : 32 < n
  · have hd : decide ((32 : Int) < (n : Int)) = true := decide_eq_true (by omega)
    have HE : Hid (pList 32 pOffer l = .error 3) := Lib.hid (hpl.trans (by simp only [if_pos hm]))
    clear hpl
    go_wp2_with fail
    exact ⟨rfl, GetTo.err HE.out rfl HK1.out⟩
  have hd : decide ((32 : Int) < (n : Int)) = false := decide_eq_false (by omega)
  have HE : Hid (pList 32 pOffer l = pRep pOffer n r) := Lib.hid (hpl.trans (by simp only [if_neg hm]))
  clear hpl
  go_wp2_with fail
  go_loopw [6, 17] (fun v i wr => ∃ (xs : List Offer) (q : Bytes) (A : Option Addr) (c : Nat), xs.length ≤ n ∧ i = .int .u64 xs.length ∧ v = .slice A xs.length c ∧ Own wr w.heap.size 216 7 A xs.length c (xs.flatMap Offer.cells) ∧ Gs B wr g q ∧ Kp (fun k => k = g) w wr ∧ pRep pOffer n r = pre xs (pRep pOffer (n - xs.length) q)) (fun _ i _ => n - (intOf i).toNat)
  case atStart => exact ⟨[], r, none, 0, by simp, rfl, rfl, Own.nil _ _ _ _, HG1.out, HK1.out, (pre_nil _).symm⟩
  case round =>
    obtain ⟨xs, q, A, c, hx, rfl, rfl, ho, hg, hk, hp⟩ := hrel
    have HO := Lib.hid ho
    have HGR := Lib.hid hg
    have HKR := Lib.hid hk
    have HPR := Lib.hid hp
    clear ho hg hk hp
    by_cases hlt : xs.length < n
    · have HS : Hid (n - xs.length = n - (xs.length + 1) + 1) := Lib.hid (by omega)
      go_wp2_with fail
      go_must (refine (get_offer B g q wr HGR.out).mono ?_)
      rintro e w2 h
      rcases h.isWays with ⟨x, q2, hp2, rfl, hg2, hk2⟩ | ⟨k, hp2, rfl, hk2⟩
      rotate_left
      · have hc : Hid (pList 32 pOffer l = .error k) := Lib.hid (by rw [HE.out, HPR.out, HS.out]; exact pre_err hp2)
        clear hp2
        unfold wrongE
        go_wp2_with fail
        exact ⟨rfl, GetTo.err hc.out rfl (HKR.out.trans hk2 (fun _ _ e => e))⟩
      have HP2 : Hid (pRep pOffer n r = pre (xs ++ [x]) (pRep pOffer (n - (xs.length + 1)) q2)) := Lib.hid (by rw [HPR.out, HS.out]; exact pre_ok hp2)
      have HG2 := Lib.hid hg2
      have HK2 := Lib.hid (HKR.out.trans hk2 (fun _ _ e => e))
      have HO2 := Lib.hid (HO.out.kp hk2 (fun k hk e => by have := (HO.out.lt k hk).1; have := HGL.out; omega))
      have HZ2 : Hid (w.heap.size ≤ w2.heap.size) := Lib.hid HK2.out.size
      clear hp2 hg2 hk2
      go_wp2_with (first
        | ((with_reducible refine stopAt (.buildSlice 141 1 #[(0, .tmp 22)]) rfl ?_); go_must (refine unStop (wpList_bs1 rfl 141 216 (.tmp 22) rfl x.cells Try.underlying141 info_offer rfl rfl (by omega) (by omega) ?_)))
        | (at_builtin; go_must (refine wpList_append_ _ rfl (.tmp 19) (.tmp 23) 141 rfl w.heap.size 216 i0 _ 7 40 Try.underlying141 hi0 hz0 hz1 hz2 rfl A xs.length c _ rfl (HO2.out.alloc _) _ 1 1 x.cells rfl (Own.of_new _ _ 7 1 x.cells.toArray rfl (by simp [maxLen])).rd (offer_one x) (Fits.of (by unfold big; omega) (by omega)) (by have := HZ2.out; simp; omega) ?_); intro A3 c3 w3 ho3 hk3 hb3))
      have HK3 : Hid (Kp (fun k => k = g) w w3) := Lib.hid ((HK2.out.alloc _).trans hk3 (fun i hi e => by have := (HO2.out.lt i e).1; omega))
      have HG3 : Hid (Gs B w3 g q2) := Lib.hid ((HG2.out.alloc _).kp hk3 (fun k e => by have := (HO2.out.lt k e).1; have := HGL.out; have := HG2.out.base; omega))
      have HO3 : Hid (Own w3 w.heap.size 216 7 A3 (xs ++ [x]).length c3 ((xs ++ [x]).flatMap Offer.cells)) := Lib.hid (by rw [List.flatMap_append, List.length_append]; simpa using ho3)
      clear ho3 hk3 hb3
      go_roundw
      case rel => exact ⟨xs ++ [x], q2, A3, c3, by simp; omega, by simp, by simp, HO3.out, HG3.out, HK3.out, by rw [HP2.out, List.length_append]; rfl⟩
      case measure => simp [intOf]; omega
    · have HN : Hid (n - xs.length = 0) := Lib.hid (by omega)
      have HC : Hid (pList 32 pOffer l = .ok (xs, q)) := Lib.hid (by rw [HE.out, HPR.out, HN.out, pre_zero])
      go_wp2_with fail
      go_must (refine (clip_offer _ _ _ _ HO.out.cap).mono ?_)
      rintro e w2 ⟨rfl, rfl⟩
      go_wp2_with fail
      go_ret
      exact GetTo.ok HC.out ⟨A, rfl, HO.out.clip⟩ HKR.out HGR.out
set_option maxRecDepth 20000 in
set_option maxHeartbeats 1000000 in
theorem get_list_party (B g : Nat) (l : Bytes) (w : World) (hg : Gs B w g l) :
    Calls Try.prog 169 #[.pointer (some ⟨g, 0, none⟩), .int .i64 16, .func (.func 170) #[] #[]] w (GetTo B g w (VL 164 1 (fun c => [bv c]) w.heap.size) (pList 16 pByte l)) := by
  obtain ⟨i0, hi0, hz0, hz1, hz2⟩ := info_parts info_party
  have HG := Lib.hid hg
  have HGL : Hid (g < w.heap.size) := Lib.hid hg.lt
  clear hg
  go_enter Try.func169, Try.ntmps169
  go_wp2_with fail
  go_must (refine (get_num B g l w HG.out).mono ?_)
  rintro e w1 h
  rcases h.isWays with ⟨n, r, hp, rfl, hg1, hk1⟩ | ⟨k, hp, rfl, hk⟩
  rotate_left
  · have hc := Lib.hid (Ps.bind_err (f := fun n => if 16 < n then fun _ => Except.error 3 else pRep pByte n) hp)
    clear hp
    unfold wrongE
    go_wp2_with fail
    exact ⟨rfl, GetTo.err hc.out rfl hk⟩
  have HG1 := Lib.hid hg1
  have HK1 := Lib.hid hk1
  have hpl := Ps.bind_ok (f := fun n => if 16 < n then fun _ => Except.error 3 else pRep pByte n) hp
  clear hg1 hk1 hp
  by_cases hm : 16 < n
  · have hd : decide ((16 : Int) < (n : Int)) = true := decide_eq_true (by omega)
    have HE : Hid (pList 16 pByte l = .error 3) := Lib.hid (hpl.trans (by simp only [if_pos hm]))
    clear hpl
    go_wp2_with fail
    exact ⟨rfl, GetTo.err HE.out rfl HK1.out⟩
  have hd : decide ((16 : Int) < (n : Int)) = false := decide_eq_false (by omega)
  have HE : Hid (pList 16 pByte l = pRep pByte n r) := Lib.hid (hpl.trans (by simp only [if_neg hm]))
  clear hpl
  go_wp2_with fail
  go_loopw [6, 17] (fun v i wr => ∃ (xs : List UInt8) (q : Bytes) (A : Option Addr) (c : Nat), xs.length ≤ n ∧ i = .int .u64 xs.length ∧ v = .slice A xs.length c ∧ Own wr w.heap.size 164 1 A xs.length c (xs.flatMap (fun c => [bv c])) ∧ Gs B wr g q ∧ Kp (fun k => k = g) w wr ∧ pRep pByte n r = pre xs (pRep pByte (n - xs.length) q)) (fun _ i _ => n - (intOf i).toNat)
  case atStart => exact ⟨[], r, none, 0, by simp, rfl, rfl, Own.nil _ _ _ _, HG1.out, HK1.out, (pre_nil _).symm⟩
  case round =>
    obtain ⟨xs, q, A, c, hx, rfl, rfl, ho, hg, hk, hp⟩ := hrel
    have HO := Lib.hid ho
    have HGR := Lib.hid hg
    have HKR := Lib.hid hk
    have HPR := Lib.hid hp
    clear ho hg hk hp
    by_cases hlt : xs.length < n
    · have HS : Hid (n - xs.length = n - (xs.length + 1) + 1) := Lib.hid (by omega)
      go_wp2_with fail
      go_must (refine (get_party B g q wr HGR.out).mono ?_)
      rintro e w2 h
      rcases h.isWays with ⟨x, q2, hp2, rfl, hg2, hk2⟩ | ⟨k, hp2, rfl, hk2⟩
      rotate_left
      · have hc : Hid (pList 16 pByte l = .error k) := Lib.hid (by rw [HE.out, HPR.out, HS.out]; exact pre_err hp2)
        clear hp2
        unfold wrongE
        go_wp2_with fail
        exact ⟨rfl, GetTo.err hc.out rfl (HKR.out.trans hk2 (fun _ _ e => e))⟩
      have HP2 : Hid (pRep pByte n r = pre (xs ++ [x]) (pRep pByte (n - (xs.length + 1)) q2)) := Lib.hid (by rw [HPR.out, HS.out]; exact pre_ok hp2)
      have HG2 := Lib.hid hg2
      have HK2 := Lib.hid (HKR.out.trans hk2 (fun _ _ e => e))
      have HO2 := Lib.hid (HO.out.kp hk2 (fun k hk e => by have := (HO.out.lt k hk).1; have := HGL.out; omega))
      have HZ2 : Hid (w.heap.size ≤ w2.heap.size) := Lib.hid HK2.out.size
      clear hp2 hg2 hk2
      go_wp2_with (first
        
        | (at_builtin; go_must (refine wpList_append_ _ rfl (.tmp 19) (.tmp 23) 139 rfl w.heap.size 164 i0 _ 1 1 Try.underlying139 hi0 hz0 hz1 hz2 rfl A xs.length c _ rfl (HO2.out.alloc _) _ 1 1 [.int .u8 x.toNat] rfl (Own.of_new _ _ 1 1 [.int .u8 x.toNat].toArray rfl (by simp [maxLen])).rd (by simp [Value.oneCell']) (Fits.of (by unfold big; omega) (by omega)) (by have := HZ2.out; simp; omega) ?_); intro A3 c3 w3 ho3 hk3 hb3))
      have HK3 : Hid (Kp (fun k => k = g) w w3) := Lib.hid ((HK2.out.alloc _).trans hk3 (fun i hi e => by have := (HO2.out.lt i e).1; omega))
      have HG3 : Hid (Gs B w3 g q2) := Lib.hid ((HG2.out.alloc _).kp hk3 (fun k e => by have := (HO2.out.lt k e).1; have := HGL.out; have := HG2.out.base; omega))
      have HO3 : Hid (Own w3 w.heap.size 164 1 A3 (xs ++ [x]).length c3 ((xs ++ [x]).flatMap (fun c => [bv c]))) := Lib.hid (by rw [List.flatMap_append, List.length_append]; simpa [bv] using ho3)
      clear ho3 hk3 hb3
      go_roundw
      case rel => exact ⟨xs ++ [x], q2, A3, c3, by simp; omega, by simp, by simp, HO3.out, HG3.out, HK3.out, by rw [HP2.out, List.length_append]; rfl⟩
      case measure => simp [intOf]; omega
    · have HN : Hid (n - xs.length = 0) := Lib.hid (by omega)
      have HC : Hid (pList 16 pByte l = .ok (xs, q)) := Lib.hid (by rw [HE.out, HPR.out, HN.out, pre_zero])
      go_wp2_with fail
      go_must (refine (clip_party _ _ _ _ HO.out.cap).mono ?_)
      rintro e w2 ⟨rfl, rfl⟩
      go_wp2_with fail
      go_ret
      exact GetTo.ok HC.out ⟨A, rfl, HO.out.clip⟩ HKR.out HGR.out
end Go.Proofs.Ytiimdnachgkomaa
