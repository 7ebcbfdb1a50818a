/- law01's book of pages: the number of the next page; a list more; does each stand by itself? -/
import Derived.Test.YtiimdnachgkomaaRowByte
import Derived.Test.YtiimdnachgkomaaRowGot
import Derived.Handy
namespace Go.Proofs.Ytiimdnachgkomaa
open Go Go.RowKit
theorem info_page : (Try.prog.info? 184).map (fun i => (i.zero, i.size, i.bytes)) = some (some .nilIface, 1, 16) := by kernel_rfl
set_option maxRecDepth 20000 in
theorem number01 (g n c : Nat) (A : Option Addr) (w : World) (t : TypeId) (hb : Blk w g t #[.slice A n c]) (hn : n ≤ 1000) :
    Calls Try.prog 98 #[.pointer (some ⟨g, 0, none⟩)] w fun e w' => e = .returned (.int .i64 ((n : Int) + 1)) ∧ w' = w := by
  have c0 : w.cell? ⟨g, 0, none⟩ = some (.slice A n c) := hb.cell 0
  have h1 : (n : Int) ≤ 1000 := by omega
  clear hb
  go_enter Try.func98, Try.ntmps98
  go_wp2_with fail
  go_ret
  exact ⟨rfl, rfl⟩
/-- Block g is a book of these pages. -/
structure Bo (w : World) (g base : Nat) (vs : List Value) : Prop where
  is : ∃ A c, Blk w g 100 #[.slice A vs.length c] ∧ Own w base 184 1 A vs.length c vs ∧ blkOf A ≠ some g
theorem Bo.nw {w w' : World} {g base : Nat} {vs : List Value} (h : Bo w g base vs) (hk : Nw w w') : Bo w' g base vs := by
  obtain ⟨A, c, h1, h2, h3⟩ := h.is
  exact ⟨A, c, h1.nw hk, h2.nw hk, h3⟩
/-- What a page holds: bytes, or numbers that were got; its mark, and the mark behind. -/
inductive PgK where
  | byte (m b : UInt8)
  | got (m b : Got)
structure PgV where
  A : Option Addr
  n : Nat
  c : Nat
  kind : PgK
def PgV.val (p : PgV) : Value := match p.kind with
  | .byte m b => .iface 205 (.agg #[.slice p.A p.n p.c, .int .u8 m.toNat, .int .u8 b.toNat])
  | .got m b => .iface 182 (.agg #[.slice p.A p.n p.c, .int .i64 m.x.toInt, .int .i64 m.y.toInt, .int .i64 b.x.toInt, .int .i64 b.y.toInt])
/-- How far a row was written over: not, its list, what is behind too. -/
def far01 (st k n c : Nat) (m b : List Value) : Array Value → Prop := match st with
  | 0 => fun _ => True
  | 1 => fun cs => Std cs k 0 n m
  | _ => fun cs => Std cs k 0 n m ∧ Std cs k n c b
def PgV.row (p : PgV) (w : World) (st : Nat) : Prop := match p.kind with
  | .byte m b => Row w 5 1 p.A p.n p.c (far01 st 1 p.n p.c [bv m] [bv b])
  | .got m b => Row w 93 2 p.A p.n p.c (far01 st 2 p.n p.c m.cells b.cells)
theorem PgV.row_kp {p : PgV} {S : Nat → Prop} {w w' : World} {st : Nat} (h : p.row w st) (hk : Kp S w w') (hs : ∀ g, blkOf p.A = some g → ¬ S g) : p.row w' st := by
  obtain ⟨A, n, c, kind⟩ := p
  cases kind <;> exact Row.kp h hk hs
/-- A page more: nothing turned but the book's own. -/
def BoTo (g base : Nat) (vs : List Value) (w : World) (e : Ending) (w' : World) : Prop := e = .returned (.tuple #[]) ∧ Bo w' g base vs ∧ Kp (fun j => j = g ∨ base ≤ j) w w'
set_option maxRecDepth 20000 in
set_option maxHeartbeats 1000000 in
theorem Gots01 (g base : Nat) (vs : List Value) (B : Option Addr) (n d : Nat) (w : World) (hb : Bo w g base vs) (hn : vs.length ≤ 100) (hbs : base ≤ w.heap.size) :
    Calls Try.prog 45 #[.pointer (some ⟨g, 0, none⟩), .slice B n d] w
      (BoTo g base (vs ++ [PgV.val ⟨B, n, d, .got ⟨Int64.ofNat (vs.length + 1), 0⟩ ⟨0, Int64.ofNat (vs.length + 1)⟩⟩]) w) := by
  obtain ⟨i0, hi0, hz0, hz1, hz2⟩ := info_parts info_page
  have hval : PgV.val ⟨B, n, d, .got ⟨Int64.ofNat (vs.length + 1), 0⟩ ⟨0, Int64.ofNat (vs.length + 1)⟩⟩ = .iface 182 (.agg #[.slice B n d, .int .i64 ((vs.length : Int) + 1), .int .i64 0, .int .i64 0, .int .i64 ((vs.length : Int) + 1)]) := by
    have e : (Int64.ofNat (vs.length + 1)).toInt = (vs.length : Int) + 1 := by rw [Int64.toInt_ofNat_of_lt (by omega)]; rfl
    have e0 : (0 : Int64).toInt = 0 := rfl
    simp only [PgV.val, e, e0]
  rw [hval]
  clear hval
  obtain ⟨A, c, hb, ho, hne⟩ := hb.is
  have HC := Lib.hid (number01 g vs.length c A w _ hb (by omega))
  have hg := hb.lt
  have c0 : w.cell? ⟨g, 0, none⟩ = some (.slice A vs.length c) := hb.cell 0
  have HO := Lib.hid ho
  have HB := Lib.hid hb
  have HN := Lib.hid hn
  have HBs := Lib.hid hbs
  clear hb ho
  go_enter Try.func45, Try.ntmps45
  go_wp2_with (first
    | (go_at_call 98; go_must (refine HC.out.mono ?_); rintro e w2 ⟨rfl, rfl⟩)
    | (at_builtin; go_must (refine wpList_append_ _ rfl (.tmp 11) (.tmp 19) 98 rfl base 184 i0 _ 1 16 Try.underlying98 hi0 hz0 hz1 hz2 rfl A vs.length c vs rfl (HO.out.alloc _) (some ⟨w2.heap.size, 0, none⟩) 1 1 [.iface 182 (.agg #[.slice B n d, .int .i64 ((vs.length : Int) + 1), .int .i64 0, .int .i64 0, .int .i64 ((vs.length : Int) + 1)])] rfl (Own.of_new w2 _ 1 1 #[.iface 182 (.agg #[.slice B n d, .int .i64 ((vs.length : Int) + 1), .int .i64 0, .int .i64 0, .int .i64 ((vs.length : Int) + 1)])] rfl (by simp [maxLen])).rd (by simp [Value.oneCell']) (Fits.of (by have := HN.out; unfold big; omega) (by omega)) (by have := HBs.out; simp; omega) ?_); intro A3 c3 w3 ho3 hk3 hb3; have hb4 := (HB.out.alloc (.cells #[.iface 182 (.agg #[.slice B n d, .int .i64 ((vs.length : Int) + 1), .int .i64 0, .int .i64 0, .int .i64 ((vs.length : Int) + 1)])] 184)).kp hk3 (fun e => hne e); have f0 := hb4.free 0; have x0 : w3.cell? ⟨g, 0, none⟩ = some (.slice A vs.length c) := hb4.cell 0))
  go_end0
  have hlt := HO.out.lt
  have hA3 : blkOf A3 ≠ some g := by
    rcases hb3 with e | e
    · rw [e]; exact hne
    · rw [e]; intro e2; injection e2 with e2; simp at e2; omega
  have hl : vs.length + 1 = (vs ++ [Value.iface 182 (.agg #[.slice B n d, .int .i64 ((vs.length : Int) + 1), .int .i64 0, .int .i64 0, .int .i64 ((vs.length : Int) + 1)])]).length := by simp
  refine ⟨rfl, ⟨A3, c3, ?_, ?_, hA3⟩, ?_⟩
  · rw [← hl]; exact hb4.set_ 0 _
  · rw [← hl]; exact ho3.setCell (p := ⟨g, 0, none⟩) hA3 _
  · exact Kp.setCell (p := ⟨g, 0, none⟩) (((Kp.refl (fun j => j = g ∨ base ≤ j) w2).alloc _).trans (hk3.more (S' := fun j => j = g ∨ base ≤ j) (fun i _ e => .inr (hlt i e).1)) (fun _ _ e => e)) (fun _ => .inl rfl) _
theorem bits128_ : ∀ n : Fin 101, bits .xor .u8 ((n.val : Int) + 1) 128 = ((UInt8.ofNat (n.val + 1) ^^^ 128).toNat : Int) := by decide
theorem bits128 (n : Nat) (h : n ≤ 100) : bits .xor .u8 ((n : Int) + 1) 128 = ((UInt8.ofNat (n + 1) ^^^ 128).toNat : Int) := bits128_ ⟨n, by omega⟩
set_option maxRecDepth 20000 in
set_option maxHeartbeats 1000000 in
theorem Bytes01 (g base : Nat) (vs : List Value) (B : Option Addr) (n d : Nat) (w : World) (hb : Bo w g base vs) (hn : vs.length ≤ 100) (hbs : base ≤ w.heap.size) :
    Calls Try.prog 65 #[.pointer (some ⟨g, 0, none⟩), .slice B n d] w
      (BoTo g base (vs ++ [PgV.val ⟨B, n, d, .byte (UInt8.ofNat (vs.length + 1)) (UInt8.ofNat (vs.length + 1) ^^^ 128)⟩]) w) := by
  obtain ⟨i0, hi0, hz0, hz1, hz2⟩ := info_parts info_page
  have hval : PgV.val ⟨B, n, d, .byte (UInt8.ofNat (vs.length + 1)) (UInt8.ofNat (vs.length + 1) ^^^ 128)⟩ = .iface 205 (.agg #[.slice B n d, .int .u8 ((vs.length : Int) + 1), .int .u8 ((UInt8.ofNat (vs.length + 1) ^^^ 128).toNat : Int)]) := by
    have e : ((UInt8.ofNat (vs.length + 1)).toNat : Int) = (vs.length : Int) + 1 := by rw [UInt8.toNat_ofNat', Nat.mod_eq_of_lt (by omega)]; rfl
    simp only [PgV.val, e]
  rw [hval]
  clear hval
  have hx := bits128 vs.length hn
  have h1 : (vs.length : Int) ≤ 100 := by omega
  obtain ⟨A, c, hb, ho, hne⟩ := hb.is
  have HC := Lib.hid (number01 g vs.length c A w _ hb (by omega))
  have hg := hb.lt
  have c0 : w.cell? ⟨g, 0, none⟩ = some (.slice A vs.length c) := hb.cell 0
  have HO := Lib.hid ho
  have HB := Lib.hid hb
  have HN := Lib.hid hn
  have HBs := Lib.hid hbs
  clear hb ho
  go_enter Try.func65, Try.ntmps65
  go_wp2_with (first
    | (go_at_call 98; go_must (refine HC.out.mono ?_); rintro e w2 ⟨rfl, rfl⟩)
    | (at_builtin; go_must (refine wpList_append_ _ rfl (.tmp 11) (.tmp 20) 98 rfl base 184 i0 _ 1 16 Try.underlying98 hi0 hz0 hz1 hz2 rfl A vs.length c vs rfl (HO.out.alloc _) (some ⟨w2.heap.size, 0, none⟩) 1 1 [.iface 205 (.agg #[.slice B n d, .int .u8 ((vs.length : Int) + 1), .int .u8 ((UInt8.ofNat (vs.length + 1) ^^^ 128).toNat : Int)])] rfl (Own.of_new w2 _ 1 1 #[.iface 205 (.agg #[.slice B n d, .int .u8 ((vs.length : Int) + 1), .int .u8 ((UInt8.ofNat (vs.length + 1) ^^^ 128).toNat : Int)])] rfl (by simp [maxLen])).rd (by simp [Value.oneCell']) (Fits.of (by have := HN.out; unfold big; omega) (by omega)) (by have := HBs.out; simp; omega) ?_); intro A3 c3 w3 ho3 hk3 hb3; have hb4 := (HB.out.alloc (.cells #[.iface 205 (.agg #[.slice B n d, .int .u8 ((vs.length : Int) + 1), .int .u8 ((UInt8.ofNat (vs.length + 1) ^^^ 128).toNat : Int)])] 184)).kp hk3 (fun e => hne e); have f0 := hb4.free 0; have x0 : w3.cell? ⟨g, 0, none⟩ = some (.slice A vs.length c) := hb4.cell 0))
  go_end0
  have hlt := HO.out.lt
  have hA3 : blkOf A3 ≠ some g := by
    rcases hb3 with e | e
    · rw [e]; exact hne
    · rw [e]; intro e2; injection e2 with e2; simp at e2; omega
  have hl : vs.length + 1 = (vs ++ [Value.iface 205 (.agg #[.slice B n d, .int .u8 ((vs.length : Int) + 1), .int .u8 ((UInt8.ofNat (vs.length + 1) ^^^ 128).toNat : Int)])]).length := by simp
  refine ⟨rfl, ⟨A3, c3, ?_, ?_, hA3⟩, ?_⟩
  · rw [← hl]; exact hb4.set_ 0 _
  · rw [← hl]; exact ho3.setCell (p := ⟨g, 0, none⟩) hA3 _
  · exact Kp.setCell (p := ⟨g, 0, none⟩) (((Kp.refl (fun j => j = g ∨ base ≤ j) w2).alloc _).trans (hk3.more (S' := fun j => j = g ∨ base ≤ j) (fun i _ e => .inr (hlt i e).1)) (fun _ _ e => e)) (fun _ => .inl rfl) _
end Go.Proofs.Ytiimdnachgkomaa
