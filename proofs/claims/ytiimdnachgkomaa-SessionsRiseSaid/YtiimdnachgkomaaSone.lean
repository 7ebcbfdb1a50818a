/- Package sessions: Note whatever comes; one page of bytes. -/
import Derived.Test.YtiimdnachgkomaaSput
import Derived.Test.YtiimdnachgkomaaLives16
import Derived.BigQuiet
import Derived.OwnWalk
namespace Go.Proofs.Ytiimdnachgkomaa
open Go Go.RowKit
/-- What Note does of a book, whatever comes. -/
def NoteQ (g : Nat) (ps : List Pg) (c : UInt8) (num : UInt64) (rep : RepP) (w : World) (e : Ending) (w' : World) : Prop :=
  ∃ (k : Nat) (ps2 : List Pg), e = .returned (.int .i64 k) ∧ Kp (fun j => j = g) w w' ∧ Bk w' g ps2 ∧
    ((k = 0 ∧ noteP (ps.map Pg.pl) c num.toNat rep = some (ps2.map Pg.pl)) ∨ (k ≠ 0 ∧ ps2 = ps ∧ noteP (ps.map Pg.pl) c num.toNat rep = none))
theorem Note_all (g : Nat) (ps : List Pg) (c : UInt8) (num : UInt64) (re rat : Int64) (B : Option Addr) (d : Nat) (l : List Got) (w : World) (hb : Bk w g ps) (hr : RdG w B d l) (h : l.length ≤ 8) :
    Calls Try.prog 39 #[.pointer (some ⟨g, 0, none⟩), .int .u8 c.toNat, .int .u64 num.toNat, .agg #[.int .i64 re.toInt, .int .i64 rat.toInt, .slice B l.length d]] w (NoteQ g ps c num ⟨re, rat, l⟩ w) := by
  have hlen := hb.len
  by_cases hc : 1 ≤ c.toNat ∧ c.toNat ≤ 8
  · obtain ⟨i, hi⟩ : ∃ i, c.toNat = i + 1 := ⟨c.toNat - 1, by omega⟩
    obtain ⟨p, hp⟩ : ∃ p, ps[i]? = some p := ⟨_, List.getElem?_eq_getElem (by omega)⟩
    have hpl : (ps.map Pg.pl)[c.toNat - 1]? = some p.pl := by rw [hi, Nat.add_sub_cancel, List.getElem?_map, hp]; rfl
    by_cases hn : num.toNat ≤ p.num.toNat
    · rw [hi]
      refine (Note_old g ps i p hp num re.toInt rat.toInt B l.length d w hb h hn).mono ?_
      rintro e w' ⟨rfl, hk⟩
      refine ⟨18, ps, rfl, hk.kp, hb.nw hk, .inr ⟨by omega, rfl, ?_⟩⟩
      unfold noteP
      rw [if_neg]
      rintro ⟨_, _, h3⟩
      rw [hpl] at h3
      simp [Pg.pl] at h3
      omega
    · rw [hi]
      refine (Note_ok g ps i p hp num re rat B d l w hb hr h (by omega)).mono ?_
      rintro e w' ⟨A2, rfl, hb2, _, hk⟩
      refine ⟨0, _, rfl, hk, hb2, .inl ⟨rfl, ?_⟩⟩
      unfold noteP
      rw [if_pos ⟨hc.1, hc.2, by rw [hpl]; simp [Pg.pl]; omega⟩, hi, Nat.add_sub_cancel, List.map_set]
      congr 2
      simp [Pg.pl]
  · refine (Note_err _ c _ _ _ B _ d 1 (.inl rfl) w (fun w1 hk => page_arg g ps c w1 (hb.nw hk) (by omega))).mono ?_
    rintro e w' ⟨rfl, hk⟩
    refine ⟨1, ps, rfl, hk.kp, hb.nw hk, .inr ⟨by omega, rfl, ?_⟩⟩
    unfold noteP
    rw [if_neg]
    rintro ⟨h1, h2, _⟩
    exact hc ⟨h1, h2⟩
/-- One page, plain: the client, the pages behind, and what is left. -/
def oneP (pps : List PgP) (l : Bytes) : Option (UInt8 × List PgP × Bytes) := match pOne l with
  | none => none
  | some (c, num, rep, r) => match noteP pps c num rep with
    | none => none
    | some ps2 => some (c, ps2, r)
def OneQ (g : Nat) (ps : List Pg) (l : Bytes) (w : World) (e : Ending) (w' : World) : Prop :=
  ∃ (v1 : UInt8) (v2 : Nat) (ok : Bool) (ps2 : List Pg), e = .returned (.tuple #[.int .u8 v1.toNat, .int .i64 v2, .bool ok]) ∧ Kp (fun j => j = g) w w' ∧ Bk w' g ps2 ∧
    ((ok = false ∧ oneP (ps.map Pg.pl) l = none) ∨ (ok = true ∧ v2 ≤ l.length ∧ oneP (ps.map Pg.pl) l = some (v1, ps2.map Pg.pl, l.drop v2)))
theorem oneP_1 {pps : List PgP} {b : UInt8} {r : Bytes} {k : Nat} (h : pNum r = .error k) : oneP pps (b :: r) = none := by
  simp only [oneP, pOne, h]
theorem oneP_2 {pps : List PgP} {b : UInt8} {r r1 : Bytes} {n k : Nat} (h : pNum r = .ok (n, r1)) (h1 : pNum r1 = .error k) : oneP pps (b :: r) = none := by
  simp only [oneP, pOne, h, h1]
theorem oneP_3 {pps : List PgP} {b : UInt8} {r r1 r2 : Bytes} {n m : Nat} (h : pNum r = .ok (n, r1)) (h1 : pNum r1 = .ok (m, r2)) (h2 : n = 0 ∨ r2.length < m) : oneP pps (b :: r) = none := by
  simp only [oneP, pOne, h, h1]; rw [if_pos h2]
theorem oneP_4 {pps : List PgP} {b : UInt8} {r r1 r2 : Bytes} {n m k : Nat} (h : pNum r = .ok (n, r1)) (h1 : pNum r1 = .ok (m, r2)) (h2 : ¬ (n = 0 ∨ r2.length < m)) (h3 : pAll pReply (r2.take m) = .error k) : oneP pps (b :: r) = none := by
  simp only [oneP, pOne, h, h1]; rw [if_neg h2, h3]
theorem oneP_5 {pps : List PgP} {b : UInt8} {r r1 r2 : Bytes} {n m : Nat} {rep : RepP} (h : pNum r = .ok (n, r1)) (h1 : pNum r1 = .ok (m, r2)) (h2 : ¬ (n = 0 ∨ r2.length < m)) (h3 : pAll pReply (r2.take m) = .ok rep) :
    oneP pps (b :: r) = (noteP pps b n rep).map (fun ps2 => (b, ps2, r2.drop m)) := by
  simp only [oneP, pOne, h, h1]; rw [if_neg h2, h3]
  simp only []
  cases noteP pps b n rep <;> rfl
theorem num_part {l r : Bytes} {n : Nat} (h : pNum l = .ok (n, r)) : n < u64 ∧ 1 ≤ l.length - r.length ∧ r.length ≤ l.length ∧ l.drop (l.length - r.length) = r := by
  obtain ⟨h1, h2⟩ := codec_num.inv l n r h
  have := encNum_pos n
  refine ⟨h1, ?_, ?_, ?_⟩
  · rw [h2, List.length_append]; omega
  · rw [h2, List.length_append]; omega
  · rw [h2, List.length_append, Nat.add_sub_cancel, List.drop_left' rfl]
section
variable {w : World} {ops : Array Oper} {rest : List Oper} {op : Oper} {a : Act} {Q : Exit → Act → World → Prop}
theorem wpList_fromB (hgd : op.guard = none) (x lo : Operand) (ho : op.op = .slice 28 x (some lo) none none) {A : Option Addr} {c : Nat} {l : Bytes} (hx : a.eval x = .slice A l.length c) (hr : RdB w A c l) {kd : IntKind} {k : Nat} (hlo : a.eval lo = .int kd k) (hk : k ≤ l.length)
    {r : Bytes} (hrr : l.drop k = r) (h : ∀ A2 c2, RdB w A2 c2 r → blkOf A2 = blkOf A → wpList Try.prog ops Q rest (a.put op.dst (.slice A2 r.length c2)) w) : wpList Try.prog ops Q (op :: rest) a w := by
  obtain ⟨i0, hi0, hz0, hz1, hz2⟩ := info_parts info_byte
  refine wpList_from hgd 28 5 x lo ho Try.underlying28 hi0 hz1 hx hr hlo hk (fun A2 h2 hb2 => ?_)
  have hlen : l.length - k = r.length := by rw [← hrr, List.length_drop]
  rw [hlen]
  refine h A2 _ ?_ hb2
  rw [hlen, Nat.mul_one, ← List.map_drop, hrr] at h2
  exact h2
theorem wpList_partB (hgd : op.guard = none) (x lo hi' : Operand) (ho : op.op = .slice 28 x (some lo) (some hi') none) {A : Option Addr} {c : Nat} {l : Bytes} (hx : a.eval x = .slice A l.length c) (hr : RdB w A c l) {kd kd2 : IntKind} {k m : Nat} (hlo : a.eval lo = .int kd k) (hhi : a.eval hi' = .int kd2 m) (hk : k ≤ m) (hm : m ≤ l.length)
    {r : Bytes} (hrr : (l.take m).drop k = r) (h : ∀ A2 c2, RdB w A2 c2 r → blkOf A2 = blkOf A → wpList Try.prog ops Q rest (a.put op.dst (.slice A2 r.length c2)) w) : wpList Try.prog ops Q (op :: rest) a w := by
  obtain ⟨i0, hi0, hz0, hz1, hz2⟩ := info_parts info_byte
  refine wpList_part hgd 28 5 x lo hi' ho Try.underlying28 hi0 hz1 hx hr hlo hhi hk hm (fun A2 h2 hb2 => ?_)
  have hlen : m - k = r.length := by rw [← hrr, List.length_drop, List.length_take, Nat.min_eq_left hm]
  rw [hlen]
  refine h A2 _ ?_ hb2
  rw [hlen, Nat.mul_one, Nat.mul_one, ← List.map_take, ← List.map_drop, hrr] at h2
  exact h2
end
theorem RdB.head {w : World} {A : Option Addr} {c : Nat} {b : UInt8} {r : Bytes} (h : RdB w A c (b :: r)) : ∃ ad, A = some ad ∧ w.cell? ad = some (.int .u8 b.toNat) := by
  obtain ⟨ad, hA, hc⟩ := h.bytes (i := 0) (by simp) (by simp)
  rw [add_zero_] at hc
  exact ⟨ad, hA, hc⟩
set_option maxRecDepth 20000 in
set_option maxHeartbeats 1000000 in
theorem one_calls (g : Nat) (ps : List Pg) (A : Option Addr) (c : Nat) (l : Bytes) (w : World) (hb : Bk w g ps) (hr : RdB w A c l) (hl : l.length ≤ 10000) (hne : blkOf A ≠ some g) :
    Calls Try.prog 134 #[.pointer (some ⟨g, 0, none⟩), .slice A l.length c] w (OneQ g ps l w) := by
  have HB := Lib.hid hb
  have HR := Lib.hid hr
  have HL := Lib.hid hl
  have HNe := Lib.hid hne
  clear hb hr hl hne
  obtain ⟨n0, hn0⟩ : ∃ n0, n0 = l.length := ⟨_, rfl⟩
  by_cases h0 : l.length = 0
  · have h0' : ((l.length : Int) == 0) = true := by rw [h0]; rfl
    have hnil := List.eq_nil_of_length_eq_zero h0
    clear h0
    go_enter Try.func134, Try.ntmps134
    go_wp2_with fail
    go_ret3
    exact ⟨0, 0, false, ps, rfl, Kp.refl _ _, HB.out, .inl ⟨rfl, by rw [hnil]; rfl⟩⟩
  · obtain ⟨b, r, hbr⟩ : ∃ b r, l = b :: r := by
      cases l with
      | nil => exact absurd rfl h0
      | cons b r => exact ⟨b, r, rfl⟩
    have h0' : ((l.length : Int) == 0) = false := beq_eq_false_iff_ne.2 (by omega)
    have HBr := Lib.hid hbr
    have h1 : 1 ≤ l.length := by omega
    have HD1 : Hid (l.drop 1 = r) := Lib.hid (by rw [hbr]; rfl)
    obtain ⟨ad, rfl, _⟩ : ∃ ad, A = some ad ∧ w.cell? ad = some (.int .u8 b.toNat) := (hbr ▸ HR.out).head
    have HHd : Hid (∀ w', RdB w' (some ad) c l → w'.cell? ad = some (.int .u8 b.toNat)) := Lib.hid (fun w' h => by
      obtain ⟨ad', h1, h2⟩ := (hbr ▸ h : RdB w' (some ad) c (b :: r)).head
      injection h1 with h1
      rw [h1]; exact h2)
    have h1i : (0 : Int) < (l.length : Int) := by omega
    clear hbr h0 hn0
    go_enter Try.func134, Try.ntmps134
    go_wp2_with ((with_reducible refine stopAt (.slice 28 (.tmp 18) (some (.const (.int .i64 1))) none none) rfl ?_); go_must (refine unStop (wpList_fromB rfl (.tmp 18) _ rfl rfl HR.out (k := 1) rfl h1 HD1.out ?_)); intro A2 c2 hr2 hb2)
    go_must (refine (Take_ A2 c2 r _ hr2).mono ?_)
    rintro e w1 ⟨he, rfl⟩
    clear hr2 hb2
    rcases he.ways with ⟨num, r1, hp, he1⟩ | ⟨k1, hp, rfl⟩
    focus
      obtain ⟨hu1, hn1p, hn1l, hd1⟩ := num_part hp
      obtain ⟨n1, hn1⟩ : ∃ n1, n1 = r.length - r1.length := ⟨_, rfl⟩
      rw [← hn1] at he1 hn1p hd1
      subst he1
      have hrl : l.length = r.length + 1 := by rw [HBr.out]; rfl
      have HP := Lib.hid hp
      have HD2 : Hid (l.drop (1 + n1) = r1) := Lib.hid (by rw [HBr.out, Nat.add_comm, List.drop_succ_cons]; exact hd1)
      have hk1 : 1 + n1 ≤ l.length := by omega
      have hx1 : ((n1 : Int) == 0) = false := beq_eq_false_iff_ne.2 (by omega)
      have hi1 : (n1 : Int) ≤ 10000 := by have := HL.out; omega
      have HN1 : Hid (n1 = r.length - r1.length) := Lib.hid hn1
      have HRl : Hid (l.length = r.length + 1) := Lib.hid hrl
      have HR1l : Hid (r1.length ≤ r.length) := Lib.hid hn1l
      replace hu1 := Lib.hid hu1
      clear hp he hn1p hn1l hd1 hn1 hrl
      go_wp2_with ((with_reducible refine stopAt (.slice 28 (.tmp 24) (some (.tmp 26)) none none) rfl ?_); go_must (refine unStop (wpList_fromB rfl (.tmp 24) (.tmp 26) rfl rfl HR.out (k := 1 + n1) rfl hk1 HD2.out ?_)); intro A3 c3 hr3 hb3)
      go_must (refine (Take_ A3 c3 r1 _ hr3).mono ?_)
      rintro e w1 ⟨he, rfl⟩
      clear hr3 hb3
      rcases he.ways with ⟨long, r2, hp, he1⟩ | ⟨k1, hp, rfl⟩
      focus
        obtain ⟨hu2, hn2p, hn2l, hd2⟩ := num_part hp
        obtain ⟨n2, hn2⟩ : ∃ n2, n2 = r1.length - r2.length := ⟨_, rfl⟩
        rw [← hn2] at he1 hn2p hd2
        subst he1
        have hat : 1 + n1 + n2 + r2.length = l.length := by have h3 := HN1.out; have h4 := HRl.out; have h5 := HR1l.out; omega
        have HAt := Lib.hid hat
        have HP2 := Lib.hid hp
        have HD3 : Hid (l.drop (1 + n1 + n2) = r2) := Lib.hid (by rw [← hd2, ← HD2.out, List.drop_drop])
        have hx2 : ((n2 : Int) == 0) = false := beq_eq_false_iff_ne.2 (by omega)
        have hi2 : (n2 : Int) ≤ 10000 := by have := HL.out; omega
        replace hu2 := Lib.hid hu2
        clear hp he hn2p hn2l hd2 hn2
        by_cases hz : num = 0
        · have hx3 : ((num : Int) == 0) = true := by rw [hz]; rfl
          have HE := Lib.hid (oneP_3 (pps := ps.map Pg.pl) (b := b) HP.out HP2.out (.inl hz))
          clear hat
          replace hz := Lib.hid hz
          go_wp2_with fail
          go_ret3
          exact ⟨0, 0, false, ps, rfl, Kp.refl _ _, HB.out, .inl ⟨rfl, by rw [HBr.out]; exact HE.out⟩⟩
        have hx3 : ((num : Int) == 0) = false := beq_eq_false_iff_ne.2 (by omega)
        have hdi : (l.length : Int) - (1 + (n1 : Int) + (n2 : Int)) = (r2.length : Int) := by omega
        have hr2i : (r2.length : Int) ≤ 10000 := by have := HL.out; omega
        by_cases hlong : r2.length < long
        · have hx4 : decide ((r2.length : Int) < (long : Int)) = true := decide_eq_true (by omega)
          have hx5 : decide (r2.length < long) = true := decide_eq_true hlong
          have HE := Lib.hid (oneP_3 (pps := ps.map Pg.pl) (b := b) HP.out HP2.out (.inr hlong))
          clear hat hlong
          replace hz := Lib.hid hz
          go_wp2_with fail
          go_ret3
          exact ⟨0, 0, false, ps, rfl, Kp.refl _ _, HB.out, .inl ⟨rfl, by rw [HBr.out]; exact HE.out⟩⟩
        have hx4 : decide ((r2.length : Int) < (long : Int)) = false := decide_eq_false (by omega)
        have hx5 : decide (r2.length < long) = false := decide_eq_false hlong
        have HOk : Hid (¬ (num = 0 ∨ r2.length < long)) := Lib.hid (by rintro (h | h); exact hz h; exact hlong h)
        have hli : (long : Int) ≤ 10000 := by omega
        have HM : Hid (1 + n1 + n2 + long ≤ l.length) := Lib.hid (by omega)
        obtain ⟨r3, hr3⟩ : ∃ r3, r3 = r2.take long := ⟨_, rfl⟩
        have HPart : Hid ((l.take (1 + n1 + n2 + long)).drop (1 + n1 + n2) = r3) := Lib.hid (by rw [hr3, ← HD3.out, List.drop_take]; congr 1; omega)
        replace hr3 := Lib.hid hr3
        clear hat hlong
        replace hz := Lib.hid hz
        go_wp2_with ((with_reducible refine stopAt (.slice 28 (.tmp 59) (some (.tmp 60)) (some (.tmp 61)) none) rfl ?_); go_must (refine unStop (wpList_partB rfl (.tmp 59) (.tmp 60) (.tmp 61) rfl rfl HR.out (k := 1 + n1 + n2) (m := 1 + n1 + n2 + long) rfl rfl (Nat.le_add_right _ _) HM.out HPart.out ?_)); intro A4 c4 hr4 hb4)
        go_must (refine (GetReply_ A4 c4 r3 _ hr4).mono ?_)
        rintro e w2 h
        clear hr4 hb4
        rcases h.ways with ⟨rep, v, hp, rfl, ⟨A5, rfl, ho5⟩, hk5⟩ | ⟨k, hp, rfl, hk5⟩
        focus
          obtain ⟨hv, _⟩ := codec_reply.all_inv _ _ hp
          have hv8 : rep.got.length ≤ 8 := hv
          have HE := Lib.hid (oneP_5 (pps := ps.map Pg.pl) (b := b) HP.out HP2.out HOk.out (hr3.out ▸ hp))
          have hgl := HB.out.blk.lt
          have hsz := hk5.size
          have hc0 := HHd.out _ ((HR.out.nw hk5).alloc (.cells #[.int .i64 rep.e.toInt, .int .i64 rep.at_.toInt, .slice A5 rep.got.length rep.got.length] 34))
          have HB5 := Lib.hid ((HB.out.nw hk5).nw ((Kp.refl _ w2).alloc (.cells #[.int .i64 rep.e.toInt, .int .i64 rep.at_.toInt, .slice A5 rep.got.length rep.got.length] 34)))
          have HN5 : Hid (Nw w1 (w2.alloc (.cells #[.int .i64 rep.e.toInt, .int .i64 rep.at_.toInt, .slice A5 rep.got.length rep.got.length] 34))) := Lib.hid (hk5.alloc _)
          have HG5 : Hid (RdG (w2.alloc (.cells #[.int .i64 rep.e.toInt, .int .i64 rep.at_.toInt, .slice A5 rep.got.length rep.got.length] 34)) A5 rep.got.length rep.got) := Lib.hid (ho5.rd.alloc _)
          have hbN : Blk (w2.alloc (.cells #[.int .i64 rep.e.toInt, .int .i64 rep.at_.toInt, .slice A5 rep.got.length rep.got.length] 34)) w2.heap.size 34 #[.int .i64 rep.e.toInt, .int .i64 rep.at_.toInt, .slice A5 rep.got.length rep.got.length] := Blk.new _ _ _
          have hq0 : (w2.alloc (.cells #[.int .i64 rep.e.toInt, .int .i64 rep.at_.toInt, .slice A5 rep.got.length rep.got.length] 34)).cell? ⟨w2.heap.size, 0, none⟩ = some (.int .i64 rep.e.toInt) := hbN.cell 0
          have hq1 : (w2.alloc (.cells #[.int .i64 rep.e.toInt, .int .i64 rep.at_.toInt, .slice A5 rep.got.length rep.got.length] 34)).cell? ⟨w2.heap.size, 1, none⟩ = some (.int .i64 rep.at_.toInt) := hbN.cell 1
          have hq2 : (w2.alloc (.cells #[.int .i64 rep.e.toInt, .int .i64 rep.at_.toInt, .slice A5 rep.got.length rep.got.length] 34)).cell? ⟨w2.heap.size, 2, none⟩ = some (.slice A5 rep.got.length rep.got.length) := hbN.cell 2
          clear hp h hk5 ho5 hv hbN
          go_wp2_with fail
          generalize (w2.alloc (.cells #[.int .i64 rep.e.toInt, .int .i64 rep.at_.toInt, .slice A5 rep.got.length rep.got.length] 34)) = w5 at *
          obtain ⟨un, hun⟩ : ∃ un : UInt64, un.toNat = num := ⟨UInt64.ofNat num, by rw [UInt64.toNat_ofNat', Nat.mod_eq_of_lt (show num < 2 ^ 64 from hu1.out)]⟩
          have HNote : Hid (Calls Try.prog 39 #[.pointer (some ⟨g, 0, none⟩), .int .u8 b.toNat, .int .u64 num, .agg #[.int .i64 rep.e.toInt, .int .i64 rep.at_.toInt, .slice A5 rep.got.length rep.got.length]] w5.drew (NoteQ g ps b un rep w5.drew)) := Lib.hid (by
            rw [← hun]; exact Note_all g ps b un rep.e rep.at_ A5 rep.got.length rep.got _ (HB5.out.nw ((Kp.refl _ w5).drew)) (HG5.out.nw ((Kp.refl _ w5).drew)) hv8)
          have hadg : ad.block ≠ g := fun e => HNe.out (by rw [← e]; rfl)
          have HS : Hid (∀ w', Kp (fun j => j = g) w5 w' → (Kp (fun j => j = g) w5 w' ∧ w'.cell? ad = some (.int .u8 b.toNat) ∧ w'.cell? ⟨w2.heap.size, 0, none⟩ = some (.int .i64 rep.e.toInt) ∧ w'.cell? ⟨w2.heap.size, 1, none⟩ = some (.int .i64 rep.at_.toInt) ∧ w'.cell? ⟨w2.heap.size, 2, none⟩ = some (.slice A5 rep.got.length rep.got.length))) := Lib.hid (fun w' h => ⟨h, h.cell hc0 hadg, h.cell hq0 (by show ¬ w2.heap.size = g; omega), h.cell hq1 (by show ¬ w2.heap.size = g; omega), h.cell hq2 (by show ¬ w2.heap.size = g; omega)⟩)
          have hl0 : 0 < l.length := h1
          have hl1 : ¬ l.length = 0 := by omega
          replace hun := Lib.hid hun
          clear hc0 hq0 hq1 hq2 hadg hgl hsz
          go_region_held3 (fun w' => Kp (fun j => j = g) w5 w' ∧ w'.cell? ad = some (.int .u8 b.toNat) ∧ w'.cell? ⟨w2.heap.size, 0, none⟩ = some (.int .i64 rep.e.toInt) ∧ w'.cell? ⟨w2.heap.size, 1, none⟩ = some (.int .i64 rep.at_.toInt) ∧ w'.cell? ⟨w2.heap.size, 2, none⟩ = some (.slice A5 rep.got.length rep.got.length)) (first | exact HS.out _ hs6 | exact HS.out _ (Kp.drew (Kp.refl _ _)))
            ((go_at_call 39; have hy := HNote.out; refine Calls.mono hy ?_; intro e w6 hn; clear hy; obtain ⟨k, ps2, rfl, hk6, hb6, ho6⟩ := hn; have hs6 : Kp (fun j => j = g) w5 w6 := (Kp.drew (Kp.refl _ w5)).trans hk6 (fun _ _ e => e); dsimp only))
          go_wp2_with fail
          go_ret3
          refine ⟨b, 1 + n1 + n2 + long, ((k : Int) == 0), ps2, rfl, (Nw.kp HN5.out).trans hs6 (fun _ _ e => e), hb6, ?_⟩
          rcases ho6 with ⟨rfl, ho6⟩ | ⟨hk0, _, ho6⟩
          · refine .inr ⟨rfl, HM.out, ?_⟩
            have e2 := HE.out
            rw [← hun.out, ho6, ← HBr.out, ← HD3.out, List.drop_drop] at e2
            exact e2
          · have e2 := HE.out
            rw [← hun.out, ho6, ← HBr.out] at e2
            have e3 : ((k : Int) == 0) = false := by rw [beq_eq_false_iff_ne]; omega
            exact .inl ⟨e3, e2⟩
        focus
          have HE := Lib.hid (oneP_4 (pps := ps.map Pg.pl) (b := b) HP.out HP2.out HOk.out (hr3.out ▸ hp))
          have HK5 := Lib.hid hk5
          have herr : k ≠ 0 := by
            have := errs_all errs_reply _ _ hp
            omega
          have hx6 : ((k : Int) == 0) = false := beq_eq_false_iff_ne.2 (by omega)
          have hc0 := HHd.out _ ((HR.out.nw hk5).alloc (.cells #[.int .i64 0, .int .i64 0, .slice none 0 0] 34))
          have HB5 := Lib.hid ((HB.out.nw hk5).nw ((Kp.refl _ w2).alloc (.cells #[.int .i64 0, .int .i64 0, .slice none 0 0] 34)))
          have HN5 : Hid (Nw w1 (w2.alloc (.cells #[.int .i64 0, .int .i64 0, .slice none 0 0] 34))) := Lib.hid (hk5.alloc _)
          clear hp h hk5
          go_wp2_with fail
          generalize (w2.alloc (.cells #[.int .i64 0, .int .i64 0, .slice none 0 0] 34)) = w5 at *
          go_quiet (fail)
          go_wp2_with fail
          go_ret3
          have e1 : oneP (ps.map Pg.pl) l = none := by rw [HBr.out]; exact HE.out
          exact ⟨b, 1 + n1 + n2 + long, false, ps, rfl, Nw.kp (HN5.out.drewN _), HB5.out.nw ((Kp.refl _ w5).drewN _), .inl ⟨rfl, e1⟩⟩
      focus
        have HE := Lib.hid (oneP_2 (pps := ps.map Pg.pl) (b := b) HP.out hp)
        clear hp he
        go_wp2_with fail
        go_ret3
        exact ⟨0, 0, false, ps, rfl, Kp.refl _ _, HB.out, .inl ⟨rfl, by rw [HBr.out]; exact HE.out⟩⟩
    focus
      have HE := Lib.hid (oneP_1 (pps := ps.map Pg.pl) (b := b) hp)
      have HP := Lib.hid hp
      clear hp he
      go_wp2_with ((with_reducible refine stopAt (.slice 28 (.tmp 24) (some (.tmp 26)) none none) rfl ?_); go_must (refine unStop (wpList_fromB rfl (.tmp 24) _ rfl rfl HR.out (k := 1) rfl h1 HD1.out ?_)); intro A3 c3 hr3 hb3)
      go_must (refine (Take_ A3 c3 r _ hr3).mono ?_)
      rintro e w1 ⟨he, rfl⟩
      clear hr3 hb3
      rcases he.ways with ⟨num, r1, hp, he1⟩ | ⟨k2, hp, rfl⟩
      · rw [HP.out] at hp; cases hp
      clear hp he
      go_wp2_with fail
      go_ret3
      exact ⟨0, 0, false, ps, rfl, Kp.refl _ _, HB.out, .inl ⟨rfl, by rw [HBr.out]; exact HE.out⟩⟩
end Go.Proofs.Ytiimdnachgkomaa
