/- The codecs of the structures: a step, a reply, an entry, a state. No program in sight. -/
import Derived.Test.YtiimdnachgkomaaPk
import Derived.Test.YtiimdnachgkomaaTypes
namespace Go.Proofs.Ytiimdnachgkomaa

abbrev encByte (c : UInt8) : Bytes := [c]
structure RepP where
  e : Int64
  at_ : Int64
  got : List Got
  deriving DecidableEq
structure EntP where
  index : UInt64
  term : UInt64
  cl : UInt8
  num : UInt64
  steps : List Step
  deriving DecidableEq
structure StaP where
  parties : List UInt8
  lines : List Line
  offers : List Offer
  next : UInt64
  deriving DecidableEq
def encStep (x : Step) : Bytes := [x.kind] ++ [x.a] ++ [x.b] ++ [x.c] ++ [x.d] ++ encS x.n ++ encS x.max ++ encS x.num ++ encS x.den ++ encU x.seq
def pStep : Ps Step := pByte.bind fun kind => pByte.bind fun a => pByte.bind fun b => pByte.bind fun c => pByte.bind fun d => pS.bind fun n => pS.bind fun max => pS.bind fun num => pS.bind fun den => pU.bind fun seq => Ps.pure ⟨kind, a, b, c, d, n, max, num, den, seq⟩
theorem codec_step : Codec (fun _ : Step => True) encStep pStep :=
  (Codec.map (β := Step) (codec_byte.seq (codec_byte.seq (codec_byte.seq (codec_byte.seq (codec_byte.seq (codec_s.seq (codec_s.seq (codec_s.seq (codec_s.seq codec_u))))))))) (fun p => ⟨p.1, p.2.1, p.2.2.1, p.2.2.2.1, p.2.2.2.2.1, p.2.2.2.2.2.1, p.2.2.2.2.2.2.1, p.2.2.2.2.2.2.2.1, p.2.2.2.2.2.2.2.2.1, p.2.2.2.2.2.2.2.2.2⟩) (fun x => (x.kind, x.a, x.b, x.c, x.d, x.n, x.max, x.num, x.den, x.seq)) (fun _ => rfl) (fun _ => rfl)).of (fun _ => by simp) (fun x => by simp [encStep]) (by simp only [pStep, Ps.bind_assoc, Ps.pure_bind])
def encGot (x : Got) : Bytes := encS x.x ++ encS x.y
def pGot : Ps Got := pS.bind fun x => pS.bind fun y => Ps.pure ⟨x, y⟩
theorem codec_got : Codec (fun _ : Got => True) encGot pGot :=
  (Codec.map (β := Got) (codec_s.seq codec_s) (fun p => ⟨p.1, p.2⟩) (fun x => (x.x, x.y)) (fun _ => rfl) (fun _ => rfl)).of (fun _ => by simp) (fun x => by simp [encGot]) (by simp only [pGot, Ps.bind_assoc, Ps.pure_bind])
def encLine (x : Line) : Bytes := [x.cr] ++ [x.db] ++ [x.cu] ++ encS x.limit ++ encS x.debt
def pLine : Ps Line := pByte.bind fun cr => pByte.bind fun db => pByte.bind fun cu => pS.bind fun limit => pS.bind fun debt => Ps.pure ⟨cr, db, cu, limit, debt⟩
theorem codec_line : Codec (fun _ : Line => True) encLine pLine :=
  (Codec.map (β := Line) (codec_byte.seq (codec_byte.seq (codec_byte.seq (codec_s.seq codec_s)))) (fun p => ⟨p.1, p.2.1, p.2.2.1, p.2.2.2.1, p.2.2.2.2⟩) (fun x => (x.cr, x.db, x.cu, x.limit, x.debt)) (fun _ => rfl) (fun _ => rfl)).of (fun _ => by simp) (fun x => by simp [encLine]) (by simp only [pLine, Ps.bind_assoc, Ps.pure_bind])
def encOffer (x : Offer) : Bytes := encU x.seq ++ [x.owner] ++ [x.sell] ++ [x.buy] ++ encS x.left ++ encS x.num ++ encS x.den
def pOffer : Ps Offer := pU.bind fun seq => pByte.bind fun owner => pByte.bind fun sell => pByte.bind fun buy => pS.bind fun left => pS.bind fun num => pS.bind fun den => Ps.pure ⟨seq, owner, sell, buy, left, num, den⟩
theorem codec_offer : Codec (fun _ : Offer => True) encOffer pOffer :=
  (Codec.map (β := Offer) (codec_u.seq (codec_byte.seq (codec_byte.seq (codec_byte.seq (codec_s.seq (codec_s.seq codec_s)))))) (fun p => ⟨p.1, p.2.1, p.2.2.1, p.2.2.2.1, p.2.2.2.2.1, p.2.2.2.2.2.1, p.2.2.2.2.2.2⟩) (fun x => (x.seq, x.owner, x.sell, x.buy, x.left, x.num, x.den)) (fun _ => rfl) (fun _ => rfl)).of (fun _ => by simp) (fun x => by simp [encOffer]) (by simp only [pOffer, Ps.bind_assoc, Ps.pure_bind])
def encReply (x : RepP) : Bytes := encS x.e ++ encS x.at_ ++ encList encGot x.got
def pReply : Ps RepP := pS.bind fun e => pS.bind fun at_ => (pList 8 pGot).bind fun got => Ps.pure ⟨e, at_, got⟩
def okReply (x : RepP) : Prop := x.got.length ≤ 8
theorem codec_reply : Codec okReply encReply pReply :=
  (Codec.map (β := RepP) (codec_s.seq (codec_s.seq (codec_list codec_got 8 (by decide)))) (fun p => ⟨p.1, p.2.1, p.2.2⟩) (fun x => (x.e, x.at_, x.got)) (fun _ => rfl) (fun _ => rfl)).of (fun _ => by simp [okReply]) (fun x => by simp [encReply]) (by simp only [pReply, Ps.bind_assoc, Ps.pure_bind])
def encEntry (x : EntP) : Bytes := encU x.index ++ encU x.term ++ [x.cl] ++ encU x.num ++ encList encStep x.steps
def pEntry : Ps EntP := pU.bind fun index => pU.bind fun term => pByte.bind fun cl => pU.bind fun num => (pList 8 pStep).bind fun steps => Ps.pure ⟨index, term, cl, num, steps⟩
def okEntry (x : EntP) : Prop := x.steps.length ≤ 8
theorem codec_entry : Codec okEntry encEntry pEntry :=
  (Codec.map (β := EntP) (codec_u.seq (codec_u.seq (codec_byte.seq (codec_u.seq (codec_list codec_step 8 (by decide)))))) (fun p => ⟨p.1, p.2.1, p.2.2.1, p.2.2.2.1, p.2.2.2.2⟩) (fun x => (x.index, x.term, x.cl, x.num, x.steps)) (fun _ => rfl) (fun _ => rfl)).of (fun _ => by simp [okEntry]) (fun x => by simp [encEntry]) (by simp only [pEntry, Ps.bind_assoc, Ps.pure_bind])
def encState (x : StaP) : Bytes := encList encByte x.parties ++ encList encLine x.lines ++ encList encOffer x.offers ++ encU x.next
def pState : Ps StaP := (pList 16 pByte).bind fun parties => (pList 64 pLine).bind fun lines => (pList 32 pOffer).bind fun offers => pU.bind fun next => Ps.pure ⟨parties, lines, offers, next⟩
def okState (x : StaP) : Prop := x.parties.length ≤ 16 ∧ x.lines.length ≤ 64 ∧ x.offers.length ≤ 32
theorem codec_state : Codec okState encState pState :=
  (Codec.map (β := StaP) ((codec_list codec_byte 16 (by decide)).seq ((codec_list codec_line 64 (by decide)).seq ((codec_list codec_offer 32 (by decide)).seq codec_u))) (fun p => ⟨p.1, p.2.1, p.2.2.1, p.2.2.2⟩) (fun x => (x.parties, x.lines, x.offers, x.next)) (fun _ => rfl) (fun _ => rfl)).of (fun _ => by simp [okState]) (fun x => by simp [encState]) (by simp only [pState, Ps.bind_assoc, Ps.pure_bind])
end Go.Proofs.Ytiimdnachgkomaa
