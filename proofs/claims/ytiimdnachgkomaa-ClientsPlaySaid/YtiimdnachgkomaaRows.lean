/-
  No cell of these rows narrows 'for every input' (looked for: loops, veiled, ifaces, maps, wideKeys, modest, calm, conditions, laid).
  DERIVED. THE GIVEN ROWS OF THIS SEAT. 14 by the template 'for every input the law returns true; each argument reads behind the call as it read before'; 0 by the template 'total and deterministic' (their statements: YtiimdnachgkomaaTotals.lean).
  GIVEN WITH THE SEED: the statements are not yours to turn. If you find one false, say at which input.
  Laid BY PROGRAM, IN A SANDBOX (cutbox-rows.mjs): the forced cells as the released guide's own fill.sh prints them over the translation 498075c710e0bce6… (all of the seat's roots in one cut). By AI agents, Wed Nov 11 2026. No macro, syntax, notation, axiom, sorry.
-/
import Derived.Test.YtiimdnachgkomaaChecked
import GoSem.Claim
import GoSem.ClaimJoined
import GoSem.ClaimMapViews
import Derived.JoinedTies
import Derived.KernelRfl
namespace Go.Proofs.Ytiimdnachgkomaa
/- THE CELL 'sum', in the pinned program and in every row, IS THE sha256 OF THE DUMP (.gsa) THAT YtiimdnachgkomaaProg.lean LOADS. Nothing in Lean hashes anything: it is a label: what it is worth is what the hold of that sum in a sandbox is worth. -/
noncomputable def Try.pinned : Pinned := { name := "ytiimdnachgkomaa", sum := "498075c710e0bce6ed458eb96fa0bdf54490f48be1369be053dee6891eca55c3", checked := Try.checked }
namespace Rows
def none {H : Type} : Left H := { results := [], args := [] }

/-- 'countinghouselaw27.ClientsVoid': WHATEVER THE INPUT: true; the input reads as it did. -/
def clientsVoidSpec : ChangeSpec := { name := "clientsVoid", fn := fun _ => fun
  | [d] => { results := [.lit (.bool true)], args := [d] }
  | _ => none }
def clientsVoidRow : OpenClaim := { program := "ytiimdnachgkomaa", sum := "498075c710e0bce6ed458eb96fa0bdf54490f48be1369be053dee6891eca55c3", func := "countinghouse/countinghouselaw27.ClientsVoid", spec := "clientsVoid", unfollowed := true, recurses := true, apart := false }
def ClientsVoidSaid : Prop := clientsVoidRow.holds Try.pinned (OpenSpec.ofChange clientsVoidSpec)

/-- ITS FALSE NEIGHBOUR: 'it returns false'. Refute it at one input. -/
def clientsVoidWrong : ChangeSpec := { name := "clientsVoid", fn := fun _ => fun
  | [d] => { results := [.lit (.bool false)], args := [d] }
  | _ => none }
def ClientsVoidWrongFalsely : Prop := clientsVoidRow.holds Try.pinned (OpenSpec.ofChange clientsVoidWrong)

/-- 'countinghouselaw27.ClientsAround': WHATEVER THE INPUT: true; the input reads as it did. -/
def clientsAroundSpec : ChangeSpec := { name := "clientsAround", fn := fun _ => fun
  | [d1, d2, d3] => { results := [.lit (.bool true)], args := [d1, d2, d3] }
  | _ => none }
def clientsAroundRow : OpenClaim := { program := "ytiimdnachgkomaa", sum := "498075c710e0bce6ed458eb96fa0bdf54490f48be1369be053dee6891eca55c3", func := "countinghouse/countinghouselaw27.ClientsAround", spec := "clientsAround", unfollowed := true, recurses := true, apart := false }
def ClientsAroundSaid : Prop := clientsAroundRow.holds Try.pinned (OpenSpec.ofChange clientsAroundSpec)

/-- ITS FALSE NEIGHBOUR: 'it returns false'. Refute it at one input. -/
def clientsAroundWrong : ChangeSpec := { name := "clientsAround", fn := fun _ => fun
  | [d1, d2, d3] => { results := [.lit (.bool false)], args := [d1, d2, d3] }
  | _ => none }
def ClientsAroundWrongFalsely : Prop := clientsAroundRow.holds Try.pinned (OpenSpec.ofChange clientsAroundWrong)

/-- 'countinghouselaw27.ClientsPlay': WHATEVER THE INPUT: true; the input reads as it did. -/
def clientsPlaySpec : ChangeSpec := { name := "clientsPlay", fn := fun _ => fun
  | [d1, d2, d3] => { results := [.lit (.bool true)], args := [d1, d2, d3] }
  | _ => none }
def clientsPlayRow : OpenClaim := { program := "ytiimdnachgkomaa", sum := "498075c710e0bce6ed458eb96fa0bdf54490f48be1369be053dee6891eca55c3", func := "countinghouse/countinghouselaw27.ClientsPlay", spec := "clientsPlay", unfollowed := true, recurses := true, apart := false }
def ClientsPlaySaid : Prop := clientsPlayRow.holds Try.pinned (OpenSpec.ofChange clientsPlaySpec)

/-- ITS FALSE NEIGHBOUR: 'it returns false'. Refute it at one input. -/
def clientsPlayWrong : ChangeSpec := { name := "clientsPlay", fn := fun _ => fun
  | [d1, d2, d3] => { results := [.lit (.bool false)], args := [d1, d2, d3] }
  | _ => none }
def ClientsPlayWrongFalsely : Prop := clientsPlayRow.holds Try.pinned (OpenSpec.ofChange clientsPlayWrong)

/-- 'countinghouselaw25.SessionsPlay': WHATEVER THE INPUT: true; the input reads as it did. -/
def sessionsPlaySpec : ChangeSpec := { name := "sessionsPlay", fn := fun _ => fun
  | [d] => { results := [.lit (.bool true)], args := [d] }
  | _ => none }
def sessionsPlayRow : OpenClaim := { program := "ytiimdnachgkomaa", sum := "498075c710e0bce6ed458eb96fa0bdf54490f48be1369be053dee6891eca55c3", func := "countinghouse/countinghouselaw25.SessionsPlay", spec := "sessionsPlay", unfollowed := true, recurses := true, apart := false }
def SessionsPlaySaid : Prop := sessionsPlayRow.holds Try.pinned (OpenSpec.ofChange sessionsPlaySpec)

/-- ITS FALSE NEIGHBOUR: 'it returns false'. Refute it at one input. -/
def sessionsPlayWrong : ChangeSpec := { name := "sessionsPlay", fn := fun _ => fun
  | [d] => { results := [.lit (.bool false)], args := [d] }
  | _ => none }
def SessionsPlayWrongFalsely : Prop := sessionsPlayRow.holds Try.pinned (OpenSpec.ofChange sessionsPlayWrong)

/-- 'countinghouselaw23.LettersBack': WHATEVER THE INPUT: true; the input reads as it did. -/
def lettersBackSpec : ChangeSpec := { name := "lettersBack", fn := fun _ => fun
  | [d1, d2, d3] => { results := [.lit (.bool true)], args := [d1, d2, d3] }
  | _ => none }
def lettersBackRow : OpenClaim := { program := "ytiimdnachgkomaa", sum := "498075c710e0bce6ed458eb96fa0bdf54490f48be1369be053dee6891eca55c3", func := "countinghouse/countinghouselaw23.LettersBack", spec := "lettersBack", unfollowed := true, recurses := true, apart := false }
def LettersBackSaid : Prop := lettersBackRow.holds Try.pinned (OpenSpec.ofChange lettersBackSpec)

/-- ITS FALSE NEIGHBOUR: 'it returns false'. Refute it at one input. -/
def lettersBackWrong : ChangeSpec := { name := "lettersBack", fn := fun _ => fun
  | [d1, d2, d3] => { results := [.lit (.bool false)], args := [d1, d2, d3] }
  | _ => none }
def LettersBackWrongFalsely : Prop := lettersBackRow.holds Try.pinned (OpenSpec.ofChange lettersBackWrong)

/-- 'countinghouselaw25.SessionsVoid': WHATEVER THE INPUT: true; the input reads as it did. -/
def sessionsVoidSpec : ChangeSpec := { name := "sessionsVoid", fn := fun _ => fun
  | [d] => { results := [.lit (.bool true)], args := [d] }
  | _ => none }
def sessionsVoidRow : OpenClaim := { program := "ytiimdnachgkomaa", sum := "498075c710e0bce6ed458eb96fa0bdf54490f48be1369be053dee6891eca55c3", func := "countinghouse/countinghouselaw25.SessionsVoid", spec := "sessionsVoid", unfollowed := true, recurses := true, apart := false }
def SessionsVoidSaid : Prop := sessionsVoidRow.holds Try.pinned (OpenSpec.ofChange sessionsVoidSpec)

/-- ITS FALSE NEIGHBOUR: 'it returns false'. Refute it at one input. -/
def sessionsVoidWrong : ChangeSpec := { name := "sessionsVoid", fn := fun _ => fun
  | [d] => { results := [.lit (.bool false)], args := [d] }
  | _ => none }
def SessionsVoidWrongFalsely : Prop := sessionsVoidRow.holds Try.pinned (OpenSpec.ofChange sessionsVoidWrong)

/-- 'countinghouselaw23.LettersOne': WHATEVER THE INPUT: true; the input reads as it did. -/
def lettersOneSpec : ChangeSpec := { name := "lettersOne", fn := fun _ => fun
  | [d] => { results := [.lit (.bool true)], args := [d] }
  | _ => none }
def lettersOneRow : OpenClaim := { program := "ytiimdnachgkomaa", sum := "498075c710e0bce6ed458eb96fa0bdf54490f48be1369be053dee6891eca55c3", func := "countinghouse/countinghouselaw23.LettersOne", spec := "lettersOne", unfollowed := true, recurses := true, apart := false }
def LettersOneSaid : Prop := lettersOneRow.holds Try.pinned (OpenSpec.ofChange lettersOneSpec)

/-- ITS FALSE NEIGHBOUR: 'it returns false'. Refute it at one input. -/
def lettersOneWrong : ChangeSpec := { name := "lettersOne", fn := fun _ => fun
  | [d] => { results := [.lit (.bool false)], args := [d] }
  | _ => none }
def LettersOneWrongFalsely : Prop := lettersOneRow.holds Try.pinned (OpenSpec.ofChange lettersOneWrong)

/-- 'countinghouselaw16.PacksNums': WHATEVER THE INPUT: true; the input reads as it did. -/
def packsNumsSpec : ChangeSpec := { name := "packsNums", fn := fun _ => fun
  | [d1, d2, d3] => { results := [.lit (.bool true)], args := [d1, d2, d3] }
  | _ => none }
def packsNumsRow : OpenClaim := { program := "ytiimdnachgkomaa", sum := "498075c710e0bce6ed458eb96fa0bdf54490f48be1369be053dee6891eca55c3", func := "countinghouse/countinghouselaw16.PacksNums", spec := "packsNums", unfollowed := true, recurses := true, apart := false }
def PacksNumsSaid : Prop := packsNumsRow.holds Try.pinned (OpenSpec.ofChange packsNumsSpec)

/-- ITS FALSE NEIGHBOUR: 'it returns false'. Refute it at one input. -/
def packsNumsWrong : ChangeSpec := { name := "packsNums", fn := fun _ => fun
  | [d1, d2, d3] => { results := [.lit (.bool false)], args := [d1, d2, d3] }
  | _ => none }
def PacksNumsWrongFalsely : Prop := packsNumsRow.holds Try.pinned (OpenSpec.ofChange packsNumsWrong)

/-- 'countinghouselaw16.PacksPut': WHATEVER THE INPUT: true; the input reads as it did. -/
def packsPutSpec : ChangeSpec := { name := "packsPut", fn := fun _ => fun
  | [d1, d2] => { results := [.lit (.bool true)], args := [d1, d2] }
  | _ => none }
def packsPutRow : OpenClaim := { program := "ytiimdnachgkomaa", sum := "498075c710e0bce6ed458eb96fa0bdf54490f48be1369be053dee6891eca55c3", func := "countinghouse/countinghouselaw16.PacksPut", spec := "packsPut", unfollowed := true, recurses := true, apart := false }
def PacksPutSaid : Prop := packsPutRow.holds Try.pinned (OpenSpec.ofChange packsPutSpec)

/-- ITS FALSE NEIGHBOUR: 'it returns false'. Refute it at one input. -/
def packsPutWrong : ChangeSpec := { name := "packsPut", fn := fun _ => fun
  | [d1, d2] => { results := [.lit (.bool false)], args := [d1, d2] }
  | _ => none }
def PacksPutWrongFalsely : Prop := packsPutRow.holds Try.pinned (OpenSpec.ofChange packsPutWrong)

/-- 'countinghouselaw16.PacksBack': WHATEVER THE INPUT: true; the input reads as it did. -/
def packsBackSpec : ChangeSpec := { name := "packsBack", fn := fun _ => fun
  | [d1, d2, d3] => { results := [.lit (.bool true)], args := [d1, d2, d3] }
  | _ => none }
def packsBackRow : OpenClaim := { program := "ytiimdnachgkomaa", sum := "498075c710e0bce6ed458eb96fa0bdf54490f48be1369be053dee6891eca55c3", func := "countinghouse/countinghouselaw16.PacksBack", spec := "packsBack", unfollowed := true, recurses := true, apart := false }
def PacksBackSaid : Prop := packsBackRow.holds Try.pinned (OpenSpec.ofChange packsBackSpec)

/-- ITS FALSE NEIGHBOUR: 'it returns false'. Refute it at one input. -/
def packsBackWrong : ChangeSpec := { name := "packsBack", fn := fun _ => fun
  | [d1, d2, d3] => { results := [.lit (.bool false)], args := [d1, d2, d3] }
  | _ => none }
def PacksBackWrongFalsely : Prop := packsBackRow.holds Try.pinned (OpenSpec.ofChange packsBackWrong)

/-- 'countinghouselaw16.PacksState': WHATEVER THE INPUT: true; the input reads as it did. -/
def packsStateSpec : ChangeSpec := { name := "packsState", fn := fun _ => fun
  | [d] => { results := [.lit (.bool true)], args := [d] }
  | _ => none }
def packsStateRow : OpenClaim := { program := "ytiimdnachgkomaa", sum := "498075c710e0bce6ed458eb96fa0bdf54490f48be1369be053dee6891eca55c3", func := "countinghouse/countinghouselaw16.PacksState", spec := "packsState", unfollowed := true, recurses := true, apart := false }
def PacksStateSaid : Prop := packsStateRow.holds Try.pinned (OpenSpec.ofChange packsStateSpec)

/-- ITS FALSE NEIGHBOUR: 'it returns false'. Refute it at one input. -/
def packsStateWrong : ChangeSpec := { name := "packsState", fn := fun _ => fun
  | [d] => { results := [.lit (.bool false)], args := [d] }
  | _ => none }
def PacksStateWrongFalsely : Prop := packsStateRow.holds Try.pinned (OpenSpec.ofChange packsStateWrong)

/-- 'countinghouselaw16.PacksOne': WHATEVER THE INPUT: true; the input reads as it did. -/
def packsOneSpec : ChangeSpec := { name := "packsOne", fn := fun _ => fun
  | [d] => { results := [.lit (.bool true)], args := [d] }
  | _ => none }
def packsOneRow : OpenClaim := { program := "ytiimdnachgkomaa", sum := "498075c710e0bce6ed458eb96fa0bdf54490f48be1369be053dee6891eca55c3", func := "countinghouse/countinghouselaw16.PacksOne", spec := "packsOne", unfollowed := true, recurses := true, apart := false }
def PacksOneSaid : Prop := packsOneRow.holds Try.pinned (OpenSpec.ofChange packsOneSpec)

/-- ITS FALSE NEIGHBOUR: 'it returns false'. Refute it at one input. -/
def packsOneWrong : ChangeSpec := { name := "packsOne", fn := fun _ => fun
  | [d] => { results := [.lit (.bool false)], args := [d] }
  | _ => none }
def PacksOneWrongFalsely : Prop := packsOneRow.holds Try.pinned (OpenSpec.ofChange packsOneWrong)

/-- 'countinghouselaw25.SessionsOf': WHATEVER THE INPUT: true; the input reads as it did. -/
def sessionsOfSpec : ChangeSpec := { name := "sessionsOf", fn := fun _ => fun
  | [d] => { results := [.lit (.bool true)], args := [d] }
  | _ => none }
def sessionsOfRow : OpenClaim := { program := "ytiimdnachgkomaa", sum := "498075c710e0bce6ed458eb96fa0bdf54490f48be1369be053dee6891eca55c3", func := "countinghouse/countinghouselaw25.SessionsOf", spec := "sessionsOf", unfollowed := true, recurses := true, apart := false }
def SessionsOfSaid : Prop := sessionsOfRow.holds Try.pinned (OpenSpec.ofChange sessionsOfSpec)

/-- ITS FALSE NEIGHBOUR: 'it returns false'. Refute it at one input. -/
def sessionsOfWrong : ChangeSpec := { name := "sessionsOf", fn := fun _ => fun
  | [d] => { results := [.lit (.bool false)], args := [d] }
  | _ => none }
def SessionsOfWrongFalsely : Prop := sessionsOfRow.holds Try.pinned (OpenSpec.ofChange sessionsOfWrong)

/-- 'countinghouselaw25.SessionsRise': WHATEVER THE INPUT: true; the input reads as it did. -/
def sessionsRiseSpec : ChangeSpec := { name := "sessionsRise", fn := fun _ => fun
  | [d] => { results := [.lit (.bool true)], args := [d] }
  | _ => none }
def sessionsRiseRow : OpenClaim := { program := "ytiimdnachgkomaa", sum := "498075c710e0bce6ed458eb96fa0bdf54490f48be1369be053dee6891eca55c3", func := "countinghouse/countinghouselaw25.SessionsRise", spec := "sessionsRise", unfollowed := true, recurses := true, apart := false }
def SessionsRiseSaid : Prop := sessionsRiseRow.holds Try.pinned (OpenSpec.ofChange sessionsRiseSpec)

/-- ITS FALSE NEIGHBOUR: 'it returns false'. Refute it at one input. -/
def sessionsRiseWrong : ChangeSpec := { name := "sessionsRise", fn := fun _ => fun
  | [d] => { results := [.lit (.bool false)], args := [d] }
  | _ => none }
def SessionsRiseWrongFalsely : Prop := sessionsRiseRow.holds Try.pinned (OpenSpec.ofChange sessionsRiseWrong)

/- THE SECOND FORM. 'bulk': how many values and letters a reading holds, each counted each time it is reached (what is shared counts as often as it is met; a slice's spare places count too). A statement '..UptoSaid' is the law's where the arguments, and the package variables that the reading takes, are together of bulk at most 1048576: NARROWER than '..Said'. Prove '..Said' where nothing that the law and all that it calls make is longer than what came in: it says more and counts as full. Else prove '..UptoSaid'. A law counts once. -/
mutual
def uptoBulk {H : Type} : DataW H → Nat
  | .lit (.string bytes) => bytes.length + 1
  | .lit _ => 1
  | .nil => 1
  | .ptr d => uptoBulk d + 1
  | .slice elems spare => uptoBulkAll elems + uptoBulkAll spare + 1
  | .agg parts => uptoBulkAll parts + 1
  | .iface _ d => uptoBulk d + 1
  | .map entries => uptoBulkEntries entries + 1
  | .held _ => 1
def uptoBulkAll {H : Type} : List (DataW H) → Nat
  | [] => 0
  | d :: r => uptoBulk d + uptoBulkAll r
def uptoBulkEntries {H : Type} : List (Lit × DataW H) → Nat
  | [] => 0
  | x :: r => uptoBulkEntry x + uptoBulkEntries r
def uptoBulkEntry {H : Type} : Lit × DataW H → Nat
  | (.string bytes, d) => bytes.length + uptoBulk d + 1
  | (_, d) => uptoBulk d + 1
 end
def uptoSmall : (H : Type) → List (DataW H) → Bool := fun _ ds => decide (uptoBulkAll ds ≤ 1048576)
def OpenSpec.upto (s : _root_.Go.ChangeSpec) : _root_.Go.OpenSpec := { _root_.Go.OpenSpec.ofChange s with cond := some uptoSmall }

/-- 'countinghouselaw27.ClientsVoid', WHERE WHAT IT READS IS OF BULK AT MOST 1048576: true; the input reads as it did. -/
def clientsVoidUptoRow : OpenClaim := { program := "ytiimdnachgkomaa", sum := "498075c710e0bce6ed458eb96fa0bdf54490f48be1369be053dee6891eca55c3", func := "countinghouse/countinghouselaw27.ClientsVoid", spec := "clientsVoid", unfollowed := true, recurses := true, apart := false, narrowed := true }
def ClientsVoidUptoSaid : Prop := clientsVoidUptoRow.holds Try.pinned (OpenSpec.upto clientsVoidSpec)

/-- 'countinghouselaw27.ClientsAround', WHERE WHAT IT READS IS OF BULK AT MOST 1048576: true; the input reads as it did. -/
def clientsAroundUptoRow : OpenClaim := { program := "ytiimdnachgkomaa", sum := "498075c710e0bce6ed458eb96fa0bdf54490f48be1369be053dee6891eca55c3", func := "countinghouse/countinghouselaw27.ClientsAround", spec := "clientsAround", unfollowed := true, recurses := true, apart := false, narrowed := true }
def ClientsAroundUptoSaid : Prop := clientsAroundUptoRow.holds Try.pinned (OpenSpec.upto clientsAroundSpec)

/-- 'countinghouselaw27.ClientsPlay', WHERE WHAT IT READS IS OF BULK AT MOST 1048576: true; the input reads as it did. -/
def clientsPlayUptoRow : OpenClaim := { program := "ytiimdnachgkomaa", sum := "498075c710e0bce6ed458eb96fa0bdf54490f48be1369be053dee6891eca55c3", func := "countinghouse/countinghouselaw27.ClientsPlay", spec := "clientsPlay", unfollowed := true, recurses := true, apart := false, narrowed := true }
def ClientsPlayUptoSaid : Prop := clientsPlayUptoRow.holds Try.pinned (OpenSpec.upto clientsPlaySpec)

/-- 'countinghouselaw25.SessionsPlay', WHERE WHAT IT READS IS OF BULK AT MOST 1048576: true; the input reads as it did. -/
def sessionsPlayUptoRow : OpenClaim := { program := "ytiimdnachgkomaa", sum := "498075c710e0bce6ed458eb96fa0bdf54490f48be1369be053dee6891eca55c3", func := "countinghouse/countinghouselaw25.SessionsPlay", spec := "sessionsPlay", unfollowed := true, recurses := true, apart := false, narrowed := true }
def SessionsPlayUptoSaid : Prop := sessionsPlayUptoRow.holds Try.pinned (OpenSpec.upto sessionsPlaySpec)

/-- 'countinghouselaw23.LettersBack', WHERE WHAT IT READS IS OF BULK AT MOST 1048576: true; the input reads as it did. -/
def lettersBackUptoRow : OpenClaim := { program := "ytiimdnachgkomaa", sum := "498075c710e0bce6ed458eb96fa0bdf54490f48be1369be053dee6891eca55c3", func := "countinghouse/countinghouselaw23.LettersBack", spec := "lettersBack", unfollowed := true, recurses := true, apart := false, narrowed := true }
def LettersBackUptoSaid : Prop := lettersBackUptoRow.holds Try.pinned (OpenSpec.upto lettersBackSpec)

/-- 'countinghouselaw25.SessionsVoid', WHERE WHAT IT READS IS OF BULK AT MOST 1048576: true; the input reads as it did. -/
def sessionsVoidUptoRow : OpenClaim := { program := "ytiimdnachgkomaa", sum := "498075c710e0bce6ed458eb96fa0bdf54490f48be1369be053dee6891eca55c3", func := "countinghouse/countinghouselaw25.SessionsVoid", spec := "sessionsVoid", unfollowed := true, recurses := true, apart := false, narrowed := true }
def SessionsVoidUptoSaid : Prop := sessionsVoidUptoRow.holds Try.pinned (OpenSpec.upto sessionsVoidSpec)

/-- 'countinghouselaw23.LettersOne', WHERE WHAT IT READS IS OF BULK AT MOST 1048576: true; the input reads as it did. -/
def lettersOneUptoRow : OpenClaim := { program := "ytiimdnachgkomaa", sum := "498075c710e0bce6ed458eb96fa0bdf54490f48be1369be053dee6891eca55c3", func := "countinghouse/countinghouselaw23.LettersOne", spec := "lettersOne", unfollowed := true, recurses := true, apart := false, narrowed := true }
def LettersOneUptoSaid : Prop := lettersOneUptoRow.holds Try.pinned (OpenSpec.upto lettersOneSpec)

/-- 'countinghouselaw16.PacksNums', WHERE WHAT IT READS IS OF BULK AT MOST 1048576: true; the input reads as it did. -/
def packsNumsUptoRow : OpenClaim := { program := "ytiimdnachgkomaa", sum := "498075c710e0bce6ed458eb96fa0bdf54490f48be1369be053dee6891eca55c3", func := "countinghouse/countinghouselaw16.PacksNums", spec := "packsNums", unfollowed := true, recurses := true, apart := false, narrowed := true }
def PacksNumsUptoSaid : Prop := packsNumsUptoRow.holds Try.pinned (OpenSpec.upto packsNumsSpec)

/-- 'countinghouselaw16.PacksPut', WHERE WHAT IT READS IS OF BULK AT MOST 1048576: true; the input reads as it did. -/
def packsPutUptoRow : OpenClaim := { program := "ytiimdnachgkomaa", sum := "498075c710e0bce6ed458eb96fa0bdf54490f48be1369be053dee6891eca55c3", func := "countinghouse/countinghouselaw16.PacksPut", spec := "packsPut", unfollowed := true, recurses := true, apart := false, narrowed := true }
def PacksPutUptoSaid : Prop := packsPutUptoRow.holds Try.pinned (OpenSpec.upto packsPutSpec)

/-- 'countinghouselaw16.PacksBack', WHERE WHAT IT READS IS OF BULK AT MOST 1048576: true; the input reads as it did. -/
def packsBackUptoRow : OpenClaim := { program := "ytiimdnachgkomaa", sum := "498075c710e0bce6ed458eb96fa0bdf54490f48be1369be053dee6891eca55c3", func := "countinghouse/countinghouselaw16.PacksBack", spec := "packsBack", unfollowed := true, recurses := true, apart := false, narrowed := true }
def PacksBackUptoSaid : Prop := packsBackUptoRow.holds Try.pinned (OpenSpec.upto packsBackSpec)

/-- 'countinghouselaw16.PacksState', WHERE WHAT IT READS IS OF BULK AT MOST 1048576: true; the input reads as it did. -/
def packsStateUptoRow : OpenClaim := { program := "ytiimdnachgkomaa", sum := "498075c710e0bce6ed458eb96fa0bdf54490f48be1369be053dee6891eca55c3", func := "countinghouse/countinghouselaw16.PacksState", spec := "packsState", unfollowed := true, recurses := true, apart := false, narrowed := true }
def PacksStateUptoSaid : Prop := packsStateUptoRow.holds Try.pinned (OpenSpec.upto packsStateSpec)

/-- 'countinghouselaw16.PacksOne', WHERE WHAT IT READS IS OF BULK AT MOST 1048576: true; the input reads as it did. -/
def packsOneUptoRow : OpenClaim := { program := "ytiimdnachgkomaa", sum := "498075c710e0bce6ed458eb96fa0bdf54490f48be1369be053dee6891eca55c3", func := "countinghouse/countinghouselaw16.PacksOne", spec := "packsOne", unfollowed := true, recurses := true, apart := false, narrowed := true }
def PacksOneUptoSaid : Prop := packsOneUptoRow.holds Try.pinned (OpenSpec.upto packsOneSpec)

/-- 'countinghouselaw25.SessionsOf', WHERE WHAT IT READS IS OF BULK AT MOST 1048576: true; the input reads as it did. -/
def sessionsOfUptoRow : OpenClaim := { program := "ytiimdnachgkomaa", sum := "498075c710e0bce6ed458eb96fa0bdf54490f48be1369be053dee6891eca55c3", func := "countinghouse/countinghouselaw25.SessionsOf", spec := "sessionsOf", unfollowed := true, recurses := true, apart := false, narrowed := true }
def SessionsOfUptoSaid : Prop := sessionsOfUptoRow.holds Try.pinned (OpenSpec.upto sessionsOfSpec)

/-- 'countinghouselaw25.SessionsRise', WHERE WHAT IT READS IS OF BULK AT MOST 1048576: true; the input reads as it did. -/
def sessionsRiseUptoRow : OpenClaim := { program := "ytiimdnachgkomaa", sum := "498075c710e0bce6ed458eb96fa0bdf54490f48be1369be053dee6891eca55c3", func := "countinghouse/countinghouselaw25.SessionsRise", spec := "sessionsRise", unfollowed := true, recurses := true, apart := false, narrowed := true }
def SessionsRiseUptoSaid : Prop := sessionsRiseUptoRow.holds Try.pinned (OpenSpec.upto sessionsRiseSpec)

end Rows
end Go.Proofs.Ytiimdnachgkomaa
