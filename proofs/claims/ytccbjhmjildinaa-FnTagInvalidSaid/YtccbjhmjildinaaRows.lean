/-
  No cell of these rows narrows 'for every input' (looked for: loops, veiled, ifaces, maps, wideKeys, modest, calm, conditions, laid).
  DERIVED. THE GIVEN ROWS OF THIS SEAT. 18 by the template 'for every input the law returns true; each argument reads behind the call as it read before'; 0 by the template 'total and deterministic' (their statements: YtccbjhmjildinaaTotals.lean).
  GIVEN WITH THE SEED: the statements are not yours to turn. If you find one false, say at which input.
  Laid BY PROGRAM, IN A SANDBOX (cutbox-rows.mjs): the forced cells as the released guide's own fill.sh prints them over the translation fea1c80af9e2c210… (all of the seat's roots in one cut). By AI agents, Wed Nov 11 2026. No macro, syntax, notation, axiom, sorry.
-/
import Derived.Test.YtccbjhmjildinaaChecked
import GoSem.Claim
import GoSem.ClaimJoined
import GoSem.ClaimMapViews
import Derived.JoinedTies
import Derived.KernelRfl
namespace Go.Proofs.Ytccbjhmjildinaa
/- THE CELL 'sum', in the pinned program and in every row, IS THE sha256 OF THE DUMP (.gsa) THAT YtccbjhmjildinaaProg.lean LOADS. Nothing in Lean hashes anything: it is a label: what it is worth is what the hold of that sum in a sandbox is worth. -/
noncomputable def Try.pinned : Pinned := { name := "ytccbjhmjildinaa", sum := "fea1c80af9e2c21089cba6e63425842085161aba8351dcbb7c9f545e87c6d0a5", checked := Try.checked }
namespace Rows
def none {H : Type} : Left H := { results := [], args := [] }

/-- 'laws.FnExactInputValid': WHATEVER THE INPUT: true; the input reads as it did. -/
def fnExactInputValidSpec : ChangeSpec := { name := "fnExactInputValid", fn := fun _ => fun
  | [d] => { results := [.lit (.bool true)], args := [d] }
  | _ => none }
def fnExactInputValidRow : OpenClaim := { program := "ytccbjhmjildinaa", sum := "fea1c80af9e2c21089cba6e63425842085161aba8351dcbb7c9f545e87c6d0a5", func := "loop.example/replayverifier/laws.FnExactInputValid", spec := "fnExactInputValid", apart := false }
def FnExactInputValidSaid : Prop := fnExactInputValidRow.holds Try.pinned (OpenSpec.ofChange fnExactInputValidSpec)

/-- ITS FALSE NEIGHBOUR: 'it returns false'. Refute it at one input. -/
def fnExactInputValidWrong : ChangeSpec := { name := "fnExactInputValid", fn := fun _ => fun
  | [d] => { results := [.lit (.bool false)], args := [d] }
  | _ => none }
def FnExactInputValidWrongFalsely : Prop := fnExactInputValidRow.holds Try.pinned (OpenSpec.ofChange fnExactInputValidWrong)

/-- 'laws.FnExactInputOf': WHATEVER THE INPUT: true; the input reads as it did. -/
def fnExactInputOfSpec : ChangeSpec := { name := "fnExactInputOf", fn := fun _ => fun
  | [d] => { results := [.lit (.bool true)], args := [d] }
  | _ => none }
def fnExactInputOfRow : OpenClaim := { program := "ytccbjhmjildinaa", sum := "fea1c80af9e2c21089cba6e63425842085161aba8351dcbb7c9f545e87c6d0a5", func := "loop.example/replayverifier/laws.FnExactInputOf", spec := "fnExactInputOf", apart := false }
def FnExactInputOfSaid : Prop := fnExactInputOfRow.holds Try.pinned (OpenSpec.ofChange fnExactInputOfSpec)

/-- ITS FALSE NEIGHBOUR: 'it returns false'. Refute it at one input. -/
def fnExactInputOfWrong : ChangeSpec := { name := "fnExactInputOf", fn := fun _ => fun
  | [d] => { results := [.lit (.bool false)], args := [d] }
  | _ => none }
def FnExactInputOfWrongFalsely : Prop := fnExactInputOfRow.holds Try.pinned (OpenSpec.ofChange fnExactInputOfWrong)

/-- 'laws.FnCodes': WHATEVER THE INPUT: true; the input reads as it did. -/
def fnCodesSpec : ChangeSpec := { name := "fnCodes", fn := fun _ => fun
  | [d1, d2] => { results := [.lit (.bool true)], args := [d1, d2] }
  | _ => none }
def fnCodesRow : OpenClaim := { program := "ytccbjhmjildinaa", sum := "fea1c80af9e2c21089cba6e63425842085161aba8351dcbb7c9f545e87c6d0a5", func := "loop.example/replayverifier/laws.FnCodes", spec := "fnCodes", apart := false }
def FnCodesSaid : Prop := fnCodesRow.holds Try.pinned (OpenSpec.ofChange fnCodesSpec)

/-- ITS FALSE NEIGHBOUR: 'it returns false'. Refute it at one input. -/
def fnCodesWrong : ChangeSpec := { name := "fnCodes", fn := fun _ => fun
  | [d1, d2] => { results := [.lit (.bool false)], args := [d1, d2] }
  | _ => none }
def FnCodesWrongFalsely : Prop := fnCodesRow.holds Try.pinned (OpenSpec.ofChange fnCodesWrong)

/-- 'laws.FnExactInputCode': WHATEVER THE INPUT: true; the input reads as it did. -/
def fnExactInputCodeSpec : ChangeSpec := { name := "fnExactInputCode", fn := fun _ => fun
  | [d] => { results := [.lit (.bool true)], args := [d] }
  | _ => none }
def fnExactInputCodeRow : OpenClaim := { program := "ytccbjhmjildinaa", sum := "fea1c80af9e2c21089cba6e63425842085161aba8351dcbb7c9f545e87c6d0a5", func := "loop.example/replayverifier/laws.FnExactInputCode", spec := "fnExactInputCode", apart := false }
def FnExactInputCodeSaid : Prop := fnExactInputCodeRow.holds Try.pinned (OpenSpec.ofChange fnExactInputCodeSpec)

/-- ITS FALSE NEIGHBOUR: 'it returns false'. Refute it at one input. -/
def fnExactInputCodeWrong : ChangeSpec := { name := "fnExactInputCode", fn := fun _ => fun
  | [d] => { results := [.lit (.bool false)], args := [d] }
  | _ => none }
def FnExactInputCodeWrongFalsely : Prop := fnExactInputCodeRow.holds Try.pinned (OpenSpec.ofChange fnExactInputCodeWrong)

/-- 'laws.FnCodeBack': WHATEVER THE INPUT: true; the input reads as it did. -/
def fnCodeBackSpec : ChangeSpec := { name := "fnCodeBack", fn := fun _ => fun
  | [d] => { results := [.lit (.bool true)], args := [d] }
  | _ => none }
def fnCodeBackRow : OpenClaim := { program := "ytccbjhmjildinaa", sum := "fea1c80af9e2c21089cba6e63425842085161aba8351dcbb7c9f545e87c6d0a5", func := "loop.example/replayverifier/laws.FnCodeBack", spec := "fnCodeBack", apart := false }
def FnCodeBackSaid : Prop := fnCodeBackRow.holds Try.pinned (OpenSpec.ofChange fnCodeBackSpec)

/-- ITS FALSE NEIGHBOUR: 'it returns false'. Refute it at one input. -/
def fnCodeBackWrong : ChangeSpec := { name := "fnCodeBack", fn := fun _ => fun
  | [d] => { results := [.lit (.bool false)], args := [d] }
  | _ => none }
def FnCodeBackWrongFalsely : Prop := fnCodeBackRow.holds Try.pinned (OpenSpec.ofChange fnCodeBackWrong)

/-- 'laws.FnPause': WHATEVER THE INPUT: true; the input reads as it did. -/
def fnPauseSpec : ChangeSpec := { name := "fnPause", fn := fun _ => fun
  | [d] => { results := [.lit (.bool true)], args := [d] }
  | _ => none }
def fnPauseRow : OpenClaim := { program := "ytccbjhmjildinaa", sum := "fea1c80af9e2c21089cba6e63425842085161aba8351dcbb7c9f545e87c6d0a5", func := "loop.example/replayverifier/laws.FnPause", spec := "fnPause", apart := false }
def FnPauseSaid : Prop := fnPauseRow.holds Try.pinned (OpenSpec.ofChange fnPauseSpec)

/-- ITS FALSE NEIGHBOUR: 'it returns false'. Refute it at one input. -/
def fnPauseWrong : ChangeSpec := { name := "fnPause", fn := fun _ => fun
  | [d] => { results := [.lit (.bool false)], args := [d] }
  | _ => none }
def FnPauseWrongFalsely : Prop := fnPauseRow.holds Try.pinned (OpenSpec.ofChange fnPauseWrong)

/-- 'laws.FnExactHashInts': WHATEVER THE INPUT: true; the input reads as it did. -/
def fnExactHashIntsSpec : ChangeSpec := { name := "fnExactHashInts", fn := fun _ => fun
  | [d] => { results := [.lit (.bool true)], args := [d] }
  | _ => none }
def fnExactHashIntsRow : OpenClaim := { program := "ytccbjhmjildinaa", sum := "fea1c80af9e2c21089cba6e63425842085161aba8351dcbb7c9f545e87c6d0a5", func := "loop.example/replayverifier/laws.FnExactHashInts", spec := "fnExactHashInts", unfollowed := true, recurses := true, apart := false }
def FnExactHashIntsSaid : Prop := fnExactHashIntsRow.holds Try.pinned (OpenSpec.ofChange fnExactHashIntsSpec)

/-- ITS FALSE NEIGHBOUR: 'it returns false'. Refute it at one input. -/
def fnExactHashIntsWrong : ChangeSpec := { name := "fnExactHashInts", fn := fun _ => fun
  | [d] => { results := [.lit (.bool false)], args := [d] }
  | _ => none }
def FnExactHashIntsWrongFalsely : Prop := fnExactHashIntsRow.holds Try.pinned (OpenSpec.ofChange fnExactHashIntsWrong)

/-- 'laws.FnExactTagOf': WHATEVER THE INPUT: true; the input reads as it did. -/
def fnExactTagOfSpec : ChangeSpec := { name := "fnExactTagOf", fn := fun _ => fun
  | [d1, d2] => { results := [.lit (.bool true)], args := [d1, d2] }
  | _ => none }
def fnExactTagOfRow : OpenClaim := { program := "ytccbjhmjildinaa", sum := "fea1c80af9e2c21089cba6e63425842085161aba8351dcbb7c9f545e87c6d0a5", func := "loop.example/replayverifier/laws.FnExactTagOf", spec := "fnExactTagOf", unfollowed := true, recurses := true, apart := false }
def FnExactTagOfSaid : Prop := fnExactTagOfRow.holds Try.pinned (OpenSpec.ofChange fnExactTagOfSpec)

/-- ITS FALSE NEIGHBOUR: 'it returns false'. Refute it at one input. -/
def fnExactTagOfWrong : ChangeSpec := { name := "fnExactTagOf", fn := fun _ => fun
  | [d1, d2] => { results := [.lit (.bool false)], args := [d1, d2] }
  | _ => none }
def FnExactTagOfWrongFalsely : Prop := fnExactTagOfRow.holds Try.pinned (OpenSpec.ofChange fnExactTagOfWrong)

/-- 'laws.FnExactTagCheck': WHATEVER THE INPUT: true; the input reads as it did. -/
def fnExactTagCheckSpec : ChangeSpec := { name := "fnExactTagCheck", fn := fun _ => fun
  | [d1, d2, d3] => { results := [.lit (.bool true)], args := [d1, d2, d3] }
  | _ => none }
def fnExactTagCheckRow : OpenClaim := { program := "ytccbjhmjildinaa", sum := "fea1c80af9e2c21089cba6e63425842085161aba8351dcbb7c9f545e87c6d0a5", func := "loop.example/replayverifier/laws.FnExactTagCheck", spec := "fnExactTagCheck", unfollowed := true, recurses := true, apart := false }
def FnExactTagCheckSaid : Prop := fnExactTagCheckRow.holds Try.pinned (OpenSpec.ofChange fnExactTagCheckSpec)

/-- ITS FALSE NEIGHBOUR: 'it returns false'. Refute it at one input. -/
def fnExactTagCheckWrong : ChangeSpec := { name := "fnExactTagCheck", fn := fun _ => fun
  | [d1, d2, d3] => { results := [.lit (.bool false)], args := [d1, d2, d3] }
  | _ => none }
def FnExactTagCheckWrongFalsely : Prop := fnExactTagCheckRow.holds Try.pinned (OpenSpec.ofChange fnExactTagCheckWrong)

/-- 'laws.FnCode': WHATEVER THE INPUT: true; the input reads as it did. -/
def fnCodeSpec : ChangeSpec := { name := "fnCode", fn := fun _ => fun
  | [d] => { results := [.lit (.bool true)], args := [d] }
  | _ => none }
def fnCodeRow : OpenClaim := { program := "ytccbjhmjildinaa", sum := "fea1c80af9e2c21089cba6e63425842085161aba8351dcbb7c9f545e87c6d0a5", func := "loop.example/replayverifier/laws.FnCode", spec := "fnCode", apart := false }
def FnCodeSaid : Prop := fnCodeRow.holds Try.pinned (OpenSpec.ofChange fnCodeSpec)

/-- ITS FALSE NEIGHBOUR: 'it returns false'. Refute it at one input. -/
def fnCodeWrong : ChangeSpec := { name := "fnCode", fn := fun _ => fun
  | [d] => { results := [.lit (.bool false)], args := [d] }
  | _ => none }
def FnCodeWrongFalsely : Prop := fnCodeRow.holds Try.pinned (OpenSpec.ofChange fnCodeWrong)

/-- 'laws.FnHashChange': WHATEVER THE INPUT: true; the input reads as it did. -/
def fnHashChangeSpec : ChangeSpec := { name := "fnHashChange", fn := fun _ => fun
  | [d1, d2] => { results := [.lit (.bool true)], args := [d1, d2] }
  | _ => none }
def fnHashChangeRow : OpenClaim := { program := "ytccbjhmjildinaa", sum := "fea1c80af9e2c21089cba6e63425842085161aba8351dcbb7c9f545e87c6d0a5", func := "loop.example/replayverifier/laws.FnHashChange", spec := "fnHashChange", unfollowed := true, recurses := true, apart := false }
def FnHashChangeSaid : Prop := fnHashChangeRow.holds Try.pinned (OpenSpec.ofChange fnHashChangeSpec)

/-- ITS FALSE NEIGHBOUR: 'it returns false'. Refute it at one input. -/
def fnHashChangeWrong : ChangeSpec := { name := "fnHashChange", fn := fun _ => fun
  | [d1, d2] => { results := [.lit (.bool false)], args := [d1, d2] }
  | _ => none }
def FnHashChangeWrongFalsely : Prop := fnHashChangeRow.holds Try.pinned (OpenSpec.ofChange fnHashChangeWrong)

/-- 'laws.FnHashEmpty': WHATEVER THE INPUT: true; the input reads as it did. -/
def fnHashEmptySpec : ChangeSpec := { name := "fnHashEmpty", fn := fun _ => fun
  | [d] => { results := [.lit (.bool true)], args := [d] }
  | _ => none }
def fnHashEmptyRow : OpenClaim := { program := "ytccbjhmjildinaa", sum := "fea1c80af9e2c21089cba6e63425842085161aba8351dcbb7c9f545e87c6d0a5", func := "loop.example/replayverifier/laws.FnHashEmpty", spec := "fnHashEmpty", unfollowed := true, recurses := true, apart := false }
def FnHashEmptySaid : Prop := fnHashEmptyRow.holds Try.pinned (OpenSpec.ofChange fnHashEmptySpec)

/-- ITS FALSE NEIGHBOUR: 'it returns false'. Refute it at one input. -/
def fnHashEmptyWrong : ChangeSpec := { name := "fnHashEmpty", fn := fun _ => fun
  | [d] => { results := [.lit (.bool false)], args := [d] }
  | _ => none }
def FnHashEmptyWrongFalsely : Prop := fnHashEmptyRow.holds Try.pinned (OpenSpec.ofChange fnHashEmptyWrong)

/-- 'laws.FnHashNext': WHATEVER THE INPUT: true; the input reads as it did. -/
def fnHashNextSpec : ChangeSpec := { name := "fnHashNext", fn := fun _ => fun
  | [d1, d2] => { results := [.lit (.bool true)], args := [d1, d2] }
  | _ => none }
def fnHashNextRow : OpenClaim := { program := "ytccbjhmjildinaa", sum := "fea1c80af9e2c21089cba6e63425842085161aba8351dcbb7c9f545e87c6d0a5", func := "loop.example/replayverifier/laws.FnHashNext", spec := "fnHashNext", unfollowed := true, recurses := true, apart := false }
def FnHashNextSaid : Prop := fnHashNextRow.holds Try.pinned (OpenSpec.ofChange fnHashNextSpec)

/-- ITS FALSE NEIGHBOUR: 'it returns false'. Refute it at one input. -/
def fnHashNextWrong : ChangeSpec := { name := "fnHashNext", fn := fun _ => fun
  | [d1, d2] => { results := [.lit (.bool false)], args := [d1, d2] }
  | _ => none }
def FnHashNextWrongFalsely : Prop := fnHashNextRow.holds Try.pinned (OpenSpec.ofChange fnHashNextWrong)

/-- 'laws.FnHashOrder': WHATEVER THE INPUT: true; the input reads as it did. -/
def fnHashOrderSpec : ChangeSpec := { name := "fnHashOrder", fn := fun _ => fun
  | [d1, d2] => { results := [.lit (.bool true)], args := [d1, d2] }
  | _ => none }
def fnHashOrderRow : OpenClaim := { program := "ytccbjhmjildinaa", sum := "fea1c80af9e2c21089cba6e63425842085161aba8351dcbb7c9f545e87c6d0a5", func := "loop.example/replayverifier/laws.FnHashOrder", spec := "fnHashOrder", unfollowed := true, recurses := true, apart := false }
def FnHashOrderSaid : Prop := fnHashOrderRow.holds Try.pinned (OpenSpec.ofChange fnHashOrderSpec)

/-- ITS FALSE NEIGHBOUR: 'it returns false'. Refute it at one input. -/
def fnHashOrderWrong : ChangeSpec := { name := "fnHashOrder", fn := fun _ => fun
  | [d1, d2] => { results := [.lit (.bool false)], args := [d1, d2] }
  | _ => none }
def FnHashOrderWrongFalsely : Prop := fnHashOrderRow.holds Try.pinned (OpenSpec.ofChange fnHashOrderWrong)

/-- 'laws.FnTagKey': WHATEVER THE INPUT: true; the input reads as it did. -/
def fnTagKeySpec : ChangeSpec := { name := "fnTagKey", fn := fun _ => fun
  | [d1, d2] => { results := [.lit (.bool true)], args := [d1, d2] }
  | _ => none }
def fnTagKeyRow : OpenClaim := { program := "ytccbjhmjildinaa", sum := "fea1c80af9e2c21089cba6e63425842085161aba8351dcbb7c9f545e87c6d0a5", func := "loop.example/replayverifier/laws.FnTagKey", spec := "fnTagKey", unfollowed := true, recurses := true, apart := false }
def FnTagKeySaid : Prop := fnTagKeyRow.holds Try.pinned (OpenSpec.ofChange fnTagKeySpec)

/-- ITS FALSE NEIGHBOUR: 'it returns false'. Refute it at one input. -/
def fnTagKeyWrong : ChangeSpec := { name := "fnTagKey", fn := fun _ => fun
  | [d1, d2] => { results := [.lit (.bool false)], args := [d1, d2] }
  | _ => none }
def FnTagKeyWrongFalsely : Prop := fnTagKeyRow.holds Try.pinned (OpenSpec.ofChange fnTagKeyWrong)

/-- 'laws.FnTag': WHATEVER THE INPUT: true; the input reads as it did. -/
def fnTagSpec : ChangeSpec := { name := "fnTag", fn := fun _ => fun
  | [d1, d2] => { results := [.lit (.bool true)], args := [d1, d2] }
  | _ => none }
def fnTagRow : OpenClaim := { program := "ytccbjhmjildinaa", sum := "fea1c80af9e2c21089cba6e63425842085161aba8351dcbb7c9f545e87c6d0a5", func := "loop.example/replayverifier/laws.FnTag", spec := "fnTag", unfollowed := true, recurses := true, apart := false }
def FnTagSaid : Prop := fnTagRow.holds Try.pinned (OpenSpec.ofChange fnTagSpec)

/-- ITS FALSE NEIGHBOUR: 'it returns false'. Refute it at one input. -/
def fnTagWrong : ChangeSpec := { name := "fnTag", fn := fun _ => fun
  | [d1, d2] => { results := [.lit (.bool false)], args := [d1, d2] }
  | _ => none }
def FnTagWrongFalsely : Prop := fnTagRow.holds Try.pinned (OpenSpec.ofChange fnTagWrong)

/-- 'laws.FnTagChange': WHATEVER THE INPUT: true; the input reads as it did. -/
def fnTagChangeSpec : ChangeSpec := { name := "fnTagChange", fn := fun _ => fun
  | [d1, d2] => { results := [.lit (.bool true)], args := [d1, d2] }
  | _ => none }
def fnTagChangeRow : OpenClaim := { program := "ytccbjhmjildinaa", sum := "fea1c80af9e2c21089cba6e63425842085161aba8351dcbb7c9f545e87c6d0a5", func := "loop.example/replayverifier/laws.FnTagChange", spec := "fnTagChange", unfollowed := true, recurses := true, apart := false }
def FnTagChangeSaid : Prop := fnTagChangeRow.holds Try.pinned (OpenSpec.ofChange fnTagChangeSpec)

/-- ITS FALSE NEIGHBOUR: 'it returns false'. Refute it at one input. -/
def fnTagChangeWrong : ChangeSpec := { name := "fnTagChange", fn := fun _ => fun
  | [d1, d2] => { results := [.lit (.bool false)], args := [d1, d2] }
  | _ => none }
def FnTagChangeWrongFalsely : Prop := fnTagChangeRow.holds Try.pinned (OpenSpec.ofChange fnTagChangeWrong)

/-- 'laws.FnTagInvalid': WHATEVER THE INPUT: true; the input reads as it did. -/
def fnTagInvalidSpec : ChangeSpec := { name := "fnTagInvalid", fn := fun _ => fun
  | [d] => { results := [.lit (.bool true)], args := [d] }
  | _ => none }
def fnTagInvalidRow : OpenClaim := { program := "ytccbjhmjildinaa", sum := "fea1c80af9e2c21089cba6e63425842085161aba8351dcbb7c9f545e87c6d0a5", func := "loop.example/replayverifier/laws.FnTagInvalid", spec := "fnTagInvalid", unfollowed := true, recurses := true, apart := false }
def FnTagInvalidSaid : Prop := fnTagInvalidRow.holds Try.pinned (OpenSpec.ofChange fnTagInvalidSpec)

/-- ITS FALSE NEIGHBOUR: 'it returns false'. Refute it at one input. -/
def fnTagInvalidWrong : ChangeSpec := { name := "fnTagInvalid", fn := fun _ => fun
  | [d] => { results := [.lit (.bool false)], args := [d] }
  | _ => none }
def FnTagInvalidWrongFalsely : Prop := fnTagInvalidRow.holds Try.pinned (OpenSpec.ofChange fnTagInvalidWrong)

/- THE SECOND FORM. 'bulk': how many values and letters a reading holds, each counted each time it is reached (what is shared counts as often as it is met; a slice's spare places count too). A statement '..UptoSaid' is the law's where the arguments, and the package variables that the reading takes, are together of bulk at most 1048576: NARROWER than '..Said'. Prove '..Said' where nothing that the law and all that it calls make is longer than what came in: it says more and counts as full. Else prove '..UptoSaid'. A law counts once. -/
mutual
def uptoBulk {H : Type} : DataW H → Nat
  | .lit (.string bytes) => bytes.length + 1
  | .lit _ => 1
  | .nil => 1
  | .ptr d => uptoBulk d + 1
  | .slice elems spare => uptoBulkAll elems + uptoBulkAll spare + 1
  | .agg parts => uptoBulkAll parts + 1
  | .iface _ d => uptoBulk d + 1
  | .map entries => uptoBulkEntries entries + 1
  | .held _ => 1
def uptoBulkAll {H : Type} : List (DataW H) → Nat
  | [] => 0
  | d :: r => uptoBulk d + uptoBulkAll r
def uptoBulkEntries {H : Type} : List (Lit × DataW H) → Nat
  | [] => 0
  | x :: r => uptoBulkEntry x + uptoBulkEntries r
def uptoBulkEntry {H : Type} : Lit × DataW H → Nat
  | (.string bytes, d) => bytes.length + uptoBulk d + 1
  | (_, d) => uptoBulk d + 1
 end
def uptoSmall : (H : Type) → List (DataW H) → Bool := fun _ ds => decide (uptoBulkAll ds ≤ 1048576)
def OpenSpec.upto (s : _root_.Go.ChangeSpec) : _root_.Go.OpenSpec := { _root_.Go.OpenSpec.ofChange s with cond := some uptoSmall }

/-- 'laws.FnExactInputValid', WHERE WHAT IT READS IS OF BULK AT MOST 1048576: true; the input reads as it did. -/
def fnExactInputValidUptoRow : OpenClaim := { program := "ytccbjhmjildinaa", sum := "fea1c80af9e2c21089cba6e63425842085161aba8351dcbb7c9f545e87c6d0a5", func := "loop.example/replayverifier/laws.FnExactInputValid", spec := "fnExactInputValid", apart := false, narrowed := true }
def FnExactInputValidUptoSaid : Prop := fnExactInputValidUptoRow.holds Try.pinned (OpenSpec.upto fnExactInputValidSpec)

/-- 'laws.FnExactInputOf', WHERE WHAT IT READS IS OF BULK AT MOST 1048576: true; the input reads as it did. -/
def fnExactInputOfUptoRow : OpenClaim := { program := "ytccbjhmjildinaa", sum := "fea1c80af9e2c21089cba6e63425842085161aba8351dcbb7c9f545e87c6d0a5", func := "loop.example/replayverifier/laws.FnExactInputOf", spec := "fnExactInputOf", apart := false, narrowed := true }
def FnExactInputOfUptoSaid : Prop := fnExactInputOfUptoRow.holds Try.pinned (OpenSpec.upto fnExactInputOfSpec)

/-- 'laws.FnCodes', WHERE WHAT IT READS IS OF BULK AT MOST 1048576: true; the input reads as it did. -/
def fnCodesUptoRow : OpenClaim := { program := "ytccbjhmjildinaa", sum := "fea1c80af9e2c21089cba6e63425842085161aba8351dcbb7c9f545e87c6d0a5", func := "loop.example/replayverifier/laws.FnCodes", spec := "fnCodes", apart := false, narrowed := true }
def FnCodesUptoSaid : Prop := fnCodesUptoRow.holds Try.pinned (OpenSpec.upto fnCodesSpec)

/-- 'laws.FnExactInputCode', WHERE WHAT IT READS IS OF BULK AT MOST 1048576: true; the input reads as it did. -/
def fnExactInputCodeUptoRow : OpenClaim := { program := "ytccbjhmjildinaa", sum := "fea1c80af9e2c21089cba6e63425842085161aba8351dcbb7c9f545e87c6d0a5", func := "loop.example/replayverifier/laws.FnExactInputCode", spec := "fnExactInputCode", apart := false, narrowed := true }
def FnExactInputCodeUptoSaid : Prop := fnExactInputCodeUptoRow.holds Try.pinned (OpenSpec.upto fnExactInputCodeSpec)

/-- 'laws.FnCodeBack', WHERE WHAT IT READS IS OF BULK AT MOST 1048576: true; the input reads as it did. -/
def fnCodeBackUptoRow : OpenClaim := { program := "ytccbjhmjildinaa", sum := "fea1c80af9e2c21089cba6e63425842085161aba8351dcbb7c9f545e87c6d0a5", func := "loop.example/replayverifier/laws.FnCodeBack", spec := "fnCodeBack", apart := false, narrowed := true }
def FnCodeBackUptoSaid : Prop := fnCodeBackUptoRow.holds Try.pinned (OpenSpec.upto fnCodeBackSpec)

/-- 'laws.FnPause', WHERE WHAT IT READS IS OF BULK AT MOST 1048576: true; the input reads as it did. -/
def fnPauseUptoRow : OpenClaim := { program := "ytccbjhmjildinaa", sum := "fea1c80af9e2c21089cba6e63425842085161aba8351dcbb7c9f545e87c6d0a5", func := "loop.example/replayverifier/laws.FnPause", spec := "fnPause", apart := false, narrowed := true }
def FnPauseUptoSaid : Prop := fnPauseUptoRow.holds Try.pinned (OpenSpec.upto fnPauseSpec)

/-- 'laws.FnExactHashInts', WHERE WHAT IT READS IS OF BULK AT MOST 1048576: true; the input reads as it did. -/
def fnExactHashIntsUptoRow : OpenClaim := { program := "ytccbjhmjildinaa", sum := "fea1c80af9e2c21089cba6e63425842085161aba8351dcbb7c9f545e87c6d0a5", func := "loop.example/replayverifier/laws.FnExactHashInts", spec := "fnExactHashInts", unfollowed := true, recurses := true, apart := false, narrowed := true }
def FnExactHashIntsUptoSaid : Prop := fnExactHashIntsUptoRow.holds Try.pinned (OpenSpec.upto fnExactHashIntsSpec)

/-- 'laws.FnExactTagOf', WHERE WHAT IT READS IS OF BULK AT MOST 1048576: true; the input reads as it did. -/
def fnExactTagOfUptoRow : OpenClaim := { program := "ytccbjhmjildinaa", sum := "fea1c80af9e2c21089cba6e63425842085161aba8351dcbb7c9f545e87c6d0a5", func := "loop.example/replayverifier/laws.FnExactTagOf", spec := "fnExactTagOf", unfollowed := true, recurses := true, apart := false, narrowed := true }
def FnExactTagOfUptoSaid : Prop := fnExactTagOfUptoRow.holds Try.pinned (OpenSpec.upto fnExactTagOfSpec)

/-- 'laws.FnExactTagCheck', WHERE WHAT IT READS IS OF BULK AT MOST 1048576: true; the input reads as it did. -/
def fnExactTagCheckUptoRow : OpenClaim := { program := "ytccbjhmjildinaa", sum := "fea1c80af9e2c21089cba6e63425842085161aba8351dcbb7c9f545e87c6d0a5", func := "loop.example/replayverifier/laws.FnExactTagCheck", spec := "fnExactTagCheck", unfollowed := true, recurses := true, apart := false, narrowed := true }
def FnExactTagCheckUptoSaid : Prop := fnExactTagCheckUptoRow.holds Try.pinned (OpenSpec.upto fnExactTagCheckSpec)

/-- 'laws.FnCode', WHERE WHAT IT READS IS OF BULK AT MOST 1048576: true; the input reads as it did. -/
def fnCodeUptoRow : OpenClaim := { program := "ytccbjhmjildinaa", sum := "fea1c80af9e2c21089cba6e63425842085161aba8351dcbb7c9f545e87c6d0a5", func := "loop.example/replayverifier/laws.FnCode", spec := "fnCode", apart := false, narrowed := true }
def FnCodeUptoSaid : Prop := fnCodeUptoRow.holds Try.pinned (OpenSpec.upto fnCodeSpec)

/-- 'laws.FnHashChange', WHERE WHAT IT READS IS OF BULK AT MOST 1048576: true; the input reads as it did. -/
def fnHashChangeUptoRow : OpenClaim := { program := "ytccbjhmjildinaa", sum := "fea1c80af9e2c21089cba6e63425842085161aba8351dcbb7c9f545e87c6d0a5", func := "loop.example/replayverifier/laws.FnHashChange", spec := "fnHashChange", unfollowed := true, recurses := true, apart := false, narrowed := true }
def FnHashChangeUptoSaid : Prop := fnHashChangeUptoRow.holds Try.pinned (OpenSpec.upto fnHashChangeSpec)

/-- 'laws.FnHashEmpty', WHERE WHAT IT READS IS OF BULK AT MOST 1048576: true; the input reads as it did. -/
def fnHashEmptyUptoRow : OpenClaim := { program := "ytccbjhmjildinaa", sum := "fea1c80af9e2c21089cba6e63425842085161aba8351dcbb7c9f545e87c6d0a5", func := "loop.example/replayverifier/laws.FnHashEmpty", spec := "fnHashEmpty", unfollowed := true, recurses := true, apart := false, narrowed := true }
def FnHashEmptyUptoSaid : Prop := fnHashEmptyUptoRow.holds Try.pinned (OpenSpec.upto fnHashEmptySpec)

/-- 'laws.FnHashNext', WHERE WHAT IT READS IS OF BULK AT MOST 1048576: true; the input reads as it did. -/
def fnHashNextUptoRow : OpenClaim := { program := "ytccbjhmjildinaa", sum := "fea1c80af9e2c21089cba6e63425842085161aba8351dcbb7c9f545e87c6d0a5", func := "loop.example/replayverifier/laws.FnHashNext", spec := "fnHashNext", unfollowed := true, recurses := true, apart := false, narrowed := true }
def FnHashNextUptoSaid : Prop := fnHashNextUptoRow.holds Try.pinned (OpenSpec.upto fnHashNextSpec)

/-- 'laws.FnHashOrder', WHERE WHAT IT READS IS OF BULK AT MOST 1048576: true; the input reads as it did. -/
def fnHashOrderUptoRow : OpenClaim := { program := "ytccbjhmjildinaa", sum := "fea1c80af9e2c21089cba6e63425842085161aba8351dcbb7c9f545e87c6d0a5", func := "loop.example/replayverifier/laws.FnHashOrder", spec := "fnHashOrder", unfollowed := true, recurses := true, apart := false, narrowed := true }
def FnHashOrderUptoSaid : Prop := fnHashOrderUptoRow.holds Try.pinned (OpenSpec.upto fnHashOrderSpec)

/-- 'laws.FnTagKey', WHERE WHAT IT READS IS OF BULK AT MOST 1048576: true; the input reads as it did. -/
def fnTagKeyUptoRow : OpenClaim := { program := "ytccbjhmjildinaa", sum := "fea1c80af9e2c21089cba6e63425842085161aba8351dcbb7c9f545e87c6d0a5", func := "loop.example/replayverifier/laws.FnTagKey", spec := "fnTagKey", unfollowed := true, recurses := true, apart := false, narrowed := true }
def FnTagKeyUptoSaid : Prop := fnTagKeyUptoRow.holds Try.pinned (OpenSpec.upto fnTagKeySpec)

/-- 'laws.FnTag', WHERE WHAT IT READS IS OF BULK AT MOST 1048576: true; the input reads as it did. -/
def fnTagUptoRow : OpenClaim := { program := "ytccbjhmjildinaa", sum := "fea1c80af9e2c21089cba6e63425842085161aba8351dcbb7c9f545e87c6d0a5", func := "loop.example/replayverifier/laws.FnTag", spec := "fnTag", unfollowed := true, recurses := true, apart := false, narrowed := true }
def FnTagUptoSaid : Prop := fnTagUptoRow.holds Try.pinned (OpenSpec.upto fnTagSpec)

/-- 'laws.FnTagChange', WHERE WHAT IT READS IS OF BULK AT MOST 1048576: true; the input reads as it did. -/
def fnTagChangeUptoRow : OpenClaim := { program := "ytccbjhmjildinaa", sum := "fea1c80af9e2c21089cba6e63425842085161aba8351dcbb7c9f545e87c6d0a5", func := "loop.example/replayverifier/laws.FnTagChange", spec := "fnTagChange", unfollowed := true, recurses := true, apart := false, narrowed := true }
def FnTagChangeUptoSaid : Prop := fnTagChangeUptoRow.holds Try.pinned (OpenSpec.upto fnTagChangeSpec)

/-- 'laws.FnTagInvalid', WHERE WHAT IT READS IS OF BULK AT MOST 1048576: true; the input reads as it did. -/
def fnTagInvalidUptoRow : OpenClaim := { program := "ytccbjhmjildinaa", sum := "fea1c80af9e2c21089cba6e63425842085161aba8351dcbb7c9f545e87c6d0a5", func := "loop.example/replayverifier/laws.FnTagInvalid", spec := "fnTagInvalid", unfollowed := true, recurses := true, apart := false, narrowed := true }
def FnTagInvalidUptoSaid : Prop := fnTagInvalidUptoRow.holds Try.pinned (OpenSpec.upto fnTagInvalidSpec)

end Rows
end Go.Proofs.Ytccbjhmjildinaa
