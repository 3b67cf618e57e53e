/-
  No cell of these rows narrows 'for every input' (looked for: loops, veiled, ifaces, maps, wideKeys, modest, calm, conditions, laid).
  DERIVED. THE GIVEN ROWS OF THIS SEAT. 21 by the template 'for every input the law returns true; each argument reads behind the call as it read before'; 0 by the template 'total and deterministic' (their statements: YtnhjalijnociaaaTotals.lean).
  GIVEN WITH THE SEED: the statements are not yours to turn. If you find one false, say at which input.
  Laid BY PROGRAM, IN A SANDBOX (cutbox-rows.mjs): the forced cells as the released guide's own fill.sh prints them over the translation f90dbb64f10c4fbe… (all of the seat's roots in one cut). By AI agents, Wed Nov 11 2026. No macro, syntax, notation, axiom, sorry.
-/
import Derived.Test.YtnhjalijnociaaaChecked
import GoSem.Claim
import GoSem.ClaimJoined
import GoSem.ClaimMapViews
import Derived.JoinedTies
import Derived.KernelRfl
namespace Go.Proofs.Ytnhjalijnociaaa
/- THE CELL 'sum', in the pinned program and in every row, IS THE sha256 OF THE DUMP (.gsa) THAT YtnhjalijnociaaaProg.lean LOADS. Nothing in Lean hashes anything: it is a label: what it is worth is what the hold of that sum in a sandbox is worth. -/
noncomputable def Try.pinned : Pinned := { name := "ytnhjalijnociaaa", sum := "f90dbb64f10c4fbe6dca24869f4fc87016bcbef8e579a6a425fc71f3e1196989", checked := Try.checked }
namespace Rows
def none {H : Type} : Left H := { results := [], args := [] }

/-- 'laws.FnStepTick': WHATEVER THE INPUT: true; the input reads as it did. -/
def fnStepTickSpec : ChangeSpec := { name := "fnStepTick", fn := fun _ => fun
  | [d] => { results := [.lit (.bool true)], args := [d] }
  | _ => none }
def fnStepTickRow : OpenClaim := { program := "ytnhjalijnociaaa", sum := "f90dbb64f10c4fbe6dca24869f4fc87016bcbef8e579a6a425fc71f3e1196989", func := "loop.example/replayverifier/laws.FnStepTick", spec := "fnStepTick", unfollowed := true, recurses := true, apart := false }
def FnStepTickSaid : Prop := fnStepTickRow.holds Try.pinned (OpenSpec.ofChange fnStepTickSpec)

/-- ITS FALSE NEIGHBOUR: 'it returns false'. Refute it at one input. -/
def fnStepTickWrong : ChangeSpec := { name := "fnStepTick", fn := fun _ => fun
  | [d] => { results := [.lit (.bool false)], args := [d] }
  | _ => none }
def FnStepTickWrongFalsely : Prop := fnStepTickRow.holds Try.pinned (OpenSpec.ofChange fnStepTickWrong)

/-- 'laws.FnStepTurn': WHATEVER THE INPUT: true; the input reads as it did. -/
def fnStepTurnSpec : ChangeSpec := { name := "fnStepTurn", fn := fun _ => fun
  | [d] => { results := [.lit (.bool true)], args := [d] }
  | _ => none }
def fnStepTurnRow : OpenClaim := { program := "ytnhjalijnociaaa", sum := "f90dbb64f10c4fbe6dca24869f4fc87016bcbef8e579a6a425fc71f3e1196989", func := "loop.example/replayverifier/laws.FnStepTurn", spec := "fnStepTurn", unfollowed := true, recurses := true, apart := false }
def FnStepTurnSaid : Prop := fnStepTurnRow.holds Try.pinned (OpenSpec.ofChange fnStepTurnSpec)

/-- ITS FALSE NEIGHBOUR: 'it returns false'. Refute it at one input. -/
def fnStepTurnWrong : ChangeSpec := { name := "fnStepTurn", fn := fun _ => fun
  | [d] => { results := [.lit (.bool false)], args := [d] }
  | _ => none }
def FnStepTurnWrongFalsely : Prop := fnStepTurnRow.holds Try.pinned (OpenSpec.ofChange fnStepTurnWrong)

/-- 'laws.FnStepDone': WHATEVER THE INPUT: true; the input reads as it did. -/
def fnStepDoneSpec : ChangeSpec := { name := "fnStepDone", fn := fun _ => fun
  | [d] => { results := [.lit (.bool true)], args := [d] }
  | _ => none }
def fnStepDoneRow : OpenClaim := { program := "ytnhjalijnociaaa", sum := "f90dbb64f10c4fbe6dca24869f4fc87016bcbef8e579a6a425fc71f3e1196989", func := "loop.example/replayverifier/laws.FnStepDone", spec := "fnStepDone", unfollowed := true, recurses := true, apart := false }
def FnStepDoneSaid : Prop := fnStepDoneRow.holds Try.pinned (OpenSpec.ofChange fnStepDoneSpec)

/-- ITS FALSE NEIGHBOUR: 'it returns false'. Refute it at one input. -/
def fnStepDoneWrong : ChangeSpec := { name := "fnStepDone", fn := fun _ => fun
  | [d] => { results := [.lit (.bool false)], args := [d] }
  | _ => none }
def FnStepDoneWrongFalsely : Prop := fnStepDoneRow.holds Try.pinned (OpenSpec.ofChange fnStepDoneWrong)

/-- 'laws.FnExactEngineStep': WHATEVER THE INPUT: true; the input reads as it did. -/
def fnExactEngineStepSpec : ChangeSpec := { name := "fnExactEngineStep", fn := fun _ => fun
  | [d1, d2, d3] => { results := [.lit (.bool true)], args := [d1, d2, d3] }
  | _ => none }
def fnExactEngineStepRow : OpenClaim := { program := "ytnhjalijnociaaa", sum := "f90dbb64f10c4fbe6dca24869f4fc87016bcbef8e579a6a425fc71f3e1196989", func := "loop.example/replayverifier/laws.FnExactEngineStep", spec := "fnExactEngineStep", unfollowed := true, recurses := true, apart := false }
def FnExactEngineStepSaid : Prop := fnExactEngineStepRow.holds Try.pinned (OpenSpec.ofChange fnExactEngineStepSpec)

/-- ITS FALSE NEIGHBOUR: 'it returns false'. Refute it at one input. -/
def fnExactEngineStepWrong : ChangeSpec := { name := "fnExactEngineStep", fn := fun _ => fun
  | [d1, d2, d3] => { results := [.lit (.bool false)], args := [d1, d2, d3] }
  | _ => none }
def FnExactEngineStepWrongFalsely : Prop := fnExactEngineStepRow.holds Try.pinned (OpenSpec.ofChange fnExactEngineStepWrong)

/-- 'laws.FnStep': WHATEVER THE INPUT: true; the input reads as it did. -/
def fnStepSpec : ChangeSpec := { name := "fnStep", fn := fun _ => fun
  | [d] => { results := [.lit (.bool true)], args := [d] }
  | _ => none }
def fnStepRow : OpenClaim := { program := "ytnhjalijnociaaa", sum := "f90dbb64f10c4fbe6dca24869f4fc87016bcbef8e579a6a425fc71f3e1196989", func := "loop.example/replayverifier/laws.FnStep", spec := "fnStep", unfollowed := true, recurses := true, apart := false }
def FnStepSaid : Prop := fnStepRow.holds Try.pinned (OpenSpec.ofChange fnStepSpec)

/-- ITS FALSE NEIGHBOUR: 'it returns false'. Refute it at one input. -/
def fnStepWrong : ChangeSpec := { name := "fnStep", fn := fun _ => fun
  | [d] => { results := [.lit (.bool false)], args := [d] }
  | _ => none }
def FnStepWrongFalsely : Prop := fnStepRow.holds Try.pinned (OpenSpec.ofChange fnStepWrong)

/-- 'laws.FnStepEnd': WHATEVER THE INPUT: true; the input reads as it did. -/
def fnStepEndSpec : ChangeSpec := { name := "fnStepEnd", fn := fun _ => fun
  | [d] => { results := [.lit (.bool true)], args := [d] }
  | _ => none }
def fnStepEndRow : OpenClaim := { program := "ytnhjalijnociaaa", sum := "f90dbb64f10c4fbe6dca24869f4fc87016bcbef8e579a6a425fc71f3e1196989", func := "loop.example/replayverifier/laws.FnStepEnd", spec := "fnStepEnd", unfollowed := true, recurses := true, apart := false }
def FnStepEndSaid : Prop := fnStepEndRow.holds Try.pinned (OpenSpec.ofChange fnStepEndSpec)

/-- ITS FALSE NEIGHBOUR: 'it returns false'. Refute it at one input. -/
def fnStepEndWrong : ChangeSpec := { name := "fnStepEnd", fn := fun _ => fun
  | [d] => { results := [.lit (.bool false)], args := [d] }
  | _ => none }
def FnStepEndWrongFalsely : Prop := fnStepEndRow.holds Try.pinned (OpenSpec.ofChange fnStepEndWrong)

/-- 'laws.FnStepMove': WHATEVER THE INPUT: true; the input reads as it did. -/
def fnStepMoveSpec : ChangeSpec := { name := "fnStepMove", fn := fun _ => fun
  | [d] => { results := [.lit (.bool true)], args := [d] }
  | _ => none }
def fnStepMoveRow : OpenClaim := { program := "ytnhjalijnociaaa", sum := "f90dbb64f10c4fbe6dca24869f4fc87016bcbef8e579a6a425fc71f3e1196989", func := "loop.example/replayverifier/laws.FnStepMove", spec := "fnStepMove", unfollowed := true, recurses := true, apart := false }
def FnStepMoveSaid : Prop := fnStepMoveRow.holds Try.pinned (OpenSpec.ofChange fnStepMoveSpec)

/-- ITS FALSE NEIGHBOUR: 'it returns false'. Refute it at one input. -/
def fnStepMoveWrong : ChangeSpec := { name := "fnStepMove", fn := fun _ => fun
  | [d] => { results := [.lit (.bool false)], args := [d] }
  | _ => none }
def FnStepMoveWrongFalsely : Prop := fnStepMoveRow.holds Try.pinned (OpenSpec.ofChange fnStepMoveWrong)

/-- 'laws.FnStepOver': WHATEVER THE INPUT: true; the input reads as it did. -/
def fnStepOverSpec : ChangeSpec := { name := "fnStepOver", fn := fun _ => fun
  | [d] => { results := [.lit (.bool true)], args := [d] }
  | _ => none }
def fnStepOverRow : OpenClaim := { program := "ytnhjalijnociaaa", sum := "f90dbb64f10c4fbe6dca24869f4fc87016bcbef8e579a6a425fc71f3e1196989", func := "loop.example/replayverifier/laws.FnStepOver", spec := "fnStepOver", unfollowed := true, recurses := true, apart := false }
def FnStepOverSaid : Prop := fnStepOverRow.holds Try.pinned (OpenSpec.ofChange fnStepOverSpec)

/-- ITS FALSE NEIGHBOUR: 'it returns false'. Refute it at one input. -/
def fnStepOverWrong : ChangeSpec := { name := "fnStepOver", fn := fun _ => fun
  | [d] => { results := [.lit (.bool false)], args := [d] }
  | _ => none }
def FnStepOverWrongFalsely : Prop := fnStepOverRow.holds Try.pinned (OpenSpec.ofChange fnStepOverWrong)

/-- 'laws.FnStepPause': WHATEVER THE INPUT: true; the input reads as it did. -/
def fnStepPauseSpec : ChangeSpec := { name := "fnStepPause", fn := fun _ => fun
  | [d] => { results := [.lit (.bool true)], args := [d] }
  | _ => none }
def fnStepPauseRow : OpenClaim := { program := "ytnhjalijnociaaa", sum := "f90dbb64f10c4fbe6dca24869f4fc87016bcbef8e579a6a425fc71f3e1196989", func := "loop.example/replayverifier/laws.FnStepPause", spec := "fnStepPause", unfollowed := true, recurses := true, apart := false }
def FnStepPauseSaid : Prop := fnStepPauseRow.holds Try.pinned (OpenSpec.ofChange fnStepPauseSpec)

/-- ITS FALSE NEIGHBOUR: 'it returns false'. Refute it at one input. -/
def fnStepPauseWrong : ChangeSpec := { name := "fnStepPause", fn := fun _ => fun
  | [d] => { results := [.lit (.bool false)], args := [d] }
  | _ => none }
def FnStepPauseWrongFalsely : Prop := fnStepPauseRow.holds Try.pinned (OpenSpec.ofChange fnStepPauseWrong)

/-- 'laws.FnStepPush': WHATEVER THE INPUT: true; the input reads as it did. -/
def fnStepPushSpec : ChangeSpec := { name := "fnStepPush", fn := fun _ => fun
  | [d] => { results := [.lit (.bool true)], args := [d] }
  | _ => none }
def fnStepPushRow : OpenClaim := { program := "ytnhjalijnociaaa", sum := "f90dbb64f10c4fbe6dca24869f4fc87016bcbef8e579a6a425fc71f3e1196989", func := "loop.example/replayverifier/laws.FnStepPush", spec := "fnStepPush", unfollowed := true, recurses := true, apart := false }
def FnStepPushSaid : Prop := fnStepPushRow.holds Try.pinned (OpenSpec.ofChange fnStepPushSpec)

/-- ITS FALSE NEIGHBOUR: 'it returns false'. Refute it at one input. -/
def fnStepPushWrong : ChangeSpec := { name := "fnStepPush", fn := fun _ => fun
  | [d] => { results := [.lit (.bool false)], args := [d] }
  | _ => none }
def FnStepPushWrongFalsely : Prop := fnStepPushRow.holds Try.pinned (OpenSpec.ofChange fnStepPushWrong)

/-- 'laws.FnStepRoll': WHATEVER THE INPUT: true; the input reads as it did. -/
def fnStepRollSpec : ChangeSpec := { name := "fnStepRoll", fn := fun _ => fun
  | [d] => { results := [.lit (.bool true)], args := [d] }
  | _ => none }
def fnStepRollRow : OpenClaim := { program := "ytnhjalijnociaaa", sum := "f90dbb64f10c4fbe6dca24869f4fc87016bcbef8e579a6a425fc71f3e1196989", func := "loop.example/replayverifier/laws.FnStepRoll", spec := "fnStepRoll", unfollowed := true, recurses := true, apart := false }
def FnStepRollSaid : Prop := fnStepRollRow.holds Try.pinned (OpenSpec.ofChange fnStepRollSpec)

/-- ITS FALSE NEIGHBOUR: 'it returns false'. Refute it at one input. -/
def fnStepRollWrong : ChangeSpec := { name := "fnStepRoll", fn := fun _ => fun
  | [d] => { results := [.lit (.bool false)], args := [d] }
  | _ => none }
def FnStepRollWrongFalsely : Prop := fnStepRollRow.holds Try.pinned (OpenSpec.ofChange fnStepRollWrong)

/-- 'laws.FnStepFull': WHATEVER THE INPUT: true; the input reads as it did. -/
def fnStepFullSpec : ChangeSpec := { name := "fnStepFull", fn := fun _ => fun
  | [d] => { results := [.lit (.bool true)], args := [d] }
  | _ => none }
def fnStepFullRow : OpenClaim := { program := "ytnhjalijnociaaa", sum := "f90dbb64f10c4fbe6dca24869f4fc87016bcbef8e579a6a425fc71f3e1196989", func := "loop.example/replayverifier/laws.FnStepFull", spec := "fnStepFull", unfollowed := true, recurses := true, apart := false }
def FnStepFullSaid : Prop := fnStepFullRow.holds Try.pinned (OpenSpec.ofChange fnStepFullSpec)

/-- ITS FALSE NEIGHBOUR: 'it returns false'. Refute it at one input. -/
def fnStepFullWrong : ChangeSpec := { name := "fnStepFull", fn := fun _ => fun
  | [d] => { results := [.lit (.bool false)], args := [d] }
  | _ => none }
def FnStepFullWrongFalsely : Prop := fnStepFullRow.holds Try.pinned (OpenSpec.ofChange fnStepFullWrong)

/-- 'laws.FnSpeed': WHATEVER THE INPUT: true; the input reads as it did. -/
def fnSpeedSpec : ChangeSpec := { name := "fnSpeed", fn := fun _ => fun
  | [d] => { results := [.lit (.bool true)], args := [d] }
  | _ => none }
def fnSpeedRow : OpenClaim := { program := "ytnhjalijnociaaa", sum := "f90dbb64f10c4fbe6dca24869f4fc87016bcbef8e579a6a425fc71f3e1196989", func := "loop.example/replayverifier/laws.FnSpeed", spec := "fnSpeed", apart := false }
def FnSpeedSaid : Prop := fnSpeedRow.holds Try.pinned (OpenSpec.ofChange fnSpeedSpec)

/-- ITS FALSE NEIGHBOUR: 'it returns false'. Refute it at one input. -/
def fnSpeedWrong : ChangeSpec := { name := "fnSpeed", fn := fun _ => fun
  | [d] => { results := [.lit (.bool false)], args := [d] }
  | _ => none }
def FnSpeedWrongFalsely : Prop := fnSpeedRow.holds Try.pinned (OpenSpec.ofChange fnSpeedWrong)

/-- 'laws.FnEngineHash': WHATEVER THE INPUT: true; the input reads as it did. -/
def fnEngineHashSpec : ChangeSpec := { name := "fnEngineHash", fn := fun _ => fun
  | [d1, d2] => { results := [.lit (.bool true)], args := [d1, d2] }
  | _ => none }
def fnEngineHashRow : OpenClaim := { program := "ytnhjalijnociaaa", sum := "f90dbb64f10c4fbe6dca24869f4fc87016bcbef8e579a6a425fc71f3e1196989", func := "loop.example/replayverifier/laws.FnEngineHash", spec := "fnEngineHash", unfollowed := true, recurses := true, apart := false }
def FnEngineHashSaid : Prop := fnEngineHashRow.holds Try.pinned (OpenSpec.ofChange fnEngineHashSpec)

/-- ITS FALSE NEIGHBOUR: 'it returns false'. Refute it at one input. -/
def fnEngineHashWrong : ChangeSpec := { name := "fnEngineHash", fn := fun _ => fun
  | [d1, d2] => { results := [.lit (.bool false)], args := [d1, d2] }
  | _ => none }
def FnEngineHashWrongFalsely : Prop := fnEngineHashRow.holds Try.pinned (OpenSpec.ofChange fnEngineHashWrong)

/-- 'laws.FnEngineHashAt': WHATEVER THE INPUT: true; the input reads as it did. -/
def fnEngineHashAtSpec : ChangeSpec := { name := "fnEngineHashAt", fn := fun _ => fun
  | [d1, d2] => { results := [.lit (.bool true)], args := [d1, d2] }
  | _ => none }
def fnEngineHashAtRow : OpenClaim := { program := "ytnhjalijnociaaa", sum := "f90dbb64f10c4fbe6dca24869f4fc87016bcbef8e579a6a425fc71f3e1196989", func := "loop.example/replayverifier/laws.FnEngineHashAt", spec := "fnEngineHashAt", unfollowed := true, recurses := true, apart := false }
def FnEngineHashAtSaid : Prop := fnEngineHashAtRow.holds Try.pinned (OpenSpec.ofChange fnEngineHashAtSpec)

/-- ITS FALSE NEIGHBOUR: 'it returns false'. Refute it at one input. -/
def fnEngineHashAtWrong : ChangeSpec := { name := "fnEngineHashAt", fn := fun _ => fun
  | [d1, d2] => { results := [.lit (.bool false)], args := [d1, d2] }
  | _ => none }
def FnEngineHashAtWrongFalsely : Prop := fnEngineHashAtRow.holds Try.pinned (OpenSpec.ofChange fnEngineHashAtWrong)

/-- 'laws.FnLegalLong': WHATEVER THE INPUT: true; the input reads as it did. -/
def fnLegalLongSpec : ChangeSpec := { name := "fnLegalLong", fn := fun _ => fun
  | [d1, d2] => { results := [.lit (.bool true)], args := [d1, d2] }
  | _ => none }
def fnLegalLongRow : OpenClaim := { program := "ytnhjalijnociaaa", sum := "f90dbb64f10c4fbe6dca24869f4fc87016bcbef8e579a6a425fc71f3e1196989", func := "loop.example/replayverifier/laws.FnLegalLong", spec := "fnLegalLong", unfollowed := true, recurses := true, apart := false }
def FnLegalLongSaid : Prop := fnLegalLongRow.holds Try.pinned (OpenSpec.ofChange fnLegalLongSpec)

/-- ITS FALSE NEIGHBOUR: 'it returns false'. Refute it at one input. -/
def fnLegalLongWrong : ChangeSpec := { name := "fnLegalLong", fn := fun _ => fun
  | [d1, d2] => { results := [.lit (.bool false)], args := [d1, d2] }
  | _ => none }
def FnLegalLongWrongFalsely : Prop := fnLegalLongRow.holds Try.pinned (OpenSpec.ofChange fnLegalLongWrong)

/-- 'laws.FnLegalNone': WHATEVER THE INPUT: true; the input reads as it did. -/
def fnLegalNoneSpec : ChangeSpec := { name := "fnLegalNone", fn := fun _ => fun
  | [d] => { results := [.lit (.bool true)], args := [d] }
  | _ => none }
def fnLegalNoneRow : OpenClaim := { program := "ytnhjalijnociaaa", sum := "f90dbb64f10c4fbe6dca24869f4fc87016bcbef8e579a6a425fc71f3e1196989", func := "loop.example/replayverifier/laws.FnLegalNone", spec := "fnLegalNone", unfollowed := true, recurses := true, apart := false }
def FnLegalNoneSaid : Prop := fnLegalNoneRow.holds Try.pinned (OpenSpec.ofChange fnLegalNoneSpec)

/-- ITS FALSE NEIGHBOUR: 'it returns false'. Refute it at one input. -/
def fnLegalNoneWrong : ChangeSpec := { name := "fnLegalNone", fn := fun _ => fun
  | [d] => { results := [.lit (.bool false)], args := [d] }
  | _ => none }
def FnLegalNoneWrongFalsely : Prop := fnLegalNoneRow.holds Try.pinned (OpenSpec.ofChange fnLegalNoneWrong)

/-- 'laws.FnLegalPrefix': WHATEVER THE INPUT: true; the input reads as it did. -/
def fnLegalPrefixSpec : ChangeSpec := { name := "fnLegalPrefix", fn := fun _ => fun
  | [d] => { results := [.lit (.bool true)], args := [d] }
  | _ => none }
def fnLegalPrefixRow : OpenClaim := { program := "ytnhjalijnociaaa", sum := "f90dbb64f10c4fbe6dca24869f4fc87016bcbef8e579a6a425fc71f3e1196989", func := "loop.example/replayverifier/laws.FnLegalPrefix", spec := "fnLegalPrefix", unfollowed := true, recurses := true, apart := false }
def FnLegalPrefixSaid : Prop := fnLegalPrefixRow.holds Try.pinned (OpenSpec.ofChange fnLegalPrefixSpec)

/-- ITS FALSE NEIGHBOUR: 'it returns false'. Refute it at one input. -/
def fnLegalPrefixWrong : ChangeSpec := { name := "fnLegalPrefix", fn := fun _ => fun
  | [d] => { results := [.lit (.bool false)], args := [d] }
  | _ => none }
def FnLegalPrefixWrongFalsely : Prop := fnLegalPrefixRow.holds Try.pinned (OpenSpec.ofChange fnLegalPrefixWrong)

/-- 'laws.FnLegalSteer': WHATEVER THE INPUT: true; the input reads as it did. -/
def fnLegalSteerSpec : ChangeSpec := { name := "fnLegalSteer", fn := fun _ => fun
  | [d] => { results := [.lit (.bool true)], args := [d] }
  | _ => none }
def fnLegalSteerRow : OpenClaim := { program := "ytnhjalijnociaaa", sum := "f90dbb64f10c4fbe6dca24869f4fc87016bcbef8e579a6a425fc71f3e1196989", func := "loop.example/replayverifier/laws.FnLegalSteer", spec := "fnLegalSteer", unfollowed := true, recurses := true, apart := false }
def FnLegalSteerSaid : Prop := fnLegalSteerRow.holds Try.pinned (OpenSpec.ofChange fnLegalSteerSpec)

/-- ITS FALSE NEIGHBOUR: 'it returns false'. Refute it at one input. -/
def fnLegalSteerWrong : ChangeSpec := { name := "fnLegalSteer", fn := fun _ => fun
  | [d] => { results := [.lit (.bool false)], args := [d] }
  | _ => none }
def FnLegalSteerWrongFalsely : Prop := fnLegalSteerRow.holds Try.pinned (OpenSpec.ofChange fnLegalSteerWrong)

/-- 'laws.FnLegalPairs': WHATEVER THE INPUT: true; the input reads as it did. -/
def fnLegalPairsSpec : ChangeSpec := { name := "fnLegalPairs", fn := fun _ => fun
  | [d] => { results := [.lit (.bool true)], args := [d] }
  | _ => none }
def fnLegalPairsRow : OpenClaim := { program := "ytnhjalijnociaaa", sum := "f90dbb64f10c4fbe6dca24869f4fc87016bcbef8e579a6a425fc71f3e1196989", func := "loop.example/replayverifier/laws.FnLegalPairs", spec := "fnLegalPairs", unfollowed := true, recurses := true, apart := false }
def FnLegalPairsSaid : Prop := fnLegalPairsRow.holds Try.pinned (OpenSpec.ofChange fnLegalPairsSpec)

/-- ITS FALSE NEIGHBOUR: 'it returns false'. Refute it at one input. -/
def fnLegalPairsWrong : ChangeSpec := { name := "fnLegalPairs", fn := fun _ => fun
  | [d] => { results := [.lit (.bool false)], args := [d] }
  | _ => none }
def FnLegalPairsWrongFalsely : Prop := fnLegalPairsRow.holds Try.pinned (OpenSpec.ofChange fnLegalPairsWrong)

/-- 'laws.FnLegalPauses': WHATEVER THE INPUT: true; the input reads as it did. -/
def fnLegalPausesSpec : ChangeSpec := { name := "fnLegalPauses", fn := fun _ => fun
  | [d] => { results := [.lit (.bool true)], args := [d] }
  | _ => none }
def fnLegalPausesRow : OpenClaim := { program := "ytnhjalijnociaaa", sum := "f90dbb64f10c4fbe6dca24869f4fc87016bcbef8e579a6a425fc71f3e1196989", func := "loop.example/replayverifier/laws.FnLegalPauses", spec := "fnLegalPauses", unfollowed := true, recurses := true, apart := false }
def FnLegalPausesSaid : Prop := fnLegalPausesRow.holds Try.pinned (OpenSpec.ofChange fnLegalPausesSpec)

/-- ITS FALSE NEIGHBOUR: 'it returns false'. Refute it at one input. -/
def fnLegalPausesWrong : ChangeSpec := { name := "fnLegalPauses", fn := fun _ => fun
  | [d] => { results := [.lit (.bool false)], args := [d] }
  | _ => none }
def FnLegalPausesWrongFalsely : Prop := fnLegalPausesRow.holds Try.pinned (OpenSpec.ofChange fnLegalPausesWrong)

/- THE SECOND FORM. 'bulk': how many values and letters a reading holds, each counted each time it is reached (what is shared counts as often as it is met; a slice's spare places count too). A statement '..UptoSaid' is the law's where the arguments, and the package variables that the reading takes, are together of bulk at most 1048576: NARROWER than '..Said'. Prove '..Said' where nothing that the law and all that it calls make is longer than what came in: it says more and counts as full. Else prove '..UptoSaid'. A law counts once. -/
mutual
def uptoBulk {H : Type} : DataW H → Nat
  | .lit (.string bytes) => bytes.length + 1
  | .lit _ => 1
  | .nil => 1
  | .ptr d => uptoBulk d + 1
  | .slice elems spare => uptoBulkAll elems + uptoBulkAll spare + 1
  | .agg parts => uptoBulkAll parts + 1
  | .iface _ d => uptoBulk d + 1
  | .map entries => uptoBulkEntries entries + 1
  | .held _ => 1
def uptoBulkAll {H : Type} : List (DataW H) → Nat
  | [] => 0
  | d :: r => uptoBulk d + uptoBulkAll r
def uptoBulkEntries {H : Type} : List (Lit × DataW H) → Nat
  | [] => 0
  | x :: r => uptoBulkEntry x + uptoBulkEntries r
def uptoBulkEntry {H : Type} : Lit × DataW H → Nat
  | (.string bytes, d) => bytes.length + uptoBulk d + 1
  | (_, d) => uptoBulk d + 1
 end
def uptoSmall : (H : Type) → List (DataW H) → Bool := fun _ ds => decide (uptoBulkAll ds ≤ 1048576)
def OpenSpec.upto (s : _root_.Go.ChangeSpec) : _root_.Go.OpenSpec := { _root_.Go.OpenSpec.ofChange s with cond := some uptoSmall }

/-- 'laws.FnStepTick', WHERE WHAT IT READS IS OF BULK AT MOST 1048576: true; the input reads as it did. -/
def fnStepTickUptoRow : OpenClaim := { program := "ytnhjalijnociaaa", sum := "f90dbb64f10c4fbe6dca24869f4fc87016bcbef8e579a6a425fc71f3e1196989", func := "loop.example/replayverifier/laws.FnStepTick", spec := "fnStepTick", unfollowed := true, recurses := true, apart := false, narrowed := true }
def FnStepTickUptoSaid : Prop := fnStepTickUptoRow.holds Try.pinned (OpenSpec.upto fnStepTickSpec)

/-- 'laws.FnStepTurn', WHERE WHAT IT READS IS OF BULK AT MOST 1048576: true; the input reads as it did. -/
def fnStepTurnUptoRow : OpenClaim := { program := "ytnhjalijnociaaa", sum := "f90dbb64f10c4fbe6dca24869f4fc87016bcbef8e579a6a425fc71f3e1196989", func := "loop.example/replayverifier/laws.FnStepTurn", spec := "fnStepTurn", unfollowed := true, recurses := true, apart := false, narrowed := true }
def FnStepTurnUptoSaid : Prop := fnStepTurnUptoRow.holds Try.pinned (OpenSpec.upto fnStepTurnSpec)

/-- 'laws.FnStepDone', WHERE WHAT IT READS IS OF BULK AT MOST 1048576: true; the input reads as it did. -/
def fnStepDoneUptoRow : OpenClaim := { program := "ytnhjalijnociaaa", sum := "f90dbb64f10c4fbe6dca24869f4fc87016bcbef8e579a6a425fc71f3e1196989", func := "loop.example/replayverifier/laws.FnStepDone", spec := "fnStepDone", unfollowed := true, recurses := true, apart := false, narrowed := true }
def FnStepDoneUptoSaid : Prop := fnStepDoneUptoRow.holds Try.pinned (OpenSpec.upto fnStepDoneSpec)

/-- 'laws.FnExactEngineStep', WHERE WHAT IT READS IS OF BULK AT MOST 1048576: true; the input reads as it did. -/
def fnExactEngineStepUptoRow : OpenClaim := { program := "ytnhjalijnociaaa", sum := "f90dbb64f10c4fbe6dca24869f4fc87016bcbef8e579a6a425fc71f3e1196989", func := "loop.example/replayverifier/laws.FnExactEngineStep", spec := "fnExactEngineStep", unfollowed := true, recurses := true, apart := false, narrowed := true }
def FnExactEngineStepUptoSaid : Prop := fnExactEngineStepUptoRow.holds Try.pinned (OpenSpec.upto fnExactEngineStepSpec)

/-- 'laws.FnStep', WHERE WHAT IT READS IS OF BULK AT MOST 1048576: true; the input reads as it did. -/
def fnStepUptoRow : OpenClaim := { program := "ytnhjalijnociaaa", sum := "f90dbb64f10c4fbe6dca24869f4fc87016bcbef8e579a6a425fc71f3e1196989", func := "loop.example/replayverifier/laws.FnStep", spec := "fnStep", unfollowed := true, recurses := true, apart := false, narrowed := true }
def FnStepUptoSaid : Prop := fnStepUptoRow.holds Try.pinned (OpenSpec.upto fnStepSpec)

/-- 'laws.FnStepEnd', WHERE WHAT IT READS IS OF BULK AT MOST 1048576: true; the input reads as it did. -/
def fnStepEndUptoRow : OpenClaim := { program := "ytnhjalijnociaaa", sum := "f90dbb64f10c4fbe6dca24869f4fc87016bcbef8e579a6a425fc71f3e1196989", func := "loop.example/replayverifier/laws.FnStepEnd", spec := "fnStepEnd", unfollowed := true, recurses := true, apart := false, narrowed := true }
def FnStepEndUptoSaid : Prop := fnStepEndUptoRow.holds Try.pinned (OpenSpec.upto fnStepEndSpec)

/-- 'laws.FnStepMove', WHERE WHAT IT READS IS OF BULK AT MOST 1048576: true; the input reads as it did. -/
def fnStepMoveUptoRow : OpenClaim := { program := "ytnhjalijnociaaa", sum := "f90dbb64f10c4fbe6dca24869f4fc87016bcbef8e579a6a425fc71f3e1196989", func := "loop.example/replayverifier/laws.FnStepMove", spec := "fnStepMove", unfollowed := true, recurses := true, apart := false, narrowed := true }
def FnStepMoveUptoSaid : Prop := fnStepMoveUptoRow.holds Try.pinned (OpenSpec.upto fnStepMoveSpec)

/-- 'laws.FnStepOver', WHERE WHAT IT READS IS OF BULK AT MOST 1048576: true; the input reads as it did. -/
def fnStepOverUptoRow : OpenClaim := { program := "ytnhjalijnociaaa", sum := "f90dbb64f10c4fbe6dca24869f4fc87016bcbef8e579a6a425fc71f3e1196989", func := "loop.example/replayverifier/laws.FnStepOver", spec := "fnStepOver", unfollowed := true, recurses := true, apart := false, narrowed := true }
def FnStepOverUptoSaid : Prop := fnStepOverUptoRow.holds Try.pinned (OpenSpec.upto fnStepOverSpec)

/-- 'laws.FnStepPause', WHERE WHAT IT READS IS OF BULK AT MOST 1048576: true; the input reads as it did. -/
def fnStepPauseUptoRow : OpenClaim := { program := "ytnhjalijnociaaa", sum := "f90dbb64f10c4fbe6dca24869f4fc87016bcbef8e579a6a425fc71f3e1196989", func := "loop.example/replayverifier/laws.FnStepPause", spec := "fnStepPause", unfollowed := true, recurses := true, apart := false, narrowed := true }
def FnStepPauseUptoSaid : Prop := fnStepPauseUptoRow.holds Try.pinned (OpenSpec.upto fnStepPauseSpec)

/-- 'laws.FnStepPush', WHERE WHAT IT READS IS OF BULK AT MOST 1048576: true; the input reads as it did. -/
def fnStepPushUptoRow : OpenClaim := { program := "ytnhjalijnociaaa", sum := "f90dbb64f10c4fbe6dca24869f4fc87016bcbef8e579a6a425fc71f3e1196989", func := "loop.example/replayverifier/laws.FnStepPush", spec := "fnStepPush", unfollowed := true, recurses := true, apart := false, narrowed := true }
def FnStepPushUptoSaid : Prop := fnStepPushUptoRow.holds Try.pinned (OpenSpec.upto fnStepPushSpec)

/-- 'laws.FnStepRoll', WHERE WHAT IT READS IS OF BULK AT MOST 1048576: true; the input reads as it did. -/
def fnStepRollUptoRow : OpenClaim := { program := "ytnhjalijnociaaa", sum := "f90dbb64f10c4fbe6dca24869f4fc87016bcbef8e579a6a425fc71f3e1196989", func := "loop.example/replayverifier/laws.FnStepRoll", spec := "fnStepRoll", unfollowed := true, recurses := true, apart := false, narrowed := true }
def FnStepRollUptoSaid : Prop := fnStepRollUptoRow.holds Try.pinned (OpenSpec.upto fnStepRollSpec)

/-- 'laws.FnStepFull', WHERE WHAT IT READS IS OF BULK AT MOST 1048576: true; the input reads as it did. -/
def fnStepFullUptoRow : OpenClaim := { program := "ytnhjalijnociaaa", sum := "f90dbb64f10c4fbe6dca24869f4fc87016bcbef8e579a6a425fc71f3e1196989", func := "loop.example/replayverifier/laws.FnStepFull", spec := "fnStepFull", unfollowed := true, recurses := true, apart := false, narrowed := true }
def FnStepFullUptoSaid : Prop := fnStepFullUptoRow.holds Try.pinned (OpenSpec.upto fnStepFullSpec)

/-- 'laws.FnSpeed', WHERE WHAT IT READS IS OF BULK AT MOST 1048576: true; the input reads as it did. -/
def fnSpeedUptoRow : OpenClaim := { program := "ytnhjalijnociaaa", sum := "f90dbb64f10c4fbe6dca24869f4fc87016bcbef8e579a6a425fc71f3e1196989", func := "loop.example/replayverifier/laws.FnSpeed", spec := "fnSpeed", apart := false, narrowed := true }
def FnSpeedUptoSaid : Prop := fnSpeedUptoRow.holds Try.pinned (OpenSpec.upto fnSpeedSpec)

/-- 'laws.FnEngineHash', WHERE WHAT IT READS IS OF BULK AT MOST 1048576: true; the input reads as it did. -/
def fnEngineHashUptoRow : OpenClaim := { program := "ytnhjalijnociaaa", sum := "f90dbb64f10c4fbe6dca24869f4fc87016bcbef8e579a6a425fc71f3e1196989", func := "loop.example/replayverifier/laws.FnEngineHash", spec := "fnEngineHash", unfollowed := true, recurses := true, apart := false, narrowed := true }
def FnEngineHashUptoSaid : Prop := fnEngineHashUptoRow.holds Try.pinned (OpenSpec.upto fnEngineHashSpec)

/-- 'laws.FnEngineHashAt', WHERE WHAT IT READS IS OF BULK AT MOST 1048576: true; the input reads as it did. -/
def fnEngineHashAtUptoRow : OpenClaim := { program := "ytnhjalijnociaaa", sum := "f90dbb64f10c4fbe6dca24869f4fc87016bcbef8e579a6a425fc71f3e1196989", func := "loop.example/replayverifier/laws.FnEngineHashAt", spec := "fnEngineHashAt", unfollowed := true, recurses := true, apart := false, narrowed := true }
def FnEngineHashAtUptoSaid : Prop := fnEngineHashAtUptoRow.holds Try.pinned (OpenSpec.upto fnEngineHashAtSpec)

/-- 'laws.FnLegalLong', WHERE WHAT IT READS IS OF BULK AT MOST 1048576: true; the input reads as it did. -/
def fnLegalLongUptoRow : OpenClaim := { program := "ytnhjalijnociaaa", sum := "f90dbb64f10c4fbe6dca24869f4fc87016bcbef8e579a6a425fc71f3e1196989", func := "loop.example/replayverifier/laws.FnLegalLong", spec := "fnLegalLong", unfollowed := true, recurses := true, apart := false, narrowed := true }
def FnLegalLongUptoSaid : Prop := fnLegalLongUptoRow.holds Try.pinned (OpenSpec.upto fnLegalLongSpec)

/-- 'laws.FnLegalNone', WHERE WHAT IT READS IS OF BULK AT MOST 1048576: true; the input reads as it did. -/
def fnLegalNoneUptoRow : OpenClaim := { program := "ytnhjalijnociaaa", sum := "f90dbb64f10c4fbe6dca24869f4fc87016bcbef8e579a6a425fc71f3e1196989", func := "loop.example/replayverifier/laws.FnLegalNone", spec := "fnLegalNone", unfollowed := true, recurses := true, apart := false, narrowed := true }
def FnLegalNoneUptoSaid : Prop := fnLegalNoneUptoRow.holds Try.pinned (OpenSpec.upto fnLegalNoneSpec)

/-- 'laws.FnLegalPrefix', WHERE WHAT IT READS IS OF BULK AT MOST 1048576: true; the input reads as it did. -/
def fnLegalPrefixUptoRow : OpenClaim := { program := "ytnhjalijnociaaa", sum := "f90dbb64f10c4fbe6dca24869f4fc87016bcbef8e579a6a425fc71f3e1196989", func := "loop.example/replayverifier/laws.FnLegalPrefix", spec := "fnLegalPrefix", unfollowed := true, recurses := true, apart := false, narrowed := true }
def FnLegalPrefixUptoSaid : Prop := fnLegalPrefixUptoRow.holds Try.pinned (OpenSpec.upto fnLegalPrefixSpec)

/-- 'laws.FnLegalSteer', WHERE WHAT IT READS IS OF BULK AT MOST 1048576: true; the input reads as it did. -/
def fnLegalSteerUptoRow : OpenClaim := { program := "ytnhjalijnociaaa", sum := "f90dbb64f10c4fbe6dca24869f4fc87016bcbef8e579a6a425fc71f3e1196989", func := "loop.example/replayverifier/laws.FnLegalSteer", spec := "fnLegalSteer", unfollowed := true, recurses := true, apart := false, narrowed := true }
def FnLegalSteerUptoSaid : Prop := fnLegalSteerUptoRow.holds Try.pinned (OpenSpec.upto fnLegalSteerSpec)

/-- 'laws.FnLegalPairs', WHERE WHAT IT READS IS OF BULK AT MOST 1048576: true; the input reads as it did. -/
def fnLegalPairsUptoRow : OpenClaim := { program := "ytnhjalijnociaaa", sum := "f90dbb64f10c4fbe6dca24869f4fc87016bcbef8e579a6a425fc71f3e1196989", func := "loop.example/replayverifier/laws.FnLegalPairs", spec := "fnLegalPairs", unfollowed := true, recurses := true, apart := false, narrowed := true }
def FnLegalPairsUptoSaid : Prop := fnLegalPairsUptoRow.holds Try.pinned (OpenSpec.upto fnLegalPairsSpec)

/-- 'laws.FnLegalPauses', WHERE WHAT IT READS IS OF BULK AT MOST 1048576: true; the input reads as it did. -/
def fnLegalPausesUptoRow : OpenClaim := { program := "ytnhjalijnociaaa", sum := "f90dbb64f10c4fbe6dca24869f4fc87016bcbef8e579a6a425fc71f3e1196989", func := "loop.example/replayverifier/laws.FnLegalPauses", spec := "fnLegalPauses", unfollowed := true, recurses := true, apart := false, narrowed := true }
def FnLegalPausesUptoSaid : Prop := fnLegalPausesUptoRow.holds Try.pinned (OpenSpec.upto fnLegalPausesSpec)

end Rows
end Go.Proofs.Ytnhjalijnociaaa
