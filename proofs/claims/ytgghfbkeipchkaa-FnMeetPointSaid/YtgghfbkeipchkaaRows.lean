/-
  No cell of these rows narrows 'for every input' (looked for: loops, veiled, ifaces, maps, wideKeys, modest, calm, conditions, laid).
  DERIVED. THE GIVEN ROWS OF THIS SEAT. 14 by the template 'for every input the law returns true; each argument reads behind the call as it read before'; 0 by the template 'total and deterministic' (their statements: YtgghfbkeipchkaaTotals.lean).
  GIVEN WITH THE SEED: the statements are not yours to turn. If you find one false, say at which input.
  Laid BY PROGRAM, IN A SANDBOX (cutbox-rows.mjs): the forced cells as the released guide's own fill.sh prints them over the translation 14504e3e31d763eb… (all of the seat's roots in one cut). By AI agents, Wed Nov 11 2026. No macro, syntax, notation, axiom, sorry.
-/
import Derived.Test.YtgghfbkeipchkaaChecked
import GoSem.Claim
import GoSem.ClaimJoined
import GoSem.ClaimMapViews
import Derived.JoinedTies
import Derived.KernelRfl
namespace Go.Proofs.Ytgghfbkeipchkaa
/- THE CELL 'sum', in the pinned program and in every row, IS THE sha256 OF THE DUMP (.gsa) THAT YtgghfbkeipchkaaProg.lean LOADS. Nothing in Lean hashes anything: it is a label: what it is worth is what the hold of that sum in a sandbox is worth. -/
noncomputable def Try.pinned : Pinned := { name := "ytgghfbkeipchkaa", sum := "14504e3e31d763eb248f3eb49a694f9004f7b61cb8f34ea0fb81ea286f127d5a", checked := Try.checked }
namespace Rows
def none {H : Type} : Left H := { results := [], args := [] }

/-- 'laws.FnMeetPoint': WHATEVER THE INPUT: true; the input reads as it did. -/
def fnMeetPointSpec : ChangeSpec := { name := "fnMeetPoint", fn := fun _ => fun
  | [d1, d2] => { results := [.lit (.bool true)], args := [d1, d2] }
  | _ => none }
def fnMeetPointRow : OpenClaim := { program := "ytgghfbkeipchkaa", sum := "14504e3e31d763eb248f3eb49a694f9004f7b61cb8f34ea0fb81ea286f127d5a", func := "loop.example/replayverifier/laws.FnMeetPoint", spec := "fnMeetPoint", apart := false }
def FnMeetPointSaid : Prop := fnMeetPointRow.holds Try.pinned (OpenSpec.ofChange fnMeetPointSpec)

/-- ITS FALSE NEIGHBOUR: 'it returns false'. Refute it at one input. -/
def fnMeetPointWrong : ChangeSpec := { name := "fnMeetPoint", fn := fun _ => fun
  | [d1, d2] => { results := [.lit (.bool false)], args := [d1, d2] }
  | _ => none }
def FnMeetPointWrongFalsely : Prop := fnMeetPointRow.holds Try.pinned (OpenSpec.ofChange fnMeetPointWrong)

/-- 'laws.FnLevelStart': WHATEVER THE INPUT: true; the input reads as it did. -/
def fnLevelStartSpec : ChangeSpec := { name := "fnLevelStart", fn := fun _ => fun
  | [d] => { results := [.lit (.bool true)], args := [d] }
  | _ => none }
def fnLevelStartRow : OpenClaim := { program := "ytgghfbkeipchkaa", sum := "14504e3e31d763eb248f3eb49a694f9004f7b61cb8f34ea0fb81ea286f127d5a", func := "loop.example/replayverifier/laws.FnLevelStart", spec := "fnLevelStart", unfollowed := true, recurses := true, apart := false }
def FnLevelStartSaid : Prop := fnLevelStartRow.holds Try.pinned (OpenSpec.ofChange fnLevelStartSpec)

/-- ITS FALSE NEIGHBOUR: 'it returns false'. Refute it at one input. -/
def fnLevelStartWrong : ChangeSpec := { name := "fnLevelStart", fn := fun _ => fun
  | [d] => { results := [.lit (.bool false)], args := [d] }
  | _ => none }
def FnLevelStartWrongFalsely : Prop := fnLevelStartRow.holds Try.pinned (OpenSpec.ofChange fnLevelStartWrong)

/-- 'laws.FnBans': WHATEVER THE INPUT: true; the input reads as it did. -/
def fnBansSpec : ChangeSpec := { name := "fnBans", fn := fun _ => fun
  | [d] => { results := [.lit (.bool true)], args := [d] }
  | _ => none }
def fnBansRow : OpenClaim := { program := "ytgghfbkeipchkaa", sum := "14504e3e31d763eb248f3eb49a694f9004f7b61cb8f34ea0fb81ea286f127d5a", func := "loop.example/replayverifier/laws.FnBans", spec := "fnBans", unfollowed := true, recurses := true, apart := false }
def FnBansSaid : Prop := fnBansRow.holds Try.pinned (OpenSpec.ofChange fnBansSpec)

/-- ITS FALSE NEIGHBOUR: 'it returns false'. Refute it at one input. -/
def fnBansWrong : ChangeSpec := { name := "fnBans", fn := fun _ => fun
  | [d] => { results := [.lit (.bool false)], args := [d] }
  | _ => none }
def FnBansWrongFalsely : Prop := fnBansRow.holds Try.pinned (OpenSpec.ofChange fnBansWrong)

/-- 'laws.FnBansNone': WHATEVER THE INPUT: true; the input reads as it did. -/
def fnBansNoneSpec : ChangeSpec := { name := "fnBansNone", fn := fun _ => fun
  | [d] => { results := [.lit (.bool true)], args := [d] }
  | _ => none }
def fnBansNoneRow : OpenClaim := { program := "ytgghfbkeipchkaa", sum := "14504e3e31d763eb248f3eb49a694f9004f7b61cb8f34ea0fb81ea286f127d5a", func := "loop.example/replayverifier/laws.FnBansNone", spec := "fnBansNone", unfollowed := true, recurses := true, apart := false }
def FnBansNoneSaid : Prop := fnBansNoneRow.holds Try.pinned (OpenSpec.ofChange fnBansNoneSpec)

/-- ITS FALSE NEIGHBOUR: 'it returns false'. Refute it at one input. -/
def fnBansNoneWrong : ChangeSpec := { name := "fnBansNone", fn := fun _ => fun
  | [d] => { results := [.lit (.bool false)], args := [d] }
  | _ => none }
def FnBansNoneWrongFalsely : Prop := fnBansNoneRow.holds Try.pinned (OpenSpec.ofChange fnBansNoneWrong)

/-- 'laws.FnLevelLess': WHATEVER THE INPUT: true; the input reads as it did. -/
def fnLevelLessSpec : ChangeSpec := { name := "fnLevelLess", fn := fun _ => fun
  | [d1, d2] => { results := [.lit (.bool true)], args := [d1, d2] }
  | _ => none }
def fnLevelLessRow : OpenClaim := { program := "ytgghfbkeipchkaa", sum := "14504e3e31d763eb248f3eb49a694f9004f7b61cb8f34ea0fb81ea286f127d5a", func := "loop.example/replayverifier/laws.FnLevelLess", spec := "fnLevelLess", unfollowed := true, recurses := true, apart := false }
def FnLevelLessSaid : Prop := fnLevelLessRow.holds Try.pinned (OpenSpec.ofChange fnLevelLessSpec)

/-- ITS FALSE NEIGHBOUR: 'it returns false'. Refute it at one input. -/
def fnLevelLessWrong : ChangeSpec := { name := "fnLevelLess", fn := fun _ => fun
  | [d1, d2] => { results := [.lit (.bool false)], args := [d1, d2] }
  | _ => none }
def FnLevelLessWrongFalsely : Prop := fnLevelLessRow.holds Try.pinned (OpenSpec.ofChange fnLevelLessWrong)

/-- 'laws.FnLevelFree': WHATEVER THE INPUT: true; the input reads as it did. -/
def fnLevelFreeSpec : ChangeSpec := { name := "fnLevelFree", fn := fun _ => fun
  | [d] => { results := [.lit (.bool true)], args := [d] }
  | _ => none }
def fnLevelFreeRow : OpenClaim := { program := "ytgghfbkeipchkaa", sum := "14504e3e31d763eb248f3eb49a694f9004f7b61cb8f34ea0fb81ea286f127d5a", func := "loop.example/replayverifier/laws.FnLevelFree", spec := "fnLevelFree", unfollowed := true, recurses := true, apart := false }
def FnLevelFreeSaid : Prop := fnLevelFreeRow.holds Try.pinned (OpenSpec.ofChange fnLevelFreeSpec)

/-- ITS FALSE NEIGHBOUR: 'it returns false'. Refute it at one input. -/
def fnLevelFreeWrong : ChangeSpec := { name := "fnLevelFree", fn := fun _ => fun
  | [d] => { results := [.lit (.bool false)], args := [d] }
  | _ => none }
def FnLevelFreeWrongFalsely : Prop := fnLevelFreeRow.holds Try.pinned (OpenSpec.ofChange fnLevelFreeWrong)

/-- 'laws.FnLevelGates': WHATEVER THE INPUT: true; the input reads as it did. -/
def fnLevelGatesSpec : ChangeSpec := { name := "fnLevelGates", fn := fun _ => fun
  | [d1, d2] => { results := [.lit (.bool true)], args := [d1, d2] }
  | _ => none }
def fnLevelGatesRow : OpenClaim := { program := "ytgghfbkeipchkaa", sum := "14504e3e31d763eb248f3eb49a694f9004f7b61cb8f34ea0fb81ea286f127d5a", func := "loop.example/replayverifier/laws.FnLevelGates", spec := "fnLevelGates", unfollowed := true, recurses := true, apart := false }
def FnLevelGatesSaid : Prop := fnLevelGatesRow.holds Try.pinned (OpenSpec.ofChange fnLevelGatesSpec)

/-- ITS FALSE NEIGHBOUR: 'it returns false'. Refute it at one input. -/
def fnLevelGatesWrong : ChangeSpec := { name := "fnLevelGates", fn := fun _ => fun
  | [d1, d2] => { results := [.lit (.bool false)], args := [d1, d2] }
  | _ => none }
def FnLevelGatesWrongFalsely : Prop := fnLevelGatesRow.holds Try.pinned (OpenSpec.ofChange fnLevelGatesWrong)

/-- 'laws.FnLevelHash': WHATEVER THE INPUT: true; the input reads as it did. -/
def fnLevelHashSpec : ChangeSpec := { name := "fnLevelHash", fn := fun _ => fun
  | [d1, d2] => { results := [.lit (.bool true)], args := [d1, d2] }
  | _ => none }
def fnLevelHashRow : OpenClaim := { program := "ytgghfbkeipchkaa", sum := "14504e3e31d763eb248f3eb49a694f9004f7b61cb8f34ea0fb81ea286f127d5a", func := "loop.example/replayverifier/laws.FnLevelHash", spec := "fnLevelHash", unfollowed := true, recurses := true, apart := false }
def FnLevelHashSaid : Prop := fnLevelHashRow.holds Try.pinned (OpenSpec.ofChange fnLevelHashSpec)

/-- ITS FALSE NEIGHBOUR: 'it returns false'. Refute it at one input. -/
def fnLevelHashWrong : ChangeSpec := { name := "fnLevelHash", fn := fun _ => fun
  | [d1, d2] => { results := [.lit (.bool false)], args := [d1, d2] }
  | _ => none }
def FnLevelHashWrongFalsely : Prop := fnLevelHashRow.holds Try.pinned (OpenSpec.ofChange fnLevelHashWrong)

/-- 'laws.FnLevelHashWalls': WHATEVER THE INPUT: true; the input reads as it did. -/
def fnLevelHashWallsSpec : ChangeSpec := { name := "fnLevelHashWalls", fn := fun _ => fun
  | [d1, d2] => { results := [.lit (.bool true)], args := [d1, d2] }
  | _ => none }
def fnLevelHashWallsRow : OpenClaim := { program := "ytgghfbkeipchkaa", sum := "14504e3e31d763eb248f3eb49a694f9004f7b61cb8f34ea0fb81ea286f127d5a", func := "loop.example/replayverifier/laws.FnLevelHashWalls", spec := "fnLevelHashWalls", unfollowed := true, recurses := true, apart := false }
def FnLevelHashWallsSaid : Prop := fnLevelHashWallsRow.holds Try.pinned (OpenSpec.ofChange fnLevelHashWallsSpec)

/-- ITS FALSE NEIGHBOUR: 'it returns false'. Refute it at one input. -/
def fnLevelHashWallsWrong : ChangeSpec := { name := "fnLevelHashWalls", fn := fun _ => fun
  | [d1, d2] => { results := [.lit (.bool false)], args := [d1, d2] }
  | _ => none }
def FnLevelHashWallsWrongFalsely : Prop := fnLevelHashWallsRow.holds Try.pinned (OpenSpec.ofChange fnLevelHashWallsWrong)

/-- 'laws.FnFollowsSelf': WHATEVER THE INPUT: true; the input reads as it did. -/
def fnFollowsSelfSpec : ChangeSpec := { name := "fnFollowsSelf", fn := fun _ => fun
  | [d] => { results := [.lit (.bool true)], args := [d] }
  | _ => none }
def fnFollowsSelfRow : OpenClaim := { program := "ytgghfbkeipchkaa", sum := "14504e3e31d763eb248f3eb49a694f9004f7b61cb8f34ea0fb81ea286f127d5a", func := "loop.example/replayverifier/laws.FnFollowsSelf", spec := "fnFollowsSelf", unfollowed := true, recurses := true, apart := false }
def FnFollowsSelfSaid : Prop := fnFollowsSelfRow.holds Try.pinned (OpenSpec.ofChange fnFollowsSelfSpec)

/-- ITS FALSE NEIGHBOUR: 'it returns false'. Refute it at one input. -/
def fnFollowsSelfWrong : ChangeSpec := { name := "fnFollowsSelf", fn := fun _ => fun
  | [d] => { results := [.lit (.bool false)], args := [d] }
  | _ => none }
def FnFollowsSelfWrongFalsely : Prop := fnFollowsSelfRow.holds Try.pinned (OpenSpec.ofChange fnFollowsSelfWrong)

/-- 'laws.FnFollowsSteer': WHATEVER THE INPUT: true; the input reads as it did. -/
def fnFollowsSteerSpec : ChangeSpec := { name := "fnFollowsSteer", fn := fun _ => fun
  | [d] => { results := [.lit (.bool true)], args := [d] }
  | _ => none }
def fnFollowsSteerRow : OpenClaim := { program := "ytgghfbkeipchkaa", sum := "14504e3e31d763eb248f3eb49a694f9004f7b61cb8f34ea0fb81ea286f127d5a", func := "loop.example/replayverifier/laws.FnFollowsSteer", spec := "fnFollowsSteer", unfollowed := true, recurses := true, apart := false }
def FnFollowsSteerSaid : Prop := fnFollowsSteerRow.holds Try.pinned (OpenSpec.ofChange fnFollowsSteerSpec)

/-- ITS FALSE NEIGHBOUR: 'it returns false'. Refute it at one input. -/
def fnFollowsSteerWrong : ChangeSpec := { name := "fnFollowsSteer", fn := fun _ => fun
  | [d] => { results := [.lit (.bool false)], args := [d] }
  | _ => none }
def FnFollowsSteerWrongFalsely : Prop := fnFollowsSteerRow.holds Try.pinned (OpenSpec.ofChange fnFollowsSteerWrong)

/-- 'laws.FnFollowsBans': WHATEVER THE INPUT: true; the input reads as it did. -/
def fnFollowsBansSpec : ChangeSpec := { name := "fnFollowsBans", fn := fun _ => fun
  | [d] => { results := [.lit (.bool true)], args := [d] }
  | _ => none }
def fnFollowsBansRow : OpenClaim := { program := "ytgghfbkeipchkaa", sum := "14504e3e31d763eb248f3eb49a694f9004f7b61cb8f34ea0fb81ea286f127d5a", func := "loop.example/replayverifier/laws.FnFollowsBans", spec := "fnFollowsBans", unfollowed := true, recurses := true, apart := false }
def FnFollowsBansSaid : Prop := fnFollowsBansRow.holds Try.pinned (OpenSpec.ofChange fnFollowsBansSpec)

/-- ITS FALSE NEIGHBOUR: 'it returns false'. Refute it at one input. -/
def fnFollowsBansWrong : ChangeSpec := { name := "fnFollowsBans", fn := fun _ => fun
  | [d] => { results := [.lit (.bool false)], args := [d] }
  | _ => none }
def FnFollowsBansWrongFalsely : Prop := fnFollowsBansRow.holds Try.pinned (OpenSpec.ofChange fnFollowsBansWrong)

/-- 'laws.FnExactInputFollows': WHATEVER THE INPUT: true; the input reads as it did. -/
def fnExactInputFollowsSpec : ChangeSpec := { name := "fnExactInputFollows", fn := fun _ => fun
  | [d1, d2, d3] => { results := [.lit (.bool true)], args := [d1, d2, d3] }
  | _ => none }
def fnExactInputFollowsRow : OpenClaim := { program := "ytgghfbkeipchkaa", sum := "14504e3e31d763eb248f3eb49a694f9004f7b61cb8f34ea0fb81ea286f127d5a", func := "loop.example/replayverifier/laws.FnExactInputFollows", spec := "fnExactInputFollows", unfollowed := true, recurses := true, apart := false }
def FnExactInputFollowsSaid : Prop := fnExactInputFollowsRow.holds Try.pinned (OpenSpec.ofChange fnExactInputFollowsSpec)

/-- ITS FALSE NEIGHBOUR: 'it returns false'. Refute it at one input. -/
def fnExactInputFollowsWrong : ChangeSpec := { name := "fnExactInputFollows", fn := fun _ => fun
  | [d1, d2, d3] => { results := [.lit (.bool false)], args := [d1, d2, d3] }
  | _ => none }
def FnExactInputFollowsWrongFalsely : Prop := fnExactInputFollowsRow.holds Try.pinned (OpenSpec.ofChange fnExactInputFollowsWrong)

/-- 'laws.FnExactInputsLegal': WHATEVER THE INPUT: true; the input reads as it did. -/
def fnExactInputsLegalSpec : ChangeSpec := { name := "fnExactInputsLegal", fn := fun _ => fun
  | [d1, d2] => { results := [.lit (.bool true)], args := [d1, d2] }
  | _ => none }
def fnExactInputsLegalRow : OpenClaim := { program := "ytgghfbkeipchkaa", sum := "14504e3e31d763eb248f3eb49a694f9004f7b61cb8f34ea0fb81ea286f127d5a", func := "loop.example/replayverifier/laws.FnExactInputsLegal", spec := "fnExactInputsLegal", unfollowed := true, recurses := true, apart := false }
def FnExactInputsLegalSaid : Prop := fnExactInputsLegalRow.holds Try.pinned (OpenSpec.ofChange fnExactInputsLegalSpec)

/-- ITS FALSE NEIGHBOUR: 'it returns false'. Refute it at one input. -/
def fnExactInputsLegalWrong : ChangeSpec := { name := "fnExactInputsLegal", fn := fun _ => fun
  | [d1, d2] => { results := [.lit (.bool false)], args := [d1, d2] }
  | _ => none }
def FnExactInputsLegalWrongFalsely : Prop := fnExactInputsLegalRow.holds Try.pinned (OpenSpec.ofChange fnExactInputsLegalWrong)

/- THE SECOND FORM. 'bulk': how many values and letters a reading holds, each counted each time it is reached (what is shared counts as often as it is met; a slice's spare places count too). A statement '..UptoSaid' is the law's where the arguments, and the package variables that the reading takes, are together of bulk at most 1048576: NARROWER than '..Said'. Prove '..Said' where nothing that the law and all that it calls make is longer than what came in: it says more and counts as full. Else prove '..UptoSaid'. A law counts once. -/
mutual
def uptoBulk {H : Type} : DataW H → Nat
  | .lit (.string bytes) => bytes.length + 1
  | .lit _ => 1
  | .nil => 1
  | .ptr d => uptoBulk d + 1
  | .slice elems spare => uptoBulkAll elems + uptoBulkAll spare + 1
  | .agg parts => uptoBulkAll parts + 1
  | .iface _ d => uptoBulk d + 1
  | .map entries => uptoBulkEntries entries + 1
  | .held _ => 1
def uptoBulkAll {H : Type} : List (DataW H) → Nat
  | [] => 0
  | d :: r => uptoBulk d + uptoBulkAll r
def uptoBulkEntries {H : Type} : List (Lit × DataW H) → Nat
  | [] => 0
  | x :: r => uptoBulkEntry x + uptoBulkEntries r
def uptoBulkEntry {H : Type} : Lit × DataW H → Nat
  | (.string bytes, d) => bytes.length + uptoBulk d + 1
  | (_, d) => uptoBulk d + 1
 end
def uptoSmall : (H : Type) → List (DataW H) → Bool := fun _ ds => decide (uptoBulkAll ds ≤ 1048576)
def OpenSpec.upto (s : _root_.Go.ChangeSpec) : _root_.Go.OpenSpec := { _root_.Go.OpenSpec.ofChange s with cond := some uptoSmall }

/-- 'laws.FnMeetPoint', WHERE WHAT IT READS IS OF BULK AT MOST 1048576: true; the input reads as it did. -/
def fnMeetPointUptoRow : OpenClaim := { program := "ytgghfbkeipchkaa", sum := "14504e3e31d763eb248f3eb49a694f9004f7b61cb8f34ea0fb81ea286f127d5a", func := "loop.example/replayverifier/laws.FnMeetPoint", spec := "fnMeetPoint", apart := false, narrowed := true }
def FnMeetPointUptoSaid : Prop := fnMeetPointUptoRow.holds Try.pinned (OpenSpec.upto fnMeetPointSpec)

/-- 'laws.FnLevelStart', WHERE WHAT IT READS IS OF BULK AT MOST 1048576: true; the input reads as it did. -/
def fnLevelStartUptoRow : OpenClaim := { program := "ytgghfbkeipchkaa", sum := "14504e3e31d763eb248f3eb49a694f9004f7b61cb8f34ea0fb81ea286f127d5a", func := "loop.example/replayverifier/laws.FnLevelStart", spec := "fnLevelStart", unfollowed := true, recurses := true, apart := false, narrowed := true }
def FnLevelStartUptoSaid : Prop := fnLevelStartUptoRow.holds Try.pinned (OpenSpec.upto fnLevelStartSpec)

/-- 'laws.FnBans', WHERE WHAT IT READS IS OF BULK AT MOST 1048576: true; the input reads as it did. -/
def fnBansUptoRow : OpenClaim := { program := "ytgghfbkeipchkaa", sum := "14504e3e31d763eb248f3eb49a694f9004f7b61cb8f34ea0fb81ea286f127d5a", func := "loop.example/replayverifier/laws.FnBans", spec := "fnBans", unfollowed := true, recurses := true, apart := false, narrowed := true }
def FnBansUptoSaid : Prop := fnBansUptoRow.holds Try.pinned (OpenSpec.upto fnBansSpec)

/-- 'laws.FnBansNone', WHERE WHAT IT READS IS OF BULK AT MOST 1048576: true; the input reads as it did. -/
def fnBansNoneUptoRow : OpenClaim := { program := "ytgghfbkeipchkaa", sum := "14504e3e31d763eb248f3eb49a694f9004f7b61cb8f34ea0fb81ea286f127d5a", func := "loop.example/replayverifier/laws.FnBansNone", spec := "fnBansNone", unfollowed := true, recurses := true, apart := false, narrowed := true }
def FnBansNoneUptoSaid : Prop := fnBansNoneUptoRow.holds Try.pinned (OpenSpec.upto fnBansNoneSpec)

/-- 'laws.FnLevelLess', WHERE WHAT IT READS IS OF BULK AT MOST 1048576: true; the input reads as it did. -/
def fnLevelLessUptoRow : OpenClaim := { program := "ytgghfbkeipchkaa", sum := "14504e3e31d763eb248f3eb49a694f9004f7b61cb8f34ea0fb81ea286f127d5a", func := "loop.example/replayverifier/laws.FnLevelLess", spec := "fnLevelLess", unfollowed := true, recurses := true, apart := false, narrowed := true }
def FnLevelLessUptoSaid : Prop := fnLevelLessUptoRow.holds Try.pinned (OpenSpec.upto fnLevelLessSpec)

/-- 'laws.FnLevelFree', WHERE WHAT IT READS IS OF BULK AT MOST 1048576: true; the input reads as it did. -/
def fnLevelFreeUptoRow : OpenClaim := { program := "ytgghfbkeipchkaa", sum := "14504e3e31d763eb248f3eb49a694f9004f7b61cb8f34ea0fb81ea286f127d5a", func := "loop.example/replayverifier/laws.FnLevelFree", spec := "fnLevelFree", unfollowed := true, recurses := true, apart := false, narrowed := true }
def FnLevelFreeUptoSaid : Prop := fnLevelFreeUptoRow.holds Try.pinned (OpenSpec.upto fnLevelFreeSpec)

/-- 'laws.FnLevelGates', WHERE WHAT IT READS IS OF BULK AT MOST 1048576: true; the input reads as it did. -/
def fnLevelGatesUptoRow : OpenClaim := { program := "ytgghfbkeipchkaa", sum := "14504e3e31d763eb248f3eb49a694f9004f7b61cb8f34ea0fb81ea286f127d5a", func := "loop.example/replayverifier/laws.FnLevelGates", spec := "fnLevelGates", unfollowed := true, recurses := true, apart := false, narrowed := true }
def FnLevelGatesUptoSaid : Prop := fnLevelGatesUptoRow.holds Try.pinned (OpenSpec.upto fnLevelGatesSpec)

/-- 'laws.FnLevelHash', WHERE WHAT IT READS IS OF BULK AT MOST 1048576: true; the input reads as it did. -/
def fnLevelHashUptoRow : OpenClaim := { program := "ytgghfbkeipchkaa", sum := "14504e3e31d763eb248f3eb49a694f9004f7b61cb8f34ea0fb81ea286f127d5a", func := "loop.example/replayverifier/laws.FnLevelHash", spec := "fnLevelHash", unfollowed := true, recurses := true, apart := false, narrowed := true }
def FnLevelHashUptoSaid : Prop := fnLevelHashUptoRow.holds Try.pinned (OpenSpec.upto fnLevelHashSpec)

/-- 'laws.FnLevelHashWalls', WHERE WHAT IT READS IS OF BULK AT MOST 1048576: true; the input reads as it did. -/
def fnLevelHashWallsUptoRow : OpenClaim := { program := "ytgghfbkeipchkaa", sum := "14504e3e31d763eb248f3eb49a694f9004f7b61cb8f34ea0fb81ea286f127d5a", func := "loop.example/replayverifier/laws.FnLevelHashWalls", spec := "fnLevelHashWalls", unfollowed := true, recurses := true, apart := false, narrowed := true }
def FnLevelHashWallsUptoSaid : Prop := fnLevelHashWallsUptoRow.holds Try.pinned (OpenSpec.upto fnLevelHashWallsSpec)

/-- 'laws.FnFollowsSelf', WHERE WHAT IT READS IS OF BULK AT MOST 1048576: true; the input reads as it did. -/
def fnFollowsSelfUptoRow : OpenClaim := { program := "ytgghfbkeipchkaa", sum := "14504e3e31d763eb248f3eb49a694f9004f7b61cb8f34ea0fb81ea286f127d5a", func := "loop.example/replayverifier/laws.FnFollowsSelf", spec := "fnFollowsSelf", unfollowed := true, recurses := true, apart := false, narrowed := true }
def FnFollowsSelfUptoSaid : Prop := fnFollowsSelfUptoRow.holds Try.pinned (OpenSpec.upto fnFollowsSelfSpec)

/-- 'laws.FnFollowsSteer', WHERE WHAT IT READS IS OF BULK AT MOST 1048576: true; the input reads as it did. -/
def fnFollowsSteerUptoRow : OpenClaim := { program := "ytgghfbkeipchkaa", sum := "14504e3e31d763eb248f3eb49a694f9004f7b61cb8f34ea0fb81ea286f127d5a", func := "loop.example/replayverifier/laws.FnFollowsSteer", spec := "fnFollowsSteer", unfollowed := true, recurses := true, apart := false, narrowed := true }
def FnFollowsSteerUptoSaid : Prop := fnFollowsSteerUptoRow.holds Try.pinned (OpenSpec.upto fnFollowsSteerSpec)

/-- 'laws.FnFollowsBans', WHERE WHAT IT READS IS OF BULK AT MOST 1048576: true; the input reads as it did. -/
def fnFollowsBansUptoRow : OpenClaim := { program := "ytgghfbkeipchkaa", sum := "14504e3e31d763eb248f3eb49a694f9004f7b61cb8f34ea0fb81ea286f127d5a", func := "loop.example/replayverifier/laws.FnFollowsBans", spec := "fnFollowsBans", unfollowed := true, recurses := true, apart := false, narrowed := true }
def FnFollowsBansUptoSaid : Prop := fnFollowsBansUptoRow.holds Try.pinned (OpenSpec.upto fnFollowsBansSpec)

/-- 'laws.FnExactInputFollows', WHERE WHAT IT READS IS OF BULK AT MOST 1048576: true; the input reads as it did. -/
def fnExactInputFollowsUptoRow : OpenClaim := { program := "ytgghfbkeipchkaa", sum := "14504e3e31d763eb248f3eb49a694f9004f7b61cb8f34ea0fb81ea286f127d5a", func := "loop.example/replayverifier/laws.FnExactInputFollows", spec := "fnExactInputFollows", unfollowed := true, recurses := true, apart := false, narrowed := true }
def FnExactInputFollowsUptoSaid : Prop := fnExactInputFollowsUptoRow.holds Try.pinned (OpenSpec.upto fnExactInputFollowsSpec)

/-- 'laws.FnExactInputsLegal', WHERE WHAT IT READS IS OF BULK AT MOST 1048576: true; the input reads as it did. -/
def fnExactInputsLegalUptoRow : OpenClaim := { program := "ytgghfbkeipchkaa", sum := "14504e3e31d763eb248f3eb49a694f9004f7b61cb8f34ea0fb81ea286f127d5a", func := "loop.example/replayverifier/laws.FnExactInputsLegal", spec := "fnExactInputsLegal", unfollowed := true, recurses := true, apart := false, narrowed := true }
def FnExactInputsLegalUptoSaid : Prop := fnExactInputsLegalUptoRow.holds Try.pinned (OpenSpec.upto fnExactInputsLegalSpec)

end Rows
end Go.Proofs.Ytgghfbkeipchkaa
