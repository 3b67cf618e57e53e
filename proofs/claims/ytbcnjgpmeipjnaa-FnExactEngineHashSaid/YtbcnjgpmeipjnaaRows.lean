/-
  No cell of these rows narrows 'for every input' (looked for: loops, veiled, ifaces, maps, wideKeys, modest, calm, conditions, laid).
  DERIVED. THE GIVEN ROWS OF THIS SEAT. 4 by the template 'for every input the law returns true; each argument reads behind the call as it read before'; 0 by the template 'total and deterministic' (their statements: YtbcnjgpmeipjnaaTotals.lean).
  GIVEN WITH THE SEED: the statements are not yours to turn. If you find one false, say at which input.
  Laid BY PROGRAM, IN A SANDBOX (cutbox-rows.mjs): the forced cells as the released guide's own fill.sh prints them over the translation 7c8c0d8028815fb4… (all of the seat's roots in one cut). By AI agents, Wed Nov 11 2026. No macro, syntax, notation, axiom, sorry.
-/
import Derived.Test.YtbcnjgpmeipjnaaChecked
import GoSem.Claim
import GoSem.ClaimJoined
import GoSem.ClaimMapViews
import Derived.JoinedTies
import Derived.KernelRfl
namespace Go.Proofs.Ytbcnjgpmeipjnaa
/- THE CELL 'sum', in the pinned program and in every row, IS THE sha256 OF THE DUMP (.gsa) THAT YtbcnjgpmeipjnaaProg.lean LOADS. Nothing in Lean hashes anything: it is a label: what it is worth is what the hold of that sum in a sandbox is worth. -/
noncomputable def Try.pinned : Pinned := { name := "ytbcnjgpmeipjnaa", sum := "7c8c0d8028815fb4cc6c11462a9e401a8f5c246480711bbb99af07e65b7e45e0", checked := Try.checked }
namespace Rows
def none {H : Type} : Left H := { results := [], args := [] }

/-- 'laws.FnExactEngineStart': WHATEVER THE INPUT: true; the input reads as it did. -/
def fnExactEngineStartSpec : ChangeSpec := { name := "fnExactEngineStart", fn := fun _ => fun
  | [d] => { results := [.lit (.bool true)], args := [d] }
  | _ => none }
def fnExactEngineStartRow : OpenClaim := { program := "ytbcnjgpmeipjnaa", sum := "7c8c0d8028815fb4cc6c11462a9e401a8f5c246480711bbb99af07e65b7e45e0", func := "loop.example/replayverifier/laws.FnExactEngineStart", spec := "fnExactEngineStart", unfollowed := true, recurses := true, apart := false }
def FnExactEngineStartSaid : Prop := fnExactEngineStartRow.holds Try.pinned (OpenSpec.ofChange fnExactEngineStartSpec)

/-- ITS FALSE NEIGHBOUR: 'it returns false'. Refute it at one input. -/
def fnExactEngineStartWrong : ChangeSpec := { name := "fnExactEngineStart", fn := fun _ => fun
  | [d] => { results := [.lit (.bool false)], args := [d] }
  | _ => none }
def FnExactEngineStartWrongFalsely : Prop := fnExactEngineStartRow.holds Try.pinned (OpenSpec.ofChange fnExactEngineStartWrong)

/-- 'laws.FnExactEngineValid': WHATEVER THE INPUT: true; the input reads as it did. -/
def fnExactEngineValidSpec : ChangeSpec := { name := "fnExactEngineValid", fn := fun _ => fun
  | [d1, d2] => { results := [.lit (.bool true)], args := [d1, d2] }
  | _ => none }
def fnExactEngineValidRow : OpenClaim := { program := "ytbcnjgpmeipjnaa", sum := "7c8c0d8028815fb4cc6c11462a9e401a8f5c246480711bbb99af07e65b7e45e0", func := "loop.example/replayverifier/laws.FnExactEngineValid", spec := "fnExactEngineValid", unfollowed := true, recurses := true, apart := false }
def FnExactEngineValidSaid : Prop := fnExactEngineValidRow.holds Try.pinned (OpenSpec.ofChange fnExactEngineValidSpec)

/-- ITS FALSE NEIGHBOUR: 'it returns false'. Refute it at one input. -/
def fnExactEngineValidWrong : ChangeSpec := { name := "fnExactEngineValid", fn := fun _ => fun
  | [d1, d2] => { results := [.lit (.bool false)], args := [d1, d2] }
  | _ => none }
def FnExactEngineValidWrongFalsely : Prop := fnExactEngineValidRow.holds Try.pinned (OpenSpec.ofChange fnExactEngineValidWrong)

/-- 'laws.FnExactEngineSpeed': WHATEVER THE INPUT: true; the input reads as it did. -/
def fnExactEngineSpeedSpec : ChangeSpec := { name := "fnExactEngineSpeed", fn := fun _ => fun
  | [d] => { results := [.lit (.bool true)], args := [d] }
  | _ => none }
def fnExactEngineSpeedRow : OpenClaim := { program := "ytbcnjgpmeipjnaa", sum := "7c8c0d8028815fb4cc6c11462a9e401a8f5c246480711bbb99af07e65b7e45e0", func := "loop.example/replayverifier/laws.FnExactEngineSpeed", spec := "fnExactEngineSpeed", apart := false }
def FnExactEngineSpeedSaid : Prop := fnExactEngineSpeedRow.holds Try.pinned (OpenSpec.ofChange fnExactEngineSpeedSpec)

/-- ITS FALSE NEIGHBOUR: 'it returns false'. Refute it at one input. -/
def fnExactEngineSpeedWrong : ChangeSpec := { name := "fnExactEngineSpeed", fn := fun _ => fun
  | [d] => { results := [.lit (.bool false)], args := [d] }
  | _ => none }
def FnExactEngineSpeedWrongFalsely : Prop := fnExactEngineSpeedRow.holds Try.pinned (OpenSpec.ofChange fnExactEngineSpeedWrong)

/-- 'laws.FnExactEngineHash': WHATEVER THE INPUT: true; the input reads as it did. -/
def fnExactEngineHashSpec : ChangeSpec := { name := "fnExactEngineHash", fn := fun _ => fun
  | [d] => { results := [.lit (.bool true)], args := [d] }
  | _ => none }
def fnExactEngineHashRow : OpenClaim := { program := "ytbcnjgpmeipjnaa", sum := "7c8c0d8028815fb4cc6c11462a9e401a8f5c246480711bbb99af07e65b7e45e0", func := "loop.example/replayverifier/laws.FnExactEngineHash", spec := "fnExactEngineHash", unfollowed := true, recurses := true, apart := false }
def FnExactEngineHashSaid : Prop := fnExactEngineHashRow.holds Try.pinned (OpenSpec.ofChange fnExactEngineHashSpec)

/-- ITS FALSE NEIGHBOUR: 'it returns false'. Refute it at one input. -/
def fnExactEngineHashWrong : ChangeSpec := { name := "fnExactEngineHash", fn := fun _ => fun
  | [d] => { results := [.lit (.bool false)], args := [d] }
  | _ => none }
def FnExactEngineHashWrongFalsely : Prop := fnExactEngineHashRow.holds Try.pinned (OpenSpec.ofChange fnExactEngineHashWrong)

/- THE SECOND FORM. 'bulk': how many values and letters a reading holds, each counted each time it is reached (what is shared counts as often as it is met; a slice's spare places count too). A statement '..UptoSaid' is the law's where the arguments, and the package variables that the reading takes, are together of bulk at most 1048576: NARROWER than '..Said'. Prove '..Said' where nothing that the law and all that it calls make is longer than what came in: it says more and counts as full. Else prove '..UptoSaid'. A law counts once. -/
mutual
def uptoBulk {H : Type} : DataW H → Nat
  | .lit (.string bytes) => bytes.length + 1
  | .lit _ => 1
  | .nil => 1
  | .ptr d => uptoBulk d + 1
  | .slice elems spare => uptoBulkAll elems + uptoBulkAll spare + 1
  | .agg parts => uptoBulkAll parts + 1
  | .iface _ d => uptoBulk d + 1
  | .map entries => uptoBulkEntries entries + 1
  | .held _ => 1
def uptoBulkAll {H : Type} : List (DataW H) → Nat
  | [] => 0
  | d :: r => uptoBulk d + uptoBulkAll r
def uptoBulkEntries {H : Type} : List (Lit × DataW H) → Nat
  | [] => 0
  | x :: r => uptoBulkEntry x + uptoBulkEntries r
def uptoBulkEntry {H : Type} : Lit × DataW H → Nat
  | (.string bytes, d) => bytes.length + uptoBulk d + 1
  | (_, d) => uptoBulk d + 1
 end
def uptoSmall : (H : Type) → List (DataW H) → Bool := fun _ ds => decide (uptoBulkAll ds ≤ 1048576)
def OpenSpec.upto (s : _root_.Go.ChangeSpec) : _root_.Go.OpenSpec := { _root_.Go.OpenSpec.ofChange s with cond := some uptoSmall }

/-- 'laws.FnExactEngineStart', WHERE WHAT IT READS IS OF BULK AT MOST 1048576: true; the input reads as it did. -/
def fnExactEngineStartUptoRow : OpenClaim := { program := "ytbcnjgpmeipjnaa", sum := "7c8c0d8028815fb4cc6c11462a9e401a8f5c246480711bbb99af07e65b7e45e0", func := "loop.example/replayverifier/laws.FnExactEngineStart", spec := "fnExactEngineStart", unfollowed := true, recurses := true, apart := false, narrowed := true }
def FnExactEngineStartUptoSaid : Prop := fnExactEngineStartUptoRow.holds Try.pinned (OpenSpec.upto fnExactEngineStartSpec)

/-- 'laws.FnExactEngineValid', WHERE WHAT IT READS IS OF BULK AT MOST 1048576: true; the input reads as it did. -/
def fnExactEngineValidUptoRow : OpenClaim := { program := "ytbcnjgpmeipjnaa", sum := "7c8c0d8028815fb4cc6c11462a9e401a8f5c246480711bbb99af07e65b7e45e0", func := "loop.example/replayverifier/laws.FnExactEngineValid", spec := "fnExactEngineValid", unfollowed := true, recurses := true, apart := false, narrowed := true }
def FnExactEngineValidUptoSaid : Prop := fnExactEngineValidUptoRow.holds Try.pinned (OpenSpec.upto fnExactEngineValidSpec)

/-- 'laws.FnExactEngineSpeed', WHERE WHAT IT READS IS OF BULK AT MOST 1048576: true; the input reads as it did. -/
def fnExactEngineSpeedUptoRow : OpenClaim := { program := "ytbcnjgpmeipjnaa", sum := "7c8c0d8028815fb4cc6c11462a9e401a8f5c246480711bbb99af07e65b7e45e0", func := "loop.example/replayverifier/laws.FnExactEngineSpeed", spec := "fnExactEngineSpeed", apart := false, narrowed := true }
def FnExactEngineSpeedUptoSaid : Prop := fnExactEngineSpeedUptoRow.holds Try.pinned (OpenSpec.upto fnExactEngineSpeedSpec)

/-- 'laws.FnExactEngineHash', WHERE WHAT IT READS IS OF BULK AT MOST 1048576: true; the input reads as it did. -/
def fnExactEngineHashUptoRow : OpenClaim := { program := "ytbcnjgpmeipjnaa", sum := "7c8c0d8028815fb4cc6c11462a9e401a8f5c246480711bbb99af07e65b7e45e0", func := "loop.example/replayverifier/laws.FnExactEngineHash", spec := "fnExactEngineHash", unfollowed := true, recurses := true, apart := false, narrowed := true }
def FnExactEngineHashUptoSaid : Prop := fnExactEngineHashUptoRow.holds Try.pinned (OpenSpec.upto fnExactEngineHashSpec)

end Rows
end Go.Proofs.Ytbcnjgpmeipjnaa
