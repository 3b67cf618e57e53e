/- Plain laws: the hash of a state; its numbers as a list. -/
import Derived.Test.YtgiadgbfeldheaaHl
import Derived.Test.YtgiadgbfeldheaaMc
set_option linter.unusedVariables false
namespace Go.Proofs.Ytgiadgbfeldheaa
open Go.RowKit

/-- a state's flag, its numbers, its hash -/
def St.flag (s : St) : Int := if s.done then 1 else if s.over then 2 else 0
def St.nums (s : St) : List Int := [s.tick, s.ax, s.ay, s.fx, s.fy, s.turn, s.gate, s.flag]
def St.hash (s : St) : Int := s.nums.foldl hst 17
def St.hashV (s : St) : Int := if s.own then s.hash else -1
theorem St.hash_def (s : St) : s.hash = s.nums.foldl hst 17 := rfl
theorem St.hash_lo (s : St) : 0 ≤ s.hash := fold_lo _ (by omega)
theorem St.hash_hi (s : St) : s.hash < 1000003 := fold_hi _ (by omega)
theorem St.hashV_t {s : St} (h : s.own = true) : s.hashV = s.hash := by rw [St.hashV, h]; rfl
theorem St.hashV_f {s : St} (h : s.own = false) : s.hashV = -1 := by rw [St.hashV, h]; rfl
attribute [irreducible] St.hash
end Go.Proofs.Ytgiadgbfeldheaa
