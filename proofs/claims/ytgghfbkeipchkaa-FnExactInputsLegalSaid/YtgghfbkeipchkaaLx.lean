/- The walks of FnExactLevelValid, FnExactLevelFree, FnExactLevelBans. -/
import Derived.Test.YtgghfbkeipchkaaTp
import Derived.Test.YtgghfbkeipchkaaLe
import Derived.Deep.RegionHeld3
import Derived.StillTailTactics
set_option linter.unusedVariables false
namespace Go.Proofs.Ytgghfbkeipchkaa
open Go.RowKit

theorem re_ok (l : Lv) (wa : Option Addr) (wc : Nat) (ga : Option Addr) (gc : Nat) : (l.re wa wc ga gc).ok = l.ok := rfl
theorem re_bansB (l : Lv) (wa : Option Addr) (wc : Nat) (ga : Option Addr) (gc : Nat) (n : Int) : (l.re wa wc ga gc).bansB n = l.bansB n := rfl
theorem re_freeB (l : Lv) (wa : Option Addr) (wc : Nat) (ga : Option Addr) (gc : Nat) (x y : Int) : ((l.re wa wc ga gc).ok && vokB x y && frB (l.re wa wc ga gc).wf x y (l.re wa wc ga gc).wn) = (l.ok && vokB x y && frB l.wf x y l.wn) := rfl
/-- a level that came in -/
def LvIn (w : World) (l : Lv) : Prop := LvAt w l ∧ l.wn ≤ maxLen ∧ l.gn ≤ maxLen

end Go.Proofs.Ytgghfbkeipchkaa
