/- Plain laws of levels: fewer walls, what is forbidden. No program in sight. -/
import Derived.Test.YtgghfbkeipchkaaHl
set_option linter.unusedVariables false
namespace Go.Proofs.Ytgghfbkeipchkaa
open Go

theorem bxsB_all {f : Nat → Bx} : ∀ {n : Nat}, (∀ i, i < n → (f i).ok = true) → bxsB f n = true
  | 0, _ => rfl
  | n + 1, h => by rw [bxsB, bxsB_all (n := n) (fun i hi => h i (by omega)), h n (by omega)]; rfl
theorem frB_all {f : Nat → Bx} {x y : Int} : ∀ {n : Nat}, (∀ i, i < n → (f i).far x y = true) → frB f x y n = true
  | 0, _ => rfl
  | n + 1, h => by rw [frB, frB_all (n := n) (fun i hi => h i (by omega)), h n (by omega)]; rfl
/-- the boxes without one of them -/
def rmB (f : Nat → Bx) (k : Nat) : Nat → Bx := fun i => if i < k then f i else f (i + 1)
theorem rmB_ok {f : Nat → Bx} {k n : Nat} (hk : k < n) (h : bxsB f n = true) : bxsB (rmB f k) (n - 1) = true := bxsB_all fun i hi => by
  unfold rmB
  split
  · exact bxsB_at h i (by omega)
  · exact bxsB_at h (i + 1) (by omega)
theorem rmB_far {f : Nat → Bx} {k n : Nat} {x y : Int} (hk : k < n) (h : frB f x y n = true) : frB (rmB f k) x y (n - 1) = true := frB_all fun i hi => by
  unfold rmB
  split
  · exact frB_at h i (by omega)
  · exact frB_at h (i + 1) (by omega)
/-- a level with other walls -/
theorem Lv.ok_mk {l : Lv} (h1 : inB l.id 0 99 = true) (h2 : inB l.ticks 1 60 = true) (h3 : vokB l.sx l.sy = true) (h4 : l.wn ≤ 4) (h5 : bxsB l.wf l.wn = true) (h6 : l.gn ≤ 3) (h7 : bxsB l.gf l.gn = true) (h8 : bxB l.flx l.fly l.fhx l.fhy = true) (h9 : inB l.bans 0 3 = true) (h10 : frB l.wf l.sx l.sy l.wn = true) : l.ok = true := by
  simp only [Lv.ok, h1, h2, h3, h5, h7, h8, h9, h10, decide_eq_true h4, decide_eq_true h6, Bool.and_self]
theorem bxsB_le {f : Nat → Bx} {n m : Nat} (h : bxsB f n = true) (hm : m ≤ n) : bxsB f m = true := bxsB_all fun i hi => bxsB_at h i (by omega)
end Go.Proofs.Ytgghfbkeipchkaa
