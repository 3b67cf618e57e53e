/- A region that draws its order, that reads and calls what lays blocks alone: one walk serves every order. The class of worlds: whatever leaves the old blocks as they were. -/
import Derived.Test.YtgiadgbfeldheaaA
import Derived.Deep.QuietTactic
import Derived.BigQuiet
import Derived.Lib.Hide
namespace Go.Proofs.Ytgiadgbfeldheaa
open Go.RowKit

/-- a world that leaves w's blocks as they were -/
structure BelW (w : World) where
  wo : World
  be : Below w.heap.size w wo
instance (w : World) : Nonempty (BelW w) := ⟨⟨w, Below.refl _ _⟩⟩
theorem BelW.cell {w : World} (p : BelW w) {b o : Nat} {v : Value} (h : w.cell? ⟨b, o, none⟩ = some v) (hb : b < w.heap.size) : p.wo.cell? ⟨b, o, none⟩ = some v := (p.be.cell (p := ⟨b, o, none⟩) hb).trans h
theorem BelW.cell_eq {w : World} (p : BelW w) (b o : Nat) (hb : b < w.heap.size) : p.wo.cell? ⟨b, o, none⟩ = w.cell? ⟨b, o, none⟩ := p.be.cell (p := ⟨b, o, none⟩) hb
theorem nl1 (n : Nat) : n < n + 1 := by omega
theorem nl2 (n : Nat) : n < n + 1 + 1 := by omega
theorem nl3 (n : Nat) : n < n + 1 + 1 + 1 := by omega
theorem nl4 (n : Nat) : n + 1 < n + 1 + 1 := by omega
theorem nl5 (n : Nat) : n + 1 < n + 1 + 1 + 1 := by omega
theorem nl6 (n : Nat) : n + 2 < n + 1 + 1 + 1 := by omega
theorem nl7 (n : Nat) : n < n + 2 := by omega
theorem nl8 (n : Nat) : n < n + 3 := by omega
theorem nl9 (n : Nat) : n + 1 < n + 2 := by omega
theorem nl10 (n : Nat) : n + 1 < n + 3 := by omega
theorem nl11 (n : Nat) : n + 2 < n + 3 := by omega
theorem region_bel {P : Program} {id : Nat} {Q : Exit → Act → World → Prop} {a : Act} {w : World} {l : List Oper} (hm : P.follows .mixedOrders = true) (hB : Region.lexB .any l.toArray = true)
    (h : wpQuiet P l.toArray (fun w' => ∃ p : BelW w, w' = p.wo) (fun a' => ∀ w', (∃ p : BelW w, w' = p.wo) → Q .normal a' w') l a) : (Code.region id l.toArray true).wp P Q a w :=
  wp_region_quiet (C := fun w' => ∃ p : BelW w, w' = p.wo) hm hB ⟨⟨w.drew, Below.drew (Below.refl _ _)⟩, rfl⟩ (by simpa using h)
theorem calls_bel {P : Program} {f : FuncId} {args : Array Value} {w : World} {p : BelW w} {v : Value}
    (h : Calls P f args p.wo fun e w' => e = .returned v ∧ Below p.wo.heap.size p.wo w') : Calls P f args p.wo fun e w'' => e = .returned v ∧ ∃ q : BelW w, w'' = q.wo :=
  h.mono fun _ w'' ⟨he, hb⟩ => ⟨he, ⟨w'', p.be.trans (hb.mono p.be.size)⟩, rfl⟩
theorem calls_bel0 {P : Program} {f : FuncId} {args : Array Value} {w : World} {p : BelW w} {v : Value}
    (h : Calls P f args p.wo fun e w' => e = .returned v ∧ p.wo = w') : Calls P f args p.wo fun e w'' => e = .returned v ∧ ∃ q : BelW w, w'' = q.wo :=
  h.mono fun _ _ ⟨he, hb⟩ => ⟨he, p, hb.symm⟩

/-- two vectors are equal, two boxes are -/
def vq (a b a' b' : Int) : Bool := (a == a') && (b == b')
def bq (a b c d a' b' c' d' : Int) : Bool := vq a b a' b' && vq c d c' d'
theorem vq_def (a b a' b' : Int) : vq a b a' b' = ((a == a') && (b == b')) := rfl
theorem vq_self (a b : Int) : vq a b a b = true := by simp [vq]
theorem bq_self (a b c d : Int) : bq a b c d a b c d = true := by simp [bq, vq]
theorem run_eqlVec (a b a' b' : Int) (w : World) : (binOp .eql 34 (.agg #[.int .i64 a, .int .i64 b]) (.agg #[.int .i64 a', .int .i64 b'])).run Try.prog w = .ok (.bool (vq a b a' b')) w := by
  by_cases h1 : a = a' <;> by_cases h2 : b = b' <;> simp [go_sem, vq, h1, h2]
theorem run_neqVec (a b a' b' : Int) (w : World) : (binOp .neq 34 (.agg #[.int .i64 a, .int .i64 b]) (.agg #[.int .i64 a', .int .i64 b'])).run Try.prog w = .ok (.bool (!vq a b a' b')) w := by
  by_cases h1 : a = a' <;> by_cases h2 : b = b' <;> simp [go_sem, vq, h1, h2]
theorem run_neqBox (a b c d a' b' c' d' : Int) (w : World) : (binOp .neq 41 (.agg #[.int .i64 a, .int .i64 b, .int .i64 c, .int .i64 d]) (.agg #[.int .i64 a', .int .i64 b', .int .i64 c', .int .i64 d'])).run Try.prog w = .ok (.bool (!bq a b c d a' b' c' d')) w := by
  by_cases h1 : a = a' <;> by_cases h2 : b = b' <;> by_cases h3 : c = c' <;> by_cases h4 : d = d' <;> simp [go_sem, vq, bq, h1, h2, h3, h4]
attribute [irreducible] vq bq
end Go.Proofs.Ytgiadgbfeldheaa
