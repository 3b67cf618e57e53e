/- Plain laws: a tick with the check of its arguments. No program in sight. -/
import Derived.Test.YtnhjalijnociaaaQar
import Derived.Test.YtnhjalijnociaaaQaa
set_option linter.unusedVariables false
namespace Go.Proofs.Ytnhjalijnociaaa
open Go

/-- the arguments of a tick are valid -/
def stepB (l : Lv) (s : St) (d p : Int) (b : Bool) : Bool := s.okIn l && inpV d p b && !(decide (l.ticks ≤ s.tick) && !s.done && !s.over)
def St.zero : St := ⟨0, 0, 0, 0, 0, 0, 0, false, false⟩
/-- .. and what it hands back -/
def stepV (l : Lv) (s : St) (d p : Int) (b : Bool) : St := if stepB l s d p b then stepF l s d p b else St.zero
theorem stepV_t {l : Lv} {s : St} {d p : Int} {b : Bool} (h : stepB l s d p b = true) : stepV l s d p b = stepF l s d p b := by rw [stepV, if_pos h]
theorem stepV_f {l : Lv} {s : St} {d p : Int} {b : Bool} (h : stepB l s d p b = false) : stepV l s d p b = St.zero := by rw [stepV, if_neg (by simp [h])]
theorem stepB_is {l : Lv} {s : St} {d p : Int} {b : Bool} (h : stepB l s d p b = true) : s.okIn l = true ∧ inpV d p b = true ∧ (s.done = true ∨ s.over = true ∨ s.tick < l.ticks) := by
  simp only [stepB, Bool.and_eq_true, Bool.not_eq_true', Bool.and_eq_false_iff, decide_eq_false_iff_not, Bool.not_eq_false'] at h
  obtain ⟨⟨h1, h2⟩, h3⟩ := h
  refine ⟨h1, h2, ?_⟩
  rcases h3 with (h3 | h3) | h3
  · exact .inr (.inr (by omega))
  · exact .inl h3
  · exact .inr (.inl h3)
theorem stepB_mk {l : Lv} {s : St} {d p : Int} {b : Bool} (h1 : s.okIn l = true) (h2 : inpV d p b = true) (h3 : s.done = true ∨ s.over = true ∨ s.tick < l.ticks) : stepB l s d p b = true := by
  simp only [stepB, h1, h2, Bool.true_and, Bool.not_eq_true', Bool.and_eq_false_iff, decide_eq_false_iff_not, Bool.not_eq_false']
  rcases h3 with h3 | h3 | h3
  · exact .inl (.inr h3)
  · exact .inr h3
  · exact .inl (.inl (by omega))
theorem Lv.ok_bd {l : Lv} (h : l.ok = true) : l.gn ≤ 3 ∧ l.wn ≤ 4 ∧ 1 ≤ l.ticks ∧ l.ticks ≤ 60 := by
  simp only [Lv.ok, Bool.and_eq_true, decide_eq_true_eq] at h
  obtain ⟨⟨⟨⟨⟨⟨⟨⟨⟨h1, h2⟩, h3⟩, h4⟩, h5⟩, h6⟩, h7⟩, h8⟩, h9⟩, h10⟩ := h
  have := inB_true h2
  omega
/-- what a tick needs of its arguments -/
structure StepIn (l : Lv) (s : St) (d p : Int) (b : Bool) : Prop where
  lok : l.ok = true
  ok : s.Ok l
  inp : inpV d p b = true
  on : s.done = true ∨ s.over = true ∨ s.tick < l.ticks
theorem StepIn.of {l : Lv} {s : St} {d p : Int} {b : Bool} (h : stepB l s d p b = true) : StepIn l s d p b := by
  obtain ⟨h1, h2, h3⟩ := stepB_is h
  obtain ⟨h4, h5⟩ := St.ok_of h1
  exact ⟨h4, h5, h2, h3⟩
theorem StepIn.b {l : Lv} {s : St} {d p : Int} {b : Bool} (h : StepIn l s d p b) : stepB l s d p b = true := stepB_mk (St.ok_mk h.lok h.ok) h.inp h.on
theorem StepIn.lt {l : Lv} {s : St} {d p : Int} {b : Bool} (h : StepIn l s d p b) (hd : (s.done || s.over) = false) : s.tick < l.ticks := by
  simp only [Bool.or_eq_false_iff] at hd
  rcases h.on with h1 | h1 | h1
  · rw [hd.1] at h1; cases h1
  · rw [hd.2] at h1; cases h1
  · exact h1
/-- a tick keeps a state valid -/
theorem StepIn.valid {l : Lv} {s : St} {d p : Int} {b : Bool} (h : StepIn l s d p b) : (stepF l s d p b).okIn l = true := by
  obtain ⟨h1, h2, h3, h4⟩ := Lv.ok_bd h.lok
  exact St.ok_mk h.lok (step_ok d p b h1 h.ok h.on h4)
/-- the last tick -/
theorem end_b {l : Lv} {s : St} {d p : Int} {b : Bool} (h1 : s.okIn l = true) (h2 : inpV d p b = true) : stepB l { s with tick := l.ticks } d p b = (s.done || s.over) := by
  obtain ⟨h3, ⟨_, a2, a3, a4, a5, a6, _, a8, a9, a10⟩⟩ := St.ok_of h1
  obtain ⟨_, _, h6, h7⟩ := Lv.ok_bd h3
  have hy : ({ s with tick := l.ticks } : St).okIn l = true := St.ok_mk h3 ⟨⟨by simp only; omega, by simp only; omega⟩, a2, a3, a4, a5, a6, Int.le_refl _, a8, a9, a10⟩
  simp only [stepB, hy, h2, Bool.true_and, decide_eq_true (Int.le_refl l.ticks)]
  cases s.done <;> cases s.over <;> rfl
theorem end_v {l : Lv} {s : St} {d p : Int} {b : Bool} (h : (s.done || s.over) = true) : stepF l { s with tick := l.ticks } d p b = { s with tick := l.ticks } := step_rest h
/-- a car that has left the range -/
theorem over_b {l : Lv} {s : St} {d p : Int} {b : Bool} (h : StepIn l s d p b) (ho : (stepF l s d p b).over = true) : stepB l (stepF l s d p b) d p b = true := stepB_mk h.valid h.inp (.inr (.inl ho))
theorem over_v {l : Lv} {s : St} {d p : Int} {b : Bool} (ho : (stepF l s d p b).over = true) : stepF l (stepF l s d p b) d p b = stepF l s d p b := step_rest (by rw [ho, Bool.or_true])
theorem inpV_0 : inpV 0 0 true = true ∧ inpV 0 1 false = true ∧ inpV 1 0 false = true := by
  refine ⟨?_, ?_, ?_⟩ <;> (unfold inpV; rw [inB_yes (by omega) (by omega), inB_yes (by omega) (by omega)]; rfl)
/-- a pause -/
theorem pause_b {l : Lv} {s : St} {d p : Int} {b : Bool} (h : StepIn l s d p b) : stepB l s 0 0 true = true := stepB_mk (St.ok_mk h.lok h.ok) inpV_0.1 h.on
/-- full power out of rest -/
theorem len_zero : len 0 0 ≤ 2000 := by
  unfold len
  have := rt_le (n := 0 * 0 + 0 * 0) (m := 0) (by omega) (by omega) (by omega)
  omega
theorem push_b {l : Lv} {s : St} {d p : Int} {b : Bool} (h : StepIn l s d p b) : stepB l { s with fx := 0, fy := 0 } 0 1 false = true :=
  stepB_mk (St.ok_mk h.lok ⟨h.ok.tick, h.ok.at_, len_zero, h.ok.turn, h.ok.gate, h.ok.both, h.ok.ticks, h.ok.gates, h.ok.free, h.ok.done⟩) inpV_0.2.1 h.on
theorem push_v {l : Lv} {s : St} {d p : Int} {b : Bool} (h : StepIn l s d p b) (hw : l.wn = 0) (hd : (s.done || s.over) = false) :
    (stepF l { s with fx := 0, fy := 0 } 0 1 false).over = true ∨ ((stepF l { s with fx := 0, fy := 0 } 0 1 false).fx = pushX s.turn ∧ (stepF l { s with fx := 0, fy := 0 } 0 1 false).fy = pushY s.turn) :=
  step_push hw (s := { s with fx := 0, fy := 0 }) h.ok.turn.1 h.ok.turn.2 hd rfl rfl
/-- steering: a pause does not steer -/
theorem inp_stop {d p : Int} {b : Bool} (h : inpV d p b = true) (hb : b = true) : d = 0 := ((inpV_bd h).2.2.2.2 hb).1
/-- steering round in sixteen ticks -/
structure FullI (l : Lv) (i : Nat) (s : St) : Prop where
  ok : s.okIn l = true
  tick : s.tick ≤ (i : Int)
  turn : (s.done || s.over) = false → s.turn = (i : Int) % 16
theorem FullI.b {l : Lv} {i : Nat} {s : St} (h : FullI l i s) (hi : i < 16) (ht : 17 ≤ l.ticks) : stepB l s 1 0 false = true :=
  stepB_mk h.ok inpV_0.2.2 (.inr (.inr (by have := h.tick; omega)))
theorem FullI.next {l : Lv} {i : Nat} {s : St} (h : FullI l i s) (hi : i < 16) (ht : 17 ≤ l.ticks) : FullI l (i + 1) (stepF l s 1 0 false) := by
  have hb := StepIn.of (h.b hi ht)
  have h1 := h.tick
  refine ⟨hb.valid, ?_, fun hd => ?_⟩
  · cases hs : (s.done || s.over) with
    | true => rw [step_rest hs]; omega
    | false => rw [step_tick hs]; omega
  · cases hs : (s.done || s.over) with
    | true => rw [step_rest hs] at hd; rw [hd] at hs; cases hs
    | false =>
      simp only [Bool.or_eq_false_iff] at hd
      rw [step_turn hs hb.ok.turn.1 hb.ok.turn.2 (fun h => by cases h) hd.2, h.turn hs]
      omega
end Go.Proofs.Ytnhjalijnociaaa
