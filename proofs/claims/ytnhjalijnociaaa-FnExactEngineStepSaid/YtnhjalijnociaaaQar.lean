/- The engine as plain functions: states, their validity, a tick. -/
import Derived.Test.YtnhjalijnociaaaQad
import Derived.Test.YtnhjalijnociaaaQap
import Derived.Test.YtnhjalijnociaaaQaq
/- The engine as plain functions: states, their validity, a tick. -/
namespace Go.Proofs.Ytnhjalijnociaaa
open Go

/-- a state -/
structure St where
  tick : Int
  ax : Int
  ay : Int
  fx : Int
  fy : Int
  turn : Int
  gate : Int
  done : Bool
  over : Bool

/-- .. is valid in any level -/
def St.own (s : St) : Bool := inB s.tick 0 60 && vokB s.ax s.ay && vokB s.fx s.fy && decide (len s.fx s.fy ≤ 2000) && inB s.turn 0 15 && inB s.gate 0 3 && !(s.done && s.over)
/-- .. is valid in a level -/
def St.okIn (l : Lv) (s : St) : Bool := l.ok && s.own && decide (s.tick ≤ l.ticks) && decide (s.gate ≤ l.gn) && frB l.wf s.ax s.ay l.wn && (!s.done || decide (s.gate = l.gn))
/-- the first coordinates of the directions -/
def dirL : List Int := [1000, 924, 707, 383, 0, -383, -707, -924, -1000, -924, -707, -383, 0, 383, 707, 924]
def dirX (d : Int) : Int := dirL.getD d.toNat 0
def dirY (d : Int) : Int := dirX ((d + 12) % 16)
def pushX (d : Int) : Int := (dirX d * 200).tdiv 1000
def pushY (d : Int) : Int := (dirY d * 200).tdiv 1000
/-- a number of a vector clamped, whose length is n -/
def clF (n a : Int) : Int := if n ≤ 2000 then a else (a * 2000).tdiv n
/-- how fast the car gets -/
def fastX (s : St) (t p : Int) : Int := if p = 1 then clF (len (s.fx + pushX t) (s.fy + pushY t)) (s.fx + pushX t) else if p = 2 then (s.fx * 700).tdiv 1000 else (s.fx * 950).tdiv 1000
def fastY (s : St) (t p : Int) : Int := if p = 1 then clF (len (s.fx + pushX t) (s.fy + pushY t)) (s.fy + pushY t) else if p = 2 then (s.fy * 700).tdiv 1000 else (s.fy * 950).tdiv 1000
/-- the car moves along the first coordinate, along the second one -/
def moveX (l : Lv) (s : St) : St := if frB l.wf (s.ax + s.fx) s.ay l.wn then { s with ax := s.ax + s.fx } else { s with fx := (-s.fx).tdiv 2 }
def moveY (l : Lv) (s : St) : St := if frB l.wf s.ax (s.ay + s.fy) l.wn then { s with ay := s.ay + s.fy } else { s with fy := (-s.fy).tdiv 2 }
/-- behind the move: the gate, the finish -/
def gateF (l : Lv) (s : St) : Int := if s.gate < l.gn && hasB (l.gf s.gate.toNat).lx (l.gf s.gate.toNat).ly (l.gf s.gate.toNat).hx (l.gf s.gate.toNat).hy s.ax s.ay then s.gate + 1 else s.gate
def doneF (l : Lv) (s : St) : Bool := decide (gateF l s = l.gn) && hasB l.flx l.fly l.fhx l.fhy s.ax s.ay
def turnF (s : St) (d : Int) : Int := (s.turn + d + 16) % 16
def movedF (l : Lv) (s : St) (d p : Int) : St := moveY l (moveX l { s with turn := turnF s d, fx := fastX s (turnF s d) p, fy := fastY s (turnF s d) p })
/-- a tick of driving -/
def driveF (l : Lv) (s : St) (d p : Int) : St :=
  if vokB (movedF l s d p).ax (movedF l s d p).ay then { movedF l s d p with gate := gateF l (movedF l s d p), done := doneF l (movedF l s d p) }
  else { s with over := true }
/-- a tick -/
def stepF (l : Lv) (s : St) (d p : Int) (b : Bool) : St :=
  if s.done || s.over then s else if b then { s with tick := s.tick + 1 } else driveF l { s with tick := s.tick + 1 } d p
end Go.Proofs.Ytnhjalijnociaaa

/- Plain laws of the engine: a tick keeps a state valid, what a tick changes. No program in sight. -/
set_option linter.unusedVariables false
namespace Go.Proofs.Ytnhjalijnociaaa
open Go

theorem ab_half (a : Int) : ab ((-a).tdiv 2) ≤ ab a := by
  have h := ab_tdiv (a := -a) (n := 2) (by omega)
  have e : ab (-a) = ab a := by unfold ab; split <;> split <;> omega
  have h0 := ab_nn ((-a).tdiv 2)
  omega
theorem ab_scale {a k : Int} (hk : 0 ≤ k) (h : k ≤ 1000) : ab ((a * k).tdiv 1000) ≤ ab a := ab_shrink hk (by omega) h
theorem cl_len (x y : Int) : len (clF (len x y) x) (clF (len x y) y) ≤ 2000 := by
  unfold clF
  by_cases h : len x y ≤ 2000
  · rw [if_pos h, if_pos h]; exact h
  · rw [if_neg h, if_neg h]; exact clamp_len rfl (by omega)
theorem fast_len {s : St} (t p : Int) (h : len s.fx s.fy ≤ 2000) : len (fastX s t p) (fastY s t p) ≤ 2000 := by
  unfold fastX fastY
  by_cases h1 : p = 1
  · rw [if_pos h1, if_pos h1]; exact cl_len _ _
  · rw [if_neg h1, if_neg h1]
    by_cases h2 : p = 2
    · rw [if_pos h2, if_pos h2]
      have := len_mono (ab_scale (a := s.fx) (k := 700) (by omega) (by omega)) (ab_scale (a := s.fy) (k := 700) (by omega) (by omega))
      omega
    · rw [if_neg h2, if_neg h2]
      have := len_mono (ab_scale (a := s.fx) (k := 950) (by omega) (by omega)) (ab_scale (a := s.fy) (k := 950) (by omega) (by omega))
      omega
theorem moveX_len (l : Lv) (s : St) : len (moveX l s).fx (moveX l s).fy ≤ len s.fx s.fy := by
  unfold moveX
  split
  · exact Int.le_refl _
  · exact len_mono (ab_half _) (Int.le_refl _)
theorem moveY_len (l : Lv) (s : St) : len (moveY l s).fx (moveY l s).fy ≤ len s.fx s.fy := by
  unfold moveY
  split
  · exact Int.le_refl _
  · exact len_mono (Int.le_refl _) (ab_half _)
theorem moveX_fr {l : Lv} {s : St} (h : frB l.wf s.ax s.ay l.wn = true) : frB l.wf (moveX l s).ax (moveX l s).ay l.wn = true := by
  unfold moveX
  split
  · assumption
  · exact h
theorem moveY_fr {l : Lv} {s : St} (h : frB l.wf s.ax s.ay l.wn = true) : frB l.wf (moveY l s).ax (moveY l s).ay l.wn = true := by
  unfold moveY
  split
  · assumption
  · exact h
theorem moveX_same (l : Lv) (s : St) : (moveX l s).tick = s.tick ∧ (moveX l s).turn = s.turn ∧ (moveX l s).gate = s.gate ∧ (moveX l s).done = s.done ∧ (moveX l s).over = s.over ∧ (moveX l s).ay = s.ay ∧ (moveX l s).fy = s.fy := by
  unfold moveX
  split <;> exact ⟨rfl, rfl, rfl, rfl, rfl, rfl, rfl⟩
theorem moveY_same (l : Lv) (s : St) : (moveY l s).tick = s.tick ∧ (moveY l s).turn = s.turn ∧ (moveY l s).gate = s.gate ∧ (moveY l s).done = s.done ∧ (moveY l s).over = s.over ∧ (moveY l s).ax = s.ax ∧ (moveY l s).fx = s.fx := by
  unfold moveY
  split <;> exact ⟨rfl, rfl, rfl, rfl, rfl, rfl, rfl⟩
theorem moved_same (l : Lv) (s : St) (d p : Int) : (movedF l s d p).tick = s.tick ∧ (movedF l s d p).turn = turnF s d ∧ (movedF l s d p).gate = s.gate ∧ (movedF l s d p).done = s.done ∧ (movedF l s d p).over = s.over := by
  unfold movedF
  obtain ⟨a1, a2, a3, a4, a5, _⟩ := moveY_same l (moveX l { s with turn := turnF s d, fx := fastX s (turnF s d) p, fy := fastY s (turnF s d) p })
  obtain ⟨b1, b2, b3, b4, b5, _⟩ := moveX_same l { s with turn := turnF s d, fx := fastX s (turnF s d) p, fy := fastY s (turnF s d) p }
  exact ⟨a1.trans b1, a2.trans b2, a3.trans b3, a4.trans b4, a5.trans b5⟩
theorem moved_len {l : Lv} {s : St} (d p : Int) (h : len s.fx s.fy ≤ 2000) : len (movedF l s d p).fx (movedF l s d p).fy ≤ 2000 := by
  unfold movedF
  have h1 := moveY_len l (moveX l { s with turn := turnF s d, fx := fastX s (turnF s d) p, fy := fastY s (turnF s d) p })
  have h2 := moveX_len l { s with turn := turnF s d, fx := fastX s (turnF s d) p, fy := fastY s (turnF s d) p }
  have h3 := fast_len (turnF s d) p h
  simp only at h2
  omega
theorem moved_fr {l : Lv} {s : St} (d p : Int) (h : frB l.wf s.ax s.ay l.wn = true) : frB l.wf (movedF l s d p).ax (movedF l s d p).ay l.wn = true :=
  moveY_fr (moveX_fr (s := { s with turn := turnF s d, fx := fastX s (turnF s d) p, fy := fastY s (turnF s d) p }) h)

/-- what a state is in a level, in propositions -/
structure St.Ok (l : Lv) (s : St) : Prop where
  tick : 0 ≤ s.tick ∧ s.tick ≤ 60
  at_ : vokB s.ax s.ay = true
  fast : len s.fx s.fy ≤ 2000
  turn : 0 ≤ s.turn ∧ s.turn ≤ 15
  gate : 0 ≤ s.gate ∧ s.gate ≤ 3
  both : (s.done && s.over) = false
  ticks : s.tick ≤ l.ticks
  gates : s.gate ≤ l.gn
  free : frB l.wf s.ax s.ay l.wn = true
  done : s.done = true → s.gate = l.gn
theorem vok_of_len {x y : Int} (h : len x y ≤ 2000) : vokB x y = true := by
  have h1 := ab_le (Int.le_trans (ab_len x y).1 h)
  have h2 := ab_le (Int.le_trans (ab_len x y).2 h)
  rw [vokB, inB_yes (by omega) (by omega), inB_yes (by omega) (by omega)]
  rfl
theorem fast_bd {x y : Int} (h : len x y ≤ 2000) : (-2000 ≤ x ∧ x ≤ 2000) ∧ (-2000 ≤ y ∧ y ≤ 2000) :=
  ⟨ab_le (Int.le_trans (ab_len x y).1 h), ab_le (Int.le_trans (ab_len x y).2 h)⟩
theorem St.ok_of {l : Lv} {s : St} (h : s.okIn l = true) : l.ok = true ∧ s.Ok l := by
  simp only [St.okIn, St.own, Bool.and_eq_true, decide_eq_true_eq, Bool.not_eq_true', Bool.or_eq_true] at h
  obtain ⟨⟨⟨⟨⟨h1, ⟨⟨⟨⟨⟨⟨a1, a2⟩, a3⟩, a4⟩, a5⟩, a6⟩, a7⟩⟩, h2⟩, h3⟩, h4⟩, h5⟩ := h
  refine ⟨h1, inB_true a1, a2, a4, inB_true a5, inB_true a6, a7, h2, h3, h4, fun hd => ?_⟩
  rcases h5 with h5 | h5
  · rw [hd] at h5; cases h5
  · exact h5
theorem St.ok_mk {l : Lv} {s : St} (hl : l.ok = true) (h : s.Ok l) : s.okIn l = true := by
  obtain ⟨h1, h2, h3, h4, h5, h6, h7, h8, h9, h10⟩ := h
  have hd : (!s.done || decide (s.gate = (l.gn : Int))) = true := by
    cases e : s.done with
    | false => rfl
    | true => simp [h10 e]
  simp only [St.okIn, St.own, hl, h2, vok_of_len h3, inB_yes h1.1 h1.2, inB_yes h4.1 h4.2, inB_yes h5.1 h5.2, h6, h9, hd, Bool.true_and, Bool.and_true, Bool.not_false, Bool.and_eq_true, decide_eq_true_eq]
  exact ⟨⟨h3, h7⟩, h8⟩
theorem turn_bd (s : St) (d : Int) : 0 ≤ turnF s d ∧ turnF s d ≤ 15 := by
  unfold turnF
  omega
theorem gateF_bd {l : Lv} {s : St} (h0 : 0 ≤ s.gate) (h : s.gate ≤ l.gn) : s.gate ≤ gateF l s ∧ gateF l s ≤ l.gn := by
  unfold gateF
  split
  · rename_i h1
    simp only [Bool.and_eq_true, decide_eq_true_eq] at h1
    omega
  · omega
/-- a tick keeps a state valid -/
theorem step_ok {l : Lv} {s : St} (d p : Int) (b : Bool) (hl : l.gn ≤ 3) (h : s.Ok l) (ht : s.done = true ∨ s.over = true ∨ s.tick < l.ticks) (h60 : l.ticks ≤ 60) : (stepF l s d p b).Ok l := by
  obtain ⟨h1, h2, h3, h4, h5, h6, h7, h8, h9, h10⟩ := h
  unfold stepF
  by_cases hd : (s.done || s.over) = true
  · rw [if_pos hd]; exact ⟨h1, h2, h3, h4, h5, h6, h7, h8, h9, h10⟩
  · rw [if_neg hd]
    have hd : (s.done || s.over) = false := by simpa using hd
    simp only [Bool.or_eq_false_iff] at hd
    obtain ⟨hd, ho⟩ := hd
    have ht : s.tick < l.ticks := by
      rcases ht with ht | ht | ht
      · rw [hd] at ht; cases ht
      · rw [ho] at ht; cases ht
      · exact ht
    by_cases hb : b = true
    · rw [if_pos hb]
      exact ⟨⟨by simp only; omega, by simp only; omega⟩, h2, h3, h4, h5, h6, by simp only; omega, h8, h9, h10⟩
    · rw [if_neg hb]
      unfold driveF
      generalize hs1 : ({ s with tick := s.tick + 1 } : St) = s1
      have e1 : s1.tick = s.tick + 1 := by rw [← hs1]
      have e2 : s1.ax = s.ax := by rw [← hs1]
      have e3 : s1.ay = s.ay := by rw [← hs1]
      have e4 : s1.fx = s.fx := by rw [← hs1]
      have e5 : s1.fy = s.fy := by rw [← hs1]
      have e6 : s1.turn = s.turn := by rw [← hs1]
      have e7 : s1.gate = s.gate := by rw [← hs1]
      have e8 : s1.done = s.done := by rw [← hs1]
      have e9 : s1.over = s.over := by rw [← hs1]
      obtain ⟨m1, m2, m3, m4, m5⟩ := moved_same l s1 d p
      have m6 := moved_len (l := l) (s := s1) d p (by rw [e4, e5]; exact h3)
      have m7 := moved_fr (l := l) (s := s1) d p (by rw [e2, e3]; exact h9)
      have m8 := turn_bd s1 d
      split
      · rename_i hv
        have m9 := gateF_bd (l := l) (s := movedF l s1 d p) (by omega) (by omega)
        refine ⟨⟨by simp only; omega, by simp only; omega⟩, hv, m6, ⟨by simp only; omega, by simp only; omega⟩, ⟨by simp only; omega, by simp only; omega⟩, by simp only [m5, e9, ho, Bool.and_false], by simp only; omega, by simp only; omega, m7, fun hdn => ?_⟩
        simp only [doneF, Bool.and_eq_true, decide_eq_true_eq] at hdn
        exact hdn.1
      · refine ⟨⟨by simp only; omega, by simp only; omega⟩, by simp only; rw [e2, e3]; exact h2, by simp only; rw [e4, e5]; exact h3, ⟨by simp only; omega, by simp only; omega⟩, ⟨by simp only; omega, by simp only; omega⟩, by simp only [e8, hd, Bool.false_and], by simp only; omega, by simp only; omega, by simp only; rw [e2, e3]; exact h9, fun hdn => ?_⟩
        simp only [e8, hd] at hdn
        cases hdn
end Go.Proofs.Ytnhjalijnociaaa

/- Plain laws: the hash of a state; its numbers as a list. -/
set_option linter.unusedVariables false
namespace Go.Proofs.Ytnhjalijnociaaa
open Go.RowKit

/-- a state's flag, its numbers, its hash -/
def St.flag (s : St) : Int := if s.done then 1 else if s.over then 2 else 0
def St.nums (s : St) : List Int := [s.tick, s.ax, s.ay, s.fx, s.fy, s.turn, s.gate, s.flag]
def St.hash (s : St) : Int := s.nums.foldl hst 17
def St.hashV (s : St) : Int := if s.own then s.hash else -1
theorem St.hash_def (s : St) : s.hash = s.nums.foldl hst 17 := rfl
theorem St.hash_lo (s : St) : 0 ≤ s.hash := fold_lo _ (by omega)
theorem St.hash_hi (s : St) : s.hash < 1000003 := fold_hi _ (by omega)
theorem St.hashV_t {s : St} (h : s.own = true) : s.hashV = s.hash := by rw [St.hashV, h]; rfl
theorem St.hashV_f {s : St} (h : s.own = false) : s.hashV = -1 := by rw [St.hashV, h]; rfl
attribute [irreducible] St.hash
end Go.Proofs.Ytnhjalijnociaaa

/- Plain laws of the engine: what a tick changes, law by law. No program in sight. -/
set_option linter.unusedVariables false
namespace Go.Proofs.Ytnhjalijnociaaa
open Go

theorem step_rest {l : Lv} {s : St} {d p : Int} {b : Bool} (h : (s.done || s.over) = true) : stepF l s d p b = s := by unfold stepF; rw [if_pos h]
theorem step_pause {l : Lv} {s : St} {d p : Int} (h : (s.done || s.over) = false) : stepF l s d p true = { s with tick := s.tick + 1 } := by unfold stepF; rw [if_neg (by simp [h]), if_pos rfl]
theorem step_drive {l : Lv} {s : St} {d p : Int} (h : (s.done || s.over) = false) : stepF l s d p false = driveF l { s with tick := s.tick + 1 } d p := by unfold stepF; rw [if_neg (by simp [h]), if_neg (by simp)]
theorem drive_in {l : Lv} {s : St} {d p : Int} (h : vokB (movedF l s d p).ax (movedF l s d p).ay = true) : driveF l s d p = { movedF l s d p with gate := gateF l (movedF l s d p), done := doneF l (movedF l s d p) } := by unfold driveF; rw [if_pos h]
theorem drive_out {l : Lv} {s : St} {d p : Int} (h : vokB (movedF l s d p).ax (movedF l s d p).ay = false) : driveF l s d p = { s with over := true } := by unfold driveF; rw [if_neg (by simp [h])]
theorem drive_cases (l : Lv) (s : St) (d p : Int) : (vokB (movedF l s d p).ax (movedF l s d p).ay = true ∧ driveF l s d p = { movedF l s d p with gate := gateF l (movedF l s d p), done := doneF l (movedF l s d p) }) ∨ driveF l s d p = { s with over := true } := by
  cases h : vokB (movedF l s d p).ax (movedF l s d p).ay with
  | true => exact .inl ⟨rfl, drive_in h⟩
  | false => exact .inr (drive_out h)

/-- a tick passes -/
theorem step_tick {l : Lv} {s : St} {d p : Int} {b : Bool} (h : (s.done || s.over) = false) : (stepF l s d p b).tick = s.tick + 1 := by
  cases b with
  | true => rw [step_pause h]
  | false =>
    rw [step_drive h]
    rcases drive_cases l { s with tick := s.tick + 1 } d p with ⟨_, e⟩ | e
    · rw [e]; exact (moved_same l { s with tick := s.tick + 1 } d p).1
    · rw [e]
/-- steering turns the car -/
theorem step_turn {l : Lv} {s : St} {d p : Int} {b : Bool} (h : (s.done || s.over) = false) (h0 : 0 ≤ s.turn) (h1 : s.turn ≤ 15) (hb : b = true → d = 0) (ho : (stepF l s d p b).over = false) : (stepF l s d p b).turn = (s.turn + d + 16) % 16 := by
  cases b with
  | true =>
    rw [step_pause h, hb rfl]
    simp only
    omega
  | false =>
    rw [step_drive h] at ho ⊢
    rcases drive_cases l { s with tick := s.tick + 1 } d p with ⟨_, e⟩ | e
    · rw [e]; exact (moved_same l { s with tick := s.tick + 1 } d p).2.1
    · rw [e] at ho; cases ho
/-- a run finishes at the finish -/
theorem step_done {l : Lv} {s : St} {d p : Int} {b : Bool} (hs : s.done = false) (hd : (stepF l s d p b).done = true) :
    (stepF l s d p b).gate = l.gn ∧ vokB (stepF l s d p b).ax (stepF l s d p b).ay = true ∧ hasB l.flx l.fly l.fhx l.fhy (stepF l s d p b).ax (stepF l s d p b).ay = true := by
  cases h : (s.done || s.over) with
  | true => rw [step_rest h] at hd; rw [hd] at hs; cases hs
  | false =>
    cases b with
    | true => rw [step_pause h] at hd; rw [hd] at hs; cases hs
    | false =>
      rw [step_drive h] at hd ⊢
      rcases drive_cases l { s with tick := s.tick + 1 } d p with ⟨hv, e⟩ | e
      · rw [e] at hd ⊢
        simp only [doneF, Bool.and_eq_true, decide_eq_true_eq] at hd
        exact ⟨hd.1, hv, hd.2⟩
      · rw [e] at hd
        simp only at hd
        rw [hd] at hs; cases hs
/-- a car that leaves the range stays -/
theorem step_over {l : Lv} {s : St} {d p : Int} {b : Bool} (hs : s.over = false) (ho : (stepF l s d p b).over = true) : s.done = false ∧ stepF l s d p b = { s with tick := s.tick + 1, over := true } := by
  cases h : (s.done || s.over) with
  | true => rw [step_rest h] at ho; rw [ho] at hs; cases hs
  | false =>
    simp only [Bool.or_eq_false_iff] at h
    refine ⟨h.1, ?_⟩
    have h : (s.done || s.over) = false := by rw [h.1, h.2]; rfl
    cases b with
    | true => rw [step_pause h] at ho; rw [ho] at hs; cases hs
    | false =>
      rw [step_drive h] at ho ⊢
      rcases drive_cases l { s with tick := s.tick + 1 } d p with ⟨hv, e⟩ | e
      · rw [e] at ho
        have := (moved_same l { s with tick := s.tick + 1 } d p).2.2.2.2
        simp only at ho
        rw [this] at ho
        simp only at ho
        rw [ho] at hs; cases hs
      · exact e
/-- without walls the car moves as fast as it is -/
theorem frB_zero (f : Nat → Bx) (x y : Int) : frB f x y 0 = true := rfl
theorem moved_free {l : Lv} (hw : l.wn = 0) (s : St) (d p : Int) : movedF l s d p = { s with turn := turnF s d, fx := fastX s (turnF s d) p, fy := fastY s (turnF s d) p, ax := s.ax + fastX s (turnF s d) p, ay := s.ay + fastY s (turnF s d) p } := by
  unfold movedF moveY moveX
  rw [hw]
  simp only [frB_zero, if_true]
theorem step_move {l : Lv} (hw : l.wn = 0) {s : St} {d p : Int} (h : (s.done || s.over) = false) (ho : (stepF l s d p false).over = false) :
    (stepF l s d p false).ax = s.ax + (stepF l s d p false).fx ∧ (stepF l s d p false).ay = s.ay + (stepF l s d p false).fy := by
  rw [step_drive h] at ho ⊢
  rcases drive_cases l { s with tick := s.tick + 1 } d p with ⟨_, e⟩ | e
  · rw [e, moved_free hw]; exact ⟨rfl, rfl⟩
  · rw [e] at ho; cases ho
/-- power pushes the car forward -/
theorem dir_bd (d : Int) (h0 : 0 ≤ d) (h1 : d ≤ 15) : len (pushX d) (pushY d) ≤ 2000 := by
  have hd : d = 0 ∨ d = 1 ∨ d = 2 ∨ d = 3 ∨ d = 4 ∨ d = 5 ∨ d = 6 ∨ d = 7 ∨ d = 8 ∨ d = 9 ∨ d = 10 ∨ d = 11 ∨ d = 12 ∨ d = 13 ∨ d = 14 ∨ d = 15 := by omega
  have key : pushX d * pushX d + pushY d * pushY d < 2001 * 2001 := by
    rcases hd with rfl | rfl | rfl | rfl | rfl | rfl | rfl | rfl | rfl | rfl | rfl | rfl | rfl | rfl | rfl | rfl <;> decide +kernel
  exact rt_le (by have := sqn (pushX d); have := sqn (pushY d); omega) (by omega) key
theorem step_push {l : Lv} (hw : l.wn = 0) {s : St} (h0 : 0 ≤ s.turn) (h1 : s.turn ≤ 15) (h : (s.done || s.over) = false) (hx : s.fx = 0) (hy : s.fy = 0) :
    (stepF l s 0 1 false).over = true ∨ ((stepF l s 0 1 false).fx = pushX s.turn ∧ (stepF l s 0 1 false).fy = pushY s.turn) := by
  rw [step_drive h]
  rcases drive_cases l { s with tick := s.tick + 1 } 0 1 with ⟨_, e⟩ | e
  · right
    rw [e, moved_free hw]
    have ht : turnF { s with tick := s.tick + 1 } 0 = s.turn := by unfold turnF; simp only; omega
    have hb := dir_bd s.turn h0 h1
    refine ⟨?_, ?_⟩
    · show fastX { s with tick := s.tick + 1 } (turnF { s with tick := s.tick + 1 } 0) 1 = _
      rw [ht]
      unfold fastX
      rw [if_pos rfl]
      show clF (len (s.fx + pushX s.turn) (s.fy + pushY s.turn)) (s.fx + pushX s.turn) = _
      rw [hx, hy, Int.zero_add, Int.zero_add]
      unfold clF
      rw [if_pos hb]
    · show fastY { s with tick := s.tick + 1 } (turnF { s with tick := s.tick + 1 } 0) 1 = _
      rw [ht]
      unfold fastY
      rw [if_pos rfl]
      show clF (len (s.fx + pushX s.turn) (s.fy + pushY s.turn)) (s.fy + pushY s.turn) = _
      rw [hx, hy, Int.zero_add, Int.zero_add]
      unfold clF
      rw [if_pos hb]
  · left; rw [e]
/-- a rolling car gets no faster -/
theorem ab_fastX {s : St} {t p : Int} (h : p ≠ 1) : ab (fastX s t p) ≤ ab s.fx := by
  unfold fastX
  rw [if_neg h]
  split
  · exact ab_scale (by omega) (by omega)
  · exact ab_scale (by omega) (by omega)
theorem ab_fastY {s : St} {t p : Int} (h : p ≠ 1) : ab (fastY s t p) ≤ ab s.fy := by
  unfold fastY
  rw [if_neg h]
  split
  · exact ab_scale (by omega) (by omega)
  · exact ab_scale (by omega) (by omega)
theorem moveX_ab (l : Lv) (s : St) : ab (moveX l s).fx ≤ ab s.fx := by
  unfold moveX
  split
  · exact Int.le_refl _
  · exact ab_half _
theorem moveY_ab (l : Lv) (s : St) : ab (moveY l s).fy ≤ ab s.fy := by
  unfold moveY
  split
  · exact Int.le_refl _
  · exact ab_half _
theorem moved_ab {l : Lv} {s : St} {d p : Int} (h : p ≠ 1) : ab (movedF l s d p).fx ≤ ab s.fx ∧ ab (movedF l s d p).fy ≤ ab s.fy := by
  unfold movedF
  have e1 := (moveY_same l (moveX l { s with turn := turnF s d, fx := fastX s (turnF s d) p, fy := fastY s (turnF s d) p })).2.2.2.2.2.2
  have e2 := (moveX_same l { s with turn := turnF s d, fx := fastX s (turnF s d) p, fy := fastY s (turnF s d) p }).2.2.2.2.2.2
  have a1 := moveX_ab l { s with turn := turnF s d, fx := fastX s (turnF s d) p, fy := fastY s (turnF s d) p }
  have a2 := moveY_ab l (moveX l { s with turn := turnF s d, fx := fastX s (turnF s d) p, fy := fastY s (turnF s d) p })
  have a3 := ab_fastX (s := s) (t := turnF s d) h
  have a4 := ab_fastY (s := s) (t := turnF s d) h
  rw [e1]
  rw [e2] at a2
  simp only at a1 a2
  exact ⟨by omega, by omega⟩
theorem step_roll {l : Lv} {s : St} {d p : Int} {b : Bool} (h : p ≠ 1) : ab (stepF l s d p b).fx ≤ ab s.fx ∧ ab (stepF l s d p b).fy ≤ ab s.fy := by
  cases hd : (s.done || s.over) with
  | true => rw [step_rest hd]; exact ⟨Int.le_refl _, Int.le_refl _⟩
  | false =>
    cases b with
    | true => rw [step_pause hd]; exact ⟨Int.le_refl _, Int.le_refl _⟩
    | false =>
      rw [step_drive hd]
      rcases drive_cases l { s with tick := s.tick + 1 } d p with ⟨_, e⟩ | e
      · rw [e]; exact moved_ab (s := { s with tick := s.tick + 1 }) h
      · rw [e]; exact ⟨Int.le_refl _, Int.le_refl _⟩
end Go.Proofs.Ytnhjalijnociaaa
