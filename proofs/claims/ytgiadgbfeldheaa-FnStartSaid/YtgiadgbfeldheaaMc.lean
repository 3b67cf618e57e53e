/- Plain laws of the engine: a tick keeps a state valid, what a tick changes. No program in sight. -/
import Derived.Test.YtgiadgbfeldheaaMb
set_option linter.unusedVariables false
namespace Go.Proofs.Ytgiadgbfeldheaa
open Go

theorem ab_half (a : Int) : ab ((-a).tdiv 2) ≤ ab a := by
  have h := ab_tdiv (a := -a) (n := 2) (by omega)
  have e : ab (-a) = ab a := by unfold ab; split <;> split <;> omega
  have h0 := ab_nn ((-a).tdiv 2)
  omega
theorem ab_scale {a k : Int} (hk : 0 ≤ k) (h : k ≤ 1000) : ab ((a * k).tdiv 1000) ≤ ab a := ab_shrink hk (by omega) h
theorem cl_len (x y : Int) : len (clF (len x y) x) (clF (len x y) y) ≤ 2000 := by
  unfold clF
  by_cases h : len x y ≤ 2000
  · rw [if_pos h, if_pos h]; exact h
  · rw [if_neg h, if_neg h]; exact clamp_len rfl (by omega)
theorem fast_len {s : St} (t p : Int) (h : len s.fx s.fy ≤ 2000) : len (fastX s t p) (fastY s t p) ≤ 2000 := by
  unfold fastX fastY
  by_cases h1 : p = 1
  · rw [if_pos h1, if_pos h1]; exact cl_len _ _
  · rw [if_neg h1, if_neg h1]
    by_cases h2 : p = 2
    · rw [if_pos h2, if_pos h2]
      have := len_mono (ab_scale (a := s.fx) (k := 700) (by omega) (by omega)) (ab_scale (a := s.fy) (k := 700) (by omega) (by omega))
      omega
    · rw [if_neg h2, if_neg h2]
      have := len_mono (ab_scale (a := s.fx) (k := 950) (by omega) (by omega)) (ab_scale (a := s.fy) (k := 950) (by omega) (by omega))
      omega
theorem moveX_len (l : Lv) (s : St) : len (moveX l s).fx (moveX l s).fy ≤ len s.fx s.fy := by
  unfold moveX
  split
  · exact Int.le_refl _
  · exact len_mono (ab_half _) (Int.le_refl _)
theorem moveY_len (l : Lv) (s : St) : len (moveY l s).fx (moveY l s).fy ≤ len s.fx s.fy := by
  unfold moveY
  split
  · exact Int.le_refl _
  · exact len_mono (Int.le_refl _) (ab_half _)
theorem moveX_fr {l : Lv} {s : St} (h : frB l.wf s.ax s.ay l.wn = true) : frB l.wf (moveX l s).ax (moveX l s).ay l.wn = true := by
  unfold moveX
  split
  · assumption
  · exact h
theorem moveY_fr {l : Lv} {s : St} (h : frB l.wf s.ax s.ay l.wn = true) : frB l.wf (moveY l s).ax (moveY l s).ay l.wn = true := by
  unfold moveY
  split
  · assumption
  · exact h
theorem moveX_same (l : Lv) (s : St) : (moveX l s).tick = s.tick ∧ (moveX l s).turn = s.turn ∧ (moveX l s).gate = s.gate ∧ (moveX l s).done = s.done ∧ (moveX l s).over = s.over ∧ (moveX l s).ay = s.ay ∧ (moveX l s).fy = s.fy := by
  unfold moveX
  split <;> exact ⟨rfl, rfl, rfl, rfl, rfl, rfl, rfl⟩
theorem moveY_same (l : Lv) (s : St) : (moveY l s).tick = s.tick ∧ (moveY l s).turn = s.turn ∧ (moveY l s).gate = s.gate ∧ (moveY l s).done = s.done ∧ (moveY l s).over = s.over ∧ (moveY l s).ax = s.ax ∧ (moveY l s).fx = s.fx := by
  unfold moveY
  split <;> exact ⟨rfl, rfl, rfl, rfl, rfl, rfl, rfl⟩
theorem moved_same (l : Lv) (s : St) (d p : Int) : (movedF l s d p).tick = s.tick ∧ (movedF l s d p).turn = turnF s d ∧ (movedF l s d p).gate = s.gate ∧ (movedF l s d p).done = s.done ∧ (movedF l s d p).over = s.over := by
  unfold movedF
  obtain ⟨a1, a2, a3, a4, a5, _⟩ := moveY_same l (moveX l { s with turn := turnF s d, fx := fastX s (turnF s d) p, fy := fastY s (turnF s d) p })
  obtain ⟨b1, b2, b3, b4, b5, _⟩ := moveX_same l { s with turn := turnF s d, fx := fastX s (turnF s d) p, fy := fastY s (turnF s d) p }
  exact ⟨a1.trans b1, a2.trans b2, a3.trans b3, a4.trans b4, a5.trans b5⟩
theorem moved_len {l : Lv} {s : St} (d p : Int) (h : len s.fx s.fy ≤ 2000) : len (movedF l s d p).fx (movedF l s d p).fy ≤ 2000 := by
  unfold movedF
  have h1 := moveY_len l (moveX l { s with turn := turnF s d, fx := fastX s (turnF s d) p, fy := fastY s (turnF s d) p })
  have h2 := moveX_len l { s with turn := turnF s d, fx := fastX s (turnF s d) p, fy := fastY s (turnF s d) p }
  have h3 := fast_len (turnF s d) p h
  simp only at h2
  omega
theorem moved_fr {l : Lv} {s : St} (d p : Int) (h : frB l.wf s.ax s.ay l.wn = true) : frB l.wf (movedF l s d p).ax (movedF l s d p).ay l.wn = true :=
  moveY_fr (moveX_fr (s := { s with turn := turnF s d, fx := fastX s (turnF s d) p, fy := fastY s (turnF s d) p }) h)

/-- what a state is in a level, in propositions -/
structure St.Ok (l : Lv) (s : St) : Prop where
  tick : 0 ≤ s.tick ∧ s.tick ≤ 60
  at_ : vokB s.ax s.ay = true
  fast : len s.fx s.fy ≤ 2000
  turn : 0 ≤ s.turn ∧ s.turn ≤ 15
  gate : 0 ≤ s.gate ∧ s.gate ≤ 3
  both : (s.done && s.over) = false
  ticks : s.tick ≤ l.ticks
  gates : s.gate ≤ l.gn
  free : frB l.wf s.ax s.ay l.wn = true
  done : s.done = true → s.gate = l.gn
theorem vok_of_len {x y : Int} (h : len x y ≤ 2000) : vokB x y = true := by
  have h1 := ab_le (Int.le_trans (ab_len x y).1 h)
  have h2 := ab_le (Int.le_trans (ab_len x y).2 h)
  rw [vokB, inB_yes (by omega) (by omega), inB_yes (by omega) (by omega)]
  rfl
theorem fast_bd {x y : Int} (h : len x y ≤ 2000) : (-2000 ≤ x ∧ x ≤ 2000) ∧ (-2000 ≤ y ∧ y ≤ 2000) :=
  ⟨ab_le (Int.le_trans (ab_len x y).1 h), ab_le (Int.le_trans (ab_len x y).2 h)⟩
theorem St.ok_of {l : Lv} {s : St} (h : s.okIn l = true) : l.ok = true ∧ s.Ok l := by
  simp only [St.okIn, St.own, Bool.and_eq_true, decide_eq_true_eq, Bool.not_eq_true', Bool.or_eq_true] at h
  obtain ⟨⟨⟨⟨⟨h1, ⟨⟨⟨⟨⟨⟨a1, a2⟩, a3⟩, a4⟩, a5⟩, a6⟩, a7⟩⟩, h2⟩, h3⟩, h4⟩, h5⟩ := h
  refine ⟨h1, inB_true a1, a2, a4, inB_true a5, inB_true a6, a7, h2, h3, h4, fun hd => ?_⟩
  rcases h5 with h5 | h5
  · rw [hd] at h5; cases h5
  · exact h5
theorem St.ok_mk {l : Lv} {s : St} (hl : l.ok = true) (h : s.Ok l) : s.okIn l = true := by
  obtain ⟨h1, h2, h3, h4, h5, h6, h7, h8, h9, h10⟩ := h
  have hd : (!s.done || decide (s.gate = (l.gn : Int))) = true := by
    cases e : s.done with
    | false => rfl
    | true => simp [h10 e]
  simp only [St.okIn, St.own, hl, h2, vok_of_len h3, inB_yes h1.1 h1.2, inB_yes h4.1 h4.2, inB_yes h5.1 h5.2, h6, h9, hd, Bool.true_and, Bool.and_true, Bool.not_false, Bool.and_eq_true, decide_eq_true_eq]
  exact ⟨⟨h3, h7⟩, h8⟩
theorem turn_bd (s : St) (d : Int) : 0 ≤ turnF s d ∧ turnF s d ≤ 15 := by
  unfold turnF
  omega
theorem gateF_bd {l : Lv} {s : St} (h0 : 0 ≤ s.gate) (h : s.gate ≤ l.gn) : s.gate ≤ gateF l s ∧ gateF l s ≤ l.gn := by
  unfold gateF
  split
  · rename_i h1
    simp only [Bool.and_eq_true, decide_eq_true_eq] at h1
    omega
  · omega
/-- a tick keeps a state valid -/
theorem step_ok {l : Lv} {s : St} (d p : Int) (b : Bool) (hl : l.gn ≤ 3) (h : s.Ok l) (ht : s.done = true ∨ s.over = true ∨ s.tick < l.ticks) (h60 : l.ticks ≤ 60) : (stepF l s d p b).Ok l := by
  obtain ⟨h1, h2, h3, h4, h5, h6, h7, h8, h9, h10⟩ := h
  unfold stepF
  by_cases hd : (s.done || s.over) = true
  · rw [if_pos hd]; exact ⟨h1, h2, h3, h4, h5, h6, h7, h8, h9, h10⟩
  · rw [if_neg hd]
    have hd : (s.done || s.over) = false := by simpa using hd
    simp only [Bool.or_eq_false_iff] at hd
    obtain ⟨hd, ho⟩ := hd
    have ht : s.tick < l.ticks := by
      rcases ht with ht | ht | ht
      · rw [hd] at ht; cases ht
      · rw [ho] at ht; cases ht
      · exact ht
    by_cases hb : b = true
    · rw [if_pos hb]
      exact ⟨⟨by simp only; omega, by simp only; omega⟩, h2, h3, h4, h5, h6, by simp only; omega, h8, h9, h10⟩
    · rw [if_neg hb]
      unfold driveF
      generalize hs1 : ({ s with tick := s.tick + 1 } : St) = s1
      have e1 : s1.tick = s.tick + 1 := by rw [← hs1]
      have e2 : s1.ax = s.ax := by rw [← hs1]
      have e3 : s1.ay = s.ay := by rw [← hs1]
      have e4 : s1.fx = s.fx := by rw [← hs1]
      have e5 : s1.fy = s.fy := by rw [← hs1]
      have e6 : s1.turn = s.turn := by rw [← hs1]
      have e7 : s1.gate = s.gate := by rw [← hs1]
      have e8 : s1.done = s.done := by rw [← hs1]
      have e9 : s1.over = s.over := by rw [← hs1]
      obtain ⟨m1, m2, m3, m4, m5⟩ := moved_same l s1 d p
      have m6 := moved_len (l := l) (s := s1) d p (by rw [e4, e5]; exact h3)
      have m7 := moved_fr (l := l) (s := s1) d p (by rw [e2, e3]; exact h9)
      have m8 := turn_bd s1 d
      split
      · rename_i hv
        have m9 := gateF_bd (l := l) (s := movedF l s1 d p) (by omega) (by omega)
        refine ⟨⟨by simp only; omega, by simp only; omega⟩, hv, m6, ⟨by simp only; omega, by simp only; omega⟩, ⟨by simp only; omega, by simp only; omega⟩, by simp only [m5, e9, ho, Bool.and_false], by simp only; omega, by simp only; omega, m7, fun hdn => ?_⟩
        simp only [doneF, Bool.and_eq_true, decide_eq_true_eq] at hdn
        exact hdn.1
      · refine ⟨⟨by simp only; omega, by simp only; omega⟩, by simp only; rw [e2, e3]; exact h2, by simp only; rw [e4, e5]; exact h3, ⟨by simp only; omega, by simp only; omega⟩, ⟨by simp only; omega, by simp only; omega⟩, by simp only [e8, hd, Bool.false_and], by simp only; omega, by simp only; omega, by simp only; rw [e2, e3]; exact h9, fun hdn => ?_⟩
        simp only [e8, hd] at hdn
        cases hdn
end Go.Proofs.Ytgiadgbfeldheaa
