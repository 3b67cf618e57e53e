/- The levels drawn, seldom bent. -/
import Derived.Test.YtgiadgbfeldheaaDl
set_option linter.unusedVariables false
set_option linter.unusedSimpArgs false
namespace Go.Proofs.Ytgiadgbfeldheaa
open Go.RowKit

/-- boxes behind boxes -/
def glue (f : Nat → Bx) (n : Nat) (f2 : Nat → Bx) : Nat → Bx := fun i => if i < n then f i else f2 (i - n)
theorem bvals_glue (f : Nat → Bx) (n : Nat) (f2 : Nat → Bx) (m : Nat) : bvals (glue f n f2) (n + m) = bvals f n ++ bvals f2 m := by
  rw [bvals_add]
  congr 1
  · exact bvals_congr _ fun i hi => by simp [glue, hi]
  · exact bvals_congr _ fun i hi => by
      have h1 : ¬ (n + i < n) := by omega
      have h2 : n + i - n = i := by omega
      simp only [glue, if_neg h1, h2]
theorem glue_all {p : Bx → Prop} {f f2 : Nat → Bx} {n m : Nat} (h : ∀ i, i < n → p (f i)) (h2 : ∀ i, i < m → p (f2 i)) : ∀ i, i < n + m → p (glue f n f2 i) := by
  intro i hi
  by_cases e : i < n
  · simp only [glue, if_pos e]; exact h i e
  · simp only [glue, if_neg e]; exact h2 _ (by omega)
theorem app_row {w : World} {ops : Array Oper} {rest : List Oper} {o : Oper} {a : Act} {Q : Exit → Act → World → Prop} (hgd : o.guard = none) (s x : Operand)
    (ho : o.op = .call { callee := .builtin .append, args := #[s, x], argTypes := #[39, 39] }) (g cap n : Nat) (f : Nat → Bx) (A : Option Addr) (m c : Nat) (f2 : Nat → Bx)
    (hs : a.eval s = .slice (some ⟨g, 0, none⟩) n cap) (hrow : Row w g cap n f) (hx : a.eval x = .slice A m c) (hB : BoxesAt w A m f2) (hn : n + m ≤ 1000)
    (h : ∀ g' cap' w', Row w' g' cap' (n + m) (glue f n f2) → g ≤ g' → Up g w.heap.size w w' → g' < w'.heap.size → wpList Try.prog ops Q rest (a.put o.dst (.slice (some ⟨g', 0, none⟩) (n + m) cap')) w') : wpList Try.prog ops Q (o :: rest) a w := by
  refine app_boxes hgd s x ho g _ n _ hs hrow A m c f2 hx hB (by omega) (Nat.le_of_lt hrow.lt) ?_
  intro v' w' hown hgrow hnil
  have hup : Up g w.heap.size w w' := ⟨hgrow.os, hgrow.tape, hgrow.output, hgrow.size, fun k hk hne => hgrow.block k hk (by simpa [Value.ownBlock] using hne)⟩
  rcases hown.2 with ⟨h', _⟩ | ⟨g', cap', cur, rfl, hb, hg, h1, h2, h3, h4⟩
  · have := hnil.1 h'
    simp at this
  · exact h g' cap' w' (Row.rebase hown (bvals_glue f n f2 m).symm) hb hup (Array.getElem?_eq_some_iff.1 hg).1

/-- a level that is bent: its block, the result's block -/
structure BM (w0 : World) (R k : Nat) (cs : Array Value) (w : World) : Prop where
  rd : Rd w R k
  up : Up R w0.heap.size w0 w
  blk : Blk w w0.heap.size cs
  res : Blk w (w0.heap.size + 1) #[.int .i64 0, .int .i64 0, .int .i64 0, .int .i64 0, .slice none 0 0, .slice none 0 0, .int .i64 0, .int .i64 0, .int .i64 0, .int .i64 0, .int .i64 0]
  hR : R < w0.heap.size
section
variable {w0 w w' : World} {R k : Nat} {cs : Array Value}
theorem BM.alloc (h : BM w0 R k cs w) (o : Obj) : BM w0 R k cs (w.alloc o) := ⟨h.rd.keep ((Below.refl _ _).alloc h.rd.lt o), h.up.alloc h.up.size o, h.blk.alloc o, h.res.alloc o, h.hR⟩
theorem BM.pass {k' : Nat} (h : BM w0 R k cs w) (hr : Rd w' R k') (hu : Up R w.heap.size w w') : BM w0 R k' cs w' := by
  have e1 := h.hR
  exact ⟨hr, h.up.trans (hu.mono h.up.size), h.blk.up hu h.blk.lt (by omega), h.res.up hu h.res.lt (by omega), h.hR⟩
theorem BM.grow {g : Nat} (h : BM w0 R k cs w) (hg : w0.heap.size + 1 < g) (hu : Up g w.heap.size w w') : BM w0 R k cs w' := by
  have e1 := h.hR; have e2 := h.up.size; have e3 := h.rd.lt
  exact ⟨h.rd.keep (hu.under (by omega) (by omega)), h.up.trans (hu.shift (by omega) (by omega)), h.blk.up hu h.blk.lt (by omega), h.res.up hu h.res.lt (by omega), h.hR⟩
theorem BM.set (h : BM w0 R k cs w) (i : Nat) (v : Value) : BM w0 R k (cs.setIfInBounds i v) (w.setCell ⟨w0.heap.size, i, none⟩ v) := by
  have e1 := h.hR
  exact ⟨h.rd.keep (Below.setCell (p := ⟨w0.heap.size, i, none⟩) (Below.refl _ _) (by simp only; omega) _), h.up.setCell (p := ⟨w0.heap.size, i, none⟩) (.inr (Nat.le_refl _)) _, h.blk.set i v, h.res.other (by simp only; omega) _, h.hR⟩
theorem BM.done (h : BM w0 R k cs w) (c : Array Value) : Rd (w.setRow (w0.heap.size + 1) c) R k ∧ Up R w0.heap.size w0 (w.setRow (w0.heap.size + 1) c) := by
  have e1 := h.hR
  exact ⟨h.rd.keep (Below.setRow (Below.refl _ _) (by omega) _), h.up.setRow (Nat.le_succ _) _⟩
theorem Row.row {g cap n : Nat} {f : Nat → Bx} (h : Row w g cap n f) {b : Nat} (hne : g ≠ b) (c : Array Value) : Row (w.setRow b c) g cap n f := h.keep (setRow_other w b g c hne)
end
set_option maxRecDepth 100000 in
set_option maxHeartbeats 1000000 in
theorem lBent_any (R k : Nat) (l : Lv) (w : World) (hr : Rd w R k) (hk : k < 810000) (hl : LvR w R l) (hs : l.sm 4) : Calls Try.prog 44 #[.pointer (some ⟨R, 0, none⟩), .agg #[.int .i64 l.id, .int .i64 l.ticks, .int .i64 l.sx, .int .i64 l.sy, .slice l.wa l.wn l.wc, .slice l.ga l.gn l.gc, .int .i64 l.flx, .int .i64 l.fly, .int .i64 l.fhx, .int .i64 l.fhy, .int .i64 l.bans]] w (DrawnLevel 6 60 R k w) := by
  have hR := hr.lt
  have hne : w.heap.size ≠ R := by omega
  obtain ⟨lid, lticks, lsx, lsy, wa, wn, wc, ga, gn, gc, flx, fly, fhx, fhy, bans, wf, gf⟩ := l
  obtain ⟨s1, s2, s3, s4, s5, s6, s7, s8, s9, s10, s11, s12⟩ := hs
  simp only at s1 s2 s3 s4 s5 s6 s7 s8 s9 s10 s11 s12 ⊢
  go_enter Try.func44, Try.ntmps44
  go_wp2_with fail
  have B0 : BM w R k #[.int .i64 lid, .int .i64 lticks, .int .i64 lsx, .int .i64 lsy, .slice wa wn wc, .slice ga gn gc, .int .i64 flx, .int .i64 fly, .int .i64 fhx, .int .i64 fhy, .int .i64 bans] ((w.alloc (.cells #[.int .i64 lid, .int .i64 lticks, .int .i64 lsx, .int .i64 lsy, .slice wa wn wc, .slice ga gn gc, .int .i64 flx, .int .i64 fly, .int .i64 fhx, .int .i64 fhy, .int .i64 bans] 43)).alloc (.cells #[.int .i64 0, .int .i64 0, .int .i64 0, .int .i64 0, .slice none 0 0, .slice none 0 0, .int .i64 0, .int .i64 0, .int .i64 0, .int .i64 0, .int .i64 0] 43)) :=
    ⟨Rd.keep hr (by (repeat (first | with_reducible assumption | with_reducible exact Below.refl _ _ | ((with_reducible refine Below.alloc ?_ ?_ _); rotate_left; · exact (by first | omega | (simp; done) | (simp; omega))) | ((with_reducible refine Below.setCell ?_ ?_ _); rotate_left; · exact (by first | omega | (simp; done) | (simp; omega))) | with_reducible refine Below.drew ?_ | assumption | exact Below.refl _ _ | refine Below.alloc ?_ (by first | omega | (simp; done) | (simp; omega)) _ | refine Below.setCell ?_ (by first | omega | (simp; done) | (simp; omega)) _ | refine Below.drew ?_))), by (repeat (first | assumption | exact Up.refl _ _ _ | refine Up.alloc ?_ (by first | omega | (simp; done) | (simp; omega)) _ | refine Up.setCell ?_ (.inr (by first | omega | (simp; done) | (simp; omega))) _ | refine Up.drew ?_ | refine Up.drewN ?_ _)), (Blk.at rfl).alloc _, Blk.at (by simp), hR⟩
  refine (pick_any R k 24 _ B0.rd (by omega) (by omega) (by omega)).mono ?_
  rintro e w1 ⟨v, rfl, hv0, hv1, hr1, hu1⟩
  have B1 := B0.pass hr1 hu1
  clear B0 hr1 hu1
  have hz0 := B1.blk.lt
  have hz1 := B1.res.lt
  have hN : w1.heap.size ≠ R := by omega
  obtain ⟨q0, q1, q2, q3, q4, q5, q6, q7, q8, q9, q10⟩ := B1.blk.c11
  have qf := B1.blk.frozen
  by_cases h0 : v = 0
  · subst h0
    go_wp2_with fail
    have Ba := B1.alloc (.cells #[.int .i64 (-1), .int .i64 99, .int .i64 100] 3)
    refine (pick_any R (k + 1) 3 _ Ba.rd (by omega) (by omega) (by omega)).mono ?_
    rintro e w2 ⟨v2, rfl, hv2, hw2, hr2, hu2⟩
    have B2 := Ba.pass hr2 hu2
    have N2 : Blk w2 w1.heap.size #[.int .i64 (-1), .int .i64 99, .int .i64 100] := (Blk.at rfl).up hu2 (by simp) hN
    clear q0 q1 q2 q3 q4 q5 q6 q7 q8 q9 q10 qf B1 Ba hr2 hu2
    have qq := B2.blk.cell 0
    have qf := B2.blk.frozen
    have n0 := N2.cell 0;have n1 := N2.cell 1;have n2 := N2.cell 2
    simp only [List.getElem?_toArray, List.getElem?_cons_zero, List.getElem?_cons_succ] at qq n0 n1 n2
    rcases three_of hv2 hw2 with rfl | rfl | rfl
    · go_upto_region 16 with fail
      have B3 : BM w R (k + 1 + 1) #[.int .i64 (-1), .int .i64 lticks, .int .i64 lsx, .int .i64 lsy, .slice wa wn wc, .slice ga gn gc, .int .i64 flx, .int .i64 fly, .int .i64 fhx, .int .i64 fhy, .int .i64 bans] _ := B2.set 0 (.int .i64 (-1))
      have hO := Lib.hid B3.blk
      have hA := Lib.hid B3.res
      have hD := Lib.hid (B3.done #[.int .i64 (-1), .int .i64 lticks, .int .i64 lsx, .int .i64 lsy, .slice wa wn wc, .slice ga gn gc, .int .i64 flx, .int .i64 fly, .int .i64 fhx, .int .i64 fhy, .int .i64 bans])
      refine wp_copy (ty := 43) rfl hO.out Try.underlying43 rfl (by kernel_rfl) rfl rfl hA.out rfl (by simp [Value.oneCell']) ?_
      rename_i K hK
      refine hK _ _ (wp_ret ?_)
      refine bodyPost_ret (res_row rfl rfl (hA.out.row _) Try.underlying43 rfl (by kernel_rfl)) rfl ?_
      obtain ⟨hL2, hL3⟩ := hD.out
      exact ⟨⟨(-1), lticks, lsx, lsy, wa, wn, wc, ga, gn, gc, flx, fly, fhx, fhy, bans, wf, gf⟩, _, rfl, hl.up hL3, ⟨by simp only; omega, by simp only; omega, by simp only; omega, by simp only; omega, by simp only; omega, by simp only; omega, s7, by simp only; omega, s9, s10, s11, s12⟩, by omega, by omega, hL2, hL3⟩
    · go_upto_region 16 with fail
      have B3 : BM w R (k + 1 + 1) #[.int .i64 99, .int .i64 lticks, .int .i64 lsx, .int .i64 lsy, .slice wa wn wc, .slice ga gn gc, .int .i64 flx, .int .i64 fly, .int .i64 fhx, .int .i64 fhy, .int .i64 bans] _ := B2.set 0 (.int .i64 99)
      have hO := Lib.hid B3.blk
      have hA := Lib.hid B3.res
      have hD := Lib.hid (B3.done #[.int .i64 99, .int .i64 lticks, .int .i64 lsx, .int .i64 lsy, .slice wa wn wc, .slice ga gn gc, .int .i64 flx, .int .i64 fly, .int .i64 fhx, .int .i64 fhy, .int .i64 bans])
      refine wp_copy (ty := 43) rfl hO.out Try.underlying43 rfl (by kernel_rfl) rfl rfl hA.out rfl (by simp [Value.oneCell']) ?_
      rename_i K hK
      refine hK _ _ (wp_ret ?_)
      refine bodyPost_ret (res_row rfl rfl (hA.out.row _) Try.underlying43 rfl (by kernel_rfl)) rfl ?_
      obtain ⟨hL2, hL3⟩ := hD.out
      exact ⟨⟨99, lticks, lsx, lsy, wa, wn, wc, ga, gn, gc, flx, fly, fhx, fhy, bans, wf, gf⟩, _, rfl, hl.up hL3, ⟨by simp only; omega, by simp only; omega, by simp only; omega, by simp only; omega, by simp only; omega, by simp only; omega, s7, by simp only; omega, s9, s10, s11, s12⟩, by omega, by omega, hL2, hL3⟩
    · go_upto_region 16 with fail
      have B3 : BM w R (k + 1 + 1) #[.int .i64 100, .int .i64 lticks, .int .i64 lsx, .int .i64 lsy, .slice wa wn wc, .slice ga gn gc, .int .i64 flx, .int .i64 fly, .int .i64 fhx, .int .i64 fhy, .int .i64 bans] _ := B2.set 0 (.int .i64 100)
      have hO := Lib.hid B3.blk
      have hA := Lib.hid B3.res
      have hD := Lib.hid (B3.done #[.int .i64 100, .int .i64 lticks, .int .i64 lsx, .int .i64 lsy, .slice wa wn wc, .slice ga gn gc, .int .i64 flx, .int .i64 fly, .int .i64 fhx, .int .i64 fhy, .int .i64 bans])
      refine wp_copy (ty := 43) rfl hO.out Try.underlying43 rfl (by kernel_rfl) rfl rfl hA.out rfl (by simp [Value.oneCell']) ?_
      rename_i K hK
      refine hK _ _ (wp_ret ?_)
      refine bodyPost_ret (res_row rfl rfl (hA.out.row _) Try.underlying43 rfl (by kernel_rfl)) rfl ?_
      obtain ⟨hL2, hL3⟩ := hD.out
      exact ⟨⟨100, lticks, lsx, lsy, wa, wn, wc, ga, gn, gc, flx, fly, fhx, fhy, bans, wf, gf⟩, _, rfl, hl.up hL3, ⟨by simp only; omega, by simp only; omega, by simp only; omega, by simp only; omega, by simp only; omega, by simp only; omega, s7, by simp only; omega, s9, s10, s11, s12⟩, by omega, by omega, hL2, hL3⟩
  by_cases h1 : v = 1
  · subst h1
    go_wp2_with fail
    have Ba := B1.alloc (.cells #[.int .i64 0, .int .i64 1, .int .i64 60, .int .i64 61] 3)
    refine (pick_any R (k + 1) 4 _ Ba.rd (by omega) (by omega) (by omega)).mono ?_
    rintro e w2 ⟨v2, rfl, hv2, hw2, hr2, hu2⟩
    have B2 := Ba.pass hr2 hu2
    have N2 : Blk w2 w1.heap.size #[.int .i64 0, .int .i64 1, .int .i64 60, .int .i64 61] := (Blk.at rfl).up hu2 (by simp) hN
    clear q0 q1 q2 q3 q4 q5 q6 q7 q8 q9 q10 qf B1 Ba hr2 hu2
    have qq := B2.blk.cell 1
    have qf := B2.blk.frozen
    have n0 := N2.cell 0;have n1 := N2.cell 1;have n2 := N2.cell 2;have n3 := N2.cell 3
    simp only [List.getElem?_toArray, List.getElem?_cons_zero, List.getElem?_cons_succ] at qq n0 n1 n2 n3
    rcases four_of hv2 hw2 with rfl | rfl | rfl | rfl
    · go_upto_region 16 with fail
      have B3 : BM w R (k + 1 + 1) #[.int .i64 lid, .int .i64 0, .int .i64 lsx, .int .i64 lsy, .slice wa wn wc, .slice ga gn gc, .int .i64 flx, .int .i64 fly, .int .i64 fhx, .int .i64 fhy, .int .i64 bans] _ := B2.set 1 (.int .i64 0)
      have hO := Lib.hid B3.blk
      have hA := Lib.hid B3.res
      have hD := Lib.hid (B3.done #[.int .i64 lid, .int .i64 0, .int .i64 lsx, .int .i64 lsy, .slice wa wn wc, .slice ga gn gc, .int .i64 flx, .int .i64 fly, .int .i64 fhx, .int .i64 fhy, .int .i64 bans])
      refine wp_copy (ty := 43) rfl hO.out Try.underlying43 rfl (by kernel_rfl) rfl rfl hA.out rfl (by simp [Value.oneCell']) ?_
      rename_i K hK
      refine hK _ _ (wp_ret ?_)
      refine bodyPost_ret (res_row rfl rfl (hA.out.row _) Try.underlying43 rfl (by kernel_rfl)) rfl ?_
      obtain ⟨hL2, hL3⟩ := hD.out
      exact ⟨⟨lid, 0, lsx, lsy, wa, wn, wc, ga, gn, gc, flx, fly, fhx, fhy, bans, wf, gf⟩, _, rfl, hl.up hL3, ⟨by simp only; omega, by simp only; omega, by simp only; omega, by simp only; omega, by simp only; omega, by simp only; omega, s7, by simp only; omega, s9, s10, s11, s12⟩, by omega, by omega, hL2, hL3⟩
    · go_upto_region 16 with fail
      have B3 : BM w R (k + 1 + 1) #[.int .i64 lid, .int .i64 1, .int .i64 lsx, .int .i64 lsy, .slice wa wn wc, .slice ga gn gc, .int .i64 flx, .int .i64 fly, .int .i64 fhx, .int .i64 fhy, .int .i64 bans] _ := B2.set 1 (.int .i64 1)
      have hO := Lib.hid B3.blk
      have hA := Lib.hid B3.res
      have hD := Lib.hid (B3.done #[.int .i64 lid, .int .i64 1, .int .i64 lsx, .int .i64 lsy, .slice wa wn wc, .slice ga gn gc, .int .i64 flx, .int .i64 fly, .int .i64 fhx, .int .i64 fhy, .int .i64 bans])
      refine wp_copy (ty := 43) rfl hO.out Try.underlying43 rfl (by kernel_rfl) rfl rfl hA.out rfl (by simp [Value.oneCell']) ?_
      rename_i K hK
      refine hK _ _ (wp_ret ?_)
      refine bodyPost_ret (res_row rfl rfl (hA.out.row _) Try.underlying43 rfl (by kernel_rfl)) rfl ?_
      obtain ⟨hL2, hL3⟩ := hD.out
      exact ⟨⟨lid, 1, lsx, lsy, wa, wn, wc, ga, gn, gc, flx, fly, fhx, fhy, bans, wf, gf⟩, _, rfl, hl.up hL3, ⟨by simp only; omega, by simp only; omega, by simp only; omega, by simp only; omega, by simp only; omega, by simp only; omega, s7, by simp only; omega, s9, s10, s11, s12⟩, by omega, by omega, hL2, hL3⟩
    · go_upto_region 16 with fail
      have B3 : BM w R (k + 1 + 1) #[.int .i64 lid, .int .i64 60, .int .i64 lsx, .int .i64 lsy, .slice wa wn wc, .slice ga gn gc, .int .i64 flx, .int .i64 fly, .int .i64 fhx, .int .i64 fhy, .int .i64 bans] _ := B2.set 1 (.int .i64 60)
      have hO := Lib.hid B3.blk
      have hA := Lib.hid B3.res
      have hD := Lib.hid (B3.done #[.int .i64 lid, .int .i64 60, .int .i64 lsx, .int .i64 lsy, .slice wa wn wc, .slice ga gn gc, .int .i64 flx, .int .i64 fly, .int .i64 fhx, .int .i64 fhy, .int .i64 bans])
      refine wp_copy (ty := 43) rfl hO.out Try.underlying43 rfl (by kernel_rfl) rfl rfl hA.out rfl (by simp [Value.oneCell']) ?_
      rename_i K hK
      refine hK _ _ (wp_ret ?_)
      refine bodyPost_ret (res_row rfl rfl (hA.out.row _) Try.underlying43 rfl (by kernel_rfl)) rfl ?_
      obtain ⟨hL2, hL3⟩ := hD.out
      exact ⟨⟨lid, 60, lsx, lsy, wa, wn, wc, ga, gn, gc, flx, fly, fhx, fhy, bans, wf, gf⟩, _, rfl, hl.up hL3, ⟨by simp only; omega, by simp only; omega, by simp only; omega, by simp only; omega, by simp only; omega, by simp only; omega, s7, by simp only; omega, s9, s10, s11, s12⟩, by omega, by omega, hL2, hL3⟩
    · go_upto_region 16 with fail
      have B3 : BM w R (k + 1 + 1) #[.int .i64 lid, .int .i64 61, .int .i64 lsx, .int .i64 lsy, .slice wa wn wc, .slice ga gn gc, .int .i64 flx, .int .i64 fly, .int .i64 fhx, .int .i64 fhy, .int .i64 bans] _ := B2.set 1 (.int .i64 61)
      have hO := Lib.hid B3.blk
      have hA := Lib.hid B3.res
      have hD := Lib.hid (B3.done #[.int .i64 lid, .int .i64 61, .int .i64 lsx, .int .i64 lsy, .slice wa wn wc, .slice ga gn gc, .int .i64 flx, .int .i64 fly, .int .i64 fhx, .int .i64 fhy, .int .i64 bans])
      refine wp_copy (ty := 43) rfl hO.out Try.underlying43 rfl (by kernel_rfl) rfl rfl hA.out rfl (by simp [Value.oneCell']) ?_
      rename_i K hK
      refine hK _ _ (wp_ret ?_)
      refine bodyPost_ret (res_row rfl rfl (hA.out.row _) Try.underlying43 rfl (by kernel_rfl)) rfl ?_
      obtain ⟨hL2, hL3⟩ := hD.out
      exact ⟨⟨lid, 61, lsx, lsy, wa, wn, wc, ga, gn, gc, flx, fly, fhx, fhy, bans, wf, gf⟩, _, rfl, hl.up hL3, ⟨by simp only; omega, by simp only; omega, by simp only; omega, by simp only; omega, by simp only; omega, by simp only; omega, s7, by simp only; omega, s9, s10, s11, s12⟩, by omega, by omega, hL2, hL3⟩
  by_cases h2 : v = 2
  · subst h2
    go_wp2_with fail
    refine (lVec_any R (k + 1) _ B1.rd (by omega)).mono ?_
    rintro e w2 ⟨x, y, k2, rfl, hx1, hx2, hy1, hy2, hk1, hk2, hr2, hu2⟩
    have B2 := B1.pass hr2 hu2
    clear q0 q1 q2 q3 q4 q5 q6 q7 q8 q9 q10 qf B1 hr2 hu2
    obtain ⟨_, _, q2, q3, _⟩ := B2.blk.c11
    have qf := B2.blk.frozen
    go_upto_region 16 with fail
    have B3 : BM w R k2 #[.int .i64 lid, .int .i64 lticks, .int .i64 x, .int .i64 y, .slice wa wn wc, .slice ga gn gc, .int .i64 flx, .int .i64 fly, .int .i64 fhx, .int .i64 fhy, .int .i64 bans] _ := (B2.set 2 (.int .i64 x)).set 3 (.int .i64 y)
    have hO := Lib.hid B3.blk
    have hA := Lib.hid B3.res
    have hD := Lib.hid (B3.done #[.int .i64 lid, .int .i64 lticks, .int .i64 x, .int .i64 y, .slice wa wn wc, .slice ga gn gc, .int .i64 flx, .int .i64 fly, .int .i64 fhx, .int .i64 fhy, .int .i64 bans])
    refine wp_copy (ty := 43) rfl hO.out Try.underlying43 rfl (by kernel_rfl) rfl rfl hA.out rfl (by simp [Value.oneCell']) ?_
    rename_i K hK
    refine hK _ _ (wp_ret ?_)
    refine bodyPost_ret (res_row rfl rfl (hA.out.row _) Try.underlying43 rfl (by kernel_rfl)) rfl ?_
    obtain ⟨hL2, hL3⟩ := hD.out
    exact ⟨⟨lid, lticks, x, y, wa, wn, wc, ga, gn, gc, flx, fly, fhx, fhy, bans, wf, gf⟩, _, rfl, hl.up hL3, ⟨by simp only; omega, by simp only; omega, by simp only; omega, by simp only; omega, by simp only; omega, by simp only; omega, s7, by simp only; omega, s9, s10, s11, s12⟩, by omega, by omega, hL2, hL3⟩
  by_cases h3 : v = 3
  · subst h3
    have hp := (hl.up (B1.alloc (.cells #[] 41)).up).1.1
    go_wp2_with (at_builtin; refine app_row rfl _ _ rfl w1.heap.size 0 0 bx0 wa wn wc wf rfl (Row.empty bx0 rfl) rfl hp (by omega) ?_; intro g1 c1 w2 hrow2 hge2 hu2 hlt2; simp only [Nat.zero_add] at hrow2 ⊢)
    have B2 := (B1.alloc (.cells #[] 41)).grow hz1 hu2
    have hg1 : g1 ≠ R := by omega
    refine (lBox_any R (k + 1) _ B2.rd (by omega)).mono ?_
    rintro e w3 ⟨x0, x1, x2, x3, k3, rfl, b1, b2, b3, b4, b5, b6, b7, b8, hk1, hk2, hr3, hu3⟩
    have B3 := B2.pass hr3 hu3
    have row3 := hrow2.up hu3 hrow2.lt hg1
    clear B2 hrow2 hr3 hu3 hp
    go_wp2_with fail
    refine (lBox_any R k3 _ B3.rd (by omega)).mono ?_
    rintro e w4 ⟨z0, z1, z2, z3, k4, rfl, c1', c2', c3', c4', c5', c6', c7', c8', hk3, hk4, hr4, hu4⟩
    have B4 := B3.pass hr4 hu4
    have row4 := row3.up hu4 row3.lt hg1
    have hz04 := B4.blk.lt
    clear q0 q1 q2 q3 q4 q5 q6 q7 q8 q9 q10 qf B1 B3 row3 hr4 hu4 hu2
    have h2b : BoxesAt (w4.alloc (.cells #[.int .i64 x0, .int .i64 x1, .int .i64 x2, .int .i64 x3, .int .i64 z0, .int .i64 z1, .int .i64 z2, .int .i64 z3] 41)) (some ⟨w4.heap.size, 0, none⟩) 2 (fun i => if i = 0 then ⟨x0, x1, x2, x3⟩ else ⟨z0, z1, z2, z3⟩) := .inr ⟨w4.heap.size, 0, rfl, by simp, fun i hi => by
      have : i = 0 ∨ i = 1 := by omega
      rcases this with rfl | rfl <;> simp [BoxCells, go_sem]⟩
    have hsm2 : ∀ i, i < 2 → Bx.sm ((fun i => if i = 0 then ⟨x0, x1, x2, x3⟩ else ⟨z0, z1, z2, z3⟩ : Nat → Bx) i) := fun i hi => by
      have : i = 0 ∨ i = 1 := by omega
      rcases this with rfl | rfl
      · exact Bx.sm_of b1 b2 b3 b4 b5 b6 b7 b8
      · exact Bx.sm_of c1' c2' c3' c4' c5' c6' c7' c8'
    generalize (fun i => if i = 0 then ⟨x0, x1, x2, x3⟩ else ⟨z0, z1, z2, z3⟩ : Nat → Bx) = f2 at *
    go_upto_region 16 with (at_builtin; refine app_row rfl _ _ rfl g1 c1 wn _ (some ⟨w4.heap.size, 0, none⟩) 2 2 f2 rfl (row4.alloc _) rfl h2b (by omega) ?_; intro g5 c5 w5 hrow5 hge5 hu5 hlt5; have B5 := (B4.alloc (.cells #[.int .i64 x0, .int .i64 x1, .int .i64 x2, .int .i64 x3, .int .i64 z0, .int .i64 z1, .int .i64 z2, .int .i64 z3] 41)).grow (by omega) hu5; have qq := B5.blk.cell 4; have qf := B5.blk.frozen; simp only [List.getElem?_toArray, List.getElem?_cons_zero, List.getElem?_cons_succ] at qq)
    have B6 : BM w R k4 #[.int .i64 lid, .int .i64 lticks, .int .i64 lsx, .int .i64 lsy, .slice (some ⟨g5, 0, none⟩) (wn + 2) c5, .slice ga gn gc, .int .i64 flx, .int .i64 fly, .int .i64 fhx, .int .i64 fhy, .int .i64 bans] _ := B5.set 4 (.slice (some ⟨g5, 0, none⟩) (wn + 2) c5)
    have row6 := Lib.hid (hrow5.other (p := ⟨w.heap.size, 4, none⟩) (by simp only; omega) (.slice (some ⟨g5, 0, none⟩) (wn + 2) c5))
    have hcap := hrow5.le_cap
    clear qq qf
    have hO := Lib.hid B6.blk
    have hA := Lib.hid B6.res
    have hD := Lib.hid (B6.done #[.int .i64 lid, .int .i64 lticks, .int .i64 lsx, .int .i64 lsy, .slice (some ⟨g5, 0, none⟩) (wn + 2) c5, .slice ga gn gc, .int .i64 flx, .int .i64 fly, .int .i64 fhx, .int .i64 fhy, .int .i64 bans])
    refine wp_copy (ty := 43) rfl hO.out Try.underlying43 rfl (by kernel_rfl) rfl rfl hA.out rfl (by simp [Value.oneCell']) ?_
    rename_i K hK
    refine hK _ _ (wp_ret ?_)
    refine bodyPost_ret (res_row rfl rfl (hA.out.row _) Try.underlying43 rfl (by kernel_rfl)) rfl ?_
    obtain ⟨hL2, hL3⟩ := hD.out
    have hn := row6.out.row (b := w.heap.size + 1) (by omega) #[.int .i64 lid, .int .i64 lticks, .int .i64 lsx, .int .i64 lsy, .slice (some ⟨g5, 0, none⟩) (wn + 2) c5, .slice ga gn gc, .int .i64 flx, .int .i64 fly, .int .i64 fhx, .int .i64 fhy, .int .i64 bans]
    exact ⟨⟨lid, lticks, lsx, lsy, some ⟨g5, 0, none⟩, wn + 2, c5, ga, gn, gc, flx, fly, fhx, fhy, bans, _, gf⟩, _, rfl, ⟨⟨hn.boxes, (hl.up hL3).1.2⟩, fun b o s hb => by
          simp only [Option.some.injEq, Addr.mk.injEq] at hb
          obtain ⟨rfl, _⟩ := hb
          omega, (hl.up hL3).2.2⟩, ⟨by simp only; omega, by simp only; omega, by simp only; omega, by simp only; omega, by simp only; omega, by simp only; omega, s7, by simp only; omega, by have hg := @glue_all Bx.sm bx0 wf 0 wn (fun i hi => absurd hi (Nat.not_lt_zero _)) s9; rw [Nat.zero_add] at hg; exact glue_all hg hsm2, s10, hcap, s12⟩, by omega, by omega, hL2, hL3⟩
  by_cases h4 : v = 4
  · subst h4
    have hp := (hl.up (B1.alloc (.cells #[] 41)).up).1.2
    go_wp2_with (at_builtin; refine app_row rfl _ _ rfl w1.heap.size 0 0 bx0 ga gn gc gf rfl (Row.empty bx0 rfl) rfl hp (by omega) ?_; intro g1 c1 w2 hrow2 hge2 hu2 hlt2; simp only [Nat.zero_add] at hrow2 ⊢)
    have B2 := (B1.alloc (.cells #[] 41)).grow hz1 hu2
    have hg1 : g1 ≠ R := by omega
    refine (lBox_any R (k + 1) _ B2.rd (by omega)).mono ?_
    rintro e w3 ⟨x0, x1, x2, x3, k3, rfl, b1, b2, b3, b4, b5, b6, b7, b8, hk1, hk2, hr3, hu3⟩
    have B3 := B2.pass hr3 hu3
    have row3 := hrow2.up hu3 hrow2.lt hg1
    clear B2 hrow2 hr3 hu3 hp
    go_wp2_with fail
    refine (lBox_any R k3 _ B3.rd (by omega)).mono ?_
    rintro e w4 ⟨z0, z1, z2, z3, k4, rfl, c1', c2', c3', c4', c5', c6', c7', c8', hk3, hk4, hr4, hu4⟩
    have B4 := B3.pass hr4 hu4
    have row4 := row3.up hu4 row3.lt hg1
    have hz04 := B4.blk.lt
    clear q0 q1 q2 q3 q4 q5 q6 q7 q8 q9 q10 qf B1 B3 row3 hr4 hu4 hu2
    have h2b : BoxesAt (w4.alloc (.cells #[.int .i64 x0, .int .i64 x1, .int .i64 x2, .int .i64 x3, .int .i64 z0, .int .i64 z1, .int .i64 z2, .int .i64 z3] 41)) (some ⟨w4.heap.size, 0, none⟩) 2 (fun i => if i = 0 then ⟨x0, x1, x2, x3⟩ else ⟨z0, z1, z2, z3⟩) := .inr ⟨w4.heap.size, 0, rfl, by simp, fun i hi => by
      have : i = 0 ∨ i = 1 := by omega
      rcases this with rfl | rfl <;> simp [BoxCells, go_sem]⟩
    have hsm2 : ∀ i, i < 2 → Bx.sm ((fun i => if i = 0 then ⟨x0, x1, x2, x3⟩ else ⟨z0, z1, z2, z3⟩ : Nat → Bx) i) := fun i hi => by
      have : i = 0 ∨ i = 1 := by omega
      rcases this with rfl | rfl
      · exact Bx.sm_of b1 b2 b3 b4 b5 b6 b7 b8
      · exact Bx.sm_of c1' c2' c3' c4' c5' c6' c7' c8'
    generalize (fun i => if i = 0 then ⟨x0, x1, x2, x3⟩ else ⟨z0, z1, z2, z3⟩ : Nat → Bx) = f2 at *
    go_upto_region 16 with (at_builtin; refine app_row rfl _ _ rfl g1 c1 gn _ (some ⟨w4.heap.size, 0, none⟩) 2 2 f2 rfl (row4.alloc _) rfl h2b (by omega) ?_; intro g5 c5 w5 hrow5 hge5 hu5 hlt5; have B5 := (B4.alloc (.cells #[.int .i64 x0, .int .i64 x1, .int .i64 x2, .int .i64 x3, .int .i64 z0, .int .i64 z1, .int .i64 z2, .int .i64 z3] 41)).grow (by omega) hu5; have qq := B5.blk.cell 5; have qf := B5.blk.frozen; simp only [List.getElem?_toArray, List.getElem?_cons_zero, List.getElem?_cons_succ] at qq)
    have B6 : BM w R k4 #[.int .i64 lid, .int .i64 lticks, .int .i64 lsx, .int .i64 lsy, .slice wa wn wc, .slice (some ⟨g5, 0, none⟩) (gn + 2) c5, .int .i64 flx, .int .i64 fly, .int .i64 fhx, .int .i64 fhy, .int .i64 bans] _ := B5.set 5 (.slice (some ⟨g5, 0, none⟩) (gn + 2) c5)
    have row6 := Lib.hid (hrow5.other (p := ⟨w.heap.size, 5, none⟩) (by simp only; omega) (.slice (some ⟨g5, 0, none⟩) (gn + 2) c5))
    have hcap := hrow5.le_cap
    clear qq qf
    have hO := Lib.hid B6.blk
    have hA := Lib.hid B6.res
    have hD := Lib.hid (B6.done #[.int .i64 lid, .int .i64 lticks, .int .i64 lsx, .int .i64 lsy, .slice wa wn wc, .slice (some ⟨g5, 0, none⟩) (gn + 2) c5, .int .i64 flx, .int .i64 fly, .int .i64 fhx, .int .i64 fhy, .int .i64 bans])
    refine wp_copy (ty := 43) rfl hO.out Try.underlying43 rfl (by kernel_rfl) rfl rfl hA.out rfl (by simp [Value.oneCell']) ?_
    rename_i K hK
    refine hK _ _ (wp_ret ?_)
    refine bodyPost_ret (res_row rfl rfl (hA.out.row _) Try.underlying43 rfl (by kernel_rfl)) rfl ?_
    obtain ⟨hL2, hL3⟩ := hD.out
    have hn := row6.out.row (b := w.heap.size + 1) (by omega) #[.int .i64 lid, .int .i64 lticks, .int .i64 lsx, .int .i64 lsy, .slice wa wn wc, .slice (some ⟨g5, 0, none⟩) (gn + 2) c5, .int .i64 flx, .int .i64 fly, .int .i64 fhx, .int .i64 fhy, .int .i64 bans]
    exact ⟨⟨lid, lticks, lsx, lsy, wa, wn, wc, some ⟨g5, 0, none⟩, gn + 2, c5, flx, fly, fhx, fhy, bans, wf, _⟩, _, rfl, ⟨⟨(hl.up hL3).1.1, hn.boxes⟩, (hl.up hL3).2.1, fun b o s hb => by
          simp only [Option.some.injEq, Addr.mk.injEq] at hb
          obtain ⟨rfl, _⟩ := hb
          omega⟩, ⟨by simp only; omega, by simp only; omega, by simp only; omega, by simp only; omega, by simp only; omega, by simp only; omega, s7, by simp only; omega, s9, by have hg := @glue_all Bx.sm bx0 gf 0 gn (fun i hi => absurd hi (Nat.not_lt_zero _)) s10; rw [Nat.zero_add] at hg; exact glue_all hg hsm2, s11, hcap⟩, by omega, by omega, hL2, hL3⟩
  by_cases h5 : v = 5
  · subst h5
    go_wp2_with fail
    refine (lBox_any R (k + 1) _ B1.rd (by omega)).mono ?_
    rintro e w3 ⟨x0, x1, x2, x3, k3, rfl, b1, b2, b3, b4, b5, b6, b7, b8, hk1, hk2, hr3, hu3⟩
    have B3 := B1.pass hr3 hu3
    clear q0 q1 q2 q3 q4 q5 q6 q7 q8 q9 q10 qf B1 hr3 hu3
    obtain ⟨_, _, _, _, _, _, q6, q7, q8, q9, _⟩ := B3.blk.c11
    have qf := B3.blk.frozen
    have hfin : Bx.sm ⟨x0, x1, x2, x3⟩ := Bx.sm_of b1 b2 b3 b4 b5 b6 b7 b8
    go_upto_region 16 with fail
    have B4 : BM w R k3 #[.int .i64 lid, .int .i64 lticks, .int .i64 lsx, .int .i64 lsy, .slice wa wn wc, .slice ga gn gc, .int .i64 x0, .int .i64 x1, .int .i64 x2, .int .i64 x3, .int .i64 bans] _ := (((B3.set 6 (.int .i64 x0)).set 7 (.int .i64 x1)).set 8 (.int .i64 x2)).set 9 (.int .i64 x3)
    have hO := Lib.hid B4.blk
    have hA := Lib.hid B4.res
    have hD := Lib.hid (B4.done #[.int .i64 lid, .int .i64 lticks, .int .i64 lsx, .int .i64 lsy, .slice wa wn wc, .slice ga gn gc, .int .i64 x0, .int .i64 x1, .int .i64 x2, .int .i64 x3, .int .i64 bans])
    refine wp_copy (ty := 43) rfl hO.out Try.underlying43 rfl (by kernel_rfl) rfl rfl hA.out rfl (by simp [Value.oneCell']) ?_
    rename_i K hK
    refine hK _ _ (wp_ret ?_)
    refine bodyPost_ret (res_row rfl rfl (hA.out.row _) Try.underlying43 rfl (by kernel_rfl)) rfl ?_
    obtain ⟨hL2, hL3⟩ := hD.out
    exact ⟨⟨lid, lticks, lsx, lsy, wa, wn, wc, ga, gn, gc, x0, x1, x2, x3, bans, wf, gf⟩, _, rfl, hl.up hL3, ⟨by simp only; omega, by simp only; omega, by simp only; omega, by simp only; omega, by simp only; omega, by simp only; omega, hfin, by simp only; omega, s9, s10, s11, s12⟩, by omega, by omega, hL2, hL3⟩
  by_cases h6 : v = 6
  · subst h6
    go_wp2_with fail
    refine (pick_any R (k + 1) 6 _ B1.rd (by omega) (by omega) (by omega)).mono ?_
    rintro e w2 ⟨v2, rfl, hv2, hw2, hr2, hu2⟩
    have B2 := B1.pass hr2 hu2
    clear q0 q1 q2 q3 q4 q5 q6 q7 q8 q9 q10 qf B1 hr2 hu2
    obtain ⟨_, _, _, _, _, _, _, _, _, _, q10⟩ := B2.blk.c11
    have qf := B2.blk.frozen
    go_upto_region 16 with fail
    have B3 : BM w R (k + 1 + 1) #[.int .i64 lid, .int .i64 lticks, .int .i64 lsx, .int .i64 lsy, .slice wa wn wc, .slice ga gn gc, .int .i64 flx, .int .i64 fly, .int .i64 fhx, .int .i64 fhy, .int .i64 (v2 - 1)] _ := B2.set 10 (.int .i64 (v2 - 1))
    have hO := Lib.hid B3.blk
    have hA := Lib.hid B3.res
    have hD := Lib.hid (B3.done #[.int .i64 lid, .int .i64 lticks, .int .i64 lsx, .int .i64 lsy, .slice wa wn wc, .slice ga gn gc, .int .i64 flx, .int .i64 fly, .int .i64 fhx, .int .i64 fhy, .int .i64 (v2 - 1)])
    refine wp_copy (ty := 43) rfl hO.out Try.underlying43 rfl (by kernel_rfl) rfl rfl hA.out rfl (by simp [Value.oneCell']) ?_
    rename_i K hK
    refine hK _ _ (wp_ret ?_)
    refine bodyPost_ret (res_row rfl rfl (hA.out.row _) Try.underlying43 rfl (by kernel_rfl)) rfl ?_
    obtain ⟨hL2, hL3⟩ := hD.out
    exact ⟨⟨lid, lticks, lsx, lsy, wa, wn, wc, ga, gn, gc, flx, fly, fhx, fhy, v2 - 1, wf, gf⟩, _, rfl, hl.up hL3, ⟨by simp only; omega, by simp only; omega, by simp only; omega, by simp only; omega, by simp only; omega, by simp only; omega, s7, by simp only; omega, s9, s10, s11, s12⟩, by omega, by omega, hL2, hL3⟩
  have g0 : (v == 0) = false := by simpa using h0
  have g1 : (v == 1) = false := by simpa using h1
  have g2 : (v == 2) = false := by simpa using h2
  have g3 : (v == 3) = false := by simpa using h3
  have g4 : (v == 4) = false := by simpa using h4
  have g5 : (v == 5) = false := by simpa using h5
  have g6 : (v == 6) = false := by simpa using h6
  clear q0 q1 q2 q3 q4 q5 q6 q7 q8 q9 q10 qf h0 h1 h2 h3 h4 h5 h6
  go_upto_region 16 with fail
  have hO := Lib.hid B1.blk
  have hA := Lib.hid B1.res
  have hD := Lib.hid (B1.done #[.int .i64 lid, .int .i64 lticks, .int .i64 lsx, .int .i64 lsy, .slice wa wn wc, .slice ga gn gc, .int .i64 flx, .int .i64 fly, .int .i64 fhx, .int .i64 fhy, .int .i64 bans])
  refine wp_copy (ty := 43) rfl hO.out Try.underlying43 rfl (by kernel_rfl) rfl rfl hA.out rfl (by simp [Value.oneCell']) ?_
  rename_i K hK
  refine hK _ _ (wp_ret ?_)
  refine bodyPost_ret (res_row rfl rfl (hA.out.row _) Try.underlying43 rfl (by kernel_rfl)) rfl ?_
  obtain ⟨hL2, hL3⟩ := hD.out
  exact ⟨⟨lid, lticks, lsx, lsy, wa, wn, wc, ga, gn, gc, flx, fly, fhx, fhy, bans, wf, gf⟩, _, rfl, hl.up hL3, ⟨by simp only; omega, by simp only; omega, by simp only; omega, by simp only; omega, by simp only; omega, by simp only; omega, s7, by simp only; omega, s9, s10, s11, s12⟩, by omega, by omega, hL2, hL3⟩
end Go.Proofs.Ytgiadgbfeldheaa
