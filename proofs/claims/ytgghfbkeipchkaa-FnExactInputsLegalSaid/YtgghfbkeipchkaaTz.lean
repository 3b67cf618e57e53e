/- The walk of FnExactInputsLegal. -/
import Derived.Test.YtgghfbkeipchkaaTm
set_option linter.unusedVariables false
set_option linter.unusedSimpArgs false
namespace Go.Proofs.Ytgghfbkeipchkaa
open Go.RowKit

/-- the law's level in memory, its list -/
structure EI (w0 : World) (l : Lv) (a : Option Addr) (n : Nat) (f : Nat → Inp) (w : World) : Prop where
  L : Blk w w0.heap.size #[.int .i64 l.id, .int .i64 l.ticks, .int .i64 l.sx, .int .i64 l.sy, .slice l.wa l.wn l.wc, .slice l.ga l.gn l.gc, .int .i64 l.flx, .int .i64 l.fly, .int .i64 l.fhx, .int .i64 l.fhy, .int .i64 l.bans]
  bel : Below w0.heap.size w0 w
  lv : LvAt w l
  xs : InsAt w a n f
section
variable {w0 w w' : World} {l : Lv} {a : Option Addr} {n : Nat} {f : Nat → Inp}
theorem EI.pass (h : EI w0 l a n f w) (hb : Below w.heap.size w w') : EI w0 l a n f w' := ⟨h.L.below hb h.L.lt, h.bel.trans (hb.mono h.bel.size), h.lv.keep hb, h.xs.keep hb⟩
theorem EI.alloc (h : EI w0 l a n f w) (o : Obj) : EI w0 l a n f (w.alloc o) := h.pass ((Below.refl _ _).alloc (Nat.le_refl _) o)
theorem EI.drew (h : EI w0 l a n f w) : EI w0 l a n f w.drew := ⟨h.L, h.bel.drew, h.lv, h.xs⟩
end
theorem re_bad (l : Lv) (wa : Option Addr) (wc : Nat) (ga : Option Addr) (gc : Nat) (f : Nat → Inp) (k : Nat) : (l.re wa wc ga gc).bad f k = l.bad f k := rfl
theorem re_good (l : Lv) (wa : Option Addr) (wc : Nat) (ga : Option Addr) (gc : Nat) (f : Nat → Inp) : ∀ n, (l.re wa wc ga gc).good f n = l.good f n
  | 0 => rfl
  | n + 1 => by rw [Lv.good, Lv.good, re_good l wa wc ga gc f n, re_bad]
theorem re_leg (l : Lv) (wa : Option Addr) (wc : Nat) (ga : Option Addr) (gc : Nat) (f : Nat → Inp) : ∀ n, (l.re wa wc ga gc).leg f n = l.leg f n
  | 0 => rfl
  | n + 1 => by rw [Lv.leg, Lv.leg, re_good, re_bad, re_leg l wa wc ga gc f n]
theorem re_legV (l : Lv) (wa : Option Addr) (wc : Nat) (ga : Option Addr) (gc : Nat) (f : Nat → Inp) (n : Nat) : (l.re wa wc ga gc).legV f n = l.legV f n := by
  rw [Lv.legV, Lv.legV, re_leg, re_ok]
set_option maxRecDepth 100000 in
set_option maxHeartbeats 4000000 in
theorem lawExInputsLegal (l : Lv) (a : Option Addr) (n c : Nat) (f : Nat → Inp) (w : World) (h : LvIn w l) (hx : InsAt w a n f ∧ n ≤ maxLen) : Calls Try.prog 16 #[.agg #[.int .i64 l.id, .int .i64 l.ticks, .int .i64 l.sx, .int .i64 l.sy, .slice l.wa l.wn l.wc, .slice l.ga l.gn l.gc, .int .i64 l.flx, .int .i64 l.fly, .int .i64 l.fhx, .int .i64 l.fhy, .int .i64 l.bans], .slice a n c] w fun e w' => e = .returned (.bool true) ∧ Below w.heap.size w w' := by
  obtain ⟨hl, h1, h2⟩ := h
  obtain ⟨hx, h3⟩ := hx
  unfold maxLen at h3
  by_cases hs : l.wn + l.gn ≤ 1048576
  · go_enter Try.func16, Try.ntmps16
    go_wp2_with fail
    refine (szLevel_any l _ (by unfold maxLen at h1; omega) (by unfold maxLen at h2; omega)).mono ?_
    rintro e w1 ⟨⟨z1, rfl, hz⟩, hb1⟩
    rw [if_pos hs] at hz
    have I1 : EI w l a n f w1 := EI.pass (w := w.alloc (.cells #[.int .i64 l.id, .int .i64 l.ticks, .int .i64 l.sx, .int .i64 l.sy, .slice l.wa l.wn l.wc, .slice l.ga l.gn l.gc, .int .i64 l.flx, .int .i64 l.fly, .int .i64 l.fhx, .int .i64 l.fhy, .int .i64 l.bans] 61)) ⟨Blk.at rfl, by (repeat (first | with_reducible assumption | with_reducible exact Below.refl _ _ | ((with_reducible refine Below.alloc ?_ ?_ _); rotate_left; · exact (by first | omega | (simp; done) | (simp; omega))) | ((with_reducible refine Below.setCell ?_ ?_ _); rotate_left; · exact (by first | omega | (simp; done) | (simp; omega))) | with_reducible refine Below.drew ?_ | assumption | exact Below.refl _ _ | refine Below.alloc ?_ (by first | omega | (simp; done) | (simp; omega)) _ | refine Below.setCell ?_ (by first | omega | (simp; done) | (simp; omega)) _ | refine Below.drew ?_)), hl.keep (by (repeat (first | with_reducible assumption | with_reducible exact Below.refl _ _ | ((with_reducible refine Below.alloc ?_ ?_ _); rotate_left; · exact (by first | omega | (simp; done) | (simp; omega))) | ((with_reducible refine Below.setCell ?_ ?_ _); rotate_left; · exact (by first | omega | (simp; done) | (simp; omega))) | with_reducible refine Below.drew ?_ | assumption | exact Below.refl _ _ | refine Below.alloc ?_ (by first | omega | (simp; done) | (simp; omega)) _ | refine Below.setCell ?_ (by first | omega | (simp; done) | (simp; omega)) _ | refine Below.drew ?_))), hx.keep (by (repeat (first | with_reducible assumption | with_reducible exact Below.refl _ _ | ((with_reducible refine Below.alloc ?_ ?_ _); rotate_left; · exact (by first | omega | (simp; done) | (simp; omega))) | ((with_reducible refine Below.setCell ?_ ?_ _); rotate_left; · exact (by first | omega | (simp; done) | (simp; omega))) | with_reducible refine Below.drew ?_ | assumption | exact Below.refl _ _ | refine Below.alloc ?_ (by first | omega | (simp; done) | (simp; omega)) _ | refine Below.setCell ?_ (by first | omega | (simp; done) | (simp; omega)) _ | refine Below.drew ?_)))⟩ hb1
    have hz0 : 0 ≤ z1 := by omega
    have hz1 : z1 ≤ 1048576 := by omega
    clear hz hb1
    go_wp2_with fail
    refine (szInS a n c z1 _ (by omega) hz0 hz1).mono ?_
    rintro e w2 ⟨v, rfl, ⟨hv1, hv2⟩, hb2⟩
    have I2 := I1.pass hb2
    by_cases hn : (n : Int) ≤ z1
    · have hv := hv1 hn
      have hv0 : ¬ v < 0 := by omega
      have hnn : n ≤ 1048576 := by omega
      clear hv1 hv2 hv hb2 I1
      (try clear q0 q1 q2 q3 q4 q5 q6 q7 q8 q9 q10); obtain ⟨q0, q1, q2, q3, q4, q5, q6, q7, q8, q9, q10⟩ := I2.L.c11
      go_wp2_with fail
      refine (toLevel_any l _ (by omega) (by omega) I2.lv).mono ?_
      rintro e w3 ⟨wa3, wc3, ga3, gc3, rfl, hl3, hb3⟩
      have I3 := I2.pass hb3
      (try clear q0 q1 q2 q3 q4 q5 q6 q7 q8 q9 q10); obtain ⟨q0, q1, q2, q3, q4, q5, q6, q7, q8, q9, q10⟩ := I3.L.c11
      go_wp2_with fail
      refine (toInS a n c f _ hnn I3.xs).mono ?_
      rintro e w4 ⟨g4, c4, rfl, hi4, _, _, hb4⟩
      have I4 := I3.pass hb4
      have hl4 := hl3.keep hb4
      (try clear q0 q1 q2 q3 q4 q5 q6 q7 q8 q9 q10); obtain ⟨q0, q1, q2, q3, q4, q5, q6, q7, q8, q9, q10⟩ := I4.L.c11
      go_wp2_with fail
      refine (sInputsLegal (l.re wa3 wc3 ga3 gc3) _ n c4 f _ (by simp only; omega) (by simp only; omega) hl4 hnn hi4).mono ?_
      rintro e w5 ⟨rfl, hb5⟩
      have I5 := I4.pass hb5
      rw [re_legV]
      generalize hV : l.legV f n = V
      (try clear q0 q1 q2 q3 q4 q5 q6 q7 q8 q9 q10); obtain ⟨q0, q1, q2, q3, q4, q5, q6, q7, q8, q9, q10⟩ := I5.L.c11
      clear hl3 hl4 hi4 hb3 hb4 hb5 I2 I3 I4
      go_wp2_with fail
      refine (toLevel_any l _ (by omega) (by omega) I5.lv).mono ?_
      rintro e w6 ⟨wa6, wc6, ga6, gc6, rfl, hl6, hb6⟩
      have I6 := (I5.pass hb6).alloc (.cells #[.int .i64 l.id, .int .i64 l.ticks, .int .i64 l.sx, .int .i64 l.sy, .slice wa6 l.wn wc6, .slice ga6 l.gn gc6, .int .i64 l.flx, .int .i64 l.fly, .int .i64 l.fhx, .int .i64 l.fhy, .int .i64 l.bans] 37)
      have J6 : Blk (w6.alloc (.cells #[.int .i64 l.id, .int .i64 l.ticks, .int .i64 l.sx, .int .i64 l.sy, .slice wa6 l.wn wc6, .slice ga6 l.gn gc6, .int .i64 l.flx, .int .i64 l.fly, .int .i64 l.fhx, .int .i64 l.fhy, .int .i64 l.bans] 37)) w6.heap.size #[.int .i64 l.id, .int .i64 l.ticks, .int .i64 l.sx, .int .i64 l.sy, .slice wa6 l.wn wc6, .slice ga6 l.gn gc6, .int .i64 l.flx, .int .i64 l.fly, .int .i64 l.fhx, .int .i64 l.fhy, .int .i64 l.bans] := Blk.at rfl
      have hl6' : LvAt (w6.alloc (.cells #[.int .i64 l.id, .int .i64 l.ticks, .int .i64 l.sx, .int .i64 l.sy, .slice wa6 l.wn wc6, .slice ga6 l.gn gc6, .int .i64 l.flx, .int .i64 l.fly, .int .i64 l.fhx, .int .i64 l.fhy, .int .i64 l.bans] 37)) (l.re wa6 wc6 ga6 gc6) := hl6.keep ((Below.refl _ _).alloc (Nat.le_refl _) _)
      clear q0 q1 q2 q3 q4 q5 q6 q7 q8 q9 q10 hb6 hl6 I5
      go_wp2_with fail
      refine (toInS a n c f _ hnn I6.xs).mono ?_
      rintro e w7 ⟨g7, c7, rfl, hi7, _, _, hb7⟩
      have I7 := I6.pass hb7
      have J7 := J6.below hb7 J6.lt
      have hl7 := hl6'.keep hb7
      (try clear q0 q1 q2 q3 q4 q5 q6 q7 q8 q9 q10); obtain ⟨q0, q1, q2, q3, q4, q5, q6, q7, q8, q9, q10⟩ := J7.c11
      clear I6 J6 hl6' hb7
      go_wp2_with fail
      refine (iLegal (l.re wa6 wc6 ga6 gc6) _ n c7 f _ hl7 hnn hi7).mono ?_
      rintro e w8 ⟨rfl, hb8⟩
      have I8 := I7.pass hb8
      have J8 := J7.below hb8 J7.lt
      have hl8 := hl7.keep hb8
      have hi8 := hi7.keep hb8
      rw [re_legV, hV]
      clear q0 q1 q2 q3 q4 q5 q6 q7 q8 q9 q10 hb8 I7 J7 hl7 hi7 hV
      go_wp2_with fail
      have I9 := I8.drew
      have J9 : Blk w8.drew w6.heap.size #[.int .i64 l.id, .int .i64 l.ticks, .int .i64 l.sx, .int .i64 l.sy, .slice wa6 l.wn wc6, .slice ga6 l.gn gc6, .int .i64 l.flx, .int .i64 l.fly, .int .i64 l.fhx, .int .i64 l.fhy, .int .i64 l.bans] := J8
      refine wp_region_cut 4 (by kernel_rfl) (by kernel_rfl) (S := fun W => (W.cell? ⟨w6.heap.size, 0, none⟩ = some (.int .i64 l.id) ∧ W.cell? ⟨w6.heap.size, 1, none⟩ = some (.int .i64 l.ticks) ∧ W.cell? ⟨w6.heap.size, 2, none⟩ = some (.int .i64 l.sx) ∧ W.cell? ⟨w6.heap.size, 3, none⟩ = some (.int .i64 l.sy) ∧ W.cell? ⟨w6.heap.size, 4, none⟩ = some (.slice wa6 l.wn wc6) ∧ W.cell? ⟨w6.heap.size, 5, none⟩ = some (.slice ga6 l.gn gc6) ∧ W.cell? ⟨w6.heap.size, 6, none⟩ = some (.int .i64 l.flx) ∧ W.cell? ⟨w6.heap.size, 7, none⟩ = some (.int .i64 l.fly) ∧ W.cell? ⟨w6.heap.size, 8, none⟩ = some (.int .i64 l.fhx) ∧ W.cell? ⟨w6.heap.size, 9, none⟩ = some (.int .i64 l.fhy) ∧ W.cell? ⟨w6.heap.size, 10, none⟩ = some (.int .i64 l.bans)) ∧ (W.cell? ⟨w.heap.size, 0, none⟩ = some (.int .i64 l.id) ∧ W.cell? ⟨w.heap.size, 1, none⟩ = some (.int .i64 l.ticks) ∧ W.cell? ⟨w.heap.size, 2, none⟩ = some (.int .i64 l.sx) ∧ W.cell? ⟨w.heap.size, 3, none⟩ = some (.int .i64 l.sy) ∧ W.cell? ⟨w.heap.size, 4, none⟩ = some (.slice l.wa l.wn l.wc) ∧ W.cell? ⟨w.heap.size, 5, none⟩ = some (.slice l.ga l.gn l.gc) ∧ W.cell? ⟨w.heap.size, 6, none⟩ = some (.int .i64 l.flx) ∧ W.cell? ⟨w.heap.size, 7, none⟩ = some (.int .i64 l.fly) ∧ W.cell? ⟨w.heap.size, 8, none⟩ = some (.int .i64 l.fhx) ∧ W.cell? ⟨w.heap.size, 9, none⟩ = some (.int .i64 l.fhy) ∧ W.cell? ⟨w.heap.size, 10, none⟩ = some (.int .i64 l.bans))) ⟨J9.c11, I9.L.c11⟩ (fun hHeld => ?_)
      simp only [List.take_succ_cons, List.take_zero]
      (refine wpAnyH_take (i := 0) (v := ?_) rfl (by kernel_rfl) (by kernel_rfl) (by kernel_rfl) (fun _ _ _ h => h) (Or.inl ⟨by rfl, ?_⟩) (by assumption) ?_; rotate_left; · (intro w hSw; (try dsimp only at hSw); go_simp; (try with_reducible rfl))); (try simp only [Act.put, List.setIfInBounds_toArray, List.set_cons_zero, List.set_cons_succ])
      (refine wpAnyH_take (i := 1) (v := ?_) rfl (by kernel_rfl) (by kernel_rfl) (by kernel_rfl) (fun _ _ _ h => h) (Or.inl ⟨by rfl, ?_⟩) (by assumption) ?_; rotate_left; · (intro w hSw; (try dsimp only at hSw); go_simp; (try with_reducible rfl))); (try simp only [Act.put, List.setIfInBounds_toArray, List.set_cons_zero, List.set_cons_succ])
      refine wpAnyH_ready (rs := [2]) (by kernel_rfl) (by simp) ?_; refine AllReadyH.cons rfl (fun K hK => ?_) AllReadyH.nil; (try simp only [List.getElem_toArray, List.getElem_cons_succ, List.getElem_cons_zero])
      go_simp
      go_at_call 42
      refine (toLevel_any l _ (by omega) (by omega) I9.lv).mono ?_
      rintro e w10 ⟨wa10, wc10, ga10, gc10, rfl, hl10, hb10⟩
      have I10 := I9.pass hb10
      have J10 := J9.below hb10 J9.lt
      have hm10 : LvAt w10 (l.re wa6 wc6 ga6 gc6) := LvAt.keep (w := w8.drew) hl8 hb10
      have hi10 : InsAt w10 (some ⟨g7, 0, none⟩) n f := InsAt.keep (w := w8.drew) hi8 hb10
      go_wp2_with fail
      refine hK.out _ _ (⟨J10.c11, I10.L.c11⟩) (fun hHeld => ?_); clear hK K; (try simp only [Act.put, List.setIfInBounds_toArray, List.set_cons_zero, List.set_cons_succ])
      refine wpAnyH_ready (rs := [3]) (by kernel_rfl) (by simp) ?_; refine AllReadyH.cons rfl (fun K hK => ?_) AllReadyH.nil; (try simp only [List.getElem_toArray, List.getElem_cons_succ, List.getElem_cons_zero])
      go_simp
      go_at_call 44
      refine (eqLevel_any l wa6 wa10 wc6 wc10 ga6 ga10 gc6 gc10 _ (by omega) (by omega) hm10 hl10).mono ?_
      rintro e w11 ⟨rfl, hb11⟩
      have I11 := I10.pass hb11
      have J11 := J10.below hb11 J10.lt
      have hi11 := hi10.keep hb11
      go_wp2_with fail
      refine hK.out _ _ (⟨J11.c11, I11.L.c11⟩) (fun hHeld => ?_); clear hK K; (try simp only [Act.put, List.setIfInBounds_toArray, List.set_cons_zero, List.set_cons_succ])
      refine wpAnyH_done (by kernel_rfl) ?_ _
      simp only [TailQ, List.drop_succ_cons, List.drop_zero]
      clear hHeld hb10 hb11 I8 J8 I9 J9 I10 J10 hl8 hi8 hm10 hi10 hl10
      go_wp2_with fail
      refine (toInS a n c f _ hnn I11.xs).mono ?_
      rintro e w12 ⟨g12, c12, rfl, hi12, _, _, hb12⟩
      have I12 := I11.pass hb12
      have hj12 := hi11.keep hb12
      go_wp2_with fail
      refine (eqInS _ _ n c7 c12 f _ (by omega) hj12 hi12).mono ?_
      rintro e w13 ⟨rfl, hb13⟩
      have I13 := I12.pass hb13
      go_wp2
      go_ret
      exact ⟨rfl, I13.bel⟩
    · have hv0 : v < 0 := hv2 (by omega)
      clear hv1 hv2
      go_wp2
      go_ret
      exact ⟨rfl, I2.bel⟩
  · go_enter Try.func16, Try.ntmps16
    go_wp2_with fail
    refine (szLevel_any l _ (by unfold maxLen at h1; omega) (by unfold maxLen at h2; omega)).mono ?_
    rintro e w1 ⟨⟨z1, rfl, hz⟩, hb1⟩
    have hB1 : Below w.heap.size w w1 := bstep (by (repeat (first | with_reducible assumption | with_reducible exact Below.refl _ _ | ((with_reducible refine Below.alloc ?_ ?_ _); rotate_left; · exact (by first | omega | (simp; done) | (simp; omega))) | ((with_reducible refine Below.setCell ?_ ?_ _); rotate_left; · exact (by first | omega | (simp; done) | (simp; omega))) | with_reducible refine Below.drew ?_ | assumption | exact Below.refl _ _ | refine Below.alloc ?_ (by first | omega | (simp; done) | (simp; omega)) _ | refine Below.setCell ?_ (by first | omega | (simp; done) | (simp; omega)) _ | refine Below.drew ?_))) (by first | omega | (simp; done) | (simp; omega)) hb1
    rw [if_neg hs] at hz
    go_wp2
    go_ret
    exact ⟨rfl, hB1⟩
end Go.Proofs.Ytgghfbkeipchkaa
