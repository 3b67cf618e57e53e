/- Legal lists of inputs: the functions of both sides, the walk of FnExactInputsLegal. -/
import Derived.Test.YtgghfbkeipchkaaTi
import Derived.Test.YtgghfbkeipchkaaFx
set_option linter.unusedVariables false
set_option linter.unusedSimpArgs false
namespace Go.Proofs.Ytgghfbkeipchkaa
open Go.RowKit

theorem pz_up (f : Nat → Inp) (k : Nat) : pz f (k + 1) = pz f k + (if (f k).b then 1 else 0) := rfl
theorem stE_up (f : Nat → Inp) (k : Nat) : stE f (k + 1) = (f k).s := rfl
theorem fol_valid {l : Lv} {t : Int} {x : Inp} (h : l.fol t x = true) : inpV x.s x.p x.b = true := by
  simp only [Lv.fol, Bool.and_eq_true] at h
  exact h.1.1.1
theorem good_st {l : Lv} {f : Nat → Inp} {k : Nat} (h : l.good f k = true) : -1 ≤ stE f k ∧ stE f k ≤ 1 := by
  cases k with
  | zero => exact ⟨by simp [stE], by simp [stE]⟩
  | succ k =>
    have hb := Lv.good_at h (Nat.lt_succ_self k)
    simp only [Lv.bad, Bool.or_eq_false_iff, Bool.not_eq_false'] at hb
    obtain ⟨v1, v2, _⟩ := inpV_bd (fol_valid hb.2)
    exact ⟨v1, v2⟩
theorem bad_of {l : Lv} {f : Nat → Inp} {k : Nat} {b : Bool} (h1 : ¬ l.ticks ≤ (k : Int)) (h2 : ¬ 3 < pz f (k + 1)) (h3 : l.fol (stE f k) (f k) = b) : l.bad f k = !b := by
  simp [Lv.bad, h1, h2, h3]
set_option maxRecDepth 100000 in
set_option maxHeartbeats 4000000 in
theorem iLegal (l : Lv) (a : Option Addr) (n c : Nat) (f : Nat → Inp) (w : World) (hl : LvAt w l) (hn : n ≤ 1048576) (hx : InsAt w a n f) : Calls Try.prog 48 #[.agg #[.int .i64 l.id, .int .i64 l.ticks, .int .i64 l.sx, .int .i64 l.sy, .slice l.wa l.wn l.wc, .slice l.ga l.gn l.gc, .int .i64 l.flx, .int .i64 l.fly, .int .i64 l.fhx, .int .i64 l.fhy, .int .i64 l.bans], .slice a n c] w fun e w' => e = .returned (.int .i64 (l.legV f n)) ∧ Below w.heap.size w w' := by
  go_enter Try.func48, Try.ntmps48
  go_wp2_with fail
  refine (iLevelValid l _ (hl.keep (by (repeat (first | with_reducible assumption | with_reducible exact Below.refl _ _ | ((with_reducible refine Below.alloc ?_ ?_ _); rotate_left; · exact (by first | omega | (simp; done) | (simp; omega))) | ((with_reducible refine Below.setCell ?_ ?_ _); rotate_left; · exact (by first | omega | (simp; done) | (simp; omega))) | with_reducible refine Below.drew ?_ | assumption | exact Below.refl _ _ | refine Below.alloc ?_ (by first | omega | (simp; done) | (simp; omega)) _ | refine Below.setCell ?_ (by first | omega | (simp; done) | (simp; omega)) _ | refine Below.drew ?_))))).mono ?_
  rintro e w1 ⟨rfl, hb1⟩
  have L1 : Blk w1 w.heap.size #[.int .i64 l.id, .int .i64 l.ticks, .int .i64 l.sx, .int .i64 l.sy, .slice l.wa l.wn l.wc, .slice l.ga l.gn l.gc, .int .i64 l.flx, .int .i64 l.fly, .int .i64 l.fhx, .int .i64 l.fhy, .int .i64 l.bans] := (Blk.at rfl).below hb1 (by simp)
  have hB1 : Below w.heap.size w w1 := bstep (by (repeat (first | with_reducible assumption | with_reducible exact Below.refl _ _ | ((with_reducible refine Below.alloc ?_ ?_ _); rotate_left; · exact (by first | omega | (simp; done) | (simp; omega))) | ((with_reducible refine Below.setCell ?_ ?_ _); rotate_left; · exact (by first | omega | (simp; done) | (simp; omega))) | with_reducible refine Below.drew ?_ | assumption | exact Below.refl _ _ | refine Below.alloc ?_ (by first | omega | (simp; done) | (simp; omega)) _ | refine Below.setCell ?_ (by first | omega | (simp; done) | (simp; omega)) _ | refine Below.drew ?_))) (by first | omega | (simp; done) | (simp; omega)) hb1
  cases hk : l.ok with
  | false =>
    go_wp2
    go_ret
    exact ⟨ret_int (by simp [Lv.legV, hk]), hB1⟩
  | true =>
    obtain ⟨_, ⟨t1, t2⟩, ⟨n0, n3⟩, _⟩ := Lv.ok_num2 hk
    have hV := Lib.hid (show l.legV f n = l.leg f n by rw [Lv.legV, hk]; rfl)
    have hx1 : InsAt w1 a n f := hx.keep hB1
    clear hk hb1
    go_wp2_with fail
    go_loopw [5, 6, 14] (fun pv sv iv wr => ∃ k : Nat, k ≤ n ∧ pv = .int .i64 (pz f k : Nat) ∧ sv = .int .i64 (stE f k) ∧ iv = .int .i64 k ∧ l.good f k = true ∧ Blk wr w.heap.size #[.int .i64 l.id, .int .i64 l.ticks, .int .i64 l.sx, .int .i64 l.sy, .slice l.wa l.wn l.wc, .slice l.ga l.gn l.gc, .int .i64 l.flx, .int .i64 l.fly, .int .i64 l.fhx, .int .i64 l.fhy, .int .i64 l.bans] ∧ Below w.heap.size w wr) (fun _ _ iv _ => n - (intOf iv).toNat)
    case atStart => exact ⟨0, Nat.zero_le _, rfl, rfl, rfl, rfl, L1, hB1⟩
    case round =>
      obtain ⟨k, hk, rfl, rfl, rfl, hg, L2, hB2⟩ := hrel
      have hG := Lib.hid hg
      obtain ⟨st1, st2⟩ := good_st hg
      have hpz := pz_le f k
      clear hg L1 hx1
      by_cases hlt : k < n
      · have hx2 := hx.keep hB2
        obtain ⟨bb, off, rfl, hbl, hcs⟩ := hx2.resolve_left (by omega)
        obtain ⟨e0, e1, e2⟩ := hcs k hlt
        have q1 : (0 : Int) ≤ (k : Int) := by omega
        have q2 : (k : Int) < (n : Int) := by omega
        have hzL := L2.lt
        have c1 := L2.cell 1
        simp only [List.getElem?_toArray, List.getElem?_cons_zero, List.getElem?_cons_succ] at c1
        have hCs := Lib.hid hcs
        have hXx := Lib.hid hx
        clear hcs hx hx2
        generalize hT : stE f k = t at *
        have hZ := Lib.hid (pz_up f k)
        obtain ⟨P, hP⟩ : ∃ P : Nat, P = pz f k := ⟨_, rfl⟩
        rw [← hP] at hpz ⊢
        have hPP := Lib.hid hP
        clear hP
        have hT := Lib.hid hT
        cases hb : (f k).b with
        | false =>
          rw [hb] at e2
          have hpe : pz f (k + 1) = P := by rw [hZ.out, hb, ← hPP.out]; rfl
          have hfk := Lib.hid (show f k = ⟨(f k).s, (f k).p, false⟩ by rw [← hb])
          clear hb
          skip
          by_cases h1 : l.ticks ≤ (k : Int)
          · have hbad : l.bad f k = true := by simp [Lv.bad, h1]
            go_wp2
            go_ret
            exact ⟨ret_int (by rw [hV.out, Lv.leg_bad hG.out hbad n hlt]), by (repeat (first | with_reducible assumption | with_reducible exact Below.refl _ _ | ((with_reducible refine Below.alloc ?_ ?_ _); rotate_left; · exact (by first | omega | (simp; done) | (simp; omega))) | ((with_reducible refine Below.setCell ?_ ?_ _); rotate_left; · exact (by first | omega | (simp; done) | (simp; omega))) | with_reducible refine Below.drew ?_ | assumption | exact Below.refl _ _ | refine Below.alloc ?_ (by first | omega | (simp; done) | (simp; omega)) _ | refine Below.setCell ?_ (by first | omega | (simp; done) | (simp; omega)) _ | refine Below.drew ?_))⟩
          · by_cases h2 : 3 < P
            · have hbad : l.bad f k = true := by simp [Lv.bad, hpe, h2]
              have h2' : (3 : Int) < (P : Nat) := by omega
              have hBd := Lib.hid hbad
              clear hbad hpe h2
              go_wp2
              go_ret
              exact ⟨ret_int (by rw [hV.out, Lv.leg_bad hG.out hBd.out n hlt]), by (repeat (first | with_reducible assumption | with_reducible exact Below.refl _ _ | ((with_reducible refine Below.alloc ?_ ?_ _); rotate_left; · exact (by first | omega | (simp; done) | (simp; omega))) | ((with_reducible refine Below.setCell ?_ ?_ _); rotate_left; · exact (by first | omega | (simp; done) | (simp; omega))) | with_reducible refine Below.drew ?_ | assumption | exact Below.refl _ _ | refine Below.alloc ?_ (by first | omega | (simp; done) | (simp; omega)) _ | refine Below.setCell ?_ (by first | omega | (simp; done) | (simp; omega)) _ | refine Below.drew ?_))⟩
            · have h2' : ¬ (3 : Int) < (P : Nat) := by omega
              have hPe := Lib.hid hpe
              have h2h := Lib.hid h2
              have h1h := Lib.hid h1
              clear hpe h2
              have J0 : Blk (wr.alloc (.cells #[.int .i64 (f k).s, .int .i64 (f k).p, .bool false] 51)) wr.heap.size #[.int .i64 (f k).s, .int .i64 (f k).p, .bool false] := Blk.at rfl
              have L3 := L2.alloc (.cells #[.int .i64 (f k).s, .int .i64 (f k).p, .bool false] 51)
              obtain ⟨r0, r1, r2, r3, r4, r5, r6, r7, r8, r9, r10⟩ := L2.c11
              go_wp2_with fail
              refine (iFollows l t (f k).s (f k).p false _ n0 n3 st1 st2).mono ?_
              rintro e w4 ⟨rfl, hb4⟩
              have J4 := J0.below hb4 J0.lt
              have L4 := L3.below hb4 L3.lt
              have hB4 : Below w.heap.size w w4 := bstep (by (repeat (first | with_reducible assumption | with_reducible exact Below.refl _ _ | ((with_reducible refine Below.alloc ?_ ?_ _); rotate_left; · exact (by first | omega | (simp; done) | (simp; omega))) | ((with_reducible refine Below.setCell ?_ ?_ _); rotate_left; · exact (by first | omega | (simp; done) | (simp; omega))) | with_reducible refine Below.drew ?_ | assumption | exact Below.refl _ _ | refine Below.alloc ?_ (by first | omega | (simp; done) | (simp; omega)) _ | refine Below.setCell ?_ (by first | omega | (simp; done) | (simp; omega)) _ | refine Below.drew ?_))) (by first | omega | (simp; done) | (simp; omega)) hb4
              have j0 := J4.cell 0
              simp only [List.getElem?_toArray, List.getElem?_cons_zero, List.getElem?_cons_succ] at j0
              clear r0 r1 r2 r3 r4 r5 r6 r7 r8 r9 r10 J0 L3 hb4
              obtain ⟨v, hv⟩ : ∃ v, l.fol t ⟨(f k).s, (f k).p, false⟩ = v := ⟨_, rfl⟩
              rw [hv]
              have hbv : l.bad f k = !v := bad_of (by have := h1h.out; omega) (by rw [hPe.out]; exact h2h.out) (by rw [hT.out, hfk.out]; exact hv)
              have hBv := Lib.hid hbv
              clear hv hbv
              cases v with
              | false =>
                go_wp2
                go_ret
                exact ⟨ret_int (by rw [hV.out, Lv.leg_bad hG.out (by rw [hBv.out]; rfl) n hlt]), hB4⟩
              | true =>
                go_wp2
                go_roundw
                case rel => exact ⟨k + 1, by omega, by first | (rw [hPe.out]; done) | (rw [hPe.out]; go_num), by rw [stE_up], by go_num, Lv.good_yes hG.out (by rw [hBv.out]; rfl), L4, hB4⟩
                case measure => simp [intOf]; omega
        | true =>
          rw [hb] at e2
          have hpe : pz f (k + 1) = P + 1 := by rw [hZ.out, hb, ← hPP.out]; rfl
          have hfk := Lib.hid (show f k = ⟨(f k).s, (f k).p, true⟩ by rw [← hb])
          clear hb
          skip
          by_cases h1 : l.ticks ≤ (k : Int)
          · have hbad : l.bad f k = true := by simp [Lv.bad, h1]
            go_wp2
            go_ret
            exact ⟨ret_int (by rw [hV.out, Lv.leg_bad hG.out hbad n hlt]), by (repeat (first | with_reducible assumption | with_reducible exact Below.refl _ _ | ((with_reducible refine Below.alloc ?_ ?_ _); rotate_left; · exact (by first | omega | (simp; done) | (simp; omega))) | ((with_reducible refine Below.setCell ?_ ?_ _); rotate_left; · exact (by first | omega | (simp; done) | (simp; omega))) | with_reducible refine Below.drew ?_ | assumption | exact Below.refl _ _ | refine Below.alloc ?_ (by first | omega | (simp; done) | (simp; omega)) _ | refine Below.setCell ?_ (by first | omega | (simp; done) | (simp; omega)) _ | refine Below.drew ?_))⟩
          · by_cases h2 : 3 < (P + 1)
            · have hbad : l.bad f k = true := by simp [Lv.bad, hpe, h2]
              have h2' : (3 : Int) < ((P + 1) : Nat) := by omega
              have hBd := Lib.hid hbad
              clear hbad hpe h2
              go_wp2
              go_ret
              exact ⟨ret_int (by rw [hV.out, Lv.leg_bad hG.out hBd.out n hlt]), by (repeat (first | with_reducible assumption | with_reducible exact Below.refl _ _ | ((with_reducible refine Below.alloc ?_ ?_ _); rotate_left; · exact (by first | omega | (simp; done) | (simp; omega))) | ((with_reducible refine Below.setCell ?_ ?_ _); rotate_left; · exact (by first | omega | (simp; done) | (simp; omega))) | with_reducible refine Below.drew ?_ | assumption | exact Below.refl _ _ | refine Below.alloc ?_ (by first | omega | (simp; done) | (simp; omega)) _ | refine Below.setCell ?_ (by first | omega | (simp; done) | (simp; omega)) _ | refine Below.drew ?_))⟩
            · have h2' : ¬ (3 : Int) < ((P + 1) : Nat) := by omega
              have hPe := Lib.hid hpe
              have h2h := Lib.hid h2
              have h1h := Lib.hid h1
              clear hpe h2
              have J0 : Blk (wr.alloc (.cells #[.int .i64 (f k).s, .int .i64 (f k).p, .bool true] 51)) wr.heap.size #[.int .i64 (f k).s, .int .i64 (f k).p, .bool true] := Blk.at rfl
              have L3 := L2.alloc (.cells #[.int .i64 (f k).s, .int .i64 (f k).p, .bool true] 51)
              obtain ⟨r0, r1, r2, r3, r4, r5, r6, r7, r8, r9, r10⟩ := L2.c11
              go_wp2_with fail
              refine (iFollows l t (f k).s (f k).p true _ n0 n3 st1 st2).mono ?_
              rintro e w4 ⟨rfl, hb4⟩
              have J4 := J0.below hb4 J0.lt
              have L4 := L3.below hb4 L3.lt
              have hB4 : Below w.heap.size w w4 := bstep (by (repeat (first | with_reducible assumption | with_reducible exact Below.refl _ _ | ((with_reducible refine Below.alloc ?_ ?_ _); rotate_left; · exact (by first | omega | (simp; done) | (simp; omega))) | ((with_reducible refine Below.setCell ?_ ?_ _); rotate_left; · exact (by first | omega | (simp; done) | (simp; omega))) | with_reducible refine Below.drew ?_ | assumption | exact Below.refl _ _ | refine Below.alloc ?_ (by first | omega | (simp; done) | (simp; omega)) _ | refine Below.setCell ?_ (by first | omega | (simp; done) | (simp; omega)) _ | refine Below.drew ?_))) (by first | omega | (simp; done) | (simp; omega)) hb4
              have j0 := J4.cell 0
              simp only [List.getElem?_toArray, List.getElem?_cons_zero, List.getElem?_cons_succ] at j0
              clear r0 r1 r2 r3 r4 r5 r6 r7 r8 r9 r10 J0 L3 hb4
              obtain ⟨v, hv⟩ : ∃ v, l.fol t ⟨(f k).s, (f k).p, true⟩ = v := ⟨_, rfl⟩
              rw [hv]
              have hbv : l.bad f k = !v := bad_of (by have := h1h.out; omega) (by rw [hPe.out]; exact h2h.out) (by rw [hT.out, hfk.out]; exact hv)
              have hBv := Lib.hid hbv
              clear hv hbv
              cases v with
              | false =>
                go_wp2
                go_ret
                exact ⟨ret_int (by rw [hV.out, Lv.leg_bad hG.out (by rw [hBv.out]; rfl) n hlt]), hB4⟩
              | true =>
                go_wp2
                go_roundw
                case rel => exact ⟨k + 1, by omega, by first | (rw [hPe.out]; done) | (rw [hPe.out]; go_num), by rw [stE_up], by go_num, Lv.good_yes hG.out (by rw [hBv.out]; rfl), L4, hB4⟩
                case measure => simp [intOf]; omega
      · obtain rfl : k = n := by omega
        go_wp2
        go_ret
        exact ⟨ret_int (by rw [hV.out, Lv.leg_good hG.out]), hB2⟩
end Go.Proofs.Ytgghfbkeipchkaa
