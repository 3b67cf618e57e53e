/- The walk of FnLegalPairs. -/
import Derived.Test.YtnhjalijnociaaaKa
set_option linter.unusedVariables false
set_option linter.unusedSimpArgs false
namespace Go.Proofs.Ytnhjalijnociaaa
open Go.RowKit

set_option maxRecDepth 100000 in
set_option maxHeartbeats 1000000 in
theorem lawLegalPairs (a : Option Addr) (len cap : Nat) (zs : List Int) (w : World) (h : IsRow .u8 w a len cap zs) : Calls Try.prog 22 #[.slice a len cap] w fun e w' => e = .returned (.bool true) ∧ Below w.heap.size w w' := by
  by_cases hl : len ≤ 1048576
  · go_enter Try.func22, Try.ntmps22
    go_wp2_with fail
    refine (dInputsLegal _ _ _ _ _ h).mono ?_
    rintro e w1 ⟨l, g, c, n, f, rfl, hl1, hs1, hi1, hcn, hn, hb1⟩
    have hwn := hs1.wn
    have hgn := hs1.gn
    have I1 : QJ w w1.heap.size l g n f (w1.alloc (.cells #[.int .i64 l.id, .int .i64 l.ticks, .int .i64 l.sx, .int .i64 l.sy, .slice l.wa l.wn l.wc, .slice l.ga l.gn l.gc, .int .i64 l.flx, .int .i64 l.fly, .int .i64 l.fhx, .int .i64 l.fhy, .int .i64 l.bans] 29)) := QJ.mk0 hl1 hi1 hb1
    clear hl1 hs1 hi1
    go_wp2_with fail
    refine (iLegal l (some ⟨g, 0, none⟩) n c f _ I1.lv (by omega) I1.xs).mono ?_
    rintro e w2 ⟨rfl, hb2⟩
    have I2 := I1.pass hb2
    generalize w1.heap.size = B at *
    clear I1 hb1 hb2
    obtain ⟨V, hV⟩ : ∃ V, V = l.legV f n := ⟨_, rfl⟩
    rw [← hV]
    have hVh := Lib.hid hV
    clear hV
    (try clear q0 q1 q2 q3 q4 q5 q6 q7 q8 q9 q10); obtain ⟨q0, q1, q2, q3, q4, q5, q6, q7, q8, q9, q10⟩ := I2.L.c11
    have hzL2 := I2.L.lt
    go_wp2_with fail
    refine (sInputsLegal l (some ⟨g, 0, none⟩) n c f _ (by omega) (by omega) I2.lv (by omega) I2.xs).mono ?_
    rw [← hVh.out]
    rintro e w3 ⟨rfl, hb3⟩
    have I3 := I2.pass hb3
    clear I2 hb3
    (try clear q0 q1 q2 q3 q4 q5 q6 q7 q8 q9 q10); obtain ⟨q0, q1, q2, q3, q4, q5, q6, q7, q8, q9, q10⟩ := I3.L.c11
    have hzL3 := I3.L.lt
    by_cases hV0 : 0 ≤ V
    case pos =>
      go_wp2
      go_ret
      exact ⟨ret_bool (by first | rfl | simp), I3.bel⟩
    have hVn : V < 0 := by omega
    go_wp2_with fail
    refine (sLevelValid l _ (by omega) (by omega) I3.lv).mono ?_
    rintro e w4 ⟨rfl, hb4⟩
    have I4 := I3.pass hb4
    clear I3 hb4
    (try clear q0 q1 q2 q3 q4 q5 q6 q7 q8 q9 q10); obtain ⟨q0, q1, q2, q3, q4, q5, q6, q7, q8, q9, q10⟩ := I4.L.c11
    have hzL4 := I4.L.lt
    cases hk : l.ok with
    | false =>
      go_wp2
      go_ret
      exact ⟨ret_bool (by first | rfl | simp), I4.bel⟩
    | true =>
      have hbd := Lv.ok_num2 hk
      obtain ⟨_, ⟨t1, t2⟩, ⟨n0, n3⟩, _⟩ := hbd
      obtain ⟨_, _, hG⟩ := legV_ok (l := l) (f := f) (n := n) (by rw [← hVh.out]; exact hVn)
      have hGh := Lib.hid hG
      have hz1 := good_len hG (by omega)
      have hz2 := good_pz hG
      clear hG
      have X5 : Blk (w4.alloc (.cells #[.int .i64 0, .int .i64 0, .bool false] 33)) w4.heap.size #[.int .i64 0, .int .i64 0, .bool false] := Blk.at rfl
      have B5 := (Below.refl w4.heap.size w4).alloc (Nat.le_refl _) (.cells #[.int .i64 0, .int .i64 0, .bool false] 33)
      have hgG : n = 0 ∨ g < w4.heap.size := by
        rcases I4.xs with h0 | ⟨bb, off, hbo, hlt0, _⟩
        · exact .inl h0
        · simp only [Option.some.injEq, Addr.mk.injEq, and_true] at hbo
          obtain ⟨rfl, _⟩ := hbo
          exact .inr hlt0
      go_upto_region 11 with fail
      generalize w4.alloc (.cells #[.int .i64 0, .int .i64 0, .bool false] 33) = w5 at *
      generalize hGe : w4.heap.size = G at *
      clear q0 q1 q2 q3 q4 q5 q6 q7 q8 q9 q10
      go_loopw [8, 9] (fun nv iv wr => ∃ k : Nat, k ≤ n ∧ nv = .int .i64 ((pz f k : Nat) : Int) ∧ iv = .int .i64 (k : Int) ∧ Below G w4 wr ∧ Blk wr G #[.int .i64 (pre f k).s, .int .i64 (pre f k).p, .bool (pre f k).b]) (fun _ iv _ => n - (intOf iv).toNat)
      case atStart => exact ⟨0, Nat.zero_le _, rfl, rfl, B5, X5⟩
      case round =>
        obtain ⟨k, hkn, rfl, rfl, B7, X7⟩ := hrel
        clear B5 X5
        have I7 : QJ w B l g n f wr := ⟨I4.L.below B7 hzL4, I4.lv.keep (by rw [hGe]; exact B7), I4.xs.keep (by rw [hGe]; exact B7), I4.bel.trans (B7.mono (by have := I4.bel.size; omega))⟩
        have hzX7 := X7.lt
        have hzL7 := I7.L.lt
        have hpk := pz_le f k
        by_cases hlt : k < n
        · have hgl : g < G := by omega
          obtain ⟨bb, off, hbo, hlt0, hc⟩ := I7.xs.resolve_left (by omega)
          simp only [Option.some.injEq, Addr.mk.injEq, and_true] at hbo
          obtain ⟨rfl, rfl⟩ := hbo
          obtain ⟨e0, e1, e2⟩ := hc k hlt
          simp only [Nat.zero_add] at e0 e1 e2
          have q1' : (0 : Int) ≤ (k : Int) := by omega
          have q2' : (k : Int) < (n : Int) := by omega
          clear hc
          cases hb : (f k).b with
          | false =>
            rw [hb] at e2
            have hfkE : (⟨(f k).s, (f k).p, false⟩ : Inp) = f k := by rw [← hb]
            have hpz : pz f (k + 1) = pz f k := by rw [pz_up, hb]; rfl
            have hfol : l.folV ⟨(pre f k).s, (pre f k).p, (pre f k).b⟩ ⟨(f k).s, (f k).p, false⟩ = true := by rw [hfkE]; exact good_pre hk hGh.out hlt
            have hfkh := Lib.hid hfkE
            have hbh := Lib.hid hb
            have hpzh := Lib.hid hpz
            have hfolh := Lib.hid hfol
            clear hfkE hb hpz hfol
            go_upto_region 13 with fail
            refine wp_region_cut 6 (by kernel_rfl) (by kernel_rfl) (S := fun W => (W.cell? ⟨B, 0, none⟩ = some (.int .i64 l.id) ∧ W.cell? ⟨B, 1, none⟩ = some (.int .i64 l.ticks) ∧ W.cell? ⟨B, 2, none⟩ = some (.int .i64 l.sx) ∧ W.cell? ⟨B, 3, none⟩ = some (.int .i64 l.sy) ∧ W.cell? ⟨B, 4, none⟩ = some (.slice l.wa l.wn l.wc) ∧ W.cell? ⟨B, 5, none⟩ = some (.slice l.ga l.gn l.gc) ∧ W.cell? ⟨B, 6, none⟩ = some (.int .i64 l.flx) ∧ W.cell? ⟨B, 7, none⟩ = some (.int .i64 l.fly) ∧ W.cell? ⟨B, 8, none⟩ = some (.int .i64 l.fhx) ∧ W.cell? ⟨B, 9, none⟩ = some (.int .i64 l.fhy) ∧ W.cell? ⟨B, 10, none⟩ = some (.int .i64 l.bans)) ∧ (W.cell? ⟨G, 0, none⟩ = some (.int .i64 (pre f k).s) ∧ W.cell? ⟨G, 1, none⟩ = some (.int .i64 (pre f k).p) ∧ W.cell? ⟨G, 2, none⟩ = some (.bool (pre f k).b)) ∧ W.cell? ⟨g, k * 3, none⟩ = some (.int .i64 (f k).s) ∧ W.cell? ⟨g, k * 3 + 1, none⟩ = some (.int .i64 (f k).p) ∧ W.cell? ⟨g, k * 3 + 2, none⟩ = some (.bool false)) ⟨I7.L.c11, ⟨X7.cell 0, X7.cell 1, X7.cell 2⟩, e0, e1, e2⟩ (fun hHeld => ?_)
            simp only [List.take_succ_cons, List.take_zero]
            (refine wpAnyH_take (i := 0) (v := ?_) rfl (by kernel_rfl) (by kernel_rfl) (by kernel_rfl) (fun _ _ _ h => h) (Or.inl ⟨by rfl, ?_⟩) (by assumption) ?_; rotate_left; · (intro w hSw; (try dsimp only at hSw); go_simp; (try with_reducible rfl))); (try simp only [Act.put, List.setIfInBounds_toArray, List.set_cons_zero, List.set_cons_succ])
            (refine wpAnyH_take (i := 1) (v := ?_) rfl (by kernel_rfl) (by kernel_rfl) (by kernel_rfl) (fun _ _ _ h => h) (Or.inl ⟨by rfl, ?_⟩) (by assumption) ?_; rotate_left; · (intro w hSw; (try dsimp only at hSw); go_simp; (try with_reducible rfl))); (try simp only [Act.put, List.setIfInBounds_toArray, List.set_cons_zero, List.set_cons_succ])
            (refine wpAnyH_take (i := 2) (v := ?_) rfl (by kernel_rfl) (by kernel_rfl) (by kernel_rfl) (fun _ _ _ h => h) (Or.inl ⟨by rfl, ?_⟩) (by assumption) ?_; rotate_left; · (intro w hSw; (try dsimp only at hSw); go_simp; (try with_reducible rfl))); (try simp only [Act.put, List.setIfInBounds_toArray, List.set_cons_zero, List.set_cons_succ])
            (refine wpAnyH_take (i := 3) (v := ?_) rfl (by kernel_rfl) (by kernel_rfl) (by kernel_rfl) (fun _ _ _ h => h) (Or.inl ⟨by rfl, ?_⟩) (by assumption) ?_; rotate_left; · (intro w hSw; (try dsimp only at hSw); go_simp; (try with_reducible rfl))); (try simp only [Act.put, List.setIfInBounds_toArray, List.set_cons_zero, List.set_cons_succ])
            (refine wpAnyH_take (i := 4) (v := ?_) rfl (by kernel_rfl) (by kernel_rfl) (by kernel_rfl) (fun _ _ _ h => h) (Or.inl ⟨by rfl, ?_⟩) (by assumption) ?_; rotate_left; · (intro w hSw; (try dsimp only at hSw); go_simp; (try with_reducible rfl))); (try simp only [Act.put, List.setIfInBounds_toArray, List.set_cons_zero, List.set_cons_succ])
            (refine wpAnyH_take (i := 5) (v := ?_) rfl (by kernel_rfl) (by kernel_rfl) (by kernel_rfl) (fun _ _ _ h => h) (Or.inl ⟨by rfl, ?_⟩) (by assumption) ?_; rotate_left; · (intro w hSw; (try dsimp only at hSw); go_simp; (try with_reducible rfl))); (try simp only [Act.put, List.setIfInBounds_toArray, List.set_cons_zero, List.set_cons_succ])
            refine wpAnyH_done (by kernel_rfl) ?_ _
            simp only [TailQ, List.drop_succ_cons, List.drop_zero]
            clear hHeld
            try simp only [List.getElem_toArray, List.getElem_cons_zero, List.getElem_cons_succ, Act.put, List.setIfInBounds_toArray, List.set_cons_zero, List.set_cons_succ]
            have I8 := I7.drew
            have B8 : Below G w4 wr.drew := Below.drew B7
            have X8 : Blk wr.drew G #[.int .i64 (pre f k).s, .int .i64 (pre f k).p, .bool (pre f k).b] := X7
            have d0 : wr.drew.cell? ⟨g, k * 3, none⟩ = some (.int .i64 (f k).s) := e0
            have d1 : wr.drew.cell? ⟨g, k * 3 + 1, none⟩ = some (.int .i64 (f k).p) := e1
            have d2 : wr.drew.cell? ⟨g, k * 3 + 2, none⟩ = some (.bool false) := e2
            clear e0 e1 e2
            go_wp2_with fail
            refine (iInputFollows l (pre f k).s (pre f k).p (pre f k).b (f k).s (f k).p false _ I8.lv).mono ?_
            rw [hfolh.out]
            rintro e w9 ⟨rfl, hb9⟩
            have I9 := I8.pass hb9
            have B9 := B8.trans (hb9.mono (by have := B8.size; omega))
            have X9 := X8.below hb9 X8.lt
            have f0 := (hb9.cell (p := ⟨g, k * 3, none⟩) (by have := B8.size; simp only; omega)).trans d0
            have f1 := (hb9.cell (p := ⟨g, k * 3 + 1, none⟩) (by have := B8.size; simp only; omega)).trans d1
            have f2 := (hb9.cell (p := ⟨g, k * 3 + 2, none⟩) (by have := B8.size; simp only; omega)).trans d2
            clear I8 B8 X8 d0 d1 d2 hb9 I7 B7 X7
            have hzX9 := X9.lt
            have hzL9 := I9.L.lt
            have y0 := X9.cell 0
            have y1 := X9.cell 1
            have y2 := X9.cell 2
            have yf := X9.frozen
            simp only [List.getElem?_toArray, List.getElem?_cons_zero, List.getElem?_cons_succ] at y0 y1 y2
            have X10 : Blk (((w9.setCell ⟨G, 0, none⟩ (.int .i64 (f k).s)).setCell ⟨G, 1, none⟩ (.int .i64 (f k).p)).setCell ⟨G, 2, none⟩ (.bool false)) G #[.int .i64 (f k).s, .int .i64 (f k).p, .bool false] := ((X9.set 0 _).set 1 _).set 2 _
            have B10 : Below G w4 (((w9.setCell ⟨G, 0, none⟩ (.int .i64 (f k).s)).setCell ⟨G, 1, none⟩ (.int .i64 (f k).p)).setCell ⟨G, 2, none⟩ (.bool false)) := Below.setCell (p := ⟨G, 2, none⟩) (Below.setCell (p := ⟨G, 1, none⟩) (Below.setCell (p := ⟨G, 0, none⟩) B9 (Nat.le_refl _) _) (Nat.le_refl _) _) (Nat.le_refl _) _
            have X10 := Lib.hid X10
            have B10 := Lib.hid B10
            clear X9 B9
            go_wp2
            go_roundw
            case rel => exact ⟨k + 1, by omega, by first | (rw [hpzh.out]; done) | (rw [hpzh.out]; go_num), by go_num, B10.out, by rw [show pre f (k + 1) = f k from rfl, hbh.out]; exact X10.out⟩
            case measure => simp [intOf]; omega
          | true =>
            rw [hb] at e2
            have hfkE : (⟨(f k).s, (f k).p, true⟩ : Inp) = f k := by rw [← hb]
            have hpz : pz f (k + 1) = pz f k + 1 := by rw [pz_up, hb]; rfl
            have hfol : l.folV ⟨(pre f k).s, (pre f k).p, (pre f k).b⟩ ⟨(f k).s, (f k).p, true⟩ = true := by rw [hfkE]; exact good_pre hk hGh.out hlt
            have hfkh := Lib.hid hfkE
            have hbh := Lib.hid hb
            have hpzh := Lib.hid hpz
            have hfolh := Lib.hid hfol
            clear hfkE hb hpz hfol
            go_upto_region 13 with fail
            refine wp_region_cut 6 (by kernel_rfl) (by kernel_rfl) (S := fun W => (W.cell? ⟨B, 0, none⟩ = some (.int .i64 l.id) ∧ W.cell? ⟨B, 1, none⟩ = some (.int .i64 l.ticks) ∧ W.cell? ⟨B, 2, none⟩ = some (.int .i64 l.sx) ∧ W.cell? ⟨B, 3, none⟩ = some (.int .i64 l.sy) ∧ W.cell? ⟨B, 4, none⟩ = some (.slice l.wa l.wn l.wc) ∧ W.cell? ⟨B, 5, none⟩ = some (.slice l.ga l.gn l.gc) ∧ W.cell? ⟨B, 6, none⟩ = some (.int .i64 l.flx) ∧ W.cell? ⟨B, 7, none⟩ = some (.int .i64 l.fly) ∧ W.cell? ⟨B, 8, none⟩ = some (.int .i64 l.fhx) ∧ W.cell? ⟨B, 9, none⟩ = some (.int .i64 l.fhy) ∧ W.cell? ⟨B, 10, none⟩ = some (.int .i64 l.bans)) ∧ (W.cell? ⟨G, 0, none⟩ = some (.int .i64 (pre f k).s) ∧ W.cell? ⟨G, 1, none⟩ = some (.int .i64 (pre f k).p) ∧ W.cell? ⟨G, 2, none⟩ = some (.bool (pre f k).b)) ∧ W.cell? ⟨g, k * 3, none⟩ = some (.int .i64 (f k).s) ∧ W.cell? ⟨g, k * 3 + 1, none⟩ = some (.int .i64 (f k).p) ∧ W.cell? ⟨g, k * 3 + 2, none⟩ = some (.bool true)) ⟨I7.L.c11, ⟨X7.cell 0, X7.cell 1, X7.cell 2⟩, e0, e1, e2⟩ (fun hHeld => ?_)
            simp only [List.take_succ_cons, List.take_zero]
            (refine wpAnyH_take (i := 0) (v := ?_) rfl (by kernel_rfl) (by kernel_rfl) (by kernel_rfl) (fun _ _ _ h => h) (Or.inl ⟨by rfl, ?_⟩) (by assumption) ?_; rotate_left; · (intro w hSw; (try dsimp only at hSw); go_simp; (try with_reducible rfl))); (try simp only [Act.put, List.setIfInBounds_toArray, List.set_cons_zero, List.set_cons_succ])
            (refine wpAnyH_take (i := 1) (v := ?_) rfl (by kernel_rfl) (by kernel_rfl) (by kernel_rfl) (fun _ _ _ h => h) (Or.inl ⟨by rfl, ?_⟩) (by assumption) ?_; rotate_left; · (intro w hSw; (try dsimp only at hSw); go_simp; (try with_reducible rfl))); (try simp only [Act.put, List.setIfInBounds_toArray, List.set_cons_zero, List.set_cons_succ])
            (refine wpAnyH_take (i := 2) (v := ?_) rfl (by kernel_rfl) (by kernel_rfl) (by kernel_rfl) (fun _ _ _ h => h) (Or.inl ⟨by rfl, ?_⟩) (by assumption) ?_; rotate_left; · (intro w hSw; (try dsimp only at hSw); go_simp; (try with_reducible rfl))); (try simp only [Act.put, List.setIfInBounds_toArray, List.set_cons_zero, List.set_cons_succ])
            (refine wpAnyH_take (i := 3) (v := ?_) rfl (by kernel_rfl) (by kernel_rfl) (by kernel_rfl) (fun _ _ _ h => h) (Or.inl ⟨by rfl, ?_⟩) (by assumption) ?_; rotate_left; · (intro w hSw; (try dsimp only at hSw); go_simp; (try with_reducible rfl))); (try simp only [Act.put, List.setIfInBounds_toArray, List.set_cons_zero, List.set_cons_succ])
            (refine wpAnyH_take (i := 4) (v := ?_) rfl (by kernel_rfl) (by kernel_rfl) (by kernel_rfl) (fun _ _ _ h => h) (Or.inl ⟨by rfl, ?_⟩) (by assumption) ?_; rotate_left; · (intro w hSw; (try dsimp only at hSw); go_simp; (try with_reducible rfl))); (try simp only [Act.put, List.setIfInBounds_toArray, List.set_cons_zero, List.set_cons_succ])
            (refine wpAnyH_take (i := 5) (v := ?_) rfl (by kernel_rfl) (by kernel_rfl) (by kernel_rfl) (fun _ _ _ h => h) (Or.inl ⟨by rfl, ?_⟩) (by assumption) ?_; rotate_left; · (intro w hSw; (try dsimp only at hSw); go_simp; (try with_reducible rfl))); (try simp only [Act.put, List.setIfInBounds_toArray, List.set_cons_zero, List.set_cons_succ])
            refine wpAnyH_done (by kernel_rfl) ?_ _
            simp only [TailQ, List.drop_succ_cons, List.drop_zero]
            clear hHeld
            try simp only [List.getElem_toArray, List.getElem_cons_zero, List.getElem_cons_succ, Act.put, List.setIfInBounds_toArray, List.set_cons_zero, List.set_cons_succ]
            have I8 := I7.drew
            have B8 : Below G w4 wr.drew := Below.drew B7
            have X8 : Blk wr.drew G #[.int .i64 (pre f k).s, .int .i64 (pre f k).p, .bool (pre f k).b] := X7
            have d0 : wr.drew.cell? ⟨g, k * 3, none⟩ = some (.int .i64 (f k).s) := e0
            have d1 : wr.drew.cell? ⟨g, k * 3 + 1, none⟩ = some (.int .i64 (f k).p) := e1
            have d2 : wr.drew.cell? ⟨g, k * 3 + 2, none⟩ = some (.bool true) := e2
            clear e0 e1 e2
            go_wp2_with fail
            refine (iInputFollows l (pre f k).s (pre f k).p (pre f k).b (f k).s (f k).p true _ I8.lv).mono ?_
            rw [hfolh.out]
            rintro e w9 ⟨rfl, hb9⟩
            have I9 := I8.pass hb9
            have B9 := B8.trans (hb9.mono (by have := B8.size; omega))
            have X9 := X8.below hb9 X8.lt
            have f0 := (hb9.cell (p := ⟨g, k * 3, none⟩) (by have := B8.size; simp only; omega)).trans d0
            have f1 := (hb9.cell (p := ⟨g, k * 3 + 1, none⟩) (by have := B8.size; simp only; omega)).trans d1
            have f2 := (hb9.cell (p := ⟨g, k * 3 + 2, none⟩) (by have := B8.size; simp only; omega)).trans d2
            clear I8 B8 X8 d0 d1 d2 hb9 I7 B7 X7
            have hzX9 := X9.lt
            have hzL9 := I9.L.lt
            have y0 := X9.cell 0
            have y1 := X9.cell 1
            have y2 := X9.cell 2
            have yf := X9.frozen
            simp only [List.getElem?_toArray, List.getElem?_cons_zero, List.getElem?_cons_succ] at y0 y1 y2
            have X10 : Blk (((w9.setCell ⟨G, 0, none⟩ (.int .i64 (f k).s)).setCell ⟨G, 1, none⟩ (.int .i64 (f k).p)).setCell ⟨G, 2, none⟩ (.bool true)) G #[.int .i64 (f k).s, .int .i64 (f k).p, .bool true] := ((X9.set 0 _).set 1 _).set 2 _
            have B10 : Below G w4 (((w9.setCell ⟨G, 0, none⟩ (.int .i64 (f k).s)).setCell ⟨G, 1, none⟩ (.int .i64 (f k).p)).setCell ⟨G, 2, none⟩ (.bool true)) := Below.setCell (p := ⟨G, 2, none⟩) (Below.setCell (p := ⟨G, 1, none⟩) (Below.setCell (p := ⟨G, 0, none⟩) B9 (Nat.le_refl _) _) (Nat.le_refl _) _) (Nat.le_refl _) _
            have X10 := Lib.hid X10
            have B10 := Lib.hid B10
            clear X9 B9
            go_wp2
            go_roundw
            case rel => exact ⟨k + 1, by omega, by first | (rw [hpzh.out]; done) | (rw [hpzh.out]; go_num), by go_num, B10.out, by rw [show pre f (k + 1) = f k from rfl, hbh.out]; exact X10.out⟩
            case measure => simp [intOf]; omega
        · obtain rfl : k = n := by omega
          (try clear q0 q1 q2 q3 q4 q5 q6 q7 q8 q9 q10); obtain ⟨q0, q1, q2, q3, q4, q5, q6, q7, q8, q9, q10⟩ := I7.L.c11
          go_wp2
          go_ret
          exact ⟨ret_bool (by first | rfl | (simp; done) | (simp; omega)), I7.bel⟩
  · go_enter Try.func22, Try.ntmps22
    go_wp2
    go_ret
    exact ⟨rfl, by (repeat (first | with_reducible assumption | with_reducible exact Below.refl _ _ | ((with_reducible refine Below.alloc ?_ ?_ _); rotate_left; · exact (by first | omega | (simp; done) | (simp; omega))) | ((with_reducible refine Below.setCell ?_ ?_ _); rotate_left; · exact (by first | omega | (simp; done) | (simp; omega))) | with_reducible refine Below.drew ?_ | assumption | exact Below.refl _ _ | refine Below.alloc ?_ (by first | omega | (simp; done) | (simp; omega)) _ | refine Below.setCell ?_ (by first | omega | (simp; done) | (simp; omega)) _ | refine Below.drew ?_))⟩
end Go.Proofs.Ytnhjalijnociaaa
