/- The walk of FnLegalPrefix. -/
import Derived.Test.YtnhjalijnociaaaKa
set_option linter.unusedVariables false
set_option linter.unusedSimpArgs false
namespace Go.Proofs.Ytnhjalijnociaaa
open Go.RowKit

set_option maxRecDepth 100000 in
set_option maxHeartbeats 1000000 in
theorem lawLegalPrefix (a : Option Addr) (len cap : Nat) (zs : List Int) (w : World) (h : IsRow .u8 w a len cap zs) : Calls Try.prog 20 #[.slice a len cap] w fun e w' => e = .returned (.bool true) ∧ Below w.heap.size w w' := by
  by_cases hl : len ≤ 1048576
  · go_enter Try.func20, Try.ntmps20
    go_wp2_with fail
    refine (dInputsLegal _ _ _ _ _ h).mono ?_
    rintro e w1 ⟨l, g, c, n, f, rfl, hl1, hs1, hi1, hcn, hn, hb1⟩
    have hwn := hs1.wn
    have hgn := hs1.gn
    have I1 : QJ w w1.heap.size l g n f (w1.alloc (.cells #[.int .i64 l.id, .int .i64 l.ticks, .int .i64 l.sx, .int .i64 l.sy, .slice l.wa l.wn l.wc, .slice l.ga l.gn l.gc, .int .i64 l.flx, .int .i64 l.fly, .int .i64 l.fhx, .int .i64 l.fhy, .int .i64 l.bans] 29)) := QJ.mk0 hl1 hi1 hb1
    clear hl1 hs1 hi1
    go_wp2_with fail
    refine (iLegal l (some ⟨g, 0, none⟩) n c f _ I1.lv (by omega) I1.xs).mono ?_
    rintro e w2 ⟨rfl, hb2⟩
    have I2 := I1.pass hb2
    generalize w1.heap.size = B at *
    clear I1 hb1 hb2
    obtain ⟨V, hV⟩ : ∃ V, V = l.legV f n := ⟨_, rfl⟩
    rw [← hV]
    have hVh := Lib.hid hV
    clear hV
    (try clear q0 q1 q2 q3 q4 q5 q6 q7 q8 q9 q10); obtain ⟨q0, q1, q2, q3, q4, q5, q6, q7, q8, q9, q10⟩ := I2.L.c11
    have hzL2 := I2.L.lt
    go_wp2_with fail
    refine (sInputsLegal l (some ⟨g, 0, none⟩) n c f _ (by omega) (by omega) I2.lv (by omega) I2.xs).mono ?_
    rw [← hVh.out]
    rintro e w3 ⟨rfl, hb3⟩
    have I3 := I2.pass hb3
    clear I2 hb3
    (try clear q0 q1 q2 q3 q4 q5 q6 q7 q8 q9 q10); obtain ⟨q0, q1, q2, q3, q4, q5, q6, q7, q8, q9, q10⟩ := I3.L.c11
    have hzL3 := I3.L.lt
    go_wp2_with fail
    refine (sLevelValid l _ (by omega) (by omega) I3.lv).mono ?_
    rintro e w4 ⟨rfl, hb4⟩
    have I4 := I3.pass hb4
    clear I3 hb4
    (try clear q0 q1 q2 q3 q4 q5 q6 q7 q8 q9 q10); obtain ⟨q0, q1, q2, q3, q4, q5, q6, q7, q8, q9, q10⟩ := I4.L.c11
    have hzL4 := I4.L.lt
    cases hk : l.ok with
    | false =>
      go_wp2
      go_ret
      exact ⟨ret_bool (by first | rfl | simp), I4.bel⟩
    | true =>
      have hbd := Lv.ok_num2 hk
      obtain ⟨_, ⟨t1, t2⟩, ⟨n0, n3⟩, _⟩ := hbd
      have hVl : V = l.leg f n := by rw [hVh.out, Lv.legV, hk, if_pos rfl]
      by_cases hV0 : V < 0
      · have z0 : l.legV f (n / 2) = -1 := by rw [Lv.legV, hk, if_pos rfl]; exact Lv.leg_prefix (n := n) (by omega) (by omega)
        obtain ⟨m, hm⟩ : ∃ m, m = n / 2 := ⟨_, rfl⟩
        rw [← hm] at z0
        have hmn : m ≤ n := by omega
        have hq : ((n : Nat) : Int).tdiv 2 = (m : Int) := by rw [Int.tdiv_eq_ediv_of_nonneg (by omega)]; omega
        have hq2 : ((n : Nat) : Int) / 2 = (m : Int) := by omega
        have hwm : IntKind.i64.wrap (m : Int) = (m : Int) := IntWalk.i64_in _ (by omega)
        have hcut := run_cutI g n c m (by omega)
        have hVlh := Lib.hid hVl
        have hmh := Lib.hid hm
        clear hVl hm
        go_upto_region 9 with fail
        have I5 := I4.drew
        refine wp_region_cut 6 (by kernel_rfl) (by kernel_rfl) (S := fun W => W.cell? ⟨B, 0, none⟩ = some (.int .i64 l.id) ∧ W.cell? ⟨B, 1, none⟩ = some (.int .i64 l.ticks) ∧ W.cell? ⟨B, 2, none⟩ = some (.int .i64 l.sx) ∧ W.cell? ⟨B, 3, none⟩ = some (.int .i64 l.sy) ∧ W.cell? ⟨B, 4, none⟩ = some (.slice l.wa l.wn l.wc) ∧ W.cell? ⟨B, 5, none⟩ = some (.slice l.ga l.gn l.gc) ∧ W.cell? ⟨B, 6, none⟩ = some (.int .i64 l.flx) ∧ W.cell? ⟨B, 7, none⟩ = some (.int .i64 l.fly) ∧ W.cell? ⟨B, 8, none⟩ = some (.int .i64 l.fhx) ∧ W.cell? ⟨B, 9, none⟩ = some (.int .i64 l.fhy) ∧ W.cell? ⟨B, 10, none⟩ = some (.int .i64 l.bans)) I5.L.c11 (fun hHeld => ?_)
        simp only [List.take_succ_cons, List.take_zero]
        (refine wpAnyH_take (i := 0) (v := ?_) rfl (by kernel_rfl) (by kernel_rfl) (by kernel_rfl) (fun _ _ _ h => h) (Or.inl ⟨by rfl, ?_⟩) (by assumption) ?_; rotate_left; · (intro w hSw; (try dsimp only at hSw); go_simp; (try with_reducible rfl))); (try simp only [Act.put, List.setIfInBounds_toArray, List.set_cons_zero, List.set_cons_succ])
        (refine wpAnyH_take (i := 1) (v := ?_) rfl (by kernel_rfl) (by kernel_rfl) (by kernel_rfl) (fun _ _ _ h => h) (Or.inl ⟨by rfl, ?_⟩) (by assumption) ?_; rotate_left; · (intro w hSw; (try dsimp only at hSw); go_simp; (try with_reducible rfl))); (try simp only [Act.put, List.setIfInBounds_toArray, List.set_cons_zero, List.set_cons_succ])
        (refine wpAnyH_take (i := 2) (v := ?_) rfl (by kernel_rfl) (by kernel_rfl) (by kernel_rfl) (fun _ _ _ h => h) (Or.inl ⟨by rfl, ?_⟩) (by assumption) ?_; rotate_left; · (intro w hSw; (try dsimp only at hSw); go_simp; (try with_reducible rfl))); (try simp only [Act.put, List.setIfInBounds_toArray, List.set_cons_zero, List.set_cons_succ])
        (refine wpAnyH_take (i := 3) (v := ?_) rfl (by kernel_rfl) (by kernel_rfl) (by kernel_rfl) (fun _ _ _ h => h) (Or.inl ⟨by rfl, ?_⟩) (by assumption) ?_; rotate_left; · (intro w hSw; (try dsimp only at hSw); go_simp; (try with_reducible rfl))); (try simp only [Act.put, List.setIfInBounds_toArray, List.set_cons_zero, List.set_cons_succ])
        refine wpAnyH_take (i := 4) (v := .int .i64 (m : Int)) rfl (by kernel_rfl) (by kernel_rfl) (by kernel_rfl) (fun _ _ _ h => h) (Or.inl ⟨by rfl, ?_⟩) (by assumption) ?_
        · intro w hSw
          clear hSw hHeld
          go_simp
          try first | rw [hq] | rw [hq2]
          try rw [hwm]
        (try simp only [Act.put, List.setIfInBounds_toArray, List.set_cons_zero, List.set_cons_succ])
        refine wpAnyH_take (i := 5) (v := .slice (some ⟨g, 0, none⟩) m c) rfl (by kernel_rfl) (by kernel_rfl) (by kernel_rfl) (fun _ _ _ h => h) (Or.inl ⟨by rfl, ?_⟩) (by assumption) ?_
        · intro w hSw
          clear hSw hHeld
          go_simp
          try rw [hcut]
          try rfl
        (try simp only [Act.put, List.setIfInBounds_toArray, List.set_cons_zero, List.set_cons_succ])
        refine wpAnyH_done (by kernel_rfl) ?_ _
        simp only [TailQ, List.drop_succ_cons, List.drop_zero]
        clear hHeld
        try simp only [List.getElem_toArray, List.getElem_cons_zero, List.getElem_cons_succ, Act.put, List.setIfInBounds_toArray, List.set_cons_zero, List.set_cons_succ]
        clear hq hq2 hcut hwm
        go_wp2_with fail
        refine (iLegal l (some ⟨g, 0, none⟩) m c f _ I5.lv (by omega) (I5.xs.less hmn)).mono ?_
        rw [z0]
        rintro e w6 ⟨rfl, hb6⟩
        have I6 := I5.pass hb6
        go_wp2
        go_ret
        exact ⟨ret_bool (by first | rfl | simp), I6.bel⟩
      · have hl2 := Lv.leg_bd l f n
        obtain ⟨k, hkV⟩ := Int.eq_ofNat_of_zero_le (show 0 ≤ V by omega)
        obtain ⟨hkn, z0, z1⟩ := Lv.leg_cut (l := l) (f := f) (n := n) (k := k) (by rw [← hVl, hkV])
        have z0 : l.legV f k = -1 := by rw [Lv.legV, hk, if_pos rfl]; exact z0
        have z1 : l.legV f (k + 1) = (k : Int) := by rw [Lv.legV, hk, if_pos rfl]; exact z1
        have hz0 := Lib.hid z0
        have hz1 := Lib.hid z1
        clear hVh hVl hl2 z0 z1
        subst hkV
        have hcut := run_cutI g n c k (by omega)
        have hcut2 := run_cutI g n c (k + 1) (by omega)
        have hcut3 : ∀ w : World, (Instr.slice 69 (.slice (some ⟨g, 0, none⟩) n c) none (some (.int .i64 ((k : Int) + 1))) none).run Try.prog w = .ok (.slice (some ⟨g, 0, none⟩) (k + 1) c) w := fun w => by
          have := hcut2 w
          rwa [show (((k + 1 : Nat)) : Int) = (k : Int) + 1 from by omega] at this
        clear hcut2
        have hwk : IntKind.i64.wrap ((k : Int) + 1) = (k : Int) + 1 := IntWalk.i64_in _ (by omega)
        go_upto_region 10 with fail
        have I5 := I4.drew
        refine wp_region_held_drew (S := fun W => W.cell? ⟨B, 0, none⟩ = some (.int .i64 l.id) ∧ W.cell? ⟨B, 1, none⟩ = some (.int .i64 l.ticks) ∧ W.cell? ⟨B, 2, none⟩ = some (.int .i64 l.sx) ∧ W.cell? ⟨B, 3, none⟩ = some (.int .i64 l.sy) ∧ W.cell? ⟨B, 4, none⟩ = some (.slice l.wa l.wn l.wc) ∧ W.cell? ⟨B, 5, none⟩ = some (.slice l.ga l.gn l.gc) ∧ W.cell? ⟨B, 6, none⟩ = some (.int .i64 l.flx) ∧ W.cell? ⟨B, 7, none⟩ = some (.int .i64 l.fly) ∧ W.cell? ⟨B, 8, none⟩ = some (.int .i64 l.fhx) ∧ W.cell? ⟨B, 9, none⟩ = some (.int .i64 l.fhy) ∧ W.cell? ⟨B, 10, none⟩ = some (.int .i64 l.bans)) (by kernel_rfl) I5.L.c11 (fun hHeld => ?_)
        simp only [List.size_toArray, List.length_cons, List.length_nil, Nat.zero_add, Nat.reduceAdd]
        (refine wpAnyH_take (i := 0) (v := ?_) rfl (by kernel_rfl) (by kernel_rfl) (by kernel_rfl) (fun _ _ _ h => h) (Or.inl ⟨by rfl, ?_⟩) (by assumption) ?_; rotate_left; · (intro w hSw; (try dsimp only at hSw); go_simp; (try with_reducible rfl))); (try simp only [Act.put, List.setIfInBounds_toArray, List.set_cons_zero, List.set_cons_succ])
        (refine wpAnyH_take (i := 1) (v := ?_) rfl (by kernel_rfl) (by kernel_rfl) (by kernel_rfl) (fun _ _ _ h => h) (Or.inl ⟨by rfl, ?_⟩) (by assumption) ?_; rotate_left; · (intro w hSw; (try dsimp only at hSw); go_simp; (try with_reducible rfl))); (try simp only [Act.put, List.setIfInBounds_toArray, List.set_cons_zero, List.set_cons_succ])
        (refine wpAnyH_take (i := 2) (v := ?_) rfl (by kernel_rfl) (by kernel_rfl) (by kernel_rfl) (fun _ _ _ h => h) (Or.inl ⟨by rfl, ?_⟩) (by assumption) ?_; rotate_left; · (intro w hSw; (try dsimp only at hSw); go_simp; (try with_reducible rfl))); (try simp only [Act.put, List.setIfInBounds_toArray, List.set_cons_zero, List.set_cons_succ])
        refine wpAnyH_take (i := 3) (v := .slice (some ⟨g, 0, none⟩) k c) rfl (by kernel_rfl) (by kernel_rfl) (by kernel_rfl) (fun _ _ _ h => h) (Or.inl ⟨by rfl, ?_⟩) (by assumption) ?_
        · intro w hSw
          clear hSw hHeld
          go_simp
          try rw [hcut]
          try rfl
        (try simp only [Act.put, List.setIfInBounds_toArray, List.set_cons_zero, List.set_cons_succ])
        refine wpAnyH_ready (rs := [4]) (by kernel_rfl) (by simp) ?_; refine AllReadyH.cons rfl (fun K hK => ?_) AllReadyH.nil; (try simp only [List.getElem_toArray, List.getElem_cons_succ, List.getElem_cons_zero])
        go_simp
        go_at_call 50
        refine (iLegal l (some ⟨g, 0, none⟩) k c f _ I5.lv (by omega) (I5.xs.less (by omega))).mono ?_
        rw [hz0.out]
        rintro e w6 ⟨rfl, hb6⟩
        have I6 := I5.pass hb6
        go_wp2_with fail
        refine hK.out _ _ (I6.L.c11) (fun hHeld => ?_); clear hK K; (try simp only [Act.put, List.setIfInBounds_toArray, List.set_cons_zero, List.set_cons_succ])
        (refine wpAnyH_take (i := 5) (v := ?_) rfl (by kernel_rfl) (by kernel_rfl) (by kernel_rfl) (fun _ _ _ h => h) (Or.inl ⟨by rfl, ?_⟩) (by assumption) ?_; rotate_left; · (intro w hSw; (try dsimp only at hSw); go_simp; (try with_reducible rfl))); (try simp only [Act.put, List.setIfInBounds_toArray, List.set_cons_zero, List.set_cons_succ])
        (refine wpAnyH_take (i := 6) (v := ?_) rfl (by kernel_rfl) (by kernel_rfl) (by kernel_rfl) (fun _ _ _ h => h) (Or.inl ⟨by rfl, ?_⟩) (by assumption) ?_; rotate_left; · (intro w hSw; (try dsimp only at hSw); go_simp; (try with_reducible rfl))); (try simp only [Act.put, List.setIfInBounds_toArray, List.set_cons_zero, List.set_cons_succ])
        (refine wpAnyH_take (i := 7) (v := ?_) rfl (by kernel_rfl) (by kernel_rfl) (by kernel_rfl) (fun _ _ _ h => h) (Or.inl ⟨by kernel_rfl, ?_⟩) (by assumption) ?_; rotate_left; · (intro w hSw; (try dsimp only at hSw); go_simp; (try with_reducible rfl))); (try simp only [Act.put, List.setIfInBounds_toArray, List.set_cons_zero, List.set_cons_succ])
        (refine wpAnyH_take (i := 8) (v := ?_) rfl (by kernel_rfl) (by kernel_rfl) (by kernel_rfl) (fun _ _ _ h => h) (Or.inl ⟨by kernel_rfl, ?_⟩) (by assumption) ?_; rotate_left; · (intro w hSw; (try dsimp only at hSw); go_simp; (try with_reducible rfl))); (try simp only [Act.put, List.setIfInBounds_toArray, List.set_cons_zero, List.set_cons_succ])
        (refine wpAnyH_take (i := 9) (v := ?_) rfl (by kernel_rfl) (by kernel_rfl) (by kernel_rfl) (fun _ _ _ h => h) (Or.inl ⟨by kernel_rfl, ?_⟩) (by assumption) ?_; rotate_left; · (intro w hSw; (try dsimp only at hSw); go_simp; (try with_reducible rfl))); (try simp only [Act.put, List.setIfInBounds_toArray, List.set_cons_zero, List.set_cons_succ])
        refine wpAnyH_take (i := 10) (v := .int .i64 ((k : Int) + 1)) rfl (by kernel_rfl) (by kernel_rfl) (by kernel_rfl) (fun _ _ _ h => h) (Or.inl ⟨by kernel_rfl, ?_⟩) (by assumption) ?_
        · intro w hSw
          clear hSw hHeld
          go_simp
          try rw [hwk]
          try rfl
        (try simp only [Act.put, List.setIfInBounds_toArray, List.set_cons_zero, List.set_cons_succ])
        refine wpAnyH_take (i := 11) (v := .slice (some ⟨g, 0, none⟩) (k + 1) c) rfl (by kernel_rfl) (by kernel_rfl) (by kernel_rfl) (fun _ _ _ h => h) (Or.inl ⟨by kernel_rfl, ?_⟩) (by assumption) ?_
        · intro w hSw
          clear hSw hHeld
          go_simp
          try rw [hcut3]
          try rfl
        (try simp only [Act.put, List.setIfInBounds_toArray, List.set_cons_zero, List.set_cons_succ])
        (refine wpAnyH_take (i := 13) (v := ?_) rfl (by kernel_rfl) (by kernel_rfl) (by kernel_rfl) (fun _ _ _ h => h) (Or.inl ⟨by kernel_rfl, ?_⟩) (by assumption) ?_; rotate_left; · (intro w hSw; (try dsimp only at hSw); go_simp; (try with_reducible rfl))); (try simp only [Act.put, List.setIfInBounds_toArray, List.set_cons_zero, List.set_cons_succ])
        refine wpAnyH_ready (rs := [12]) (by kernel_rfl) (by simp) ?_; refine AllReadyH.cons rfl (fun K hK => ?_) AllReadyH.nil; (try simp only [List.getElem_toArray, List.getElem_cons_succ, List.getElem_cons_zero])
        go_simp
        go_at_call 50
        refine (iLegal l (some ⟨g, 0, none⟩) (k + 1) c f _ I6.lv (by omega) (I6.xs.less (by omega))).mono ?_
        rw [hz1.out]
        rintro e w8 ⟨rfl, hb8⟩
        have I8 := I6.pass hb8
        go_wp2_with fail
        refine hK.out _ _ (I8.L.c11) (fun hHeld => ?_); clear hK K; (try simp only [Act.put, List.setIfInBounds_toArray, List.set_cons_zero, List.set_cons_succ])
        (refine wpAnyH_take (i := 14) (v := ?_) rfl (by kernel_rfl) (by kernel_rfl) (by kernel_rfl) (fun _ _ _ h => h) (Or.inl ⟨by kernel_rfl, ?_⟩) (by assumption) ?_; rotate_left; · (intro w hSw; (try dsimp only at hSw); go_simp; (try with_reducible rfl))); (try simp only [Act.put, List.setIfInBounds_toArray, List.set_cons_zero, List.set_cons_succ])
        (refine wpAnyH_take (i := 15) (v := ?_) rfl (by kernel_rfl) (by kernel_rfl) (by kernel_rfl) (fun _ _ _ h => h) (Or.inl ⟨by rfl, ?_⟩) (by assumption) ?_; rotate_left; · (intro w hSw; (try dsimp only at hSw); go_simp; (try with_reducible rfl))); (try simp only [Act.put, List.setIfInBounds_toArray, List.set_cons_zero, List.set_cons_succ])
        refine wpAnyH_ready (rs := [16]) (by kernel_rfl) (by simp) ?_; refine AllReadyH.cons rfl (fun K hK => ?_) AllReadyH.nil; (try simp only [List.getElem_toArray, List.getElem_cons_succ, List.getElem_cons_zero])
        go_simp
        refine hK.out _ _ (I8.L.c11) (fun hHeld => ?_); clear hK K; (try simp only [Act.put, List.setIfInBounds_toArray, List.set_cons_zero, List.set_cons_succ])
        refine wpAnyH_done (by kernel_rfl) ?_ _
        clear hHeld
        go_wp2
        go_ret
        exact ⟨ret_bool (by first | rfl | simp), I8.bel⟩
  · go_enter Try.func20, Try.ntmps20
    go_wp2
    go_ret
    exact ⟨rfl, by (repeat (first | with_reducible assumption | with_reducible exact Below.refl _ _ | ((with_reducible refine Below.alloc ?_ ?_ _); rotate_left; · exact (by first | omega | (simp; done) | (simp; omega))) | ((with_reducible refine Below.setCell ?_ ?_ _); rotate_left; · exact (by first | omega | (simp; done) | (simp; omega))) | with_reducible refine Below.drew ?_ | assumption | exact Below.refl _ _ | refine Below.alloc ?_ (by first | omega | (simp; done) | (simp; omega)) _ | refine Below.setCell ?_ (by first | omega | (simp; done) | (simp; omega)) _ | refine Below.drew ?_))⟩
end Go.Proofs.Ytnhjalijnociaaa
