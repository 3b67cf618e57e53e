/- The walk of FnLegalPauses. -/
import Derived.Test.YtnhjalijnociaaaKa
set_option linter.unusedVariables false
set_option linter.unusedSimpArgs false
namespace Go.Proofs.Ytnhjalijnociaaa
open Go.RowKit

set_option maxRecDepth 100000 in
set_option maxHeartbeats 1000000 in
theorem lawLegalPauses (a : Option Addr) (len cap : Nat) (zs : List Int) (w : World) (h : IsRow .u8 w a len cap zs) : Calls Try.prog 23 #[.slice a len cap] w fun e w' => e = .returned (.bool true) ∧ Below w.heap.size w w' := by
  by_cases hl : len ≤ 1048576
  · go_enter Try.func23, Try.ntmps23
    go_wp2_with fail
    refine (dInputsLegal _ _ _ _ _ h).mono ?_
    rintro e w1 ⟨l, g, c, n, f, rfl, hl1, hs1, hi1, hcn, hn, hb1⟩
    have hwn := hs1.wn
    have hgn := hs1.gn
    have I1 : QJ w w1.heap.size l g n f (w1.alloc (.cells #[.int .i64 l.id, .int .i64 l.ticks, .int .i64 l.sx, .int .i64 l.sy, .slice l.wa l.wn l.wc, .slice l.ga l.gn l.gc, .int .i64 l.flx, .int .i64 l.fly, .int .i64 l.fhx, .int .i64 l.fhy, .int .i64 l.bans] 29)) := QJ.mk0 hl1 hi1 hb1
    clear hl1 hs1 hi1
    go_wp2_with fail
    refine (iLegal l (some ⟨g, 0, none⟩) n c f _ I1.lv (by omega) I1.xs).mono ?_
    rintro e w2 ⟨rfl, hb2⟩
    have I2 := I1.pass hb2
    generalize w1.heap.size = B at *
    clear I1 hb1 hb2
    obtain ⟨V, hV⟩ : ∃ V, V = l.legV f n := ⟨_, rfl⟩
    rw [← hV]
    have hVh := Lib.hid hV
    clear hV
    (try clear q0 q1 q2 q3 q4 q5 q6 q7 q8 q9 q10); obtain ⟨q0, q1, q2, q3, q4, q5, q6, q7, q8, q9, q10⟩ := I2.L.c11
    have hzL2 := I2.L.lt
    go_wp2_with fail
    refine (sInputsLegal l (some ⟨g, 0, none⟩) n c f _ (by omega) (by omega) I2.lv (by omega) I2.xs).mono ?_
    rw [← hVh.out]
    rintro e w3 ⟨rfl, hb3⟩
    have I3 := I2.pass hb3
    clear I2 hb3
    (try clear q0 q1 q2 q3 q4 q5 q6 q7 q8 q9 q10); obtain ⟨q0, q1, q2, q3, q4, q5, q6, q7, q8, q9, q10⟩ := I3.L.c11
    have hzL3 := I3.L.lt
    go_wp2_with fail
    refine (sLevelValid l _ (by omega) (by omega) I3.lv).mono ?_
    rintro e w4 ⟨rfl, hb4⟩
    have I4 := I3.pass hb4
    clear I3 hb4
    (try clear q0 q1 q2 q3 q4 q5 q6 q7 q8 q9 q10); obtain ⟨q0, q1, q2, q3, q4, q5, q6, q7, q8, q9, q10⟩ := I4.L.c11
    have hzL4 := I4.L.lt
    cases hk : l.ok with
    | false =>
      go_wp2
      go_ret
      exact ⟨ret_bool (by first | rfl | simp), I4.bel⟩
    | true =>
      have hbd := Lv.ok_num2 hk
      obtain ⟨_, ⟨t1, t2⟩, ⟨n0, n3⟩, _⟩ := hbd
      obtain ⟨bB, hbB⟩ : ∃ bB, bB = banB l.bans 2 := ⟨_, rfl⟩
      have hbans : l.bansB 2 = bB := by rw [hbB]; simp [Lv.bansB, hk]
      have hbBh := Lib.hid hbB
      clear hbB
      go_wp2_with fail
      refine (sLevelBans l 2 _ (by omega) (by omega) I4.lv).mono ?_
      rw [hbans]
      rintro e w5 ⟨rfl, hb5⟩
      have I5 := I4.pass hb5
      clear I4 hb5
      (try clear q0 q1 q2 q3 q4 q5 q6 q7 q8 q9 q10); obtain ⟨q0, q1, q2, q3, q4, q5, q6, q7, q8, q9, q10⟩ := I5.L.c11
      have hzL5 := I5.L.lt
      cases bB with
      | true =>
        go_wp2
        go_ret
        exact ⟨ret_bool (by first | rfl | simp), I5.bel⟩
      | false =>
        by_cases ht : l.ticks ≤ 3
        · go_wp2
          go_ret
          exact ⟨ret_bool (by first | rfl | simp), I5.bel⟩
        · obtain ⟨z0, z1⟩ := stop_leg hk hbBh.out.symm (by omega)
          have hz0 := Lib.hid z0
          have hz1 := Lib.hid z1
          clear z0 z1
          have R5 : RowI (w5.alloc (.cells #[] 33)) w5.heap.size 0 0 (inC ⟨0, 0, true⟩) := RowI.empty _ rfl
          have bG := (Below.refl w5.heap.size w5).alloc (Nat.le_refl _) (.cells #[] 33)
          go_upto_region 10 with fail
          generalize hw6 : w5.alloc (.cells #[] 33) = w6 at *
          generalize hG : w5.heap.size = G at *
          have hBG : B < G := hzL5
          clear q0 q1 q2 q3 q4 q5 q6 q7 q8 q9 q10 hzL5 hw6
          go_loopw [7, 8] (fun xv iv wr => ∃ (j g2 c2 : Nat), j ≤ 4 ∧ xv = .slice (some ⟨g2, 0, none⟩) j c2 ∧ iv = .int .i64 (j : Int) ∧ G ≤ g2 ∧ RowI wr g2 c2 j (inC ⟨0, 0, true⟩) ∧ Below G w5 wr) (fun _ iv _ => 4 - (intOf iv).toNat)
          case atStart => exact ⟨0, G, 0, by omega, rfl, rfl, Nat.le_refl _, R5, bG⟩
          case round =>
            obtain ⟨j, g2, c2, hj, rfl, rfl, hg2, O7, B7⟩ := hrel
            clear R5 bG
            by_cases hlt : j < 4
            · have q1' : (j : Int) ≤ 3 := by omega
              have V8 : Blk (wr.alloc (.cells #[.int .i64 0, .int .i64 0, .bool true] 33)) wr.heap.size #[.int .i64 0, .int .i64 0, .bool true] := Blk.at rfl
              have i8 := ins_inC V8
              have O8 := O7.alloc (.cells #[.int .i64 0, .int .i64 0, .bool true] 33)
              have B8 := B7.alloc (by have := O7.lt; omega) (.cells #[.int .i64 0, .int .i64 0, .bool true] 33)
              have hzs := O7.lt
              go_wp2_with (at_builtin; refine app_ins rfl _ _ rfl g2 c2 j (inC ⟨0, 0, true⟩) (some ⟨wr.heap.size, 0, none⟩) 1 1 (inC ⟨0, 0, true⟩) rfl O8 rfl i8 (by omega) ?_; rintro g9 c9 w9 O9 hg9 hu9 hz9)
              go_roundw
              case rel => exact ⟨j + 1, g9, c9, by omega, rfl, by go_num, by omega, RowI.rebase O9 (jvals_congr _ fun i hi => by simp only [iglue, inC]; split <;> rfl), B8.trans (hu9.under (by omega) (by simp; omega))⟩
              case measure => simp [intOf]; omega
            · obtain rfl : j = 4 := by omega
              have I7 : QJ w B l g n f wr := ⟨I5.L.below B7 hBG, I5.lv.keep (by rw [hG]; exact B7), I5.xs.keep (by rw [hG]; exact B7), I5.bel.trans (B7.mono (by have := I5.bel.size; omega))⟩
              have hc2 := O7.le_cap
              have x7 := O7.ins
              have hzL7 := I7.L.lt
              have hcut := run_cutI g2 4 c2 3 (by omega)
              have hc3 : ¬ (c2 : Int) < 3 := by omega
              have hc4 : (3 : Int) ≤ (c2 : Int) := by omega
              go_upto_region 13 with fail
              have I8 := I7.drew
              have x8 : InsAt wr.drew (some ⟨g2, 0, none⟩) 4 (inC ⟨0, 0, true⟩) := x7
              refine wp_region_held_drew (S := fun W => W.cell? ⟨B, 0, none⟩ = some (.int .i64 l.id) ∧ W.cell? ⟨B, 1, none⟩ = some (.int .i64 l.ticks) ∧ W.cell? ⟨B, 2, none⟩ = some (.int .i64 l.sx) ∧ W.cell? ⟨B, 3, none⟩ = some (.int .i64 l.sy) ∧ W.cell? ⟨B, 4, none⟩ = some (.slice l.wa l.wn l.wc) ∧ W.cell? ⟨B, 5, none⟩ = some (.slice l.ga l.gn l.gc) ∧ W.cell? ⟨B, 6, none⟩ = some (.int .i64 l.flx) ∧ W.cell? ⟨B, 7, none⟩ = some (.int .i64 l.fly) ∧ W.cell? ⟨B, 8, none⟩ = some (.int .i64 l.fhx) ∧ W.cell? ⟨B, 9, none⟩ = some (.int .i64 l.fhy) ∧ W.cell? ⟨B, 10, none⟩ = some (.int .i64 l.bans)) (by kernel_rfl) I8.L.c11 (fun hHeld => ?_)
              simp only [List.size_toArray, List.length_cons, List.length_nil, Nat.zero_add, Nat.reduceAdd]
              (refine wpAnyH_take (i := 0) (v := ?_) rfl (by kernel_rfl) (by kernel_rfl) (by kernel_rfl) (fun _ _ _ h => h) (Or.inl ⟨by rfl, ?_⟩) (by assumption) ?_; rotate_left; · (intro w hSw; (try dsimp only at hSw); go_simp; (try with_reducible rfl))); (try simp only [Act.put, List.setIfInBounds_toArray, List.set_cons_zero, List.set_cons_succ])
              (refine wpAnyH_take (i := 1) (v := ?_) rfl (by kernel_rfl) (by kernel_rfl) (by kernel_rfl) (fun _ _ _ h => h) (Or.inl ⟨by rfl, ?_⟩) (by assumption) ?_; rotate_left; · (intro w hSw; (try dsimp only at hSw); go_simp; (try with_reducible rfl))); (try simp only [Act.put, List.setIfInBounds_toArray, List.set_cons_zero, List.set_cons_succ])
              refine wpAnyH_ready (rs := [2]) (by kernel_rfl) (by simp) ?_; refine AllReadyH.cons rfl (fun K hK => ?_) AllReadyH.nil; (try simp only [List.getElem_toArray, List.getElem_cons_succ, List.getElem_cons_zero])
              go_simp
              go_at_call 50
              refine (iLegal l (some ⟨g2, 0, none⟩) 4 c2 (inC ⟨0, 0, true⟩) _ I8.lv (by omega) x8).mono ?_
              rw [hz0.out]
              rintro e w9 ⟨rfl, hb9⟩
              have I9 := I8.pass hb9
              have x9 := x8.keep hb9
              go_wp2_with fail
              refine hK.out _ _ (I9.L.c11) (fun hHeld => ?_); clear hK K; (try simp only [Act.put, List.setIfInBounds_toArray, List.set_cons_zero, List.set_cons_succ])
              (refine wpAnyH_take (i := 3) (v := ?_) rfl (by kernel_rfl) (by kernel_rfl) (by kernel_rfl) (fun _ _ _ h => h) (Or.inl ⟨by rfl, ?_⟩) (by assumption) ?_; rotate_left; · (intro w hSw; (try dsimp only at hSw); go_simp; (try with_reducible rfl))); (try simp only [Act.put, List.setIfInBounds_toArray, List.set_cons_zero, List.set_cons_succ])
              (refine wpAnyH_take (i := 4) (v := ?_) rfl (by kernel_rfl) (by kernel_rfl) (by kernel_rfl) (fun _ _ _ h => h) (Or.inl ⟨by rfl, ?_⟩) (by assumption) ?_; rotate_left; · (intro w hSw; (try dsimp only at hSw); go_simp; (try with_reducible rfl))); (try simp only [Act.put, List.setIfInBounds_toArray, List.set_cons_zero, List.set_cons_succ])
              (refine wpAnyH_take (i := 5) (v := ?_) rfl (by kernel_rfl) (by kernel_rfl) (by kernel_rfl) (fun _ _ _ h => h) (Or.inl ⟨by kernel_rfl, ?_⟩) (by assumption) ?_; rotate_left; · (intro w hSw; (try dsimp only at hSw); go_simp; (try with_reducible rfl))); (try simp only [Act.put, List.setIfInBounds_toArray, List.set_cons_zero, List.set_cons_succ])
              (refine wpAnyH_take (i := 6) (v := ?_) rfl (by kernel_rfl) (by kernel_rfl) (by kernel_rfl) (fun _ _ _ h => h) (Or.inl ⟨by kernel_rfl, ?_⟩) (by assumption) ?_; rotate_left; · (intro w hSw; (try dsimp only at hSw); go_simp; (try with_reducible rfl))); (try simp only [Act.put, List.setIfInBounds_toArray, List.set_cons_zero, List.set_cons_succ])
              refine wpAnyH_take (i := 7) (v := .slice (some ⟨g2, 0, none⟩) 3 c2) rfl (by kernel_rfl) (by kernel_rfl) (by kernel_rfl) (fun _ _ _ h => h) (Or.inl ⟨by kernel_rfl, ?_⟩) (by assumption) ?_
              · intro w hSw
                clear hSw hHeld
                go_simp
                try rw [hcut]
                try rfl
              (try simp only [Act.put, List.setIfInBounds_toArray, List.set_cons_zero, List.set_cons_succ])
              refine wpAnyH_ready (rs := [8]) (by kernel_rfl) (by simp) ?_; refine AllReadyH.cons rfl (fun K hK => ?_) AllReadyH.nil; (try simp only [List.getElem_toArray, List.getElem_cons_succ, List.getElem_cons_zero])
              go_simp
              go_at_call 50
              refine (iLegal l (some ⟨g2, 0, none⟩) 3 c2 (inC ⟨0, 0, true⟩) _ I9.lv (by omega) (x9.less (by omega))).mono ?_
              rw [hz1.out]
              rintro e w11 ⟨rfl, hb11⟩
              have I11 := I9.pass hb11
              go_wp2_with fail
              refine hK.out _ _ (I11.L.c11) (fun hHeld => ?_); clear hK K; (try simp only [Act.put, List.setIfInBounds_toArray, List.set_cons_zero, List.set_cons_succ])
              (refine wpAnyH_take (i := 9) (v := ?_) rfl (by kernel_rfl) (by kernel_rfl) (by kernel_rfl) (fun _ _ _ h => h) (Or.inl ⟨by kernel_rfl, ?_⟩) (by assumption) ?_; rotate_left; · (intro w hSw; (try dsimp only at hSw); go_simp; (try with_reducible rfl))); (try simp only [Act.put, List.setIfInBounds_toArray, List.set_cons_zero, List.set_cons_succ])
              (refine wpAnyH_take (i := 10) (v := ?_) rfl (by kernel_rfl) (by kernel_rfl) (by kernel_rfl) (fun _ _ _ h => h) (Or.inl ⟨by rfl, ?_⟩) (by assumption) ?_; rotate_left; · (intro w hSw; (try dsimp only at hSw); go_simp; (try with_reducible rfl))); (try simp only [Act.put, List.setIfInBounds_toArray, List.set_cons_zero, List.set_cons_succ])
              refine wpAnyH_ready (rs := [11]) (by kernel_rfl) (by simp) ?_; refine AllReadyH.cons rfl (fun K hK => ?_) AllReadyH.nil; (try simp only [List.getElem_toArray, List.getElem_cons_succ, List.getElem_cons_zero])
              go_simp
              refine hK.out _ _ (I11.L.c11) (fun hHeld => ?_); clear hK K; (try simp only [Act.put, List.setIfInBounds_toArray, List.set_cons_zero, List.set_cons_succ])
              refine wpAnyH_done (by kernel_rfl) ?_ _
              clear hHeld
              go_wp2
              go_ret
              exact ⟨ret_bool (by first | rfl | simp), I11.bel⟩
  · go_enter Try.func23, Try.ntmps23
    go_wp2
    go_ret
    exact ⟨rfl, by (repeat (first | with_reducible assumption | with_reducible exact Below.refl _ _ | ((with_reducible refine Below.alloc ?_ ?_ _); rotate_left; · exact (by first | omega | (simp; done) | (simp; omega))) | ((with_reducible refine Below.setCell ?_ ?_ _); rotate_left; · exact (by first | omega | (simp; done) | (simp; omega))) | with_reducible refine Below.drew ?_ | assumption | exact Below.refl _ _ | refine Below.alloc ?_ (by first | omega | (simp; done) | (simp; omega)) _ | refine Below.setCell ?_ (by first | omega | (simp; done) | (simp; omega)) _ | refine Below.drew ?_))⟩
end Go.Proofs.Ytnhjalijnociaaa
