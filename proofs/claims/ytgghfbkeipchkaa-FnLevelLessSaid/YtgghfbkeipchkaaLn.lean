/- The walk of FnLevelLess. -/
import Derived.Test.YtgghfbkeipchkaaLz
set_option linter.unusedVariables false
set_option linter.unusedSimpArgs false
namespace Go.Proofs.Ytgghfbkeipchkaa
open Go.RowKit

theorem boxes_less {w : World} {a : Option Addr} {n m : Nat} {f : Nat → Bx} (h : BoxesAt w a n f) (hm : m ≤ n) : BoxesAt w a m f := by
  rcases h with h | ⟨b, off, ha, hlt, hc⟩
  · exact .inl (by omega)
  · exact .inr ⟨b, off, ha, hlt, fun i hi => hc i (by omega)⟩
set_option maxRecDepth 100000 in
theorem run_app_row {w : World} (ty : TypeId) (g cap n : Nat) (f : Nat → Bx) (hrow : Row w g cap n f) (A : Option Addr) (m c : Nat) (f2 : Nat → Bx) (hB : BoxesAt w A m f2) (hn : n + m ≤ 1000) :
    ∃ g' cap' w', (Builtin.append_ #[35, 35] ty #[.slice (some ⟨g, 0, none⟩) n cap, .slice A m c]).run Try.prog w = .ok (.slice (some ⟨g', 0, none⟩) (n + m) cap') w' ∧ Row w' g' cap' (n + m) (glue f n f2) ∧ g ≤ g' ∧ Up g w.heap.size w w' ∧ g' < w'.heap.size := by
  obtain ⟨i0, hii, hiz, his, hib⟩ := info_parts infoBox
  have some_case : ∀ (ad : Addr) (m : Nat) (news : List Value), news = bvals f2 m → n + m ≤ 1000 → (∀ j u, news[j]? = some u → w.cell? (ad.add j) = some u) →
      ∃ g' cap' w', (Builtin.append_ #[35, 35] ty #[.slice (some ⟨g, 0, none⟩) n cap, .slice (some ad) m c]).run Try.prog w = .ok (.slice (some ⟨g', 0, none⟩) (n + m) cap') w' ∧ Row w' g' cap' (n + m) (glue f n f2) ∧ g ≤ g' ∧ Up g w.heap.size w w' ∧ g' < w'.heap.size := by
    intro ad m news hnw hn hcell
    subst hnw
    obtain ⟨v', w', hr, hown, hgrow, hnil, _⟩ := run_append_own_at (P := Try.prog) w g 35 ty 26 i0 _ 4 32 Try.underlying35 hii hiz his hib rfl (by decide) _ n _ hrow ad m c (bvals f2 m) (bvals_len f2 m) hcell (bvals_one f2 m) (by unfold maxLen; omega) (by omega) (Nat.le_of_lt hrow.lt)
    have hup : Up g w.heap.size w w' := ⟨hgrow.os, hgrow.tape, hgrow.output, hgrow.size, fun k hk hne => hgrow.block k hk (by simpa [Value.ownBlock] using hne)⟩
    rcases hown.2 with ⟨h', _⟩ | ⟨g', cap', cur, rfl, hb, hg, h1, h2, h3, h4⟩
    · have := hnil.1 h'
      simp at this
    · exact ⟨g', cap', w', hr, Row.rebase hown (bvals_glue f n f2 m).symm, hb, hup, (Array.getElem?_eq_some_iff.1 hg).1⟩
  cases A with
  | none =>
    have hm : m = 0 := by
      rcases hB with hB | ⟨b, off, ha, _⟩
      · exact hB
      · cases ha
    subst hm
    exact ⟨g, cap, w, run_app_none (P := Try.prog) g 35 ty 26 i0 4 c Try.underlying35 hii _ n _ hrow, Row.rebase hrow (by rw [bvals_glue]; simp [bvals]), Nat.le_refl _, Up.refl _ _ _, hrow.lt⟩
  | some ad =>
    rcases hB with hB | ⟨b, off, ha, hlt, hc⟩
    · subst hB
      exact some_case ad 0 [] rfl hn (by simp)
    · cases ha
      exact some_case _ m _ rfl hn (bvals_cells hc)
theorem step_app_row {ops : Array Oper} {o : Oper} {a : Act} {w : World} {K : Act → World → Prop} {Q : Exit → Act → World → Prop} {E : Prop} (hgd : o.guard = none) (s x : Operand)
    (ho : o.op = .call { callee := .builtin .append, args := #[s, x], argTypes := #[35, 35] }) (g cap n : Nat) (f : Nat → Bx) (A : Option Addr) (m c : Nat) (f2 : Nat → Bx)
    (hs : a.eval s = .slice (some ⟨g, 0, none⟩) n cap) (hrow : Row w g cap n f) (hx : a.eval x = .slice A m c) (hB : BoxesAt w A m f2) (hn : n + m ≤ 1000)
    (h : ∀ g' cap' w', Row w' g' cap' (n + m) (glue f n f2) → g ≤ g' → Up g w.heap.size w w' → g' < w'.heap.size → K (a.put o.dst (.slice (some ⟨g', 0, none⟩) (n + m) cap')) w') : if Region.wanted o (yielded ops a.tmps) = true then Oper.wp Try.prog o a w K Q else E := by
  obtain ⟨g', cap', w', hr, h1, h2, h3, h4⟩ := run_app_row o.type g cap n f hrow A m c f2 hB hn
  rw [if_pos (by simp [Region.wanted, hgd])]
  unfold Oper.wp execOp
  simp only [ho, resolve, invoke, builtin, Sem.run_bind, Sem.run_pure, Result.andThen_ok, List.map_toArray, List.map_cons, List.map_nil, hs, hx, hr]
  exact h g' cap' w' h1 h2 h3 h4
theorem rm_glue (f : Nat → Bx) (k n : Nat) (hk : k < n) : bvals (glue (glue bx0 0 f) (0 + k) (fun i => f (k + 1 + i))) (0 + k + (n - (k + 1))) = bvals (rmB f k) (n - 1) := by
  rw [show 0 + k + (n - (k + 1)) = n - 1 by omega]
  refine bvals_congr _ fun i hi => ?_
  simp only [glue, rmB, Nat.zero_add, Nat.not_lt_zero, if_false, Nat.sub_zero]
  by_cases h : i < k
  · rw [if_pos h, if_pos h]
  · rw [if_neg h, if_neg h, show k + 1 + (i - k) = i + 1 by omega]
set_option maxRecDepth 100000 in
set_option maxHeartbeats 2000000 in
theorem lawLevelLess (a : Option Addr) (len cap : Nat) (zs : List Int) (a2 : Option Addr) (len2 cap2 : Nat) (zs2 : List Int) (w : World) (h : IsRow .u8 w a len cap zs) (h2 : IsRow .u8 w a2 len2 cap2 zs2) : Calls Try.prog 7 #[.slice a len cap, .slice a2 len2 cap2] w fun e w' => e = .returned (.bool true) ∧ Below w.heap.size w w' := by
  by_cases hl : len ≤ 1048576
  · by_cases hl2 : len2 ≤ 1048576
    · go_enter Try.func7, Try.ntmps7
      go_wp2_with fail
      refine (dLevelFree _ _ _ _ _ h).mono ?_
      rintro e w1 ⟨l, R, x, y, rfl, hR, hl1, hs1, ⟨x1, x2⟩, ⟨y1', y2'⟩, hb1⟩
      have hs2 := hs1.wn
      have hs3 := hs1.gn
      have hs4 := hs1.wcap
      have I1 : VI w1 l x y ((w1.alloc (.cells #[.int .i64 l.id, .int .i64 l.ticks, .int .i64 l.sx, .int .i64 l.sy, .slice l.wa l.wn l.wc, .slice l.ga l.gn l.gc, .int .i64 l.flx, .int .i64 l.fly, .int .i64 l.fhx, .int .i64 l.fhy, .int .i64 l.bans] 37)).alloc (.cells #[.int .i64 x, .int .i64 y] 24)) := ⟨(Blk.at rfl).alloc _, Blk.at (by simp), by (repeat (first | with_reducible assumption | with_reducible exact Below.refl _ _ | ((with_reducible refine Below.alloc ?_ ?_ _); rotate_left; · exact (by first | omega | (simp; done) | (simp; omega))) | ((with_reducible refine Below.setCell ?_ ?_ _); rotate_left; · exact (by first | omega | (simp; done) | (simp; omega))) | with_reducible refine Below.drew ?_ | assumption | exact Below.refl _ _ | refine Below.alloc ?_ (by first | omega | (simp; done) | (simp; omega)) _ | refine Below.setCell ?_ (by first | omega | (simp; done) | (simp; omega)) _ | refine Below.drew ?_)), hl1.1.keep (by (repeat (first | with_reducible assumption | with_reducible exact Below.refl _ _ | ((with_reducible refine Below.alloc ?_ ?_ _); rotate_left; · exact (by first | omega | (simp; done) | (simp; omega))) | ((with_reducible refine Below.setCell ?_ ?_ _); rotate_left; · exact (by first | omega | (simp; done) | (simp; omega))) | with_reducible refine Below.drew ?_ | assumption | exact Below.refl _ _ | refine Below.alloc ?_ (by first | omega | (simp; done) | (simp; omega)) _ | refine Below.setCell ?_ (by first | omega | (simp; done) | (simp; omega)) _ | refine Below.drew ?_)))⟩
      go_wp2_with fail
      refine (iLevelFree l x y _ I1.lv).mono ?_
      rintro e w2 ⟨rfl, hb2⟩
      have I2 := I1.pass hb2
      (try clear q0 q1 q2 q3 q4 q5 q6 q7 q8 q9 q10 y0 y1); obtain ⟨⟨q0, q1, q2, q3, q4, q5, q6, q7, q8, q9, q10⟩, ⟨y0, y1⟩⟩ := I2.cells
      go_wp2_with fail
      refine (sLevelFree l x y _ (by omega) (by omega) I2.lv).mono ?_
      rintro e w3 ⟨rfl, hb3⟩
      have I3 := I2.pass hb3
      (try clear q0 q1 q2 q3 q4 q5 q6 q7 q8 q9 q10 y0 y1); obtain ⟨⟨q0, q1, q2, q3, q4, q5, q6, q7, q8, q9, q10⟩, ⟨y0, y1⟩⟩ := I3.cells
      clear hb2 hb3 I1 I2
      cases hF : (l.ok && vokB x y && frB l.wf x y l.wn) with
      | false =>
        go_wp2
        go_ret
        exact ⟨rfl, hb1.trans (I3.bel.mono hb1.size)⟩
      | true =>
        simp only [Bool.and_eq_true] at hF
        obtain ⟨⟨hk, hv⟩, hfr⟩ := hF
        have hK := Lib.hid hk
        have hV := Lib.hid hv
        have hFr := Lib.hid hfr
        clear hk hv hfr
        by_cases hw0 : l.wn = 0
        · have hwb : (((l.wn : Nat) : Int) == 0) = true := by simp [hw0]
          clear hw0
          go_wp2
          go_ret
          exact ⟨rfl, hb1.trans (I3.bel.mono hb1.size)⟩
        · have hwb : (((l.wn : Nat) : Int) == 0) = false := by simp; omega
          obtain ⟨bb, off, hwa, hbl, hbc⟩ := I3.lv.1.resolve_left hw0
          have hWa := Lib.hid hwa
          have hBc := Lib.hid hbc
          obtain ⟨k, hk⟩ : ∃ k, k = len2 % l.wn := ⟨_, rfl⟩
          have hkl : k < l.wn := by rw [hk]; exact Nat.mod_lt _ (by omega)
          have tk : ((len2 : Nat) : Int).tmod ((l.wn : Nat) : Int) = (k : Int) := by rw [Int.tmod_eq_emod_of_nonneg (by omega), hk]; simp
          clear hwa hbc hw0 hk
          go_wp2_with fail
          have I4 := (I3.alloc (.cells #[.int .i64 l.id, .int .i64 l.ticks, .int .i64 l.sx, .int .i64 l.sy, .slice l.wa l.wn l.wc, .slice l.ga l.gn l.gc, .int .i64 l.flx, .int .i64 l.fly, .int .i64 l.fhx, .int .i64 l.fhy, .int .i64 l.bans] 37)).drew
          have X4 : Blk (w3.alloc (.cells #[.int .i64 l.id, .int .i64 l.ticks, .int .i64 l.sx, .int .i64 l.sy, .slice l.wa l.wn l.wc, .slice l.ga l.gn l.gc, .int .i64 l.flx, .int .i64 l.fly, .int .i64 l.fhx, .int .i64 l.fhy, .int .i64 l.bans] 37)).drew w3.heap.size #[.int .i64 l.id, .int .i64 l.ticks, .int .i64 l.sx, .int .i64 l.sy, .slice l.wa l.wn l.wc, .slice l.ga l.gn l.gc, .int .i64 l.flx, .int .i64 l.fly, .int .i64 l.fhx, .int .i64 l.fhy, .int .i64 l.bans] := (show Blk (w3.alloc (.cells #[.int .i64 l.id, .int .i64 l.ticks, .int .i64 l.sx, .int .i64 l.sy, .slice l.wa l.wn l.wc, .slice l.ga l.gn l.gc, .int .i64 l.flx, .int .i64 l.fly, .int .i64 l.fhx, .int .i64 l.fhy, .int .i64 l.bans] 37)) w3.heap.size #[.int .i64 l.id, .int .i64 l.ticks, .int .i64 l.sx, .int .i64 l.sy, .slice l.wa l.wn l.wc, .slice l.ga l.gn l.gc, .int .i64 l.flx, .int .i64 l.fly, .int .i64 l.fhx, .int .i64 l.fhy, .int .i64 l.bans] from Blk.at rfl)
          have hz3 := I3.V.lt
          have k1 : (0 : Int) ≤ (k : Int) := by omega
          have k2 : (k : Int) ≤ (l.wn : Int) := by omega
          have k3 : (k : Int) ≤ (l.wc : Int) := by omega
          have k4 : (k : Int) + 1 ≤ (l.wn : Int) := by omega
          have k5 : (k : Int) + 1 ≤ (l.wc : Int) := by omega
          clear q0 q1 q2 q3 q4 q5 q6 q7 q8 q9 q10 y0 y1 I3
          refine wp_region_cut 11 (by kernel_rfl) (by kernel_rfl) (S := fun W => W.cell? ⟨w1.heap.size, 4, none⟩ = some (.slice l.wa l.wn l.wc)) I4.cells.1.2.2.2.2.1 (fun hHeld => ?_)
          simp only [List.take_succ_cons, List.take_zero]
          (refine wpAnyH_take (i := 1) (v := ?_) rfl (by kernel_rfl) (by kernel_rfl) (by kernel_rfl) (fun _ _ _ h => h) (Or.inl ⟨by rfl, ?_⟩) (by assumption) ?_; rotate_left; · (intro w hSw; (try dsimp only at hSw); go_simp; (try with_reducible rfl))); (try simp only [Act.put, List.setIfInBounds_toArray, List.set_cons_zero, List.set_cons_succ])
          (refine wpAnyH_take (i := 2) (v := ?_) rfl (by kernel_rfl) (by kernel_rfl) (by kernel_rfl) (fun _ _ _ h => h) (Or.inl ⟨by rfl, ?_⟩) (by assumption) ?_; rotate_left; · (intro w hSw; (try dsimp only at hSw); go_simp; (try with_reducible rfl))); (try simp only [Act.put, List.setIfInBounds_toArray, List.set_cons_zero, List.set_cons_succ])
          (refine wpAnyH_take (i := 3) (v := ?_) rfl (by kernel_rfl) (by kernel_rfl) (by kernel_rfl) (fun _ _ _ h => h) (Or.inl ⟨by rfl, ?_⟩) (by assumption) ?_; rotate_left; · (intro w hSw; (try dsimp only at hSw); go_simp; (try with_reducible rfl))); (try simp only [Act.put, List.setIfInBounds_toArray, List.set_cons_zero, List.set_cons_succ])
          (refine wpAnyH_take (i := 4) (v := ?_) rfl (by kernel_rfl) (by kernel_rfl) (by kernel_rfl) (fun _ _ _ h => h) (Or.inl ⟨by rfl, ?_⟩) (by assumption) ?_; rotate_left; · (intro w hSw; (try dsimp only at hSw); go_simp; (try with_reducible rfl))); (try simp only [Act.put, List.setIfInBounds_toArray, List.set_cons_zero, List.set_cons_succ])
          (refine wpAnyH_take (i := 6) (v := ?_) rfl (by kernel_rfl) (by kernel_rfl) (by kernel_rfl) (fun _ _ _ h => h) (Or.inl ⟨by rfl, ?_⟩) (by assumption) ?_; rotate_left; · (intro w hSw; (try dsimp only at hSw); go_simp; (try with_reducible rfl))); (try simp only [Act.put, List.setIfInBounds_toArray, List.set_cons_zero, List.set_cons_succ])
          (refine wpAnyH_take (i := 7) (v := ?_) rfl (by kernel_rfl) (by kernel_rfl) (by kernel_rfl) (fun _ _ _ h => h) (Or.inl ⟨by rfl, ?_⟩) (by assumption) ?_; rotate_left; · (intro w hSw; (try dsimp only at hSw); go_simp; (try with_reducible rfl))); (try simp only [Act.put, List.setIfInBounds_toArray, List.set_cons_zero, List.set_cons_succ])
          (refine wpAnyH_take (i := 8) (v := ?_) rfl (by kernel_rfl) (by kernel_rfl) (by kernel_rfl) (fun _ _ _ h => h) (Or.inl ⟨by rfl, ?_⟩) (by assumption) ?_; rotate_left; · (intro w hSw; (try dsimp only at hSw); go_simp; (try with_reducible rfl))); (try simp only [Act.put, List.setIfInBounds_toArray, List.set_cons_zero, List.set_cons_succ])
          (refine wpAnyH_take (i := 9) (v := ?_) rfl (by kernel_rfl) (by kernel_rfl) (by kernel_rfl) (fun _ _ _ h => h) (Or.inl ⟨by rfl, ?_⟩) (by assumption) ?_; rotate_left; · (intro w hSw; (try dsimp only at hSw); go_simp; (try with_reducible rfl))); (try simp only [Act.put, List.setIfInBounds_toArray, List.set_cons_zero, List.set_cons_succ])
          have hkw : IntKind.i64.wrap ((k : Int) + 1) = ((k + 1 : Nat) : Int) := by rw [IntWalk.i64_in _ (by omega)]; omega
          obtain ⟨A2, hA2⟩ : ∃ A2 : Option Addr, A2 = if l.wc = k + 1 then some ⟨bb, off, none⟩ else some ⟨bb, off + (k + 1) * 4, none⟩ := ⟨_, rfl⟩
          have hA2b : ∀ W : World, BoxesAt W l.wa l.wn l.wf → BoxesAt W A2 (l.wn - (k + 1)) (fun i => l.wf (k + 1 + i)) := by
            intro W hW
            by_cases hc : l.wc = k + 1
            · exact .inl (by omega)
            · rw [if_neg hc] at hA2
              rw [hWa.out] at hW
              rcases hW with hW | ⟨b2, off2, he, hb, hcs⟩
              · omega
              · simp only [Option.some.injEq, Addr.mk.injEq, and_true] at he
                obtain ⟨rfl, rfl⟩ := he
                refine .inr ⟨bb, off + (k + 1) * 4, hA2, hb, fun i hi => ?_⟩
                have := hcs (k + 1 + i) (by omega)
                rw [show off + (k + 1) * 4 + i * 4 = off + (k + 1 + i) * 4 by omega]
                exact this
          have hA2h := Lib.hid hA2
          clear hA2
          refine wpAnyH_take (i := 10) (v := .slice A2 (l.wn - (k + 1)) (l.wc - (k + 1))) rfl (by kernel_rfl) (by kernel_rfl) (by kernel_rfl) (fun _ _ _ h => h) (Or.inl ⟨by rfl, ?_⟩) (by assumption) ?_
          · intro w hSw
            have hwa := hWa.out
            clear hSw hHeld
            go_simp
            rw [if_pos (by omega), ← hA2h.out]
          (try simp only [Act.put, List.setIfInBounds_toArray, List.set_cons_zero, List.set_cons_succ])
          refine wpAnyH_ready (rs := [0]) (by kernel_rfl) (by simp) ?_; refine AllReadyH.cons rfl (fun K hK => ?_) AllReadyH.nil; (try simp only [List.getElem_toArray, List.getElem_cons_succ, List.getElem_cons_zero])
          go_simp
          have I5 := I4.alloc (.cells #[] 26)
          have X5 := X4.alloc (.cells #[] 26)
          have R5 : Row ((w3.alloc (.cells #[.int .i64 l.id, .int .i64 l.ticks, .int .i64 l.sx, .int .i64 l.sy, .slice l.wa l.wn l.wc, .slice l.ga l.gn l.gc, .int .i64 l.flx, .int .i64 l.fly, .int .i64 l.fhx, .int .i64 l.fhy, .int .i64 l.bans] 37)).drew.alloc (.cells #[] 26)) (w3.heap.size + 1) 0 0 bx0 := Row.empty bx0 (by simp)
          refine hK.out _ _ (I5.cells.1.2.2.2.2.1) (fun hHeld => ?_); clear hK K; (try simp only [Act.put, List.setIfInBounds_toArray, List.set_cons_zero, List.set_cons_succ])
          refine wpAnyH_ready (rs := [5]) (by kernel_rfl) (by simp) ?_; refine AllReadyH.cons rfl (fun K hK => ?_) AllReadyH.nil
          refine step_app_row (by rfl) _ _ (by rfl) _ 0 0 bx0 l.wa k l.wc l.wf (by rfl) R5 (by rfl) (boxes_less I5.lv.1 (by omega)) (by omega) ?_
          intro g6 c6 w6 hrow6 hge6 hu6 hlt6
          have hz5 : w3.heap.size + 1 < ((w3.alloc (.cells #[.int .i64 l.id, .int .i64 l.ticks, .int .i64 l.sx, .int .i64 l.sy, .slice l.wa l.wn l.wc, .slice l.ga l.gn l.gc, .int .i64 l.flx, .int .i64 l.fly, .int .i64 l.fhx, .int .i64 l.fhy, .int .i64 l.bans] 37)).drew.alloc (.cells #[] 26)).heap.size := by simp
          have bel6 : Below w1.heap.size w1 w6 := I5.bel.trans (hu6.under (by omega) I5.bel.size)
          have I6 : VI w1 l x y w6 := ⟨I5.L.up hu6 I5.L.lt (by omega), I5.V.up hu6 I5.V.lt (by omega), bel6, hl1.1.keep bel6⟩
          have X6 := X5.up hu6 X5.lt (by omega)
          have hz6 := X6.lt
          clear I4 X4 R5 I5 X5 hu6
          refine hK.out _ _ (I6.cells.1.2.2.2.2.1) (fun hHeld => ?_); clear hK K; (try simp only [Act.put, List.setIfInBounds_toArray, List.set_cons_zero, List.set_cons_succ])
          refine wpAnyH_done (by kernel_rfl) ?_ _
          simp only [TailQ, List.drop_succ_cons, List.drop_zero]
          clear hHeld
          refine app_row rfl _ _ rfl g6 c6 (0 + k) _ A2 (l.wn - (k + 1)) (l.wc - (k + 1)) (fun i => l.wf (k + 1 + i)) rfl hrow6 rfl (hA2b _ I6.lv.1) (by omega) ?_
          intro g7 c7 w7 hrow7 hge7 hu7 hlt7
          have eN : 0 + k + (l.wn - (k + 1)) = l.wn - 1 := by omega
          have eG := rm_glue l.wf k l.wn hkl
          rw [eN] at hrow7 eG ⊢
          have row7 : Row w7 g7 c7 (l.wn - 1) (rmB l.wf k) := Row.rebase hrow7 eG
          have bel7 : Below w1.heap.size w1 w7 := I6.bel.trans (hu7.under (by omega) (by have := hrow6.lt; omega))
          have I7 : VI w1 l x y w7 := ⟨I6.L.up hu7 I6.L.lt (by omega), I6.V.up hu7 I6.V.lt (by omega), bel7, hl1.1.keep bel7⟩
          have X7 := X6.up hu7 X6.lt (by omega)
          have hz7 := X7.lt
          obtain ⟨r0, r1, r2, r3, r4, r5, r6, r7, r8, r9, r10⟩ := X7.c11
          have xf := X7.frozen
          clear hrow6 hrow7 hu7 I6 X6 eG hA2b
          have bel8 : Below w1.heap.size w1 (w7.setCell ⟨w3.heap.size, 4, none⟩ (.slice (some ⟨g7, 0, none⟩) (l.wn - 1) c7)) := bel7.setCell (p := ⟨w3.heap.size, 4, none⟩) (by simp only; omega) _
          have X8 := X7.s11_4 (.slice (some ⟨g7, 0, none⟩) (l.wn - 1) c7)
          have V8 := I7.V.other (p := ⟨w3.heap.size, 4, none⟩) (by simp only; omega) (.slice (some ⟨g7, 0, none⟩) (l.wn - 1) c7)
          have row8 := row7.other (p := ⟨w3.heap.size, 4, none⟩) (by simp only; omega) (.slice (some ⟨g7, 0, none⟩) (l.wn - 1) c7)
          have lv8 : LvAt (w7.setCell ⟨w3.heap.size, 4, none⟩ (.slice (some ⟨g7, 0, none⟩) (l.wn - 1) c7)) { l with wa := some ⟨g7, 0, none⟩, wn := l.wn - 1, wc := c7, wf := rmB l.wf k } := ⟨row8.boxes, (hl1.1.keep bel8).2⟩
          have hok : ({ l with wa := some ⟨g7, 0, none⟩, wn := l.wn - 1, wc := c7, wf := rmB l.wf k } : Lv).ok = true := by
            obtain ⟨o1, o2, o3, o4, o5, o6, o7, o8, o9, o10⟩ := Lv.ok_id hK.out
            exact Lv.ok_mk o1 o2 o3 (by simp only; omega) (rmB_ok hkl o5) o6 o7 o8 o9 (rmB_far hkl o10)
          have hfre : (({ l with wa := some ⟨g7, 0, none⟩, wn := l.wn - 1, wc := c7, wf := rmB l.wf k } : Lv).ok && vokB x y && frB (rmB l.wf k) x y (l.wn - 1)) = true := by
            rw [hok, hV.out, rmB_far hkl hFr.out]
            rfl
          have hLv := Lib.hid lv8
          have hX8 := Lib.hid X8
          have hV8 := Lib.hid V8
          have hok := Lib.hid hok
          have hfre := Lib.hid hfre
          clear lv8 X8 V8 row7 row8 I7
          go_wp2_with fail
          refine (iLevelValid { l with wa := some ⟨g7, 0, none⟩, wn := l.wn - 1, wc := c7, wf := rmB l.wf k } _ hLv.out).mono ?_
          rw [hok.out]
          rintro e w9 ⟨rfl, hb9⟩
          have X9 := hX8.out.below hb9 hX8.out.lt
          have V9 := hV8.out.below hb9 hV8.out.lt
          have lv9 := hLv.out.keep hb9
          have bel9 : Below w1.heap.size w1 w9 := bel8.trans (hb9.mono bel8.size)
          clear r0 r1 r2 r3 r4 r5 r6 r7 r8 r9 r10 xf hX8 hV8 hLv hb9
          obtain ⟨r0, r1, r2, r3, r4, r5, r6, r7, r8, r9, r10⟩ := X9.c11
          obtain ⟨y0, y1⟩ := V9.c2
          go_wp2_with fail
          refine (iLevelFree { l with wa := some ⟨g7, 0, none⟩, wn := l.wn - 1, wc := c7, wf := rmB l.wf k } x y _ lv9).mono ?_
          rw [hfre.out]
          rintro e w10 ⟨rfl, hb10⟩
          have bel10 : Below w1.heap.size w1 w10 := bel9.trans (hb10.mono bel9.size)
          go_wp2
          go_ret
          exact ⟨rfl, hb1.trans (bel10.mono hb1.size)⟩
    · go_enter Try.func7, Try.ntmps7
      go_wp2
      go_ret
      exact ⟨rfl, by (repeat (first | with_reducible assumption | with_reducible exact Below.refl _ _ | ((with_reducible refine Below.alloc ?_ ?_ _); rotate_left; · exact (by first | omega | (simp; done) | (simp; omega))) | ((with_reducible refine Below.setCell ?_ ?_ _); rotate_left; · exact (by first | omega | (simp; done) | (simp; omega))) | with_reducible refine Below.drew ?_ | assumption | exact Below.refl _ _ | refine Below.alloc ?_ (by first | omega | (simp; done) | (simp; omega)) _ | refine Below.setCell ?_ (by first | omega | (simp; done) | (simp; omega)) _ | refine Below.drew ?_))⟩
  · go_enter Try.func7, Try.ntmps7
    go_wp2
    go_ret
    exact ⟨rfl, by (repeat (first | with_reducible assumption | with_reducible exact Below.refl _ _ | ((with_reducible refine Below.alloc ?_ ?_ _); rotate_left; · exact (by first | omega | (simp; done) | (simp; omega))) | ((with_reducible refine Below.setCell ?_ ?_ _); rotate_left; · exact (by first | omega | (simp; done) | (simp; omega))) | with_reducible refine Below.drew ?_ | assumption | exact Below.refl _ _ | refine Below.alloc ?_ (by first | omega | (simp; done) | (simp; omega)) _ | refine Below.setCell ?_ (by first | omega | (simp; done) | (simp; omega)) _ | refine Below.drew ?_))⟩
end Go.Proofs.Ytgghfbkeipchkaa
