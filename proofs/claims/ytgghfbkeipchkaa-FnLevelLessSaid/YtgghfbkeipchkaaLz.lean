/- The walks of FnLevelFree and FnLevelLess. -/
import Derived.Test.YtgghfbkeipchkaaDf
import Derived.Test.YtgghfbkeipchkaaLw
set_option linter.unusedVariables false
set_option linter.unusedSimpArgs false
namespace Go.Proofs.Ytgghfbkeipchkaa
open Go.RowKit

theorem step_unwanted {b : Bool} {A B : Prop} (hb : b = false) (h : B) : if b = true then A else B := by
  rw [if_neg (by rw [hb]; decide)]
  exact h
/-- a law's level and point in memory -/
structure VI (w0 : World) (l : Lv) (x y : Int) (w : World) : Prop where
  L : Blk w w0.heap.size #[.int .i64 l.id, .int .i64 l.ticks, .int .i64 l.sx, .int .i64 l.sy, .slice l.wa l.wn l.wc, .slice l.ga l.gn l.gc, .int .i64 l.flx, .int .i64 l.fly, .int .i64 l.fhx, .int .i64 l.fhy, .int .i64 l.bans]
  V : Blk w (w0.heap.size + 1) #[.int .i64 x, .int .i64 y]
  bel : Below w0.heap.size w0 w
  lv : LvAt w l
section
variable {w0 w w' : World} {l : Lv} {x y : Int}
theorem VI.pass (h : VI w0 l x y w) (hb : Below w.heap.size w w') : VI w0 l x y w' := ⟨h.L.below hb h.L.lt, h.V.below hb h.V.lt, h.bel.trans (hb.mono h.bel.size), h.lv.keep hb⟩
theorem VI.alloc (h : VI w0 l x y w) (o : Obj) : VI w0 l x y (w.alloc o) := h.pass ((Below.refl _ _).alloc (Nat.le_refl _) o)
theorem VI.drew (h : VI w0 l x y w) : VI w0 l x y w.drew := ⟨h.L, h.V, h.bel.drew, h.lv⟩
theorem VI.cells {W : World} (h : VI w0 l x y W) : (W.cell? ⟨w0.heap.size, 0, none⟩ = some (.int .i64 l.id) ∧ W.cell? ⟨w0.heap.size, 1, none⟩ = some (.int .i64 l.ticks) ∧ W.cell? ⟨w0.heap.size, 2, none⟩ = some (.int .i64 l.sx) ∧ W.cell? ⟨w0.heap.size, 3, none⟩ = some (.int .i64 l.sy) ∧ W.cell? ⟨w0.heap.size, 4, none⟩ = some (.slice l.wa l.wn l.wc) ∧ W.cell? ⟨w0.heap.size, 5, none⟩ = some (.slice l.ga l.gn l.gc) ∧ W.cell? ⟨w0.heap.size, 6, none⟩ = some (.int .i64 l.flx) ∧ W.cell? ⟨w0.heap.size, 7, none⟩ = some (.int .i64 l.fly) ∧ W.cell? ⟨w0.heap.size, 8, none⟩ = some (.int .i64 l.fhx) ∧ W.cell? ⟨w0.heap.size, 9, none⟩ = some (.int .i64 l.fhy) ∧ W.cell? ⟨w0.heap.size, 10, none⟩ = some (.int .i64 l.bans)) ∧ (W.cell? ⟨w0.heap.size + 1, 0, none⟩ = some (.int .i64 x) ∧ W.cell? ⟨w0.heap.size + 1, 1, none⟩ = some (.int .i64 y)) := ⟨h.L.c11, h.V.c2⟩
end
set_option maxRecDepth 100000 in
set_option maxHeartbeats 2000000 in
theorem lawLevelFree (a : Option Addr) (len cap : Nat) (zs : List Int) (w : World) (h : IsRow .u8 w a len cap zs) : Calls Try.prog 8 #[.slice a len cap] w fun e w' => e = .returned (.bool true) ∧ Below w.heap.size w w' := by
  by_cases hl : len ≤ 1048576
  · go_enter Try.func8, Try.ntmps8
    go_wp2_with fail
    refine (dLevelFree _ _ _ _ _ h).mono ?_
    rintro e w1 ⟨l, R, x, y, rfl, hR, hl1, hs1, ⟨x1, x2⟩, ⟨y1', y2'⟩, hb1⟩
    have hs2 := hs1.wn
    have hs3 := hs1.gn
    have I1 : VI w1 l x y ((w1.alloc (.cells #[.int .i64 l.id, .int .i64 l.ticks, .int .i64 l.sx, .int .i64 l.sy, .slice l.wa l.wn l.wc, .slice l.ga l.gn l.gc, .int .i64 l.flx, .int .i64 l.fly, .int .i64 l.fhx, .int .i64 l.fhy, .int .i64 l.bans] 37)).alloc (.cells #[.int .i64 x, .int .i64 y] 24)) := ⟨(Blk.at rfl).alloc _, Blk.at (by simp), by (repeat (first | with_reducible assumption | with_reducible exact Below.refl _ _ | ((with_reducible refine Below.alloc ?_ ?_ _); rotate_left; · exact (by first | omega | (simp; done) | (simp; omega))) | ((with_reducible refine Below.setCell ?_ ?_ _); rotate_left; · exact (by first | omega | (simp; done) | (simp; omega))) | with_reducible refine Below.drew ?_ | assumption | exact Below.refl _ _ | refine Below.alloc ?_ (by first | omega | (simp; done) | (simp; omega)) _ | refine Below.setCell ?_ (by first | omega | (simp; done) | (simp; omega)) _ | refine Below.drew ?_)), hl1.1.keep (by (repeat (first | with_reducible assumption | with_reducible exact Below.refl _ _ | ((with_reducible refine Below.alloc ?_ ?_ _); rotate_left; · exact (by first | omega | (simp; done) | (simp; omega))) | ((with_reducible refine Below.setCell ?_ ?_ _); rotate_left; · exact (by first | omega | (simp; done) | (simp; omega))) | with_reducible refine Below.drew ?_ | assumption | exact Below.refl _ _ | refine Below.alloc ?_ (by first | omega | (simp; done) | (simp; omega)) _ | refine Below.setCell ?_ (by first | omega | (simp; done) | (simp; omega)) _ | refine Below.drew ?_)))⟩
    go_wp2_with fail
    refine (iLevelFree l x y _ I1.lv).mono ?_
    rintro e w2 ⟨rfl, hb2⟩
    have I2 := I1.pass hb2
    (try clear q0 q1 q2 q3 q4 q5 q6 q7 q8 q9 q10 y0 y1); obtain ⟨⟨q0, q1, q2, q3, q4, q5, q6, q7, q8, q9, q10⟩, ⟨y0, y1⟩⟩ := I2.cells
    go_wp2_with fail
    refine (sLevelFree l x y _ (by omega) (by omega) I2.lv).mono ?_
    rintro e w3 ⟨rfl, hb3⟩
    have I3 := I2.pass hb3
    (try clear q0 q1 q2 q3 q4 q5 q6 q7 q8 q9 q10 y0 y1); obtain ⟨⟨q0, q1, q2, q3, q4, q5, q6, q7, q8, q9, q10⟩, ⟨y0, y1⟩⟩ := I3.cells
    clear hb2 hb3 I1 I2
    obtain ⟨F, hF⟩ : ∃ F, F = (l.ok && vokB x y && frB l.wf x y l.wn) := ⟨_, rfl⟩
    rw [← hF]
    have hF := Lib.hid hF
    go_wp2_with fail
    refine (sLevelValid l _ (by omega) (by omega) I3.lv).mono ?_
    rintro e w4 ⟨rfl, hb4⟩
    have I4 := I3.pass hb4
    (try clear q0 q1 q2 q3 q4 q5 q6 q7 q8 q9 q10 y0 y1); obtain ⟨⟨q0, q1, q2, q3, q4, q5, q6, q7, q8, q9, q10⟩, ⟨y0, y1⟩⟩ := I4.cells
    cases hk : l.ok with
    | false =>
      go_wp2
      go_ret
      exact ⟨ret_bool (by simp), hb1.trans (I4.bel.mono hb1.size)⟩
    | true =>
    go_wp2_with fail
    refine (sVecOk x y _).mono ?_
    rintro e w5 ⟨rfl, hb5⟩
    have I5 := I4.pass hb5
    (try clear q0 q1 q2 q3 q4 q5 q6 q7 q8 q9 q10 y0 y1); obtain ⟨⟨q0, q1, q2, q3, q4, q5, q6, q7, q8, q9, q10⟩, ⟨y0, y1⟩⟩ := I5.cells
    cases hv : vokB x y with
    | false =>
      go_wp2
      go_ret
      exact ⟨ret_bool (by simp), hb1.trans (I5.bel.mono hb1.size)⟩
    | true =>
      have hFF := Lib.hid (hF.out.trans (by rw [hk, hv, Bool.true_and, Bool.true_and]) : F = frB l.wf x y l.wn)
      have hbx := (Lv.ok_id hk).2.2.2.2.1
      have hK := Lib.hid hbx
      have hV := Lib.hid hv
      clear hF hk hv hbx hb4 hb5 I3 I4
      go_wp2_with fail
      go_loopw [7, 8] (fun tv iv wr => ∃ k : Nat, k ≤ l.wn ∧ tv = .bool (!frB l.wf x y k) ∧ iv = .int .i64 k ∧ VI w1 l x y wr) (fun _ iv _ => l.wn - (intOf iv).toNat)
      case atStart => exact ⟨0, Nat.zero_le _, rfl, rfl, I5⟩
      case round =>
        obtain ⟨k, hk, rfl, rfl, I6⟩ := hrel
        (try clear q0 q1 q2 q3 q4 q5 q6 q7 q8 q9 q10 y0 y1); obtain ⟨⟨q0, q1, q2, q3, q4, q5, q6, q7, q8, q9, q10⟩, ⟨y0, y1⟩⟩ := I6.cells
        clear I5
        by_cases hlt : k < l.wn
        · have q1' : (0 : Int) ≤ (k : Int) := by omega
          have q2' : (k : Int) < (l.wn : Int) := by omega
          cases hfr : frB l.wf x y k with
          | false =>
            have hn : frB l.wf x y (k + 1) = false := by rw [frB, hfr]; rfl
            have hN := Lib.hid hn
            clear hn hfr
            simp only [Bool.not_false]
            go_wp2_with fail
            have I7 := I6.drew
            refine wp_region_held_drew (S := fun W => True) (by kernel_rfl) trivial (fun hHeld => ?_)
            simp only [List.size_toArray, List.length_cons, List.length_nil, Nat.zero_add, Nat.reduceAdd]
            (refine wpAnyH_take (i := 0) (v := ?_) rfl (by kernel_rfl) (by kernel_rfl) (by kernel_rfl) (fun _ _ _ h => h) (Or.inl ⟨by rfl, ?_⟩) (by assumption) ?_; rotate_left; · (intro w hSw; (try dsimp only at hSw); go_simp; (try with_reducible rfl))); (try simp only [Act.put, List.setIfInBounds_toArray, List.set_cons_zero, List.set_cons_succ])
            (refine wpAnyH_take (i := 1) (v := ?_) rfl (by kernel_rfl) (by kernel_rfl) (by kernel_rfl) (fun _ _ _ h => h) (Or.inl ⟨by rfl, ?_⟩) (by assumption) ?_; rotate_left; · (intro w hSw; (try dsimp only at hSw); go_simp; (try with_reducible rfl))); (try simp only [Act.put, List.setIfInBounds_toArray, List.set_cons_zero, List.set_cons_succ])
            refine wpAnyH_take (i := 2) (v := undef) rfl (by kernel_rfl) (by kernel_rfl) (by kernel_rfl) (fun _ _ _ h => h) (Or.inr ⟨by kernel_rfl, rfl⟩) (by assumption) ?_; (try simp only [Act.put, List.setIfInBounds_toArray, List.set_cons_zero, List.set_cons_succ])
            refine wpAnyH_take (i := 3) (v := undef) rfl (by kernel_rfl) (by kernel_rfl) (by kernel_rfl) (fun _ _ _ h => h) (Or.inr ⟨by kernel_rfl, rfl⟩) (by assumption) ?_; (try simp only [Act.put, List.setIfInBounds_toArray, List.set_cons_zero, List.set_cons_succ])
            refine wpAnyH_take (i := 4) (v := undef) rfl (by kernel_rfl) (by kernel_rfl) (by kernel_rfl) (fun _ _ _ h => h) (Or.inr ⟨by kernel_rfl, rfl⟩) (by assumption) ?_; (try simp only [Act.put, List.setIfInBounds_toArray, List.set_cons_zero, List.set_cons_succ])
            refine wpAnyH_take (i := 5) (v := undef) rfl (by kernel_rfl) (by kernel_rfl) (by kernel_rfl) (fun _ _ _ h => h) (Or.inr ⟨by kernel_rfl, rfl⟩) (by assumption) ?_; (try simp only [Act.put, List.setIfInBounds_toArray, List.set_cons_zero, List.set_cons_succ])
            refine wpAnyH_take (i := 6) (v := undef) rfl (by kernel_rfl) (by kernel_rfl) (by kernel_rfl) (fun _ _ _ h => h) (Or.inr ⟨by kernel_rfl, rfl⟩) (by assumption) ?_; (try simp only [Act.put, List.setIfInBounds_toArray, List.set_cons_zero, List.set_cons_succ])
            refine wpAnyH_take (i := 7) (v := undef) rfl (by kernel_rfl) (by kernel_rfl) (by kernel_rfl) (fun _ _ _ h => h) (Or.inr ⟨by kernel_rfl, rfl⟩) (by assumption) ?_; (try simp only [Act.put, List.setIfInBounds_toArray, List.set_cons_zero, List.set_cons_succ])
            refine wpAnyH_take (i := 8) (v := undef) rfl (by kernel_rfl) (by kernel_rfl) (by kernel_rfl) (fun _ _ _ h => h) (Or.inr ⟨by kernel_rfl, rfl⟩) (by assumption) ?_; (try simp only [Act.put, List.setIfInBounds_toArray, List.set_cons_zero, List.set_cons_succ])
            refine wpAnyH_ready (rs := [9]) (by kernel_rfl) (by simp) ?_; refine AllReadyH.cons rfl (fun K hK => ?_) AllReadyH.nil; (try simp only [List.getElem_toArray, List.getElem_cons_succ, List.getElem_cons_zero])
            go_simp
            refine hK.out _ _ (trivial) (fun hHeld => ?_); clear hK K; (try simp only [Act.put, List.setIfInBounds_toArray, List.set_cons_zero, List.set_cons_succ])
            refine wpAnyH_ready (rs := [10]) (by kernel_rfl) (by simp) ?_; refine AllReadyH.cons rfl (fun K hK => ?_) AllReadyH.nil; (try simp only [List.getElem_toArray, List.getElem_cons_succ, List.getElem_cons_zero])
            go_simp
            refine hK.out _ _ (trivial) (fun hHeld => ?_); clear hK K; (try simp only [Act.put, List.setIfInBounds_toArray, List.set_cons_zero, List.set_cons_succ])
            refine wpAnyH_done (by kernel_rfl) ?_ _
            clear hHeld
            go_wp2
            go_roundw
            case rel => exact ⟨k + 1, by omega, by rw [hN.out]; rfl, by go_num, I7⟩
            case measure => simp [intOf]; omega
          | true =>
            obtain ⟨bb, off, hwa, hbl, hbc⟩ := I6.lv.1.resolve_left (by omega)
            have hWa := Lib.hid hwa
            clear hwa hbc hbl
            have hok := bxsB_at hK.out k hlt
            have hbv : (bvB (l.wf k).lx (l.wf k).ly (l.wf k).hx (l.wf k).hy x y && inB 500 0 1000000 && tcB (l.wf k).lx (l.wf k).ly (l.wf k).hx (l.wf k).hy x y 500) = tcB (l.wf k).lx (l.wf k).ly (l.wf k).hx (l.wf k).hy x y 500 := by
              rw [inB_yes (by omega) (by omega), show bvB (l.wf k).lx (l.wf k).ly (l.wf k).hx (l.wf k).hy x y = true by simp only [bvB, ← Bx.ok_eq, hok, hV.out, Bool.and_self]]
              rfl
            have hn : (!frB l.wf x y (k + 1)) = tcB (l.wf k).lx (l.wf k).ly (l.wf k).hx (l.wf k).hy x y 500 := by
              rw [frB, hfr, Bool.true_and]
              cases ht : tcB (l.wf k).lx (l.wf k).ly (l.wf k).hx (l.wf k).hy x y 500 with
              | true => rw [Bx.far_t ht]; rfl
              | false => rw [Bx.far_f ht]; rfl
            have hN := Lib.hid hn
            have hBv := Lib.hid hbv
            clear hn hbv hok hfr
            simp only [Bool.not_true]
            go_wp2_with fail
            have I7 := I6.drew
            refine wp_region_held_drew (S := fun W => ((W.cell? ⟨w1.heap.size, 0, none⟩ = some (.int .i64 l.id) ∧ W.cell? ⟨w1.heap.size, 1, none⟩ = some (.int .i64 l.ticks) ∧ W.cell? ⟨w1.heap.size, 2, none⟩ = some (.int .i64 l.sx) ∧ W.cell? ⟨w1.heap.size, 3, none⟩ = some (.int .i64 l.sy) ∧ W.cell? ⟨w1.heap.size, 4, none⟩ = some (.slice l.wa l.wn l.wc) ∧ W.cell? ⟨w1.heap.size, 5, none⟩ = some (.slice l.ga l.gn l.gc) ∧ W.cell? ⟨w1.heap.size, 6, none⟩ = some (.int .i64 l.flx) ∧ W.cell? ⟨w1.heap.size, 7, none⟩ = some (.int .i64 l.fly) ∧ W.cell? ⟨w1.heap.size, 8, none⟩ = some (.int .i64 l.fhx) ∧ W.cell? ⟨w1.heap.size, 9, none⟩ = some (.int .i64 l.fhy) ∧ W.cell? ⟨w1.heap.size, 10, none⟩ = some (.int .i64 l.bans)) ∧ (W.cell? ⟨w1.heap.size + 1, 0, none⟩ = some (.int .i64 x) ∧ W.cell? ⟨w1.heap.size + 1, 1, none⟩ = some (.int .i64 y))) ∧ BoxesAt W l.wa l.wn l.wf) (by kernel_rfl) ⟨I7.cells, I7.lv.1⟩ (fun hHeld => ?_)
            simp only [List.size_toArray, List.length_cons, List.length_nil, Nat.zero_add, Nat.reduceAdd]
            (refine wpAnyH_take (i := 0) (v := ?_) rfl (by kernel_rfl) (by kernel_rfl) (by kernel_rfl) (fun _ _ _ h => h) (Or.inl ⟨by rfl, ?_⟩) (by assumption) ?_; rotate_left; · (intro w hSw; (try dsimp only at hSw); go_simp; (try with_reducible rfl))); (try simp only [Act.put, List.setIfInBounds_toArray, List.set_cons_zero, List.set_cons_succ])
            (refine wpAnyH_take (i := 1) (v := ?_) rfl (by kernel_rfl) (by kernel_rfl) (by kernel_rfl) (fun _ _ _ h => h) (Or.inl ⟨by rfl, ?_⟩) (by assumption) ?_; rotate_left; · (intro w hSw; (try dsimp only at hSw); go_simp; (try with_reducible rfl))); (try simp only [Act.put, List.setIfInBounds_toArray, List.set_cons_zero, List.set_cons_succ])
            (refine wpAnyH_take (i := 2) (v := ?_) rfl (by kernel_rfl) (by kernel_rfl) (by kernel_rfl) (fun _ _ _ h => h) (Or.inl ⟨by rfl, ?_⟩) (by assumption) ?_; rotate_left; · (intro w hSw; (try dsimp only at hSw); go_simp; (try with_reducible rfl))); (try simp only [Act.put, List.setIfInBounds_toArray, List.set_cons_zero, List.set_cons_succ])
            (refine wpAnyH_take (i := 3) (v := ?_) rfl (by kernel_rfl) (by kernel_rfl) (by kernel_rfl) (fun _ _ _ h => h) (Or.inl ⟨by rfl, ?_⟩) (by assumption) ?_; rotate_left; · (intro w hSw; (try dsimp only at hSw); go_simp; (try with_reducible rfl))); (try simp only [Act.put, List.setIfInBounds_toArray, List.set_cons_zero, List.set_cons_succ])
            (refine wpAnyH_take (i := 4) (v := ?_) rfl (by kernel_rfl) (by kernel_rfl) (by kernel_rfl) (fun _ _ _ h => h) (Or.inl ⟨by rfl, ?_⟩) (by assumption) ?_; rotate_left; · (intro w hSw; (try dsimp only at hSw); go_simp; (try with_reducible rfl))); (try simp only [Act.put, List.setIfInBounds_toArray, List.set_cons_zero, List.set_cons_succ])
            refine wpAnyH_take (i := 5) (v := .pointer (some ⟨bb, off + k * 4, none⟩)) rfl (by kernel_rfl) (by kernel_rfl) (by kernel_rfl) (fun _ _ _ h => h) (Or.inl ⟨by rfl, ?_⟩) (by assumption) ?_
            · intro w hSw
              have hwa := hWa.out
              clear hSw hHeld
              go_simp
            (try simp only [Act.put, List.setIfInBounds_toArray, List.set_cons_zero, List.set_cons_succ])
            refine wpAnyH_take (i := 6) (v := .agg #[.int .i64 (l.wf k).lx, .int .i64 (l.wf k).ly, .int .i64 (l.wf k).hx, .int .i64 (l.wf k).hy]) rfl (by kernel_rfl) (by kernel_rfl) (by kernel_rfl) (fun _ _ _ h => h) (Or.inl ⟨by rfl, ?_⟩) (by assumption) ?_
            · intro w hSw
              have hwa := hWa.out
              have hbx := hSw.2
              rw [hwa] at hbx
              rcases hbx with hbx | ⟨b2, off2, he, _, hc⟩
              · omega
              · simp only [Option.some.injEq, Addr.mk.injEq, and_true] at he
                obtain ⟨rfl, rfl⟩ := he
                obtain ⟨g0, g1, g2, g3⟩ := hc k hlt
                clear hSw hHeld hc
                go_simp
            (try simp only [Act.put, List.setIfInBounds_toArray, List.set_cons_zero, List.set_cons_succ])
            (refine wpAnyH_take (i := 7) (v := ?_) rfl (by kernel_rfl) (by kernel_rfl) (by kernel_rfl) (fun _ _ _ h => h) (Or.inl ⟨by rfl, ?_⟩) (by assumption) ?_; rotate_left; · (intro w hSw; (try dsimp only at hSw); go_simp; (try with_reducible rfl))); (try simp only [Act.put, List.setIfInBounds_toArray, List.set_cons_zero, List.set_cons_succ])
            refine wpAnyH_ready (rs := [8]) (by kernel_rfl) (by simp) ?_; refine AllReadyH.cons rfl (fun K hK => ?_) AllReadyH.nil; (try simp only [List.getElem_toArray, List.getElem_cons_succ, List.getElem_cons_zero])
            go_simp
            go_at_call 32
            refine (iBoxTouches _ _ _ _ x y 500 _).mono ?_
            rw [hBv.out, ← hN.out]
            rintro e w8 ⟨rfl, hb8⟩
            have I8 := I7.pass hb8
            go_wp2_with fail
            refine hK.out _ _ (⟨I8.cells, I8.lv.1⟩) (fun hHeld => ?_); clear hK K; (try simp only [Act.put, List.setIfInBounds_toArray, List.set_cons_zero, List.set_cons_succ])
            refine wpAnyH_ready (rs := [9]) (by kernel_rfl) (by simp) ?_; refine AllReadyH.cons rfl (fun K hK => ?_) AllReadyH.nil; (try simp only [List.getElem_toArray, List.getElem_cons_succ, List.getElem_cons_zero])
            go_simp
            refine hK.out _ _ (⟨I8.cells, I8.lv.1⟩) (fun hHeld => ?_); clear hK K; (try simp only [Act.put, List.setIfInBounds_toArray, List.set_cons_zero, List.set_cons_succ])
            refine wpAnyH_ready (rs := [10]) (by kernel_rfl) (by simp) ?_; refine AllReadyH.cons rfl (fun K hK => ?_) AllReadyH.nil; (try simp only [List.getElem_toArray, List.getElem_cons_succ, List.getElem_cons_zero])
            go_simp
            refine hK.out _ _ (⟨I8.cells, I8.lv.1⟩) (fun hHeld => ?_); clear hK K; (try simp only [Act.put, List.setIfInBounds_toArray, List.set_cons_zero, List.set_cons_succ])
            refine wpAnyH_done (by kernel_rfl) ?_ _
            clear hHeld
            go_wp2
            go_roundw
            case rel => exact ⟨k + 1, by omega, rfl, by go_num, I8⟩
            case measure => simp [intOf]; omega
        · obtain rfl : k = l.wn := by omega
          go_wp2
          go_ret
          exact ⟨ret_bool (by first | rfl | (rw [hFF.out]; cases frB l.wf x y l.wn <;> rfl)), hb1.trans (I6.bel.mono hb1.size)⟩
  · go_enter Try.func8, Try.ntmps8
    go_wp2
    go_ret
    exact ⟨rfl, by (repeat (first | with_reducible assumption | with_reducible exact Below.refl _ _ | ((with_reducible refine Below.alloc ?_ ?_ _); rotate_left; · exact (by first | omega | (simp; done) | (simp; omega))) | ((with_reducible refine Below.setCell ?_ ?_ _); rotate_left; · exact (by first | omega | (simp; done) | (simp; omega))) | with_reducible refine Below.drew ?_ | assumption | exact Below.refl _ _ | refine Below.alloc ?_ (by first | omega | (simp; done) | (simp; omega)) _ | refine Below.setCell ?_ (by first | omega | (simp; done) | (simp; omega)) _ | refine Below.drew ?_))⟩
end Go.Proofs.Ytgghfbkeipchkaa
