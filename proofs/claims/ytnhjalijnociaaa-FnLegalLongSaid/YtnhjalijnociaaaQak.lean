/- What is forbidden, as a map; which inputs follow. -/
import Derived.Test.YtnhjalijnociaaaQaj
import Derived.Test.YtnhjalijnociaaaQae
import Derived.Test.YtnhjalijnociaaaQaf
import Derived.Maps.Own
import Derived.Maps.Views
/- What is forbidden, as a map; which inputs follow. -/
set_option linter.unusedVariables false
set_option linter.unusedSimpArgs false
namespace Go.Proofs.Ytnhjalijnociaaa
open Go.RowKit
open Go.Maps (Keyed)
open Go.WideMaps

/-- the two keys -/
def kBr : Lit := .string [98, 114, 97, 107, 101]
def kPa : Lit := .string [112, 97, 117, 115, 101]
theorem kBr_of : keyOf Try.prog 9 (.string ⟨#[98, 114, 97, 107, 101]⟩) = some kBr := keyOf_string_mk Try.underlying9 (by decide)
theorem kPa_of : keyOf Try.prog 9 (.string ⟨#[112, 97, 117, 115, 101]⟩) = some kPa := keyOf_string_mk Try.underlying9 (by decide)
theorem kBr_ne : kPa ≠ kBr := by
  unfold kPa kBr
  intro h
  injection h with h
  exact absurd h (by decide)
/-- block M is a map of bools: what it holds for the two keys -/
def MP (w : World) (M n : Nat) (x y : Bool) : Prop := ∃ D : DataW Unit, Maps.IsMap D ∧ w.ownsMap Try.prog 9 (plainElem Try.prog 4) M n D ∧ D.atKey kBr (.lit (.bool false)) = .lit (.bool x) ∧ D.atKey kPa (.lit (.bool false)) = .lit (.bool y)
theorem MP.lt {w : World} {M n : Nat} {x y : Bool} (h : MP w M n x y) : M < w.heap.size := by
  obtain ⟨_, _, h, _⟩ := h
  exact h.lt
theorem MP.made (w : World) : MP (w.alloc (.map #[] 0)) w.heap.size 0 false false := ⟨.map [], Maps.isMap_empty, World.ownsMap_made w _ _ _, rfl, rfl⟩
theorem MP.below {w w' : World} {M n : Nat} {x y : Bool} (h : MP w M n x y) (hb : Below w.heap.size w w') : MP w' M n x y := by
  have hl := h.lt
  obtain ⟨D, h2, h3, h4, h5⟩ := h
  exact ⟨D, h2, h3.kept (row := none) ⟨hb.os, hb.tape, hb.output, hb.size, fun k hk _ => hb.block k hk⟩ (by simp), h4, h5⟩
theorem MP.insB {w : World} {M n : Nat} {x y : Bool} (h : MP w M n x y) (v : Bool) (hn : n < 100 := by decide) : ∃ w', (Instr.mapUpdate 141 (.map (some M)) (.string ⟨#[98, 114, 97, 107, 101]⟩) (.bool v)).run Try.prog w = .ok () w' ∧ MP w' M (n + 1) v y ∧ w.grownBy w' (some M) := by
  obtain ⟨D, h2, h3, h4, h5⟩ := h
  obtain ⟨w', r1, r2, r3⟩ := h3.update (Maps.string_keyed Try.underlying9) Try.underlying141 (by unfold maxLen; omega) kBr_of (plainElem_bool Try.underlying4 v)
  exact ⟨w', r1, ⟨_, h2.put _ _, r2, Maps.atKey_put_same h2 (show WideAt.IsKeyLit kBr from trivial) _ _, (Maps.atKey_put_other kBr_ne _ _).trans h5⟩, r3⟩
theorem MP.insP {w : World} {M n : Nat} {x y : Bool} (h : MP w M n x y) (v : Bool) (hn : n < 100 := by decide) : ∃ w', (Instr.mapUpdate 141 (.map (some M)) (.string ⟨#[112, 97, 117, 115, 101]⟩) (.bool v)).run Try.prog w = .ok () w' ∧ MP w' M (n + 1) x v ∧ w.grownBy w' (some M) := by
  obtain ⟨D, h2, h3, h4, h5⟩ := h
  obtain ⟨w', r1, r2, r3⟩ := h3.update (Maps.string_keyed Try.underlying9) Try.underlying141 (by unfold maxLen; omega) kPa_of (plainElem_bool Try.underlying4 v)
  exact ⟨w', r1, ⟨_, h2.put _ _, r2, (Maps.atKey_put_other kBr_ne.symm _ _).trans h4, Maps.atKey_put_same h2 (show WideAt.IsKeyLit kPa from trivial) _ _⟩, r3⟩
theorem plainBool_inv {P : Program} {e : TypeId} (he : P.underlying e = some .bool) {v : Value} {b : Bool} {ps : List MemPlace} (h : plainElem (H := Unit) P e v = some (.lit (.bool b), ps)) : v = .bool b := by
  unfold plainElem at h
  rw [he] at h
  cases v <;> simp at h
  rw [h.1]
theorem zero_bool (w : World) : (zeroValue 4).run Try.prog w = .ok (.bool false) w := by
  simp [go_sem]
theorem MP.look {w : World} {M n : Nat} {x y : Bool} (h : MP w M n x y) :
    (Instr.lookup 141 (.map (some M)) (.string ⟨#[98, 114, 97, 107, 101]⟩) false).run Try.prog w = .ok (.bool x) w ∧ (Instr.lookup 141 (.map (some M)) (.string ⟨#[112, 97, 117, 115, 101]⟩) false).run Try.prog w = .ok (.bool y) w := by
  obtain ⟨D, h2, h3, h4, h5⟩ := h
  obtain ⟨v, ps, r1, r2⟩ := h3.lookup (Maps.string_keyed Try.underlying9) Try.underlying141 (zero_bool w) (plainElem_bool Try.underlying4 false) kBr_of
  obtain ⟨v', ps', r3, r4⟩ := h3.lookup (Maps.string_keyed Try.underlying9) Try.underlying141 (zero_bool w) (plainElem_bool Try.underlying4 false) kPa_of
  rw [h4] at r2
  rw [h5] at r4
  obtain rfl := plainBool_inv Try.underlying4 r2
  obtain rfl := plainBool_inv Try.underlying4 r4
  exact ⟨r1, r3⟩
theorem step_insert {P : Program} {ops : Array Oper} {o : Oper} {a : Act} {w w' : World} {K : Act → World → Prop} {Q : Exit → Act → World → Prop} {E : Prop} {b : Nat} {key val : Value} (hg : o.guard = none) (m x v : Operand) (t : TypeId) (hop : o.op = Op.insert t m x v)
    (hm : a.eval m = .map (some b)) (hx : a.eval x = key) (hv : a.eval v = val) (hrun : (Instr.mapUpdate t (.map (some b)) key val).run P w = .ok () w') (hK : K (a.put o.dst undef) w') : if Region.wanted o (yielded ops a.tmps) = true then Oper.wp P o a w K Q else E := by
  rw [if_pos (by simp [Region.wanted, hg])]
  unfold Oper.wp
  simp [execOp, hop, hm, hx, hv, hrun, Result.andThen]
  exact hK
/-- the level's block while the map is made -/
structure FI (w0 : World) (l : Lv) (w : World) : Prop where
  blk : Blk w w0.heap.size #[.int .i64 l.id, .int .i64 l.ticks, .int .i64 l.sx, .int .i64 l.sy, .slice l.wa l.wn l.wc, .slice l.ga l.gn l.gc, .int .i64 l.flx, .int .i64 l.fly, .int .i64 l.fhx, .int .i64 l.fhy, .int .i64 l.bans]
  bel : Below w0.heap.size w0 w
theorem FI.pass {w0 w w' : World} {l : Lv} (h : FI w0 l w) (hb : Below w.heap.size w w') : FI w0 l w' := ⟨h.blk.below hb h.blk.lt, h.bel.trans (hb.mono h.bel.size)⟩
theorem FI.alloc {w0 w : World} {l : Lv} (h : FI w0 l w) (o : Obj) : FI w0 l (w.alloc o) := h.pass ((Below.refl _ _).alloc (Nat.le_refl _) o)
theorem FI.drew {w0 w : World} {l : Lv} (h : FI w0 l w) : FI w0 l w.drew := ⟨h.blk, h.bel.drew⟩
theorem FI.grow {w0 w w' : World} {l : Lv} {M : Nat} (h : FI w0 l w) (hg : w.grownBy w' (some M)) (hM : w0.heap.size < M) : FI w0 l w' := by
  have e := h.blk.lt
  have hb : Below (w0.heap.size + 1) w w' := ⟨hg.os, hg.tape, hg.output, hg.size, fun k hk => hg.block k (by omega) (by simp; omega)⟩
  exact ⟨h.blk.below hb (by omega), h.bel.trans (hb.mono (by omega))⟩
/-- the map of what is forbidden -/
def Forbid (l : Lv) (w : World) (e : Ending) (w' : World) : Prop := ∃ M, e = .returned (.map (some M)) ∧ MP w' M 2 (banB l.bans 1) (banB l.bans 2) ∧ Below w.heap.size w w'
set_option maxRecDepth 100000 in
set_option maxHeartbeats 4000000 in
theorem iForbid (l : Lv) (w : World) (h0 : 0 ≤ l.bans) (h3 : l.bans ≤ 3) : Calls Try.prog 121 #[.agg #[.int .i64 l.id, .int .i64 l.ticks, .int .i64 l.sx, .int .i64 l.sy, .slice l.wa l.wn l.wc, .slice l.ga l.gn l.gc, .int .i64 l.flx, .int .i64 l.fly, .int .i64 l.fhx, .int .i64 l.fhy, .int .i64 l.bans]] w (Forbid l w) := by
  go_enter Try.func121, Try.ntmps121
  go_wp2_with fail
  have G0 : FI w l (w.alloc (.cells #[.int .i64 l.id, .int .i64 l.ticks, .int .i64 l.sx, .int .i64 l.sy, .slice l.wa l.wn l.wc, .slice l.ga l.gn l.gc, .int .i64 l.flx, .int .i64 l.fly, .int .i64 l.fhx, .int .i64 l.fhy, .int .i64 l.bans] 29)).drew := FI.drew ⟨Blk.at rfl, (Below.refl _ _).alloc (Nat.le_refl _) _⟩
  refine wp_region_cut 7 (by kernel_rfl) (by kernel_rfl) (S := fun W => W.cell? ⟨w.heap.size, 0, none⟩ = some (.int .i64 l.id) ∧ W.cell? ⟨w.heap.size, 1, none⟩ = some (.int .i64 l.ticks) ∧ W.cell? ⟨w.heap.size, 2, none⟩ = some (.int .i64 l.sx) ∧ W.cell? ⟨w.heap.size, 3, none⟩ = some (.int .i64 l.sy) ∧ W.cell? ⟨w.heap.size, 4, none⟩ = some (.slice l.wa l.wn l.wc) ∧ W.cell? ⟨w.heap.size, 5, none⟩ = some (.slice l.ga l.gn l.gc) ∧ W.cell? ⟨w.heap.size, 6, none⟩ = some (.int .i64 l.flx) ∧ W.cell? ⟨w.heap.size, 7, none⟩ = some (.int .i64 l.fly) ∧ W.cell? ⟨w.heap.size, 8, none⟩ = some (.int .i64 l.fhx) ∧ W.cell? ⟨w.heap.size, 9, none⟩ = some (.int .i64 l.fhy) ∧ W.cell? ⟨w.heap.size, 10, none⟩ = some (.int .i64 l.bans)) G0.blk.c11 (fun hHeld => ?_)
  simp only [List.take_succ_cons, List.take_zero]
  (refine wpAnyH_take (i := 1) (v := ?_) rfl (by kernel_rfl) (by kernel_rfl) (by kernel_rfl) (fun _ _ _ h => h) (Or.inl ⟨by rfl, ?_⟩) (by assumption) ?_; rotate_left; · (intro w hSw; (try dsimp only at hSw); go_simp; (try with_reducible rfl))); (try simp only [Act.put, List.setIfInBounds_toArray, List.set_cons_zero, List.set_cons_succ])
  (refine wpAnyH_take (i := 4) (v := ?_) rfl (by kernel_rfl) (by kernel_rfl) (by kernel_rfl) (fun _ _ _ h => h) (Or.inl ⟨by rfl, ?_⟩) (by assumption) ?_; rotate_left; · (intro w hSw; (try dsimp only at hSw); go_simp; (try with_reducible rfl))); (try simp only [Act.put, List.setIfInBounds_toArray, List.set_cons_zero, List.set_cons_succ])
  generalize hW0 : (w.alloc (.cells #[.int .i64 l.id, .int .i64 l.ticks, .int .i64 l.sx, .int .i64 l.sy, .slice l.wa l.wn l.wc, .slice l.ga l.gn l.gc, .int .i64 l.flx, .int .i64 l.fly, .int .i64 l.fhx, .int .i64 l.fhy, .int .i64 l.bans] 29)).drew = W0 at *
  clear hW0
  refine wpAnyH_ready (rs := [0, 2]) (by kernel_rfl) (by simp) ?_
  refine AllReadyH.cons rfl (fun K hK => ?_) (AllReadyH.cons rfl (fun K hK => ?_) (AllReadyH.nil))
  · (try simp only [List.getElem_toArray, List.getElem_cons_succ, List.getElem_cons_zero])
    go_simp
    have G1 := G0.alloc (.map #[] 0)
    have m1 := MP.made W0
    have M1 : w.heap.size < W0.heap.size := G0.blk.lt
    refine hK.out _ _ (G1.blk.c11) (fun hHeld => ?_); clear hK K; (try simp only [Act.put, List.setIfInBounds_toArray, List.set_cons_zero, List.set_cons_succ])
    refine wpAnyH_ready (rs := [2]) (by kernel_rfl) (by simp) ?_; refine AllReadyH.cons rfl (fun K hK => ?_) AllReadyH.nil; (try simp only [List.getElem_toArray, List.getElem_cons_succ, List.getElem_cons_zero])
    go_simp
    go_at_call 134
    refine (iBans l 1 _ h0 h3 (by simp)).mono ?_
    rintro e w2 ⟨rfl, hb2⟩
    have G2 := G1.pass hb2
    have m2 := m1.below hb2
    go_wp2_with fail
    refine hK.out _ _ (G2.blk.c11) (fun hHeld => ?_); clear hK K; (try simp only [Act.put, List.setIfInBounds_toArray, List.set_cons_zero, List.set_cons_succ])
    refine wpAnyH_ready (rs := [3, 5]) (by kernel_rfl) (by simp) ?_
    refine AllReadyH.cons rfl (fun K hK => ?_) (AllReadyH.cons rfl (fun K hK => ?_) (AllReadyH.nil))
    · skip
      obtain ⟨w3, hr3, m3, hg3⟩ := m2.insB (banB l.bans 1)
      refine step_insert (by rfl) _ _ _ _ (by rfl) (by rfl) (by rfl) (by rfl) hr3 ?_
      have G3 := G2.grow hg3 (by first | omega | (simp; omega))
      refine hK.out _ _ (G3.blk.c11) (fun hHeld => ?_); clear hK K; (try simp only [Act.put, List.setIfInBounds_toArray, List.set_cons_zero, List.set_cons_succ])
      refine wpAnyH_ready (rs := [5]) (by kernel_rfl) (by simp) ?_; refine AllReadyH.cons rfl (fun K hK => ?_) AllReadyH.nil; (try simp only [List.getElem_toArray, List.getElem_cons_succ, List.getElem_cons_zero])
      go_simp
      go_at_call 134
      refine (iBans l 2 _ h0 h3 (by simp)).mono ?_
      rintro e w4 ⟨rfl, hb4⟩
      have G4 := G3.pass hb4
      have m4 := m3.below hb4
      go_wp2_with fail
      refine hK.out _ _ (G4.blk.c11) (fun hHeld => ?_); clear hK K; (try simp only [Act.put, List.setIfInBounds_toArray, List.set_cons_zero, List.set_cons_succ])
      refine wpAnyH_ready (rs := [6]) (by kernel_rfl) (by simp) ?_; refine AllReadyH.cons rfl (fun K hK => ?_) AllReadyH.nil
      obtain ⟨w5, hr5, m5, hg5⟩ := m4.insP (banB l.bans 2)
      refine step_insert (by rfl) _ _ _ _ (by rfl) (by rfl) (by rfl) (by rfl) hr5 ?_
      have G5 := G4.grow hg5 (by first | omega | (simp; omega))
      refine hK.out _ _ (G5.blk.c11) (fun hHeld => ?_); clear hK K; (try simp only [Act.put, List.setIfInBounds_toArray, List.set_cons_zero, List.set_cons_succ])
      refine wpAnyH_done (by kernel_rfl) ?_ _
      simp only [TailQ, List.drop_succ_cons, List.drop_zero]
      clear hHeld
      go_wp2
      go_ret
      exact ⟨_, rfl, m5, G5.bel⟩
    · (try simp only [List.getElem_toArray, List.getElem_cons_succ, List.getElem_cons_zero])
      go_simp
      go_at_call 134
      refine (iBans l 2 _ h0 h3 (by simp)).mono ?_
      rintro e w6 ⟨rfl, hb6⟩
      have G6 := G2.pass hb6
      have m6 := m2.below hb6
      go_wp2_with fail
      refine hK.out _ _ (G6.blk.c11) (fun hHeld => ?_); clear hK K; (try simp only [Act.put, List.setIfInBounds_toArray, List.set_cons_zero, List.set_cons_succ])
      refine wpAnyH_ready (rs := [3, 6]) (by kernel_rfl) (by simp) ?_
      refine AllReadyH.cons rfl (fun K hK => ?_) (AllReadyH.cons rfl (fun K hK => ?_) (AllReadyH.nil))
      · skip
        obtain ⟨w7, hr7, m7, hg7⟩ := m6.insB (banB l.bans 1)
        refine step_insert (by rfl) _ _ _ _ (by rfl) (by rfl) (by rfl) (by rfl) hr7 ?_
        have G7 := G6.grow hg7 (by first | omega | (simp; omega))
        refine hK.out _ _ (G7.blk.c11) (fun hHeld => ?_); clear hK K; (try simp only [Act.put, List.setIfInBounds_toArray, List.set_cons_zero, List.set_cons_succ])
        refine wpAnyH_ready (rs := [6]) (by kernel_rfl) (by simp) ?_; refine AllReadyH.cons rfl (fun K hK => ?_) AllReadyH.nil
        obtain ⟨w8, hr8, m8, hg8⟩ := m7.insP (banB l.bans 2)
        refine step_insert (by rfl) _ _ _ _ (by rfl) (by rfl) (by rfl) (by rfl) hr8 ?_
        have G8 := G7.grow hg8 (by first | omega | (simp; omega))
        refine hK.out _ _ (G8.blk.c11) (fun hHeld => ?_); clear hK K; (try simp only [Act.put, List.setIfInBounds_toArray, List.set_cons_zero, List.set_cons_succ])
        refine wpAnyH_done (by kernel_rfl) ?_ _
        simp only [TailQ, List.drop_succ_cons, List.drop_zero]
        clear hHeld
        go_wp2
        go_ret
        exact ⟨_, rfl, m8, G8.bel⟩
      · skip
        obtain ⟨w9, hr9, m9, hg9⟩ := m6.insP (banB l.bans 2)
        refine step_insert (by rfl) _ _ _ _ (by rfl) (by rfl) (by rfl) (by rfl) hr9 ?_
        have G9 := G6.grow hg9 (by first | omega | (simp; omega))
        refine hK.out _ _ (G9.blk.c11) (fun hHeld => ?_); clear hK K; (try simp only [Act.put, List.setIfInBounds_toArray, List.set_cons_zero, List.set_cons_succ])
        refine wpAnyH_ready (rs := [3]) (by kernel_rfl) (by simp) ?_; refine AllReadyH.cons rfl (fun K hK => ?_) AllReadyH.nil
        obtain ⟨w10, hr10, m10, hg10⟩ := m9.insB (banB l.bans 1)
        refine step_insert (by rfl) _ _ _ _ (by rfl) (by rfl) (by rfl) (by rfl) hr10 ?_
        have G10 := G9.grow hg10 (by first | omega | (simp; omega))
        refine hK.out _ _ (G10.blk.c11) (fun hHeld => ?_); clear hK K; (try simp only [Act.put, List.setIfInBounds_toArray, List.set_cons_zero, List.set_cons_succ])
        refine wpAnyH_done (by kernel_rfl) ?_ _
        simp only [TailQ, List.drop_succ_cons, List.drop_zero]
        clear hHeld
        go_wp2
        go_ret
        exact ⟨_, rfl, m10, G10.bel⟩
  · (try simp only [List.getElem_toArray, List.getElem_cons_succ, List.getElem_cons_zero])
    go_simp
    go_at_call 134
    refine (iBans l 1 _ h0 h3 (by simp)).mono ?_
    rintro e w11 ⟨rfl, hb11⟩
    have G11 := G0.pass hb11
    go_wp2_with fail
    refine hK.out _ _ (G11.blk.c11) (fun hHeld => ?_); clear hK K; (try simp only [Act.put, List.setIfInBounds_toArray, List.set_cons_zero, List.set_cons_succ])
    refine wpAnyH_ready (rs := [0, 5]) (by kernel_rfl) (by simp) ?_
    refine AllReadyH.cons rfl (fun K hK => ?_) (AllReadyH.cons rfl (fun K hK => ?_) (AllReadyH.nil))
    · (try simp only [List.getElem_toArray, List.getElem_cons_succ, List.getElem_cons_zero])
      go_simp
      have G12 := G11.alloc (.map #[] 0)
      have m12 := MP.made w11
      have M12 : w.heap.size < w11.heap.size := G11.blk.lt
      refine hK.out _ _ (G12.blk.c11) (fun hHeld => ?_); clear hK K; (try simp only [Act.put, List.setIfInBounds_toArray, List.set_cons_zero, List.set_cons_succ])
      refine wpAnyH_ready (rs := [3, 5]) (by kernel_rfl) (by simp) ?_
      refine AllReadyH.cons rfl (fun K hK => ?_) (AllReadyH.cons rfl (fun K hK => ?_) (AllReadyH.nil))
      · skip
        obtain ⟨w13, hr13, m13, hg13⟩ := m12.insB (banB l.bans 1)
        refine step_insert (by rfl) _ _ _ _ (by rfl) (by rfl) (by rfl) (by rfl) hr13 ?_
        have G13 := G12.grow hg13 (by first | omega | (simp; omega))
        refine hK.out _ _ (G13.blk.c11) (fun hHeld => ?_); clear hK K; (try simp only [Act.put, List.setIfInBounds_toArray, List.set_cons_zero, List.set_cons_succ])
        refine wpAnyH_ready (rs := [5]) (by kernel_rfl) (by simp) ?_; refine AllReadyH.cons rfl (fun K hK => ?_) AllReadyH.nil; (try simp only [List.getElem_toArray, List.getElem_cons_succ, List.getElem_cons_zero])
        go_simp
        go_at_call 134
        refine (iBans l 2 _ h0 h3 (by simp)).mono ?_
        rintro e w14 ⟨rfl, hb14⟩
        have G14 := G13.pass hb14
        have m14 := m13.below hb14
        go_wp2_with fail
        refine hK.out _ _ (G14.blk.c11) (fun hHeld => ?_); clear hK K; (try simp only [Act.put, List.setIfInBounds_toArray, List.set_cons_zero, List.set_cons_succ])
        refine wpAnyH_ready (rs := [6]) (by kernel_rfl) (by simp) ?_; refine AllReadyH.cons rfl (fun K hK => ?_) AllReadyH.nil
        obtain ⟨w15, hr15, m15, hg15⟩ := m14.insP (banB l.bans 2)
        refine step_insert (by rfl) _ _ _ _ (by rfl) (by rfl) (by rfl) (by rfl) hr15 ?_
        have G15 := G14.grow hg15 (by first | omega | (simp; omega))
        refine hK.out _ _ (G15.blk.c11) (fun hHeld => ?_); clear hK K; (try simp only [Act.put, List.setIfInBounds_toArray, List.set_cons_zero, List.set_cons_succ])
        refine wpAnyH_done (by kernel_rfl) ?_ _
        simp only [TailQ, List.drop_succ_cons, List.drop_zero]
        clear hHeld
        go_wp2
        go_ret
        exact ⟨_, rfl, m15, G15.bel⟩
      · (try simp only [List.getElem_toArray, List.getElem_cons_succ, List.getElem_cons_zero])
        go_simp
        go_at_call 134
        refine (iBans l 2 _ h0 h3 (by simp)).mono ?_
        rintro e w16 ⟨rfl, hb16⟩
        have G16 := G12.pass hb16
        have m16 := m12.below hb16
        go_wp2_with fail
        refine hK.out _ _ (G16.blk.c11) (fun hHeld => ?_); clear hK K; (try simp only [Act.put, List.setIfInBounds_toArray, List.set_cons_zero, List.set_cons_succ])
        refine wpAnyH_ready (rs := [3, 6]) (by kernel_rfl) (by simp) ?_
        refine AllReadyH.cons rfl (fun K hK => ?_) (AllReadyH.cons rfl (fun K hK => ?_) (AllReadyH.nil))
        · skip
          obtain ⟨w17, hr17, m17, hg17⟩ := m16.insB (banB l.bans 1)
          refine step_insert (by rfl) _ _ _ _ (by rfl) (by rfl) (by rfl) (by rfl) hr17 ?_
          have G17 := G16.grow hg17 (by first | omega | (simp; omega))
          refine hK.out _ _ (G17.blk.c11) (fun hHeld => ?_); clear hK K; (try simp only [Act.put, List.setIfInBounds_toArray, List.set_cons_zero, List.set_cons_succ])
          refine wpAnyH_ready (rs := [6]) (by kernel_rfl) (by simp) ?_; refine AllReadyH.cons rfl (fun K hK => ?_) AllReadyH.nil
          obtain ⟨w18, hr18, m18, hg18⟩ := m17.insP (banB l.bans 2)
          refine step_insert (by rfl) _ _ _ _ (by rfl) (by rfl) (by rfl) (by rfl) hr18 ?_
          have G18 := G17.grow hg18 (by first | omega | (simp; omega))
          refine hK.out _ _ (G18.blk.c11) (fun hHeld => ?_); clear hK K; (try simp only [Act.put, List.setIfInBounds_toArray, List.set_cons_zero, List.set_cons_succ])
          refine wpAnyH_done (by kernel_rfl) ?_ _
          simp only [TailQ, List.drop_succ_cons, List.drop_zero]
          clear hHeld
          go_wp2
          go_ret
          exact ⟨_, rfl, m18, G18.bel⟩
        · skip
          obtain ⟨w19, hr19, m19, hg19⟩ := m16.insP (banB l.bans 2)
          refine step_insert (by rfl) _ _ _ _ (by rfl) (by rfl) (by rfl) (by rfl) hr19 ?_
          have G19 := G16.grow hg19 (by first | omega | (simp; omega))
          refine hK.out _ _ (G19.blk.c11) (fun hHeld => ?_); clear hK K; (try simp only [Act.put, List.setIfInBounds_toArray, List.set_cons_zero, List.set_cons_succ])
          refine wpAnyH_ready (rs := [3]) (by kernel_rfl) (by simp) ?_; refine AllReadyH.cons rfl (fun K hK => ?_) AllReadyH.nil
          obtain ⟨w20, hr20, m20, hg20⟩ := m19.insB (banB l.bans 1)
          refine step_insert (by rfl) _ _ _ _ (by rfl) (by rfl) (by rfl) (by rfl) hr20 ?_
          have G20 := G19.grow hg20 (by first | omega | (simp; omega))
          refine hK.out _ _ (G20.blk.c11) (fun hHeld => ?_); clear hK K; (try simp only [Act.put, List.setIfInBounds_toArray, List.set_cons_zero, List.set_cons_succ])
          refine wpAnyH_done (by kernel_rfl) ?_ _
          simp only [TailQ, List.drop_succ_cons, List.drop_zero]
          clear hHeld
          go_wp2
          go_ret
          exact ⟨_, rfl, m20, G20.bel⟩
    · (try simp only [List.getElem_toArray, List.getElem_cons_succ, List.getElem_cons_zero])
      go_simp
      go_at_call 134
      refine (iBans l 2 _ h0 h3 (by simp)).mono ?_
      rintro e w21 ⟨rfl, hb21⟩
      have G21 := G11.pass hb21
      go_wp2_with fail
      refine hK.out _ _ (G21.blk.c11) (fun hHeld => ?_); clear hK K; (try simp only [Act.put, List.setIfInBounds_toArray, List.set_cons_zero, List.set_cons_succ])
      refine wpAnyH_ready (rs := [0]) (by kernel_rfl) (by simp) ?_; refine AllReadyH.cons rfl (fun K hK => ?_) AllReadyH.nil; (try simp only [List.getElem_toArray, List.getElem_cons_succ, List.getElem_cons_zero])
      go_simp
      have G22 := G21.alloc (.map #[] 0)
      have m22 := MP.made w21
      have M22 : w.heap.size < w21.heap.size := G21.blk.lt
      refine hK.out _ _ (G22.blk.c11) (fun hHeld => ?_); clear hK K; (try simp only [Act.put, List.setIfInBounds_toArray, List.set_cons_zero, List.set_cons_succ])
      refine wpAnyH_ready (rs := [3, 6]) (by kernel_rfl) (by simp) ?_
      refine AllReadyH.cons rfl (fun K hK => ?_) (AllReadyH.cons rfl (fun K hK => ?_) (AllReadyH.nil))
      · skip
        obtain ⟨w23, hr23, m23, hg23⟩ := m22.insB (banB l.bans 1)
        refine step_insert (by rfl) _ _ _ _ (by rfl) (by rfl) (by rfl) (by rfl) hr23 ?_
        have G23 := G22.grow hg23 (by first | omega | (simp; omega))
        refine hK.out _ _ (G23.blk.c11) (fun hHeld => ?_); clear hK K; (try simp only [Act.put, List.setIfInBounds_toArray, List.set_cons_zero, List.set_cons_succ])
        refine wpAnyH_ready (rs := [6]) (by kernel_rfl) (by simp) ?_; refine AllReadyH.cons rfl (fun K hK => ?_) AllReadyH.nil
        obtain ⟨w24, hr24, m24, hg24⟩ := m23.insP (banB l.bans 2)
        refine step_insert (by rfl) _ _ _ _ (by rfl) (by rfl) (by rfl) (by rfl) hr24 ?_
        have G24 := G23.grow hg24 (by first | omega | (simp; omega))
        refine hK.out _ _ (G24.blk.c11) (fun hHeld => ?_); clear hK K; (try simp only [Act.put, List.setIfInBounds_toArray, List.set_cons_zero, List.set_cons_succ])
        refine wpAnyH_done (by kernel_rfl) ?_ _
        simp only [TailQ, List.drop_succ_cons, List.drop_zero]
        clear hHeld
        go_wp2
        go_ret
        exact ⟨_, rfl, m24, G24.bel⟩
      · skip
        obtain ⟨w25, hr25, m25, hg25⟩ := m22.insP (banB l.bans 2)
        refine step_insert (by rfl) _ _ _ _ (by rfl) (by rfl) (by rfl) (by rfl) hr25 ?_
        have G25 := G22.grow hg25 (by first | omega | (simp; omega))
        refine hK.out _ _ (G25.blk.c11) (fun hHeld => ?_); clear hK K; (try simp only [Act.put, List.setIfInBounds_toArray, List.set_cons_zero, List.set_cons_succ])
        refine wpAnyH_ready (rs := [3]) (by kernel_rfl) (by simp) ?_; refine AllReadyH.cons rfl (fun K hK => ?_) AllReadyH.nil
        obtain ⟨w26, hr26, m26, hg26⟩ := m25.insB (banB l.bans 1)
        refine step_insert (by rfl) _ _ _ _ (by rfl) (by rfl) (by rfl) (by rfl) hr26 ?_
        have G26 := G25.grow hg26 (by first | omega | (simp; omega))
        refine hK.out _ _ (G26.blk.c11) (fun hHeld => ?_); clear hK K; (try simp only [Act.put, List.setIfInBounds_toArray, List.set_cons_zero, List.set_cons_succ])
        refine wpAnyH_done (by kernel_rfl) ?_ _
        simp only [TailQ, List.drop_succ_cons, List.drop_zero]
        clear hHeld
        go_wp2
        go_ret
        exact ⟨_, rfl, m26, G26.bel⟩
end Go.Proofs.Ytnhjalijnociaaa

/- Which inputs follow: of the program and of the reference. -/
set_option linter.unusedVariables false
set_option linter.unusedSimpArgs false
namespace Go.Proofs.Ytnhjalijnociaaa
open Go.RowKit

/-- follows, in parts -/
def folB (x1 x2 : Bool) (t s p : Int) (b : Bool) : Bool := inpV s p b && !(b && x2) && !(p == 2 && x1) && inB (s - t) (-1) 1
theorem Lv.fol_eq (l : Lv) (t s p : Int) (b : Bool) : l.fol t ⟨s, p, b⟩ = folB (banB l.bans 1) (banB l.bans 2) t s p b := rfl
set_option maxRecDepth 100000 in
set_option maxHeartbeats 2000000 in
theorem iFollows (l : Lv) (t s p : Int) (b : Bool) (w : World) (h0 : 0 ≤ l.bans) (h3 : l.bans ≤ 3) (ht : -1 ≤ t) (ht2 : t ≤ 1) : Calls Try.prog 91 #[.agg #[.int .i64 l.id, .int .i64 l.ticks, .int .i64 l.sx, .int .i64 l.sy, .slice l.wa l.wn l.wc, .slice l.ga l.gn l.gc, .int .i64 l.flx, .int .i64 l.fly, .int .i64 l.fhx, .int .i64 l.fhy, .int .i64 l.bans], .int .i64 t, .agg #[.int .i64 s, .int .i64 p, .bool b]] w fun e w' => e = .returned (.bool (l.fol t ⟨s, p, b⟩)) ∧ Below w.heap.size w w' := by
  rw [Lv.fol_eq]
  generalize hx1 : banB l.bans 1 = x1
  generalize hx2 : banB l.bans 2 = x2
  go_enter Try.func91, Try.ntmps91
  go_wp2_with fail
  refine (iForbid l _ h0 h3).mono ?_
  rintro e w1 ⟨M, rfl, m1, hb1⟩
  rw [hx1, hx2] at m1
  have X1 : Blk w1 (w.heap.size + 1) #[.int .i64 s, .int .i64 p, .bool b] := (Blk.at (by simp)).below hb1 (by simp)
  have hB1 : Below w.heap.size w w1 := bstep (by (repeat (first | with_reducible assumption | with_reducible exact Below.refl _ _ | ((with_reducible refine Below.alloc ?_ ?_ _); rotate_left; · exact (by first | omega | (simp; done) | (simp; omega))) | ((with_reducible refine Below.setCell ?_ ?_ _); rotate_left; · exact (by first | omega | (simp; done) | (simp; omega))) | with_reducible refine Below.drew ?_ | assumption | exact Below.refl _ _ | refine Below.alloc ?_ (by first | omega | (simp; done) | (simp; omega)) _ | refine Below.setCell ?_ (by first | omega | (simp; done) | (simp; omega)) _ | refine Below.drew ?_))) (by first | omega | (simp; done) | (simp; omega)) hb1
  have c0 := X1.cell 0
  have c1 := X1.cell 1
  have c2 := X1.cell 2
  simp only [List.getElem?_toArray, List.getElem?_cons_zero, List.getElem?_cons_succ] at c0 c1 c2
  clear hx1 hx2 hb1
  go_wp2_with fail
  refine (iInpV s p b _).mono ?_
  rintro e w2 ⟨rfl, hb2⟩
  have X2 := X1.below hb2 X1.lt
  have m2 := m1.below hb2
  obtain ⟨lk1, lk2⟩ := m2.look
  have hB2 : Below w.heap.size w w2 := bstep hB1 hB1.size hb2
  have d0 := X2.cell 0
  have d1 := X2.cell 1
  have d2 := X2.cell 2
  simp only [List.getElem?_toArray, List.getElem?_cons_zero, List.getElem?_cons_succ] at d0 d1 d2
  clear c0 c1 c2 hb2 X1 m1 X2 m2
  cases hv : inpV s p b with
  | false =>
    go_wp2
    go_ret
    exact ⟨ret_bool (by simp [folB, hv]), hB2⟩
  | true =>
    obtain ⟨v1, v2, v3, v4, v5⟩ := inpV_bd hv
    clear v5
    have e1 : IntKind.i64.wrap (s - t) = s - t := IntWalk.i64_in _ (by omega)
    have hV := Lib.hid hv
    clear hv
    by_cases hp : p = 2
    · subst hp
      have hI := Lib.hid (show folB x1 x2 t s 2 b = (!(b && x2) && !x1 && inB (s - t) (-1) 1) by simp [folB, hV.out])
      cases b <;> cases x1 <;> cases x2
      all_goals
        first
        | (go_wp2; go_ret; exact ⟨ret_bool (by rw [hI.out]; rfl), hB2⟩)
        | (go_wp2_with fail
           refine (iIn _ _ _ _).mono ?_
           rintro e w' ⟨rfl, rfl⟩
           go_wp2
           go_ret
           exact ⟨ret_bool (by rw [hI.out]; rfl), hB2⟩)
    · have hpb : (p == 2) = false := by simpa using hp
      have hI := Lib.hid (show folB x1 x2 t s p b = (!(b && x2) && inB (s - t) (-1) 1) by simp [folB, hV.out, hpb])
      clear hp
      cases b <;> cases x2
      all_goals
        first
        | (go_wp2; go_ret; exact ⟨ret_bool (by rw [hI.out]; rfl), hB2⟩)
        | (go_wp2_with fail
           refine (iIn _ _ _ _).mono ?_
           rintro e w' ⟨rfl, rfl⟩
           go_wp2
           go_ret
           exact ⟨ret_bool (by rw [hI.out]; rfl), hB2⟩)
set_option maxRecDepth 100000 in
set_option maxHeartbeats 2000000 in
theorem sFollows (l : Lv) (t tp : Int) (tb : Bool) (s p : Int) (b : Bool) (w : World) (h0 : 0 ≤ l.bans) (h3 : l.bans ≤ 3) (ht : -1 ≤ t) (ht2 : t ≤ 1) : Calls Try.prog 122 #[.agg #[.int .i64 l.id, .int .i64 l.ticks, .int .i64 l.sx, .int .i64 l.sy, .slice l.wa l.wn l.wc, .slice l.ga l.gn l.gc, .int .i64 l.flx, .int .i64 l.fly, .int .i64 l.fhx, .int .i64 l.fhy, .int .i64 l.bans], .agg #[.int .i64 t, .int .i64 tp, .bool tb], .agg #[.int .i64 s, .int .i64 p, .bool b]] w fun e w' => e = .returned (.bool (l.fol t ⟨s, p, b⟩)) ∧ Below w.heap.size w w' := by
  rw [Lv.fol_eq]
  generalize hx1 : banB l.bans 1 = x1
  generalize hx2 : banB l.bans 2 = x2
  go_enter Try.func122, Try.ntmps122
  go_wp2_with fail
  refine (sInpV s p b _).mono ?_
  rintro e w1 ⟨rfl, hb1⟩
  have L1 : Blk w1 w.heap.size #[.int .i64 l.id, .int .i64 l.ticks, .int .i64 l.sx, .int .i64 l.sy, .slice l.wa l.wn l.wc, .slice l.ga l.gn l.gc, .int .i64 l.flx, .int .i64 l.fly, .int .i64 l.fhx, .int .i64 l.fhy, .int .i64 l.bans] := (((Blk.at rfl).alloc _).alloc _).below hb1 (by simp; omega)
  have Y1 : Blk w1 (w.heap.size + 1) #[.int .i64 t, .int .i64 tp, .bool tb] := ((Blk.at (by simp)).alloc _).below hb1 (by simp)
  have X1 : Blk w1 (w.heap.size + 1 + 1) #[.int .i64 s, .int .i64 p, .bool b] := (Blk.at (by simp)).below hb1 (by simp)
  have hB1 : Below w.heap.size w w1 := bstep (by (repeat (first | with_reducible assumption | with_reducible exact Below.refl _ _ | ((with_reducible refine Below.alloc ?_ ?_ _); rotate_left; · exact (by first | omega | (simp; done) | (simp; omega))) | ((with_reducible refine Below.setCell ?_ ?_ _); rotate_left; · exact (by first | omega | (simp; done) | (simp; omega))) | with_reducible refine Below.drew ?_ | assumption | exact Below.refl _ _ | refine Below.alloc ?_ (by first | omega | (simp; done) | (simp; omega)) _ | refine Below.setCell ?_ (by first | omega | (simp; done) | (simp; omega)) _ | refine Below.drew ?_))) (by first | omega | (simp; done) | (simp; omega)) hb1
  clear hb1
  cases hv : inpV s p b with
  | false =>
    go_wp2
    go_ret
    exact ⟨ret_bool (by simp [folB, hv]), hB1⟩
  | true =>
    obtain ⟨v1, v2, v3, v4, v5⟩ := inpV_bd hv
    clear v5
    have e1 : IntKind.i64.wrap (s - t) = s - t := IntWalk.i64_in _ (by omega)
    have hI := Lib.hid (show folB x1 x2 t s p b = (!(b && x2) && !(p == 2 && x1) && inB (s - t) (-1) 1) by simp [folB, hv])
    clear hv
    (try clear q0 q1 q2 q3 q4 q5 q6 q7 q8 q9 q10); obtain ⟨q0, q1, q2, q3, q4, q5, q6, q7, q8, q9, q10⟩ := L1.c11
    have y0 := Y1.cell 0
    have c0 := X1.cell 0
    have c1 := X1.cell 1
    have c2 := X1.cell 2
    simp only [List.getElem?_toArray, List.getElem?_cons_zero, List.getElem?_cons_succ] at y0 c0 c1 c2
    cases b with
    | false =>
      by_cases hp : p = 2
      · subst hp
        go_wp2_with fail
        refine (sBans l 1 _ h0 h3 (by simp)).mono ?_
        rw [hx1]
        rintro e w2 ⟨rfl, hb2⟩
        have L2 := L1.below hb2 L1.lt
        have Y2 := Y1.below hb2 Y1.lt
        have X2 := X1.below hb2 X1.lt
        have hB2 : Below w.heap.size w w2 := bstep hB1 hB1.size hb2
        clear y0 c0 c1 c2
        (try clear q0 q1 q2 q3 q4 q5 q6 q7 q8 q9 q10); obtain ⟨q0, q1, q2, q3, q4, q5, q6, q7, q8, q9, q10⟩ := L2.c11
        have y0 := Y2.cell 0
        have c0 := X2.cell 0
        have c1 := X2.cell 1
        have c2 := X2.cell 2
        simp only [List.getElem?_toArray, List.getElem?_cons_zero, List.getElem?_cons_succ] at y0 c0 c1 c2
        cases x1 with
        | true =>
          go_wp2
          go_ret
          exact ⟨ret_bool (by rw [hI.out]; simp), hB2⟩
        | false =>
          go_wp2_with fail
          refine (sIn _ _ _ _).mono ?_
          rintro e w' ⟨rfl, rfl⟩
          go_wp2
          go_ret
          exact ⟨ret_bool (by rw [hI.out]; simp), hB2⟩
      · have hpb : (p == 2) = false := by simpa using hp
        clear hp
        go_wp2_with fail
        refine (sIn _ _ _ _).mono ?_
        rintro e w' ⟨rfl, rfl⟩
        go_wp2
        go_ret
        exact ⟨ret_bool (by rw [hI.out]; simp [hpb]), hB1⟩
    | true =>
      go_wp2_with fail
      refine (sBans l 2 _ h0 h3 (by simp)).mono ?_
      rw [hx2]
      rintro e w2 ⟨rfl, hb2⟩
      have L2 := L1.below hb2 L1.lt
      have Y2 := Y1.below hb2 Y1.lt
      have X2 := X1.below hb2 X1.lt
      have hB2 : Below w.heap.size w w2 := bstep hB1 hB1.size hb2
      clear y0 c0 c1 c2
      (try clear q0 q1 q2 q3 q4 q5 q6 q7 q8 q9 q10); obtain ⟨q0, q1, q2, q3, q4, q5, q6, q7, q8, q9, q10⟩ := L2.c11
      have y0 := Y2.cell 0
      have c0 := X2.cell 0
      have c1 := X2.cell 1
      have c2 := X2.cell 2
      simp only [List.getElem?_toArray, List.getElem?_cons_zero, List.getElem?_cons_succ] at y0 c0 c1 c2
      cases x2 with
      | true =>
        go_wp2
        go_ret
        exact ⟨ret_bool (by rw [hI.out]; simp), hB2⟩
      | false =>
        by_cases hp : p = 2
        · subst hp
          go_wp2_with fail
          refine (sBans l 1 _ h0 h3 (by simp)).mono ?_
          rw [hx1]
          rintro e w3 ⟨rfl, hb3⟩
          have L3 := L2.below hb3 L2.lt
          have Y3 := Y2.below hb3 Y2.lt
          have X3 := X2.below hb3 X2.lt
          have hB3 : Below w.heap.size w w3 := bstep hB2 hB2.size hb3
          clear y0 c0 c1 c2
          (try clear q0 q1 q2 q3 q4 q5 q6 q7 q8 q9 q10); obtain ⟨q0, q1, q2, q3, q4, q5, q6, q7, q8, q9, q10⟩ := L3.c11
          have y0 := Y3.cell 0
          have c0 := X3.cell 0
          have c1 := X3.cell 1
          have c2 := X3.cell 2
          simp only [List.getElem?_toArray, List.getElem?_cons_zero, List.getElem?_cons_succ] at y0 c0 c1 c2
          cases x1 with
          | true =>
            go_wp2
            go_ret
            exact ⟨ret_bool (by rw [hI.out]; simp), hB3⟩
          | false =>
            go_wp2_with fail
            refine (sIn _ _ _ _).mono ?_
            rintro e w' ⟨rfl, rfl⟩
            go_wp2
            go_ret
            exact ⟨ret_bool (by rw [hI.out]; simp), hB3⟩
        · have hpb : (p == 2) = false := by simpa using hp
          clear hp
          go_wp2_with fail
          refine (sIn _ _ _ _).mono ?_
          rintro e w' ⟨rfl, rfl⟩
          go_wp2
          go_ret
          exact ⟨ret_bool (by rw [hI.out]; simp [hpb]), hB2⟩
end Go.Proofs.Ytnhjalijnociaaa
