/- A tick, by the reference: directions, lengths, the speed. -/
import Derived.Test.YtnhjalijnociaaaQat
import Derived.Test.YtnhjalijnociaaaQar
import Derived.Test.YtnhjalijnociaaaQau
/- A tick, by the reference: directions, lengths, the speed. -/
set_option linter.unusedVariables false
set_option linter.unusedSimpArgs false
namespace Go.Proofs.Ytnhjalijnociaaa
open Go.RowKit

theorem sixteen {d : Int} (h0 : 0 ≤ d) (h1 : d ≤ 15) : d = 0 ∨ d = 1 ∨ d = 2 ∨ d = 3 ∨ d = 4 ∨ d = 5 ∨ d = 6 ∨ d = 7 ∨ d = 8 ∨ d = 9 ∨ d = 10 ∨ d = 11 ∨ d = 12 ∨ d = 13 ∨ d = 14 ∨ d = 15 := by omega
set_option maxHeartbeats 400000 in
theorem sMul (a b : Int) (w : World) (h1 : -1000000000000 ≤ a * b) (h2 : a * b ≤ 1000000000000) : Calls Try.prog 142 #[.int .i64 a, .int .i64 b] w fun e w' => e = .returned (.int .i64 ((a * b).tdiv 1000)) ∧ w = w' := by
  go_enter Try.func142, Try.ntmps142
  go_wp2
  go_ret
  exact ⟨rfl, rfl⟩
set_option maxRecDepth 100000 in
set_option maxHeartbeats 1000000 in
theorem sScale (x y k : Int) (w : World) (h1 : -1000000000000 ≤ x * k) (h2 : x * k ≤ 1000000000000) (h3 : -1000000000000 ≤ y * k) (h4 : y * k ≤ 1000000000000) : Calls Try.prog 137 #[.agg #[.int .i64 x, .int .i64 y], .int .i64 k] w fun e w' => e = .returned (.agg #[.int .i64 ((x * k).tdiv 1000), .int .i64 ((y * k).tdiv 1000)]) ∧ Below w.heap.size w w' := by
  go_enter Try.func137, Try.ntmps137
  go_wp2_with fail
  have A0 : Blk ((w.alloc (.cells #[.int .i64 x, .int .i64 y] 24)).alloc (.cells #[.int .i64 0, .int .i64 0] 24)).drew w.heap.size #[.int .i64 x, .int .i64 y] := (show Blk ((w.alloc (.cells #[.int .i64 x, .int .i64 y] 24)).alloc (.cells #[.int .i64 0, .int .i64 0] 24)) w.heap.size #[.int .i64 x, .int .i64 y] from (Blk.at rfl).alloc _)
  have B0 : Blk ((w.alloc (.cells #[.int .i64 x, .int .i64 y] 24)).alloc (.cells #[.int .i64 0, .int .i64 0] 24)).drew (w.heap.size + 1) #[.int .i64 0, .int .i64 0] := (show Blk ((w.alloc (.cells #[.int .i64 x, .int .i64 y] 24)).alloc (.cells #[.int .i64 0, .int .i64 0] 24)) (w.heap.size + 1) #[.int .i64 0, .int .i64 0] from Blk.at (by simp))
  have hB : Below w.heap.size w ((w.alloc (.cells #[.int .i64 x, .int .i64 y] 24)).alloc (.cells #[.int .i64 0, .int .i64 0] 24)).drew := by (repeat (first | with_reducible assumption | with_reducible exact Below.refl _ _ | ((with_reducible refine Below.alloc ?_ ?_ _); rotate_left; · exact (by first | omega | (simp; done) | (simp; omega))) | ((with_reducible refine Below.setCell ?_ ?_ _); rotate_left; · exact (by first | omega | (simp; done) | (simp; omega))) | with_reducible refine Below.drew ?_ | assumption | exact Below.refl _ _ | refine Below.alloc ?_ (by first | omega | (simp; done) | (simp; omega)) _ | refine Below.setCell ?_ (by first | omega | (simp; done) | (simp; omega)) _ | refine Below.drew ?_))
  generalize ((w.alloc (.cells #[.int .i64 x, .int .i64 y] 24)).alloc (.cells #[.int .i64 0, .int .i64 0] 24)) = W at *
  refine wp_region_cut 9 (by kernel_rfl) (by kernel_rfl) (S := fun W => W.cell? ⟨w.heap.size, 0, none⟩ = some (.int .i64 x) ∧ W.cell? ⟨w.heap.size, 1, none⟩ = some (.int .i64 y)) A0.c2 (fun hHeld => ?_)
  simp only [List.take_succ_cons, List.take_zero]
  (refine wpAnyH_take (i := 0) (v := ?_) rfl (by kernel_rfl) (by kernel_rfl) (by kernel_rfl) (fun _ _ _ h => h) (Or.inl ⟨by rfl, ?_⟩) (by assumption) ?_; rotate_left; · (intro w hSw; (try dsimp only at hSw); go_simp; (try with_reducible rfl))); (try simp only [Act.put, List.setIfInBounds_toArray, List.set_cons_zero, List.set_cons_succ])
  (refine wpAnyH_take (i := 1) (v := ?_) rfl (by kernel_rfl) (by kernel_rfl) (by kernel_rfl) (fun _ _ _ h => h) (Or.inl ⟨by rfl, ?_⟩) (by assumption) ?_; rotate_left; · (intro w hSw; (try dsimp only at hSw); go_simp; (try with_reducible rfl))); (try simp only [Act.put, List.setIfInBounds_toArray, List.set_cons_zero, List.set_cons_succ])
  (refine wpAnyH_take (i := 2) (v := ?_) rfl (by kernel_rfl) (by kernel_rfl) (by kernel_rfl) (fun _ _ _ h => h) (Or.inl ⟨by rfl, ?_⟩) (by assumption) ?_; rotate_left; · (intro w hSw; (try dsimp only at hSw); go_simp; (try with_reducible rfl))); (try simp only [Act.put, List.setIfInBounds_toArray, List.set_cons_zero, List.set_cons_succ])
  (refine wpAnyH_take (i := 4) (v := ?_) rfl (by kernel_rfl) (by kernel_rfl) (by kernel_rfl) (fun _ _ _ h => h) (Or.inl ⟨by rfl, ?_⟩) (by assumption) ?_; rotate_left; · (intro w hSw; (try dsimp only at hSw); go_simp; (try with_reducible rfl))); (try simp only [Act.put, List.setIfInBounds_toArray, List.set_cons_zero, List.set_cons_succ])
  (refine wpAnyH_take (i := 5) (v := ?_) rfl (by kernel_rfl) (by kernel_rfl) (by kernel_rfl) (fun _ _ _ h => h) (Or.inl ⟨by rfl, ?_⟩) (by assumption) ?_; rotate_left; · (intro w hSw; (try dsimp only at hSw); go_simp; (try with_reducible rfl))); (try simp only [Act.put, List.setIfInBounds_toArray, List.set_cons_zero, List.set_cons_succ])
  (refine wpAnyH_take (i := 6) (v := ?_) rfl (by kernel_rfl) (by kernel_rfl) (by kernel_rfl) (fun _ _ _ h => h) (Or.inl ⟨by rfl, ?_⟩) (by assumption) ?_; rotate_left; · (intro w hSw; (try dsimp only at hSw); go_simp; (try with_reducible rfl))); (try simp only [Act.put, List.setIfInBounds_toArray, List.set_cons_zero, List.set_cons_succ])
  refine wpAnyH_ready (rs := [3]) (by kernel_rfl) (by simp) ?_; refine AllReadyH.cons rfl (fun K hK => ?_) AllReadyH.nil; (try simp only [List.getElem_toArray, List.getElem_cons_succ, List.getElem_cons_zero])
  go_simp
  go_at_call 142
  refine (sMul x k _ h1 h2).mono ?_
  rintro e w' ⟨rfl, rfl⟩
  go_wp2_with fail
  refine hK.out _ _ (A0.c2) (fun hHeld => ?_); clear hK K; (try simp only [Act.put, List.setIfInBounds_toArray, List.set_cons_zero, List.set_cons_succ])
  refine wpAnyH_ready (rs := [7]) (by kernel_rfl) (by simp) ?_; refine AllReadyH.cons rfl (fun K hK => ?_) AllReadyH.nil; (try simp only [List.getElem_toArray, List.getElem_cons_succ, List.getElem_cons_zero])
  go_simp
  go_at_call 142
  refine (sMul y k _ h3 h4).mono ?_
  rintro e w' ⟨rfl, rfl⟩
  go_wp2_with fail
  refine hK.out _ _ (A0.c2) (fun hHeld => ?_); clear hK K; (try simp only [Act.put, List.setIfInBounds_toArray, List.set_cons_zero, List.set_cons_succ])
  (refine wpAnyH_take (i := 8) (v := ?_) rfl (by kernel_rfl) (by kernel_rfl) (by kernel_rfl) (fun _ _ _ h => h) (Or.inl ⟨by rfl, ?_⟩) (by assumption) ?_; rotate_left; · (intro w hSw; (try dsimp only at hSw); go_simp; (try with_reducible rfl))); (try simp only [Act.put, List.setIfInBounds_toArray, List.set_cons_zero, List.set_cons_succ])
  refine wpAnyH_done (by kernel_rfl) ?_ _
  simp only [TailQ, List.drop_succ_cons, List.drop_zero]
  clear hHeld
  try simp only [List.getElem_toArray, List.getElem_cons_zero, List.getElem_cons_succ, Act.put, List.setIfInBounds_toArray, List.set_cons_zero, List.set_cons_succ]
  refine st_row rfl rfl B0 (by kernel_rfl) rfl (by simp [Value.oneCell']) ?_
  refine wpList_nil ?_
  have hR := Lib.hid (B0.row #[.int .i64 ((x * k).tdiv 1000), .int .i64 ((y * k).tdiv 1000)])
  have hF := Below.setRow hB (g := w.heap.size + 1) (Nat.le_succ _) #[.int .i64 ((x * k).tdiv 1000), .int .i64 ((y * k).tdiv 1000)]
  clear A0 B0
  go_wp2
  refine bodyPost_ret (res_row rfl rfl hR.out Try.underlying24 rfl (by kernel_rfl)) rfl ?_
  exact ⟨rfl, hF⟩
theorem dir_tab {m : Nat} (h : m < 16) : (#[Value.int .i64 1000, .int .i64 924, .int .i64 707, .int .i64 383, .int .i64 0, .int .i64 (-383), .int .i64 (-707), .int .i64 (-924), .int .i64 (-1000), .int .i64 (-924), .int .i64 (-707), .int .i64 (-383), .int .i64 0, .int .i64 383, .int .i64 707, .int .i64 924])[m]? = some (.int .i64 (dirX m)) := by
  have e : m = 0 ∨ m = 1 ∨ m = 2 ∨ m = 3 ∨ m = 4 ∨ m = 5 ∨ m = 6 ∨ m = 7 ∨ m = 8 ∨ m = 9 ∨ m = 10 ∨ m = 11 ∨ m = 12 ∨ m = 13 ∨ m = 14 ∨ m = 15 := by omega
  rcases e with rfl | rfl | rfl | rfl | rfl | rfl | rfl | rfl | rfl | rfl | rfl | rfl | rfl | rfl | rfl | rfl <;> rfl
set_option maxRecDepth 100000 in
set_option maxHeartbeats 1000000 in
theorem sDir (d : Int) (w : World) (h0 : 0 ≤ d) (h1 : d ≤ 15) : Calls Try.prog 138 #[.int .i64 d] w fun e w' => e = .returned (.agg #[.int .i64 (dirX d), .int .i64 (dirY d)]) ∧ Below w.heap.size w w' := by
  obtain ⟨m, rfl⟩ := Int.eq_ofNat_of_zero_le h0
  obtain ⟨m2, hm2⟩ : ∃ m2, m2 = (m + 12) % 16 := ⟨_, rfl⟩
  have eY : dirY (m : Int) = dirX (m2 : Int) := by
    unfold dirY
    congr 1
    omega
  rw [eY]
  have e1 : IntKind.i64.wrap ((m : Int) + 12) = (m : Int) + 12 := IntWalk.i64_in _ (by omega)
  have e2 : ((m : Int) + 12) % 16 = (m2 : Int) := by omega
  have hE3 := Lib.hid (show ((m : Int) + 12).tmod 16 = (m2 : Int) by rw [Int.tmod_eq_emod_of_nonneg (by omega)]; exact e2)
  have hE2 := Lib.hid e2
  clear e2
  have k1 : (m : Int) < 16 := by omega
  have k2 : (0 : Int) ≤ (m2 : Int) := by omega
  have k3 : (m2 : Int) < 16 := by omega
  have t1 := dir_tab (m := m) (by omega)
  have t2 := dir_tab (m := m2) (by omega)
  clear hm2
  go_enter Try.func138, Try.ntmps138
  go_wp2_with fail
  have T0 : Blk ((w.alloc (.cells #[.int .i64 0, .int .i64 0] 24)).alloc (.cells #[.int .i64 1000, .int .i64 924, .int .i64 707, .int .i64 383, .int .i64 0, .int .i64 (-383), .int .i64 (-707), .int .i64 (-924), .int .i64 (-1000), .int .i64 (-924), .int .i64 (-707), .int .i64 (-383), .int .i64 0, .int .i64 383, .int .i64 707, .int .i64 924] 3)).drew (w.heap.size + 1) #[.int .i64 1000, .int .i64 924, .int .i64 707, .int .i64 383, .int .i64 0, .int .i64 (-383), .int .i64 (-707), .int .i64 (-924), .int .i64 (-1000), .int .i64 (-924), .int .i64 (-707), .int .i64 (-383), .int .i64 0, .int .i64 383, .int .i64 707, .int .i64 924] := (show Blk ((w.alloc (.cells #[.int .i64 0, .int .i64 0] 24)).alloc (.cells #[.int .i64 1000, .int .i64 924, .int .i64 707, .int .i64 383, .int .i64 0, .int .i64 (-383), .int .i64 (-707), .int .i64 (-924), .int .i64 (-1000), .int .i64 (-924), .int .i64 (-707), .int .i64 (-383), .int .i64 0, .int .i64 383, .int .i64 707, .int .i64 924] 3)) (w.heap.size + 1) _ from Blk.at (by simp))
  have B0 : Blk ((w.alloc (.cells #[.int .i64 0, .int .i64 0] 24)).alloc (.cells #[.int .i64 1000, .int .i64 924, .int .i64 707, .int .i64 383, .int .i64 0, .int .i64 (-383), .int .i64 (-707), .int .i64 (-924), .int .i64 (-1000), .int .i64 (-924), .int .i64 (-707), .int .i64 (-383), .int .i64 0, .int .i64 383, .int .i64 707, .int .i64 924] 3)).drew w.heap.size #[.int .i64 0, .int .i64 0] := (show Blk ((w.alloc (.cells #[.int .i64 0, .int .i64 0] 24)).alloc (.cells #[.int .i64 1000, .int .i64 924, .int .i64 707, .int .i64 383, .int .i64 0, .int .i64 (-383), .int .i64 (-707), .int .i64 (-924), .int .i64 (-1000), .int .i64 (-924), .int .i64 (-707), .int .i64 (-383), .int .i64 0, .int .i64 383, .int .i64 707, .int .i64 924] 3)) w.heap.size _ from (Blk.at rfl).alloc _)
  have hB : Below w.heap.size w ((w.alloc (.cells #[.int .i64 0, .int .i64 0] 24)).alloc (.cells #[.int .i64 1000, .int .i64 924, .int .i64 707, .int .i64 383, .int .i64 0, .int .i64 (-383), .int .i64 (-707), .int .i64 (-924), .int .i64 (-1000), .int .i64 (-924), .int .i64 (-707), .int .i64 (-383), .int .i64 0, .int .i64 383, .int .i64 707, .int .i64 924] 3)).drew := by (repeat (first | with_reducible assumption | with_reducible exact Below.refl _ _ | ((with_reducible refine Below.alloc ?_ ?_ _); rotate_left; · exact (by first | omega | (simp; done) | (simp; omega))) | ((with_reducible refine Below.setCell ?_ ?_ _); rotate_left; · exact (by first | omega | (simp; done) | (simp; omega))) | with_reducible refine Below.drew ?_ | assumption | exact Below.refl _ _ | refine Below.alloc ?_ (by first | omega | (simp; done) | (simp; omega)) _ | refine Below.setCell ?_ (by first | omega | (simp; done) | (simp; omega)) _ | refine Below.drew ?_))
  have c1 := (T0.cell m).trans t1
  have c2 := (T0.cell m2).trans t2
  generalize ((w.alloc (.cells #[.int .i64 0, .int .i64 0] 24)).alloc (.cells #[.int .i64 1000, .int .i64 924, .int .i64 707, .int .i64 383, .int .i64 0, .int .i64 (-383), .int .i64 (-707), .int .i64 (-924), .int .i64 (-1000), .int .i64 (-924), .int .i64 (-707), .int .i64 (-383), .int .i64 0, .int .i64 383, .int .i64 707, .int .i64 924] 3)) = W at *
  clear T0 t1 t2
  refine wp_region_cut 11 (by kernel_rfl) (by kernel_rfl) (S := fun W => W.cell? ⟨w.heap.size + 1, m, none⟩ = some (.int .i64 (dirX m)) ∧ W.cell? ⟨w.heap.size + 1, m2, none⟩ = some (.int .i64 (dirX m2))) ⟨c1, c2⟩ (fun hHeld => ?_)
  simp only [List.take_succ_cons, List.take_zero]
  (refine wpAnyH_take (i := 0) (v := ?_) rfl (by kernel_rfl) (by kernel_rfl) (by kernel_rfl) (fun _ _ _ h => h) (Or.inl ⟨by rfl, ?_⟩) (by assumption) ?_; rotate_left; · (intro w hSw; (try dsimp only at hSw); go_simp; (try with_reducible rfl))); (try simp only [Act.put, List.setIfInBounds_toArray, List.set_cons_zero, List.set_cons_succ])
  (refine wpAnyH_take (i := 1) (v := ?_) rfl (by kernel_rfl) (by kernel_rfl) (by kernel_rfl) (fun _ _ _ h => h) (Or.inl ⟨by rfl, ?_⟩) (by assumption) ?_; rotate_left; · (intro w hSw; (try dsimp only at hSw); go_simp; (try with_reducible rfl))); (try simp only [Act.put, List.setIfInBounds_toArray, List.set_cons_zero, List.set_cons_succ])
  (refine wpAnyH_take (i := 2) (v := ?_) rfl (by kernel_rfl) (by kernel_rfl) (by kernel_rfl) (fun _ _ _ h => h) (Or.inl ⟨by rfl, ?_⟩) (by assumption) ?_; rotate_left; · (intro w hSw; (try dsimp only at hSw); go_simp; (try with_reducible rfl))); (try simp only [Act.put, List.setIfInBounds_toArray, List.set_cons_zero, List.set_cons_succ])
  (refine wpAnyH_take (i := 3) (v := ?_) rfl (by kernel_rfl) (by kernel_rfl) (by kernel_rfl) (fun _ _ _ h => h) (Or.inl ⟨by rfl, ?_⟩) (by assumption) ?_; rotate_left; · (intro w hSw; (try dsimp only at hSw); go_simp; (try with_reducible rfl))); (try simp only [Act.put, List.setIfInBounds_toArray, List.set_cons_zero, List.set_cons_succ])
  (refine wpAnyH_take (i := 4) (v := ?_) rfl (by kernel_rfl) (by kernel_rfl) (by kernel_rfl) (fun _ _ _ h => h) (Or.inl ⟨by rfl, ?_⟩) (by assumption) ?_; rotate_left; · (intro w hSw; (try dsimp only at hSw); go_simp; (try with_reducible rfl))); (try simp only [Act.put, List.setIfInBounds_toArray, List.set_cons_zero, List.set_cons_succ])
  (refine wpAnyH_take (i := 5) (v := ?_) rfl (by kernel_rfl) (by kernel_rfl) (by kernel_rfl) (fun _ _ _ h => h) (Or.inl ⟨by rfl, ?_⟩) (by assumption) ?_; rotate_left; · (intro w hSw; (try dsimp only at hSw); go_simp; (try with_reducible rfl))); (try simp only [Act.put, List.setIfInBounds_toArray, List.set_cons_zero, List.set_cons_succ])
  (refine wpAnyH_take (i := 6) (v := ?_) rfl (by kernel_rfl) (by kernel_rfl) (by kernel_rfl) (fun _ _ _ h => h) (Or.inl ⟨by rfl, ?_⟩) (by assumption) ?_; rotate_left; · (intro w hSw; (try dsimp only at hSw); go_simp; (try with_reducible rfl))); (try simp only [Act.put, List.setIfInBounds_toArray, List.set_cons_zero, List.set_cons_succ])
  refine wpAnyH_take (i := 7) (v := .int .i64 (m2 : Int)) rfl (by kernel_rfl) (by kernel_rfl) (by kernel_rfl) (fun _ _ _ h => h) (Or.inl ⟨by rfl, ?_⟩) (by assumption) ?_
  · intro w hSw
    clear hSw hHeld
    go_simp
    first | rw [hE3.out] | rw [hE2.out]
  (try simp only [Act.put, List.setIfInBounds_toArray, List.set_cons_zero, List.set_cons_succ])
  (refine wpAnyH_take (i := 8) (v := ?_) rfl (by kernel_rfl) (by kernel_rfl) (by kernel_rfl) (fun _ _ _ h => h) (Or.inl ⟨by rfl, ?_⟩) (by assumption) ?_; rotate_left; · (intro w hSw; (try dsimp only at hSw); go_simp; (try with_reducible rfl))); (try simp only [Act.put, List.setIfInBounds_toArray, List.set_cons_zero, List.set_cons_succ])
  (refine wpAnyH_take (i := 9) (v := ?_) rfl (by kernel_rfl) (by kernel_rfl) (by kernel_rfl) (fun _ _ _ h => h) (Or.inl ⟨by rfl, ?_⟩) (by assumption) ?_; rotate_left; · (intro w hSw; (try dsimp only at hSw); go_simp; (try with_reducible rfl))); (try simp only [Act.put, List.setIfInBounds_toArray, List.set_cons_zero, List.set_cons_succ])
  (refine wpAnyH_take (i := 10) (v := ?_) rfl (by kernel_rfl) (by kernel_rfl) (by kernel_rfl) (fun _ _ _ h => h) (Or.inl ⟨by rfl, ?_⟩) (by assumption) ?_; rotate_left; · (intro w hSw; (try dsimp only at hSw); go_simp; (try with_reducible rfl))); (try simp only [Act.put, List.setIfInBounds_toArray, List.set_cons_zero, List.set_cons_succ])
  refine wpAnyH_done (by kernel_rfl) ?_ _
  simp only [TailQ, List.drop_succ_cons, List.drop_zero]
  try simp only [List.getElem_toArray, List.getElem_cons_zero, List.getElem_cons_succ, Act.put, List.setIfInBounds_toArray, List.set_cons_zero, List.set_cons_succ]
  refine st_row rfl rfl B0 (by kernel_rfl) rfl (by simp [Value.oneCell']) ?_
  refine wpList_nil ?_
  have hR := Lib.hid (B0.row #[.int .i64 (dirX m), .int .i64 (dirX m2)])
  have hF := Below.setRow hB (g := w.heap.size) (Nat.le_refl _) #[.int .i64 (dirX m), .int .i64 (dirX m2)]
  clear B0 hB hHeld
  go_wp2
  refine bodyPost_ret (res_row rfl rfl hR.out Try.underlying24 rfl (by kernel_rfl)) rfl ?_
  exact ⟨rfl, hF⟩
theorem tdiv_in {a n : Int} (hn : 0 < n) (h1 : -4000000000 ≤ a) (h2 : a ≤ 4000000000) : -9223372036854775808 ≤ a.tdiv n ∧ a.tdiv n ≤ 9223372036854775807 := by
  have h := ab_tdiv (a := a) hn
  have h0 := ab_nn (a.tdiv n)
  have h3 : ab a ≤ 4000000000 := le_ab h1 h2
  have h4 : ab (a.tdiv n) * 1 ≤ ab (a.tdiv n) * n := Int.mul_le_mul_of_nonneg_left (by omega) h0
  obtain ⟨h5, h6⟩ := ab_le (x := a.tdiv n) (m := 4000000000) (by omega)
  omega
set_option maxRecDepth 100000 in
set_option maxHeartbeats 1000000 in
theorem sClamp (x y : Int) (w : World) (h : vokB x y = true) : Calls Try.prog 139 #[.agg #[.int .i64 x, .int .i64 y], .int .i64 2000] w fun e w' => e = .returned (.agg #[.int .i64 (clF (len x y) x), .int .i64 (clF (len x y) y)]) ∧ Below w.heap.size w w' := by
  obtain ⟨⟨v1, v2⟩, ⟨v3, v4⟩⟩ := vokB_ok h
  go_enter Try.func139, Try.ntmps139
  go_wp2_with fail
  refine (sLength x y _ h).mono ?_
  rintro e w1 ⟨rfl, hb1⟩
  have A1 : Blk w1 w.heap.size #[.int .i64 x, .int .i64 y] := ((Blk.at rfl).alloc _).below hb1 (by simp; omega)
  have B1 : Blk w1 (w.heap.size + 1) #[.int .i64 0, .int .i64 0] := (Blk.at (by simp)).below hb1 (by simp)
  have hB1 : Below w.heap.size w w1 := bstep (by (repeat (first | with_reducible assumption | with_reducible exact Below.refl _ _ | ((with_reducible refine Below.alloc ?_ ?_ _); rotate_left; · exact (by first | omega | (simp; done) | (simp; omega))) | ((with_reducible refine Below.setCell ?_ ?_ _); rotate_left; · exact (by first | omega | (simp; done) | (simp; omega))) | with_reducible refine Below.drew ?_ | assumption | exact Below.refl _ _ | refine Below.alloc ?_ (by first | omega | (simp; done) | (simp; omega)) _ | refine Below.setCell ?_ (by first | omega | (simp; done) | (simp; omega)) _ | refine Below.drew ?_))) (by first | omega | (simp; done) | (simp; omega)) hb1
  have hn := len_nn x y
  obtain ⟨n, hN⟩ : ∃ n, n = len x y := ⟨_, rfl⟩
  rw [← hN] at hn
  rw [← hN]
  have hNh := Lib.hid hN
  clear hb1 h hN
  obtain ⟨p0, p1⟩ := A1.c2
  by_cases hc : n ≤ 2000
  · obtain ⟨q0, q1⟩ := B1.c2
    have qf := B1.frozen
    have hZ := Lib.hid ((B1.s2_0 (.int .i64 x)).s2_1 (.int .i64 y))
    have e1 : clF (len x y) x = x := by rw [← hNh.out]; unfold clF; rw [if_pos hc]
    have e2 : clF (len x y) y = y := by rw [← hNh.out]; unfold clF; rw [if_pos hc]
    have h1 := Lib.hid e1
    have h2 := Lib.hid e2
    clear e1 e2
    go_wp2
    refine bodyPost_ret (res_row rfl rfl hZ.out Try.underlying24 rfl (by kernel_rfl)) rfl ?_
    exact ⟨by rw [h1.out, h2.out], by (repeat (first | with_reducible assumption | with_reducible exact Below.refl _ _ | ((with_reducible refine Below.alloc ?_ ?_ _); rotate_left; · exact (by first | omega | (simp; done) | (simp; omega))) | ((with_reducible refine Below.setCell ?_ ?_ _); rotate_left; · exact (by first | omega | (simp; done) | (simp; omega))) | with_reducible refine Below.drew ?_ | assumption | exact Below.refl _ _ | refine Below.alloc ?_ (by first | omega | (simp; done) | (simp; omega)) _ | refine Below.setCell ?_ (by first | omega | (simp; done) | (simp; omega)) _ | refine Below.drew ?_))⟩
  · have e1 : clF (len x y) x = (x * 2000).tdiv n := by rw [← hNh.out]; unfold clF; rw [if_neg hc]
    have e2 : clF (len x y) y = (y * 2000).tdiv n := by rw [← hNh.out]; unfold clF; rw [if_neg hc]
    have h1 := Lib.hid e1
    have h2 := Lib.hid e2
    clear e1 e2
    have hn0 : (n == 0) = false := by simp; omega
    have hnn : n ≠ 0 := by omega
    have A2 : Blk w1.drew w.heap.size #[.int .i64 x, .int .i64 y] := A1
    have B2 : Blk w1.drew (w.heap.size + 1) #[.int .i64 0, .int .i64 0] := B1
    have hB2 : Below w.heap.size w w1.drew := hB1.drew
    have g1 : IntKind.i64.wrap (x * 2000) = x * 2000 := IntWalk.i64_in _ (by omega)
    have g2 : IntKind.i64.wrap (y * 2000) = y * 2000 := IntWalk.i64_in _ (by omega)
    have g3 : IntKind.i64.wrap ((x * 2000).tdiv n) = (x * 2000).tdiv n := IntWalk.i64_in _ (tdiv_in (n := n) (a := x * 2000) (by omega) (by omega) (by omega))
    have g4 : IntKind.i64.wrap ((y * 2000).tdiv n) = (y * 2000).tdiv n := IntWalk.i64_in _ (tdiv_in (n := n) (a := y * 2000) (by omega) (by omega) (by omega))
    go_wp2_with fail
    refine wp_region_cut 13 (by kernel_rfl) (by kernel_rfl) (S := fun W => W.cell? ⟨w.heap.size, 0, none⟩ = some (.int .i64 x) ∧ W.cell? ⟨w.heap.size, 1, none⟩ = some (.int .i64 y)) A2.c2 (fun hHeld => ?_)
    simp only [List.take_succ_cons, List.take_zero]
    (refine wpAnyH_take (i := 0) (v := ?_) rfl (by kernel_rfl) (by kernel_rfl) (by kernel_rfl) (fun _ _ _ h => h) (Or.inl ⟨by rfl, ?_⟩) (by assumption) ?_; rotate_left; · (intro w hSw; (try dsimp only at hSw); go_simp; (try with_reducible rfl))); (try simp only [Act.put, List.setIfInBounds_toArray, List.set_cons_zero, List.set_cons_succ])
    (refine wpAnyH_take (i := 1) (v := ?_) rfl (by kernel_rfl) (by kernel_rfl) (by kernel_rfl) (fun _ _ _ h => h) (Or.inl ⟨by rfl, ?_⟩) (by assumption) ?_; rotate_left; · (intro w hSw; (try dsimp only at hSw); go_simp; (try with_reducible rfl))); (try simp only [Act.put, List.setIfInBounds_toArray, List.set_cons_zero, List.set_cons_succ])
    (refine wpAnyH_take (i := 2) (v := ?_) rfl (by kernel_rfl) (by kernel_rfl) (by kernel_rfl) (fun _ _ _ h => h) (Or.inl ⟨by rfl, ?_⟩) (by assumption) ?_; rotate_left; · (intro w hSw; (try dsimp only at hSw); go_simp; (try with_reducible rfl))); (try simp only [Act.put, List.setIfInBounds_toArray, List.set_cons_zero, List.set_cons_succ])
    (refine wpAnyH_take (i := 3) (v := ?_) rfl (by kernel_rfl) (by kernel_rfl) (by kernel_rfl) (fun _ _ _ h => h) (Or.inl ⟨by rfl, ?_⟩) (by assumption) ?_; rotate_left; · (intro w hSw; (try dsimp only at hSw); go_simp; (try with_reducible rfl))); (try simp only [Act.put, List.setIfInBounds_toArray, List.set_cons_zero, List.set_cons_succ])
    (refine wpAnyH_take (i := 4) (v := ?_) rfl (by kernel_rfl) (by kernel_rfl) (by kernel_rfl) (fun _ _ _ h => h) (Or.inl ⟨by rfl, ?_⟩) (by assumption) ?_; rotate_left; · (intro w hSw; (try dsimp only at hSw); go_simp; (try with_reducible rfl))); (try simp only [Act.put, List.setIfInBounds_toArray, List.set_cons_zero, List.set_cons_succ])
    (refine wpAnyH_take (i := 5) (v := ?_) rfl (by kernel_rfl) (by kernel_rfl) (by kernel_rfl) (fun _ _ _ h => h) (Or.inl ⟨by rfl, ?_⟩) (by assumption) ?_; rotate_left; · (intro w hSw; (try dsimp only at hSw); go_simp; (try with_reducible rfl))); (try simp only [Act.put, List.setIfInBounds_toArray, List.set_cons_zero, List.set_cons_succ])
    (refine wpAnyH_take (i := 6) (v := ?_) rfl (by kernel_rfl) (by kernel_rfl) (by kernel_rfl) (fun _ _ _ h => h) (Or.inl ⟨by rfl, ?_⟩) (by assumption) ?_; rotate_left; · (intro w hSw; (try dsimp only at hSw); go_simp; (try with_reducible rfl))); (try simp only [Act.put, List.setIfInBounds_toArray, List.set_cons_zero, List.set_cons_succ])
    (refine wpAnyH_take (i := 7) (v := ?_) rfl (by kernel_rfl) (by kernel_rfl) (by kernel_rfl) (fun _ _ _ h => h) (Or.inl ⟨by rfl, ?_⟩) (by assumption) ?_; rotate_left; · (intro w hSw; (try dsimp only at hSw); go_simp; (try with_reducible rfl))); (try simp only [Act.put, List.setIfInBounds_toArray, List.set_cons_zero, List.set_cons_succ])
    (refine wpAnyH_take (i := 8) (v := ?_) rfl (by kernel_rfl) (by kernel_rfl) (by kernel_rfl) (fun _ _ _ h => h) (Or.inl ⟨by rfl, ?_⟩) (by assumption) ?_; rotate_left; · (intro w hSw; (try dsimp only at hSw); go_simp; (try with_reducible rfl))); (try simp only [Act.put, List.setIfInBounds_toArray, List.set_cons_zero, List.set_cons_succ])
    (refine wpAnyH_take (i := 9) (v := ?_) rfl (by kernel_rfl) (by kernel_rfl) (by kernel_rfl) (fun _ _ _ h => h) (Or.inl ⟨by rfl, ?_⟩) (by assumption) ?_; rotate_left; · (intro w hSw; (try dsimp only at hSw); go_simp; (try with_reducible rfl))); (try simp only [Act.put, List.setIfInBounds_toArray, List.set_cons_zero, List.set_cons_succ])
    (refine wpAnyH_take (i := 10) (v := ?_) rfl (by kernel_rfl) (by kernel_rfl) (by kernel_rfl) (fun _ _ _ h => h) (Or.inl ⟨by rfl, ?_⟩) (by assumption) ?_; rotate_left; · (intro w hSw; (try dsimp only at hSw); go_simp; (try with_reducible rfl))); (try simp only [Act.put, List.setIfInBounds_toArray, List.set_cons_zero, List.set_cons_succ])
    (refine wpAnyH_take (i := 11) (v := ?_) rfl (by kernel_rfl) (by kernel_rfl) (by kernel_rfl) (fun _ _ _ h => h) (Or.inl ⟨by rfl, ?_⟩) (by assumption) ?_; rotate_left; · (intro w hSw; (try dsimp only at hSw); go_simp; (try with_reducible rfl))); (try simp only [Act.put, List.setIfInBounds_toArray, List.set_cons_zero, List.set_cons_succ])
    (refine wpAnyH_take (i := 12) (v := ?_) rfl (by kernel_rfl) (by kernel_rfl) (by kernel_rfl) (fun _ _ _ h => h) (Or.inl ⟨by rfl, ?_⟩) (by assumption) ?_; rotate_left; · (intro w hSw; (try dsimp only at hSw); go_simp; (try with_reducible rfl))); (try simp only [Act.put, List.setIfInBounds_toArray, List.set_cons_zero, List.set_cons_succ])
    refine wpAnyH_done (by kernel_rfl) ?_ _
    simp only [TailQ, List.drop_succ_cons, List.drop_zero]
    try simp only [List.getElem_toArray, List.getElem_cons_zero, List.getElem_cons_succ, Act.put, List.setIfInBounds_toArray, List.set_cons_zero, List.set_cons_succ]
    refine st_row rfl rfl B2 (by kernel_rfl) rfl (by simp [Value.oneCell']) ?_
    refine wpList_nil ?_
    have hR := Lib.hid (B2.row #[.int .i64 ((x * 2000).tdiv n), .int .i64 ((y * 2000).tdiv n)])
    have hF := Below.setRow hB2 (g := w.heap.size + 1) (Nat.le_succ _) #[.int .i64 ((x * 2000).tdiv n), .int .i64 ((y * 2000).tdiv n)]
    clear A1 B1 A2 B2 hHeld
    go_wp2
    refine bodyPost_ret (res_row rfl rfl hR.out Try.underlying24 rfl (by kernel_rfl)) rfl ?_
    exact ⟨by rw [h1.out, h2.out], hF⟩
end Go.Proofs.Ytnhjalijnociaaa

/- A tick, by the reference: the speed, the move. -/
set_option linter.unusedVariables false
set_option linter.unusedSimpArgs false
namespace Go.Proofs.Ytnhjalijnociaaa
open Go.RowKit

theorem dirX_bd {d : Int} (h0 : 0 ≤ d) (h1 : d ≤ 15) : -1000 ≤ dirX d ∧ dirX d ≤ 1000 := by
  rcases sixteen h0 h1 with rfl | rfl | rfl | rfl | rfl | rfl | rfl | rfl | rfl | rfl | rfl | rfl | rfl | rfl | rfl | rfl <;> decide
theorem dirY_bd {d : Int} (h0 : 0 ≤ d) (h1 : d ≤ 15) : -1000 ≤ dirY d ∧ dirY d ≤ 1000 := dirX_bd (by omega) (by omega)
theorem fastX_1 (s : St) (t : Int) : fastX s t 1 = clF (len (s.fx + pushX t) (s.fy + pushY t)) (s.fx + pushX t) := rfl
theorem fastY_1 (s : St) (t : Int) : fastY s t 1 = clF (len (s.fx + pushX t) (s.fy + pushY t)) (s.fy + pushY t) := rfl
theorem fastX_2 (s : St) (t : Int) : fastX s t 2 = (s.fx * 700).tdiv 1000 := rfl
theorem fastY_2 (s : St) (t : Int) : fastY s t 2 = (s.fy * 700).tdiv 1000 := rfl
theorem fastX_0 (s : St) (t : Int) {p : Int} (h1 : p ≠ 1) (h2 : p ≠ 2) : fastX s t p = (s.fx * 950).tdiv 1000 := by unfold fastX; rw [if_neg h1, if_neg h2]
theorem fastY_0 (s : St) (t : Int) {p : Int} (h1 : p ≠ 1) (h2 : p ≠ 2) : fastY s t p = (s.fy * 950).tdiv 1000 := by unfold fastY; rw [if_neg h1, if_neg h2]
theorem vok_in {x y : Int} (h1 : -1000000 ≤ x) (h2 : x ≤ 1000000) (h3 : -1000000 ≤ y) (h4 : y ≤ 1000000) : vokB x y = true := by
  simp only [vokB, inB_yes h1 h2, inB_yes h3 h4, Bool.and_self]
set_option maxRecDepth 100000 in
set_option maxHeartbeats 1000000 in
theorem sFast (s : St) (t p : Int) (w : World) (h : len s.fx s.fy ≤ 2000) (h0 : 0 ≤ t) (h1 : t ≤ 15) : Calls Try.prog 125 #[.agg #[.int .i64 s.tick, .int .i64 s.ax, .int .i64 s.ay, .int .i64 s.fx, .int .i64 s.fy, .int .i64 s.turn, .int .i64 s.gate, .bool s.done, .bool s.over], .int .i64 t, .int .i64 p] w fun e w' => e = .returned (.agg #[.int .i64 (fastX s t p), .int .i64 (fastY s t p)]) ∧ Below w.heap.size w w' := by
  obtain ⟨⟨f1, f2⟩, ⟨f3, f4⟩⟩ := fast_bd h
  by_cases hp1 : p = 1
  · subst hp1
    rw [fastX_1, fastY_1]
    obtain ⟨d1, d2⟩ := dirX_bd h0 h1
    obtain ⟨d3, d4⟩ := dirY_bd h0 h1
    obtain ⟨⟨p1, p2⟩, ⟨p3, p4⟩⟩ := fast_bd (dir_bd t h0 h1)
    go_enter Try.func125, Try.ntmps125
    go_wp2_with fail
    refine (sDir t _ h0 h1).mono ?_
    rintro e w1 ⟨rfl, hb1⟩
    have S1 : Blk w1 w.heap.size #[.int .i64 s.tick, .int .i64 s.ax, .int .i64 s.ay, .int .i64 s.fx, .int .i64 s.fy, .int .i64 s.turn, .int .i64 s.gate, .bool s.done, .bool s.over] := ((Blk.at rfl).alloc _).below hb1 (by simp; omega)
    have B1 : Blk w1 (w.heap.size + 1) #[.int .i64 0, .int .i64 0] := (Blk.at (by simp)).below hb1 (by simp)
    have hB1 : Below w.heap.size w w1 := bstep (by (repeat (first | with_reducible assumption | with_reducible exact Below.refl _ _ | ((with_reducible refine Below.alloc ?_ ?_ _); rotate_left; · exact (by first | omega | (simp; done) | (simp; omega))) | ((with_reducible refine Below.setCell ?_ ?_ _); rotate_left; · exact (by first | omega | (simp; done) | (simp; omega))) | with_reducible refine Below.drew ?_ | assumption | exact Below.refl _ _ | refine Below.alloc ?_ (by first | omega | (simp; done) | (simp; omega)) _ | refine Below.setCell ?_ (by first | omega | (simp; done) | (simp; omega)) _ | refine Below.drew ?_))) (by first | omega | (simp; done) | (simp; omega)) hb1
    go_wp2_with fail
    refine (sScale (dirX t) (dirY t) 200 _ (by omega) (by omega) (by omega) (by omega)).mono ?_
    rintro e w2 ⟨rfl, hb2⟩
    have S2 := S1.below hb2 S1.lt
    have B2 := B1.below hb2 B1.lt
    have hB2 : Below w.heap.size w w2 := bstep hB1 hB1.size hb2
    obtain ⟨X, hX⟩ : ∃ X, X = pushX t := ⟨_, rfl⟩
    obtain ⟨Y, hY⟩ : ∃ Y, Y = pushY t := ⟨_, rfl⟩
    rw [show (dirX t * 200).tdiv 1000 = X from hX.symm, show (dirY t * 200).tdiv 1000 = Y from hY.symm]
    rw [← hX] at p1 p2
    rw [← hY] at p3 p4
    have hXh := Lib.hid hX
    have hYh := Lib.hid hY
    clear hX hY S1 B1 hB1 hb1 hb2
    obtain ⟨r0, r1, r2, r3, r4, r5, r6, r7, r8⟩ := S2.c9
    have hz2 := S2.lt
    have hz2' := B2.lt
    have g1 : IntKind.i64.wrap (s.fx + X) = s.fx + X := IntWalk.i64_in _ (by omega)
    have g2 : IntKind.i64.wrap (s.fy + Y) = s.fy + Y := IntWalk.i64_in _ (by omega)
    go_wp2_with fail
    refine (sClamp (s.fx + X) (s.fy + Y) _ (vok_in (by omega) (by omega) (by omega) (by omega))).mono ?_
    rintro e w3 ⟨rfl, hb3⟩
    have B3 := (B2.alloc _).below hb3 (by simp; omega)
    have hB3 : Below w.heap.size w w3 := bstep (by (repeat (first | with_reducible assumption | with_reducible exact Below.refl _ _ | ((with_reducible refine Below.alloc ?_ ?_ _); rotate_left; · exact (by first | omega | (simp; done) | (simp; omega))) | ((with_reducible refine Below.setCell ?_ ?_ _); rotate_left; · exact (by first | omega | (simp; done) | (simp; omega))) | with_reducible refine Below.drew ?_ | assumption | exact Below.refl _ _ | refine Below.alloc ?_ (by first | omega | (simp; done) | (simp; omega)) _ | refine Below.setCell ?_ (by first | omega | (simp; done) | (simp; omega)) _ | refine Below.drew ?_))) (by first | omega | (simp; done) | (simp; omega)) hb3
    rw [hXh.out, hYh.out]
    obtain ⟨U, hU⟩ : ∃ U, U = clF (len (s.fx + pushX t) (s.fy + pushY t)) (s.fx + pushX t) := ⟨_, rfl⟩
    obtain ⟨V, hV⟩ : ∃ V, V = clF (len (s.fx + pushX t) (s.fy + pushY t)) (s.fy + pushY t) := ⟨_, rfl⟩
    rw [← hU, ← hV]
    have hUh := Lib.hid hU
    have hVh := Lib.hid hV
    clear hU hV
    obtain ⟨q0, q1⟩ := B3.c2
    have qf := B3.frozen
    have hz3 := B3.lt
    have hZ := Lib.hid ((B3.s2_0 (.int .i64 U)).s2_1 (.int .i64 V))
    go_wp2
    refine bodyPost_ret (res_row rfl rfl hZ.out Try.underlying24 rfl (by kernel_rfl)) rfl ?_
    exact ⟨by rw [hUh.out, hVh.out], by (repeat (first | with_reducible assumption | with_reducible exact Below.refl _ _ | ((with_reducible refine Below.alloc ?_ ?_ _); rotate_left; · exact (by first | omega | (simp; done) | (simp; omega))) | ((with_reducible refine Below.setCell ?_ ?_ _); rotate_left; · exact (by first | omega | (simp; done) | (simp; omega))) | with_reducible refine Below.drew ?_ | assumption | exact Below.refl _ _ | refine Below.alloc ?_ (by first | omega | (simp; done) | (simp; omega)) _ | refine Below.setCell ?_ (by first | omega | (simp; done) | (simp; omega)) _ | refine Below.drew ?_))⟩
  · by_cases hp2 : p = 2
    · subst hp2
      rw [fastX_2, fastY_2]
      clear hp1
      go_enter Try.func125, Try.ntmps125
      go_wp2_with fail
      refine (sScale s.fx s.fy 700 _ (by omega) (by omega) (by omega) (by omega)).mono ?_
      rintro e w1 ⟨rfl, hb1⟩
      have B1 : Blk w1 (w.heap.size + 1) #[.int .i64 0, .int .i64 0] := (Blk.at (by simp)).below hb1 (by simp)
      have hB1 : Below w.heap.size w w1 := bstep (by (repeat (first | with_reducible assumption | with_reducible exact Below.refl _ _ | ((with_reducible refine Below.alloc ?_ ?_ _); rotate_left; · exact (by first | omega | (simp; done) | (simp; omega))) | ((with_reducible refine Below.setCell ?_ ?_ _); rotate_left; · exact (by first | omega | (simp; done) | (simp; omega))) | with_reducible refine Below.drew ?_ | assumption | exact Below.refl _ _ | refine Below.alloc ?_ (by first | omega | (simp; done) | (simp; omega)) _ | refine Below.setCell ?_ (by first | omega | (simp; done) | (simp; omega)) _ | refine Below.drew ?_))) (by first | omega | (simp; done) | (simp; omega)) hb1
      obtain ⟨q0, q1⟩ := B1.c2
      have qf := B1.frozen
      have hz1 := B1.lt
      have hZ := Lib.hid ((B1.s2_0 (.int .i64 ((s.fx * 700).tdiv 1000))).s2_1 (.int .i64 ((s.fy * 700).tdiv 1000)))
      go_wp2
      refine bodyPost_ret (res_row rfl rfl hZ.out Try.underlying24 rfl (by kernel_rfl)) rfl ?_
      exact ⟨rfl, by (repeat (first | with_reducible assumption | with_reducible exact Below.refl _ _ | ((with_reducible refine Below.alloc ?_ ?_ _); rotate_left; · exact (by first | omega | (simp; done) | (simp; omega))) | ((with_reducible refine Below.setCell ?_ ?_ _); rotate_left; · exact (by first | omega | (simp; done) | (simp; omega))) | with_reducible refine Below.drew ?_ | assumption | exact Below.refl _ _ | refine Below.alloc ?_ (by first | omega | (simp; done) | (simp; omega)) _ | refine Below.setCell ?_ (by first | omega | (simp; done) | (simp; omega)) _ | refine Below.drew ?_))⟩
    · rw [fastX_0 s t hp1 hp2, fastY_0 s t hp1 hp2]
      have e1 : (p == 1) = false := by simpa using hp1
      have e2 : (p == 2) = false := by simpa using hp2
      clear hp1 hp2
      go_enter Try.func125, Try.ntmps125
      go_wp2_with fail
      refine (sScale s.fx s.fy 950 _ (by omega) (by omega) (by omega) (by omega)).mono ?_
      rintro e w1 ⟨rfl, hb1⟩
      have B1 : Blk w1 (w.heap.size + 1) #[.int .i64 0, .int .i64 0] := (Blk.at (by simp)).below hb1 (by simp)
      have hB1 : Below w.heap.size w w1 := bstep (by (repeat (first | with_reducible assumption | with_reducible exact Below.refl _ _ | ((with_reducible refine Below.alloc ?_ ?_ _); rotate_left; · exact (by first | omega | (simp; done) | (simp; omega))) | ((with_reducible refine Below.setCell ?_ ?_ _); rotate_left; · exact (by first | omega | (simp; done) | (simp; omega))) | with_reducible refine Below.drew ?_ | assumption | exact Below.refl _ _ | refine Below.alloc ?_ (by first | omega | (simp; done) | (simp; omega)) _ | refine Below.setCell ?_ (by first | omega | (simp; done) | (simp; omega)) _ | refine Below.drew ?_))) (by first | omega | (simp; done) | (simp; omega)) hb1
      obtain ⟨q0, q1⟩ := B1.c2
      have qf := B1.frozen
      have hz1 := B1.lt
      have hZ := Lib.hid ((B1.s2_0 (.int .i64 ((s.fx * 950).tdiv 1000))).s2_1 (.int .i64 ((s.fy * 950).tdiv 1000)))
      go_wp2
      refine bodyPost_ret (res_row rfl rfl hZ.out Try.underlying24 rfl (by kernel_rfl)) rfl ?_
      exact ⟨rfl, by (repeat (first | with_reducible assumption | with_reducible exact Below.refl _ _ | ((with_reducible refine Below.alloc ?_ ?_ _); rotate_left; · exact (by first | omega | (simp; done) | (simp; omega))) | ((with_reducible refine Below.setCell ?_ ?_ _); rotate_left; · exact (by first | omega | (simp; done) | (simp; omega))) | with_reducible refine Below.drew ?_ | assumption | exact Below.refl _ _ | refine Below.alloc ?_ (by first | omega | (simp; done) | (simp; omega)) _ | refine Below.setCell ?_ (by first | omega | (simp; done) | (simp; omega)) _ | refine Below.drew ?_))⟩
theorem half_in {x : Int} (h1 : -2000 ≤ x) (h2 : x ≤ 2000) : wrap64 (-x.tdiv 2) = -x.tdiv 2 := by
  have h := ab_half x
  rw [Int.neg_tdiv] at h
  obtain ⟨h3, h4⟩ := ab_le (x := -x.tdiv 2) (m := 2000) (Int.le_trans h (le_ab h1 h2))
  exact IntWalk.wrap64_in _ (by omega)
set_option maxRecDepth 100000 in
set_option maxHeartbeats 2000000 in
theorem sMove (l : Lv) (s : St) (w : World) (hn : l.wn ≤ 1099511627776) (hl : BoxesAt w l.wa l.wn l.wf) (hv : bxsB l.wf l.wn = true) (ha : vokB s.ax s.ay = true) (h : len s.fx s.fy ≤ 2000) : Calls Try.prog 126 #[.agg #[.int .i64 l.id, .int .i64 l.ticks, .int .i64 l.sx, .int .i64 l.sy, .slice l.wa l.wn l.wc, .slice l.ga l.gn l.gc, .int .i64 l.flx, .int .i64 l.fly, .int .i64 l.fhx, .int .i64 l.fhy, .int .i64 l.bans], .agg #[.int .i64 s.tick, .int .i64 s.ax, .int .i64 s.ay, .int .i64 s.fx, .int .i64 s.fy, .int .i64 s.turn, .int .i64 s.gate, .bool s.done, .bool s.over]] w fun e w' => e = .returned (.agg #[.int .i64 (moveY l (moveX l s)).tick, .int .i64 (moveY l (moveX l s)).ax, .int .i64 (moveY l (moveX l s)).ay, .int .i64 (moveY l (moveX l s)).fx, .int .i64 (moveY l (moveX l s)).fy, .int .i64 (moveY l (moveX l s)).turn, .int .i64 (moveY l (moveX l s)).gate, .bool (moveY l (moveX l s)).done, .bool (moveY l (moveX l s)).over]) ∧ Below w.heap.size w w' := by
  obtain ⟨⟨f1, f2⟩, ⟨f3, f4⟩⟩ := fast_bd h
  obtain ⟨⟨a1, a2⟩, ⟨a3, a4⟩⟩ := vokB_ok ha
  obtain ⟨tick, ax, ay, fx, fy, turn, gate, done, over⟩ := s
  simp only at f1 f2 f3 f4 a1 a2 a3 a4
  clear h ha
  have wx : wrap64 (-fx.tdiv 2) = -fx.tdiv 2 := half_in f1 f2
  have wy : wrap64 (-fy.tdiv 2) = -fy.tdiv 2 := half_in f3 f4
  go_enter Try.func126, Try.ntmps126
  go_wp2_with fail
  refine (sFree l (ax + fx) ay _ hn (hl.keep (by (repeat (first | with_reducible assumption | with_reducible exact Below.refl _ _ | ((with_reducible refine Below.alloc ?_ ?_ _); rotate_left; · exact (by first | omega | (simp; done) | (simp; omega))) | ((with_reducible refine Below.setCell ?_ ?_ _); rotate_left; · exact (by first | omega | (simp; done) | (simp; omega))) | with_reducible refine Below.drew ?_ | assumption | exact Below.refl _ _ | refine Below.alloc ?_ (by first | omega | (simp; done) | (simp; omega)) _ | refine Below.setCell ?_ (by first | omega | (simp; done) | (simp; omega)) _ | refine Below.drew ?_)))) hv (by omega) (by omega) (by omega) (by omega)).mono ?_
  rintro e w1 ⟨rfl, hb1⟩
  have L1 : Blk w1 w.heap.size #[.int .i64 l.id, .int .i64 l.ticks, .int .i64 l.sx, .int .i64 l.sy, .slice l.wa l.wn l.wc, .slice l.ga l.gn l.gc, .int .i64 l.flx, .int .i64 l.fly, .int .i64 l.fhx, .int .i64 l.fhy, .int .i64 l.bans] := ((((Blk.at rfl).alloc _).alloc _).alloc _).below hb1 (by simp; omega)
  have S1 : Blk w1 (w.heap.size + 1) #[.int .i64 tick, .int .i64 ax, .int .i64 ay, .int .i64 fx, .int .i64 fy, .int .i64 turn, .int .i64 gate, .bool done, .bool over] := (((Blk.at (by simp)).alloc _).alloc _).below hb1 (by first | (simp; done) | (simp; omega))
  have Z1 : Blk w1 (w.heap.size + 1 + 1) #[.int .i64 0, .int .i64 0, .int .i64 0, .int .i64 0, .int .i64 0, .int .i64 0, .int .i64 0, .bool false, .bool false] := ((Blk.at (by simp)).alloc _).below hb1 (by simp)
  have V1 : Blk w1 (w.heap.size + 1 + 1 + 1) #[.int .i64 (ax + fx), .int .i64 ay] := (Blk.at (by simp)).below hb1 (by simp)
  have hB1 : Below w.heap.size w w1 := bstep (by (repeat (first | with_reducible assumption | with_reducible exact Below.refl _ _ | ((with_reducible refine Below.alloc ?_ ?_ _); rotate_left; · exact (by first | omega | (simp; done) | (simp; omega))) | ((with_reducible refine Below.setCell ?_ ?_ _); rotate_left; · exact (by first | omega | (simp; done) | (simp; omega))) | with_reducible refine Below.drew ?_ | assumption | exact Below.refl _ _ | refine Below.alloc ?_ (by first | omega | (simp; done) | (simp; omega)) _ | refine Below.setCell ?_ (by first | omega | (simp; done) | (simp; omega)) _ | refine Below.drew ?_))) (by first | omega | (simp; done) | (simp; omega)) hb1
  obtain ⟨r0, r1, r2, r3, r4, r5, r6, r7, r8⟩ := S1.c9
  obtain ⟨v0, v1⟩ := V1.c2
  have sf := S1.frozen
  have hz1 := S1.lt
  have hz1' := L1.lt
  have hz1'' := Z1.lt
  (try clear q0 q1 q2 q3 q4 q5 q6 q7 q8 q9 q10); obtain ⟨q0, q1, q2, q3, q4, q5, q6, q7, q8, q9, q10⟩ := L1.c11
  cases hc1 : frB l.wf (ax + fx) ay l.wn with
  | true =>
    have hM := Lib.hid (show moveY l (moveX l ⟨tick, ax, ay, fx, fy, turn, gate, done, over⟩) = moveY l ⟨tick, ax + fx, ay, fx, fy, turn, gate, done, over⟩ by rw [show moveX l ⟨tick, ax, ay, fx, fy, turn, gate, done, over⟩ = ⟨tick, ax + fx, ay, fx, fy, turn, gate, done, over⟩ by simp only [moveX, hc1, if_true]])
    have L2 := ((L1.other (p := ⟨w.heap.size + 1, 1, none⟩) (by simp) (.int .i64 (ax + fx))).other (p := ⟨w.heap.size + 1, 2, none⟩) (by simp) (.int .i64 ay))
    have S2 := ((S1.s9_1 (.int .i64 (ax + fx))).s9_2 (.int .i64 ay))
    have Z2 := ((Z1.other (p := ⟨w.heap.size + 1, 1, none⟩) (by simp) (.int .i64 (ax + fx))).other (p := ⟨w.heap.size + 1, 2, none⟩) (by simp) (.int .i64 ay))
    have hB2 := ((hB1.setCell (p := ⟨w.heap.size + 1, 1, none⟩) (Nat.le_succ _) (.int .i64 (ax + fx))).setCell (p := ⟨w.heap.size + 1, 2, none⟩) (Nat.le_succ _) (.int .i64 ay))
    have hL2 := Lib.hid L2
    have hS2 := Lib.hid S2
    have hZ2 := Lib.hid Z2
    have hB2h := Lib.hid hB2
    clear L2 S2 Z2 hB2 V1
    go_wp2_with fail
    refine (sFree l (ax + fx) (ay + fy) _ hn ((hl.keep hB2h.out).keep ((Below.refl _ _).alloc (Nat.le_refl _) _)) hv (by omega) (by omega) (by omega) (by omega)).mono ?_
    rintro e w3 ⟨rfl, hb3⟩
    have L3 := (hL2.out.alloc _).below hb3 (by simp; omega)
    have S3 := (hS2.out.alloc _).below hb3 (by simp; omega)
    have Z3 := (hZ2.out.alloc _).below hb3 (by simp; omega)
    have V3 : Blk w3 w1.heap.size #[.int .i64 (ax + fx), .int .i64 (ay + fy)] := (Blk.at (by simp)).below hb3 (by simp)
    have hB3 : Below w.heap.size w w3 := hB2h.out.trans (((Below.refl _ _).alloc (Nat.le_refl _) _).trans (hb3.mono (by simp)) |>.mono hB2h.out.size)
    clear r0 r1 r2 r3 r4 r5 r6 r7 r8 sf v0 v1 hL2 hS2 hZ2 hb3 L1 S1 Z1 hB1
    obtain ⟨r0, r1, r2, r3, r4, r5, r6, r7, r8⟩ := S3.c9
    obtain ⟨v0, v1⟩ := V3.c2
    have sf := S3.frozen
    cases hc2 : frB l.wf (ax + fx) (ay + fy) l.wn with
    | true =>
      have hf : moveY l ⟨tick, ax + fx, ay, fx, fy, turn, gate, done, over⟩ = ⟨tick, ax + fx, ay + fy, fx, fy, turn, gate, done, over⟩ := by simp only [moveY, hc2, if_true]
      have hS := Lib.hid ((S3.s9_1 (.int .i64 (ax + fx))).s9_2 (.int .i64 (ay + fy)))
      have hZ := Lib.hid ((Z3.other (p := ⟨w.heap.size + 1, 1, none⟩) (by simp) (.int .i64 (ax + fx))).other (p := ⟨w.heap.size + 1, 2, none⟩) (by simp) (.int .i64 (ay + fy)))
      have hBB := Lib.hid ((hB3.setCell (p := ⟨w.heap.size + 1, 1, none⟩) (Nat.le_succ _) (.int .i64 (ax + fx))).setCell (p := ⟨w.heap.size + 1, 2, none⟩) (Nat.le_succ _) (.int .i64 (ay + fy)))
      have hRR := Lib.hid (hZ.out.row #[.int .i64 tick, .int .i64 (ax + fx), .int .i64 (ay + fy), .int .i64 fx, .int .i64 fy, .int .i64 turn, .int .i64 gate, .bool done, .bool over])
      have hF := Lib.hid (hM.out.trans hf)
      clear L3 Z3 V3 S3 hf
      go_upto_region 9 with fail
      refine wp_copy (ty := 31) rfl hS.out Try.underlying31 rfl (by kernel_rfl) rfl rfl hZ.out rfl (by simp [Value.oneCell']) ?_
      rename_i K hK
      refine hK _ _ (wp_ret ?_)
      refine bodyPost_ret (res_row rfl rfl hRR.out Try.underlying31 rfl (by kernel_rfl)) rfl ?_
      exact ⟨by rw [hF.out], Below.setRow hBB.out (by omega) _⟩
    | false =>
      have hf : moveY l ⟨tick, ax + fx, ay, fx, fy, turn, gate, done, over⟩ = ⟨tick, ax + fx, ay, fx, -fy.tdiv 2, turn, gate, done, over⟩ := by simp only [moveY, hc2, Bool.false_eq_true, if_false, Int.neg_tdiv]
      have hS := Lib.hid (S3.s9_4 (.int .i64 (-fy.tdiv 2)))
      have hZ := Lib.hid (Z3.other (p := ⟨w.heap.size + 1, 4, none⟩) (by simp) (.int .i64 (-fy.tdiv 2)))
      have hBB := Lib.hid (hB3.setCell (p := ⟨w.heap.size + 1, 4, none⟩) (Nat.le_succ _) (.int .i64 (-fy.tdiv 2)))
      have hRR := Lib.hid (hZ.out.row #[.int .i64 tick, .int .i64 (ax + fx), .int .i64 ay, .int .i64 fx, .int .i64 (-fy.tdiv 2), .int .i64 turn, .int .i64 gate, .bool done, .bool over])
      have hF := Lib.hid (hM.out.trans hf)
      clear L3 Z3 V3 S3 hf
      go_upto_region 9 with fail
      refine wp_copy (ty := 31) rfl hS.out Try.underlying31 rfl (by kernel_rfl) rfl rfl hZ.out rfl (by simp [Value.oneCell']) ?_
      rename_i K hK
      refine hK _ _ (wp_ret ?_)
      refine bodyPost_ret (res_row rfl rfl hRR.out Try.underlying31 rfl (by kernel_rfl)) rfl ?_
      exact ⟨by rw [hF.out], Below.setRow hBB.out (by omega) _⟩
  | false =>
    have hM := Lib.hid (show moveY l (moveX l ⟨tick, ax, ay, fx, fy, turn, gate, done, over⟩) = moveY l ⟨tick, ax, ay, -fx.tdiv 2, fy, turn, gate, done, over⟩ by rw [show moveX l ⟨tick, ax, ay, fx, fy, turn, gate, done, over⟩ = ⟨tick, ax, ay, -fx.tdiv 2, fy, turn, gate, done, over⟩ by simp only [moveX, hc1, Bool.false_eq_true, if_false, Int.neg_tdiv]])
    have L2 := (L1.other (p := ⟨w.heap.size + 1, 3, none⟩) (by simp) (.int .i64 (-fx.tdiv 2)))
    have S2 := (S1.s9_3 (.int .i64 (-fx.tdiv 2)))
    have Z2 := (Z1.other (p := ⟨w.heap.size + 1, 3, none⟩) (by simp) (.int .i64 (-fx.tdiv 2)))
    have hB2 := (hB1.setCell (p := ⟨w.heap.size + 1, 3, none⟩) (Nat.le_succ _) (.int .i64 (-fx.tdiv 2)))
    have hL2 := Lib.hid L2
    have hS2 := Lib.hid S2
    have hZ2 := Lib.hid Z2
    have hB2h := Lib.hid hB2
    clear L2 S2 Z2 hB2 V1
    go_wp2_with fail
    refine (sFree l ax (ay + fy) _ hn ((hl.keep hB2h.out).keep ((Below.refl _ _).alloc (Nat.le_refl _) _)) hv (by omega) (by omega) (by omega) (by omega)).mono ?_
    rintro e w3 ⟨rfl, hb3⟩
    have L3 := (hL2.out.alloc _).below hb3 (by simp; omega)
    have S3 := (hS2.out.alloc _).below hb3 (by simp; omega)
    have Z3 := (hZ2.out.alloc _).below hb3 (by simp; omega)
    have V3 : Blk w3 w1.heap.size #[.int .i64 ax, .int .i64 (ay + fy)] := (Blk.at (by simp)).below hb3 (by simp)
    have hB3 : Below w.heap.size w w3 := hB2h.out.trans (((Below.refl _ _).alloc (Nat.le_refl _) _).trans (hb3.mono (by simp)) |>.mono hB2h.out.size)
    clear r0 r1 r2 r3 r4 r5 r6 r7 r8 sf v0 v1 hL2 hS2 hZ2 hb3 L1 S1 Z1 hB1
    obtain ⟨r0, r1, r2, r3, r4, r5, r6, r7, r8⟩ := S3.c9
    obtain ⟨v0, v1⟩ := V3.c2
    have sf := S3.frozen
    cases hc2 : frB l.wf ax (ay + fy) l.wn with
    | true =>
      have hf : moveY l ⟨tick, ax, ay, -fx.tdiv 2, fy, turn, gate, done, over⟩ = ⟨tick, ax, ay + fy, -fx.tdiv 2, fy, turn, gate, done, over⟩ := by simp only [moveY, hc2, if_true]
      have hS := Lib.hid ((S3.s9_1 (.int .i64 ax)).s9_2 (.int .i64 (ay + fy)))
      have hZ := Lib.hid ((Z3.other (p := ⟨w.heap.size + 1, 1, none⟩) (by simp) (.int .i64 ax)).other (p := ⟨w.heap.size + 1, 2, none⟩) (by simp) (.int .i64 (ay + fy)))
      have hBB := Lib.hid ((hB3.setCell (p := ⟨w.heap.size + 1, 1, none⟩) (Nat.le_succ _) (.int .i64 ax)).setCell (p := ⟨w.heap.size + 1, 2, none⟩) (Nat.le_succ _) (.int .i64 (ay + fy)))
      have hRR := Lib.hid (hZ.out.row #[.int .i64 tick, .int .i64 ax, .int .i64 (ay + fy), .int .i64 (-fx.tdiv 2), .int .i64 fy, .int .i64 turn, .int .i64 gate, .bool done, .bool over])
      have hF := Lib.hid (hM.out.trans hf)
      clear L3 Z3 V3 S3 hf
      go_upto_region 9 with fail
      refine wp_copy (ty := 31) rfl hS.out Try.underlying31 rfl (by kernel_rfl) rfl rfl hZ.out rfl (by simp [Value.oneCell']) ?_
      rename_i K hK
      refine hK _ _ (wp_ret ?_)
      refine bodyPost_ret (res_row rfl rfl hRR.out Try.underlying31 rfl (by kernel_rfl)) rfl ?_
      exact ⟨by rw [hF.out], Below.setRow hBB.out (by omega) _⟩
    | false =>
      have hf : moveY l ⟨tick, ax, ay, -fx.tdiv 2, fy, turn, gate, done, over⟩ = ⟨tick, ax, ay, -fx.tdiv 2, -fy.tdiv 2, turn, gate, done, over⟩ := by simp only [moveY, hc2, Bool.false_eq_true, if_false, Int.neg_tdiv]
      have hS := Lib.hid (S3.s9_4 (.int .i64 (-fy.tdiv 2)))
      have hZ := Lib.hid (Z3.other (p := ⟨w.heap.size + 1, 4, none⟩) (by simp) (.int .i64 (-fy.tdiv 2)))
      have hBB := Lib.hid (hB3.setCell (p := ⟨w.heap.size + 1, 4, none⟩) (Nat.le_succ _) (.int .i64 (-fy.tdiv 2)))
      have hRR := Lib.hid (hZ.out.row #[.int .i64 tick, .int .i64 ax, .int .i64 ay, .int .i64 (-fx.tdiv 2), .int .i64 (-fy.tdiv 2), .int .i64 turn, .int .i64 gate, .bool done, .bool over])
      have hF := Lib.hid (hM.out.trans hf)
      clear L3 Z3 V3 S3 hf
      go_upto_region 9 with fail
      refine wp_copy (ty := 31) rfl hS.out Try.underlying31 rfl (by kernel_rfl) rfl rfl hZ.out rfl (by simp [Value.oneCell']) ?_
      rename_i K hK
      refine hK _ _ (wp_ret ?_)
      refine bodyPost_ret (res_row rfl rfl hRR.out Try.underlying31 rfl (by kernel_rfl)) rfl ?_
      exact ⟨by rw [hF.out], Below.setRow hBB.out (by omega) _⟩
end Go.Proofs.Ytnhjalijnociaaa
