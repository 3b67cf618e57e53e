/- A level and a point drawn. -/
import Derived.Test.YtgghfbkeipchkaaDi
set_option linter.unusedVariables false
set_option linter.unusedSimpArgs false
namespace Go.Proofs.Ytgghfbkeipchkaa
open Go.RowKit

/-- a level and a point drawn by a law -/
def DrawnLvVec (w : World) (e : Ending) (w' : World) : Prop := ∃ (l : Lv) (R : Nat) (x y : Int), e = .returned (.tuple #[.agg #[.int .i64 l.id, .int .i64 l.ticks, .int .i64 l.sx, .int .i64 l.sy, .slice l.wa l.wn l.wc, .slice l.ga l.gn l.gc, .int .i64 l.flx, .int .i64 l.fly, .int .i64 l.fhx, .int .i64 l.fhy, .int .i64 l.bans], .agg #[.int .i64 x, .int .i64 y]]) ∧ w.heap.size ≤ R ∧ LvR w' R l ∧ l.sm 6 ∧ (-1020000 ≤ x ∧ x ≤ 1020000) ∧ (-1020000 ≤ y ∧ y ≤ 1020000) ∧ Below w.heap.size w w'
set_option maxRecDepth 100000 in
set_option maxHeartbeats 2000000 in
theorem dLevelFree (a : Option Addr) (len cap : Nat) (zs : List Int) (w : World) (h : IsRow .u8 w a len cap zs) : Calls Try.prog 29 #[.slice a len cap] w (DrawnLvVec w) := by
  go_enter Try.func29, Try.ntmps29
  go_wp2_with fail
  refine (open_any _ _ _ _ _ (h.keep (by (repeat (first | with_reducible assumption | with_reducible exact Below.refl _ _ | ((with_reducible refine Below.alloc ?_ ?_ _); rotate_left; · exact (by first | omega | (simp; done) | (simp; omega))) | ((with_reducible refine Below.setCell ?_ ?_ _); rotate_left; · exact (by first | omega | (simp; done) | (simp; omega))) | with_reducible refine Below.drew ?_ | assumption | exact Below.refl _ _ | refine Below.alloc ?_ (by first | omega | (simp; done) | (simp; omega)) _ | refine Below.setCell ?_ (by first | omega | (simp; done) | (simp; omega)) _ | refine Below.drew ?_))))).mono ?_
  rintro e w1 ⟨R, rfl, hR0, hr1, hb1⟩
  have hR : w.heap.size + 1 < R := by simp at hR0; omega
  have Z1 : Blk w1 w.heap.size #[.int .i64 0, .int .i64 0, .int .i64 0, .int .i64 0, .slice none 0 0, .slice none 0 0, .int .i64 0, .int .i64 0, .int .i64 0, .int .i64 0, .int .i64 0] := ((Blk.at rfl).alloc _).below hb1 (by simp; omega)
  have Y1 : Blk w1 (w.heap.size + 1) #[.int .i64 0, .int .i64 0] := (Blk.at (by simp)).below hb1 (by simp)
  have hU1 : Up R w.heap.size w w1 := Up.of_below (bstep (by (repeat (first | with_reducible assumption | with_reducible exact Below.refl _ _ | ((with_reducible refine Below.alloc ?_ ?_ _); rotate_left; · exact (by first | omega | (simp; done) | (simp; omega))) | ((with_reducible refine Below.setCell ?_ ?_ _); rotate_left; · exact (by first | omega | (simp; done) | (simp; omega))) | with_reducible refine Below.drew ?_ | assumption | exact Below.refl _ _ | refine Below.alloc ?_ (by first | omega | (simp; done) | (simp; omega)) _ | refine Below.setCell ?_ (by first | omega | (simp; done) | (simp; omega)) _ | refine Below.drew ?_))) (by first | omega | (simp; done) | (simp; omega)) hb1)
  have n0 : w.heap.size ≠ R := by omega
  have n1 : w.heap.size + 1 ≠ R := by omega
  have hRl := hr1.lt
  go_wp2_with fail
  refine (lLevel_any R 0 _ hr1 (by omega)).mono ?_
  rintro e w2 ⟨l2, k2, rfl, hl2, hs2, hk1, hk2, hr2, hu2⟩
  go_wp2_with fail
  refine (lBent_any R k2 l2 _ hr2 (by omega) hl2 hs2).mono ?_
  rintro e w3 ⟨l, k3, rfl, hl3, hs3, hk3, hk4, hr3, hu3⟩
  have hU2 : Up R w.heap.size w w2 := hU1.trans (hu2.mono hU1.size)
  have hU3 : Up R w.heap.size w w3 := hU2.trans (hu3.mono hU2.size)
  have Z3 := (Z1.up hu2 Z1.lt n0).up hu3 (Z1.up hu2 Z1.lt n0).lt n0
  have Y3 := (Y1.up hu2 Y1.lt n1).up hu3 (Y1.up hu2 Y1.lt n1).lt n1
  have hD3 : DM w R k3 l w3 := ⟨hr3, hU3, hl3, hs3, by omega⟩
  have hVR : w3.heap.size ≠ R := by have := hr3.lt; omega
  have hz3 := Z3.lt
  clear Z1 Y1 hU1 hU2 hU3 hu2 hu3 hr1 hr2 hr3 hl2 hs2 hl3 hb1
  have E4D := hD3.alloc (.cells #[.int .i64 l.id, .int .i64 l.ticks, .int .i64 l.sx, .int .i64 l.sy, .slice l.wa l.wn l.wc, .slice l.ga l.gn l.gc, .int .i64 l.flx, .int .i64 l.fly, .int .i64 l.fhx, .int .i64 l.fhy, .int .i64 l.bans] 37)
  have E4V : Blk (w3.alloc (.cells #[.int .i64 l.id, .int .i64 l.ticks, .int .i64 l.sx, .int .i64 l.sy, .slice l.wa l.wn l.wc, .slice l.ga l.gn l.gc, .int .i64 l.flx, .int .i64 l.fly, .int .i64 l.fhx, .int .i64 l.fhy, .int .i64 l.bans] 37)) w3.heap.size #[.int .i64 l.id, .int .i64 l.ticks, .int .i64 l.sx, .int .i64 l.sy, .slice l.wa l.wn l.wc, .slice l.ga l.gn l.gc, .int .i64 l.flx, .int .i64 l.fly, .int .i64 l.fhx, .int .i64 l.fhy, .int .i64 l.bans] := Blk.at rfl
  have E4Z := Z3.alloc (.cells #[.int .i64 l.id, .int .i64 l.ticks, .int .i64 l.sx, .int .i64 l.sy, .slice l.wa l.wn l.wc, .slice l.ga l.gn l.gc, .int .i64 l.flx, .int .i64 l.fly, .int .i64 l.fhx, .int .i64 l.fhy, .int .i64 l.bans] 37)
  have E4Y := Y3.alloc (.cells #[.int .i64 l.id, .int .i64 l.ticks, .int .i64 l.sx, .int .i64 l.sy, .slice l.wa l.wn l.wc, .slice l.ga l.gn l.gc, .int .i64 l.flx, .int .i64 l.fly, .int .i64 l.fhx, .int .i64 l.fhy, .int .i64 l.bans] 37)
  clear Z3 Y3 hD3
  by_cases hw0 : l.wn = 0
  · have hwi : ¬ (0 : Int) < (l.wn : Int) := by omega
    have hW := Lib.hid hw0
    clear hw0
    go_wp2_with fail
    have E5D := E4D.drew
    have E5V : Blk (w3.alloc (.cells #[.int .i64 l.id, .int .i64 l.ticks, .int .i64 l.sx, .int .i64 l.sy, .slice l.wa l.wn l.wc, .slice l.ga l.gn l.gc, .int .i64 l.flx, .int .i64 l.fly, .int .i64 l.fhx, .int .i64 l.fhy, .int .i64 l.bans] 37)).drew w3.heap.size #[.int .i64 l.id, .int .i64 l.ticks, .int .i64 l.sx, .int .i64 l.sy, .slice l.wa l.wn l.wc, .slice l.ga l.gn l.gc, .int .i64 l.flx, .int .i64 l.fly, .int .i64 l.fhx, .int .i64 l.fhy, .int .i64 l.bans] := E4V
    have E5Z : Blk (w3.alloc (.cells #[.int .i64 l.id, .int .i64 l.ticks, .int .i64 l.sx, .int .i64 l.sy, .slice l.wa l.wn l.wc, .slice l.ga l.gn l.gc, .int .i64 l.flx, .int .i64 l.fly, .int .i64 l.fhx, .int .i64 l.fhy, .int .i64 l.bans] 37)).drew w.heap.size #[.int .i64 0, .int .i64 0, .int .i64 0, .int .i64 0, .slice none 0 0, .slice none 0 0, .int .i64 0, .int .i64 0, .int .i64 0, .int .i64 0, .int .i64 0] := E4Z
    have E5Y : Blk (w3.alloc (.cells #[.int .i64 l.id, .int .i64 l.ticks, .int .i64 l.sx, .int .i64 l.sy, .slice l.wa l.wn l.wc, .slice l.ga l.gn l.gc, .int .i64 l.flx, .int .i64 l.fly, .int .i64 l.fhx, .int .i64 l.fhy, .int .i64 l.bans] 37)).drew (w.heap.size + 1) #[.int .i64 0, .int .i64 0] := E4Y
    clear E4D E4V E4Z E4Y
    refine wp_region_cut 3 (by kernel_rfl) (by kernel_rfl) (S := fun W => W.cell? ⟨w3.heap.size, 0, none⟩ = some (.int .i64 l.id) ∧ W.cell? ⟨w3.heap.size, 1, none⟩ = some (.int .i64 l.ticks) ∧ W.cell? ⟨w3.heap.size, 2, none⟩ = some (.int .i64 l.sx) ∧ W.cell? ⟨w3.heap.size, 3, none⟩ = some (.int .i64 l.sy) ∧ W.cell? ⟨w3.heap.size, 4, none⟩ = some (.slice l.wa l.wn l.wc) ∧ W.cell? ⟨w3.heap.size, 5, none⟩ = some (.slice l.ga l.gn l.gc) ∧ W.cell? ⟨w3.heap.size, 6, none⟩ = some (.int .i64 l.flx) ∧ W.cell? ⟨w3.heap.size, 7, none⟩ = some (.int .i64 l.fly) ∧ W.cell? ⟨w3.heap.size, 8, none⟩ = some (.int .i64 l.fhx) ∧ W.cell? ⟨w3.heap.size, 9, none⟩ = some (.int .i64 l.fhy) ∧ W.cell? ⟨w3.heap.size, 10, none⟩ = some (.int .i64 l.bans)) E5V.c11 (fun hHeld => ?_)
    simp only [List.take_succ_cons, List.take_zero]
    (refine wpAnyH_take (i := 0) (v := ?_) rfl (by kernel_rfl) (by kernel_rfl) (by kernel_rfl) (fun _ _ _ h => h) (Or.inl ⟨by rfl, ?_⟩) (by assumption) ?_; rotate_left; · (intro w hSw; (try dsimp only at hSw); go_simp; (try with_reducible rfl))); (try simp only [Act.put, List.setIfInBounds_toArray, List.set_cons_zero, List.set_cons_succ])
    (refine wpAnyH_take (i := 1) (v := ?_) rfl (by kernel_rfl) (by kernel_rfl) (by kernel_rfl) (fun _ _ _ h => h) (Or.inl ⟨by rfl, ?_⟩) (by assumption) ?_; rotate_left; · (intro w hSw; (try dsimp only at hSw); go_simp; (try with_reducible rfl))); (try simp only [Act.put, List.setIfInBounds_toArray, List.set_cons_zero, List.set_cons_succ])
    refine wpAnyH_ready (rs := [2]) (by kernel_rfl) (by simp) ?_; refine AllReadyH.cons rfl (fun K hK => ?_) AllReadyH.nil; (try simp only [List.getElem_toArray, List.getElem_cons_succ, List.getElem_cons_zero])
    go_simp
    go_at_call 70
    refine (lVec_any R k3 _ E5D.rd (by omega)).mono ?_
    rintro e w7 ⟨x, y, k7, rfl, hx1, hx2, hy1, hy2, hk7, hk8, hr7, hu7⟩
    have E7D := E5D.pass hr7 hu7
    have E7V := E5V.up hu7 E5V.lt hVR
    have E7Z := E5Z.up hu7 E5Z.lt n0
    have E7Y := E5Y.up hu7 E5Y.lt n1
    go_wp2_with fail
    refine hK.out _ _ (E7V.c11) (fun hHeld => ?_); clear hK K; (try simp only [Act.put, List.setIfInBounds_toArray, List.set_cons_zero, List.set_cons_succ])
    clear hr7 hu7
    refine wpAnyH_done (by kernel_rfl) ?_ _
    simp only [TailQ, List.drop_succ_cons, List.drop_zero]
    clear hHeld
    refine st_row rfl rfl E7Z (by kernel_rfl) rfl (by simp [Value.oneCell']) ?_
    have ZA := E7Z.row #[.int .i64 l.id, .int .i64 l.ticks, .int .i64 l.sx, .int .i64 l.sy, .slice l.wa l.wn l.wc, .slice l.ga l.gn l.gc, .int .i64 l.flx, .int .i64 l.fly, .int .i64 l.fhx, .int .i64 l.fhy, .int .i64 l.bans]
    have YA := E7Y.rowOther (g := w.heap.size) (by omega) #[.int .i64 l.id, .int .i64 l.ticks, .int .i64 l.sx, .int .i64 l.sy, .slice l.wa l.wn l.wc, .slice l.ga l.gn l.gc, .int .i64 l.flx, .int .i64 l.fly, .int .i64 l.fhx, .int .i64 l.fhy, .int .i64 l.bans]
    have A8 := up_row w.heap.size w7 #[.int .i64 l.id, .int .i64 l.ticks, .int .i64 l.sx, .int .i64 l.sy, .slice l.wa l.wn l.wc, .slice l.ga l.gn l.gc, .int .i64 l.flx, .int .i64 l.fly, .int .i64 l.fhx, .int .i64 l.fhy, .int .i64 l.bans]
    refine st_row rfl rfl YA (by kernel_rfl) rfl (by simp [Value.oneCell']) ?_
    refine wpList_nil ?_
    have ZB := ZA.rowOther (g := w.heap.size + 1) (by omega) #[.int .i64 x, .int .i64 y]
    have YB := YA.row #[.int .i64 x, .int .i64 y]
    have A9 := up_row (w.heap.size + 1) (w7.setRow w.heap.size #[.int .i64 l.id, .int .i64 l.ticks, .int .i64 l.sx, .int .i64 l.sy, .slice l.wa l.wn l.wc, .slice l.ga l.gn l.gc, .int .i64 l.flx, .int .i64 l.fly, .int .i64 l.fhx, .int .i64 l.fhy, .int .i64 l.bans]) #[.int .i64 x, .int .i64 y]
    obtain ⟨hL8, hB8⟩ := E7D.fin A8 (Nat.le_refl _) (by omega)
    have hL9 := hL8.set A9 (by omega)
    have hB9 := hB8.trans (A9.under (B := w.heap.size) (by omega) hB8.size)
    generalize (w7.setRow w.heap.size #[.int .i64 l.id, .int .i64 l.ticks, .int .i64 l.sx, .int .i64 l.sy, .slice l.wa l.wn l.wc, .slice l.ga l.gn l.gc, .int .i64 l.flx, .int .i64 l.fly, .int .i64 l.fhx, .int .i64 l.fhy, .int .i64 l.bans]).setRow (w.heap.size + 1) #[.int .i64 x, .int .i64 y] = W9 at *
    clear ZA YA A8 A9 hL8 hB8
    go_wp2
    refine bodyPost_ret (res_row_row rfl rfl ZB Try.underlying37 rfl (by kernel_rfl) rfl YB Try.underlying24 rfl (by kernel_rfl)) rfl ?_
    exact ⟨l, R, x, y, rfl, by omega, hL9, hs3, ⟨by omega, by omega⟩, ⟨by omega, by omega⟩, hB9⟩
  · have hwi : (0 : Int) < (l.wn : Int) := by omega
    go_wp2_with fail
    refine (pick_any R k3 3 _ E4D.rd (by omega) (by omega) (by omega)).mono ?_
    rintro e w5 ⟨v5, rfl, hv5, hw5, hr5, hu5⟩
    have E5D := E4D.pass hr5 hu5
    have E5V := E4V.up hu5 E4V.lt hVR
    have E5Z := E4Z.up hu5 E4Z.lt n0
    have E5Y := E4Y.up hu5 E4Y.lt n1
    clear E4D E4V E4Z E4Y hr5 hu5
    by_cases h5 : 0 < v5
    · obtain ⟨bb, off, hwa, hbl, hbc⟩ := E5D.lv.1.1.resolve_left hw0
      have hWa := Lib.hid hwa
      have hBc := Lib.hid hbc
      clear hwa hbc hw0
      go_wp2_with fail
      have E6D := E5D.drew
      have E6V : Blk w5.drew w3.heap.size #[.int .i64 l.id, .int .i64 l.ticks, .int .i64 l.sx, .int .i64 l.sy, .slice l.wa l.wn l.wc, .slice l.ga l.gn l.gc, .int .i64 l.flx, .int .i64 l.fly, .int .i64 l.fhx, .int .i64 l.fhy, .int .i64 l.bans] := E5V
      have E6Z : Blk w5.drew w.heap.size #[.int .i64 0, .int .i64 0, .int .i64 0, .int .i64 0, .slice none 0 0, .slice none 0 0, .int .i64 0, .int .i64 0, .int .i64 0, .int .i64 0, .int .i64 0] := E5Z
      have E6Y : Blk w5.drew (w.heap.size + 1) #[.int .i64 0, .int .i64 0] := E5Y
      clear E5D E5V E5Z E5Y
      refine wp_region_cut 12 (by kernel_rfl) (by kernel_rfl) (S := fun W => (W.cell? ⟨w3.heap.size, 0, none⟩ = some (.int .i64 l.id) ∧ W.cell? ⟨w3.heap.size, 1, none⟩ = some (.int .i64 l.ticks) ∧ W.cell? ⟨w3.heap.size, 2, none⟩ = some (.int .i64 l.sx) ∧ W.cell? ⟨w3.heap.size, 3, none⟩ = some (.int .i64 l.sy) ∧ W.cell? ⟨w3.heap.size, 4, none⟩ = some (.slice l.wa l.wn l.wc) ∧ W.cell? ⟨w3.heap.size, 5, none⟩ = some (.slice l.ga l.gn l.gc) ∧ W.cell? ⟨w3.heap.size, 6, none⟩ = some (.int .i64 l.flx) ∧ W.cell? ⟨w3.heap.size, 7, none⟩ = some (.int .i64 l.fly) ∧ W.cell? ⟨w3.heap.size, 8, none⟩ = some (.int .i64 l.fhx) ∧ W.cell? ⟨w3.heap.size, 9, none⟩ = some (.int .i64 l.fhy) ∧ W.cell? ⟨w3.heap.size, 10, none⟩ = some (.int .i64 l.bans)) ∧ BoxesAt W l.wa l.wn l.wf) ⟨E6V.c11, E6D.lv.1.1⟩ (fun hHeld => ?_)
      simp only [List.take_succ_cons, List.take_zero]
      (refine wpAnyH_take (i := 0) (v := ?_) rfl (by kernel_rfl) (by kernel_rfl) (by kernel_rfl) (fun _ _ _ h => h) (Or.inl ⟨by rfl, ?_⟩) (by assumption) ?_; rotate_left; · (intro w hSw; (try dsimp only at hSw); go_simp; (try with_reducible rfl))); (try simp only [Act.put, List.setIfInBounds_toArray, List.set_cons_zero, List.set_cons_succ])
      (refine wpAnyH_take (i := 1) (v := ?_) rfl (by kernel_rfl) (by kernel_rfl) (by kernel_rfl) (fun _ _ _ h => h) (Or.inl ⟨by rfl, ?_⟩) (by assumption) ?_; rotate_left; · (intro w hSw; (try dsimp only at hSw); go_simp; (try with_reducible rfl))); (try simp only [Act.put, List.setIfInBounds_toArray, List.set_cons_zero, List.set_cons_succ])
      (refine wpAnyH_take (i := 2) (v := ?_) rfl (by kernel_rfl) (by kernel_rfl) (by kernel_rfl) (fun _ _ _ h => h) (Or.inl ⟨by rfl, ?_⟩) (by assumption) ?_; rotate_left; · (intro w hSw; (try dsimp only at hSw); go_simp; (try with_reducible rfl))); (try simp only [Act.put, List.setIfInBounds_toArray, List.set_cons_zero, List.set_cons_succ])
      (refine wpAnyH_take (i := 3) (v := ?_) rfl (by kernel_rfl) (by kernel_rfl) (by kernel_rfl) (fun _ _ _ h => h) (Or.inl ⟨by rfl, ?_⟩) (by assumption) ?_; rotate_left; · (intro w hSw; (try dsimp only at hSw); go_simp; (try with_reducible rfl))); (try simp only [Act.put, List.setIfInBounds_toArray, List.set_cons_zero, List.set_cons_succ])
      (refine wpAnyH_take (i := 4) (v := ?_) rfl (by kernel_rfl) (by kernel_rfl) (by kernel_rfl) (fun _ _ _ h => h) (Or.inl ⟨by rfl, ?_⟩) (by assumption) ?_; rotate_left; · (intro w hSw; (try dsimp only at hSw); go_simp; (try with_reducible rfl))); (try simp only [Act.put, List.setIfInBounds_toArray, List.set_cons_zero, List.set_cons_succ])
      (refine wpAnyH_take (i := 5) (v := ?_) rfl (by kernel_rfl) (by kernel_rfl) (by kernel_rfl) (fun _ _ _ h => h) (Or.inl ⟨by rfl, ?_⟩) (by assumption) ?_; rotate_left; · (intro w hSw; (try dsimp only at hSw); go_simp; (try with_reducible rfl))); (try simp only [Act.put, List.setIfInBounds_toArray, List.set_cons_zero, List.set_cons_succ])
      (refine wpAnyH_take (i := 6) (v := ?_) rfl (by kernel_rfl) (by kernel_rfl) (by kernel_rfl) (fun _ _ _ h => h) (Or.inl ⟨by rfl, ?_⟩) (by assumption) ?_; rotate_left; · (intro w hSw; (try dsimp only at hSw); go_simp; (try with_reducible rfl))); (try simp only [Act.put, List.setIfInBounds_toArray, List.set_cons_zero, List.set_cons_succ])
      (refine wpAnyH_take (i := 7) (v := ?_) rfl (by kernel_rfl) (by kernel_rfl) (by kernel_rfl) (fun _ _ _ h => h) (Or.inl ⟨by rfl, ?_⟩) (by assumption) ?_; rotate_left; · (intro w hSw; (try dsimp only at hSw); go_simp; (try with_reducible rfl))); (try simp only [Act.put, List.setIfInBounds_toArray, List.set_cons_zero, List.set_cons_succ])
      refine wpAnyH_ready (rs := [8]) (by kernel_rfl) (by simp) ?_; refine AllReadyH.cons rfl (fun K hK => ?_) AllReadyH.nil; (try simp only [List.getElem_toArray, List.getElem_cons_succ, List.getElem_cons_zero])
      go_simp
      go_at_call 52
      have hs4 := hs3.wn
      refine (pick_any R (k3 + 1) _ _ E6D.rd (by omega) (by omega) (by omega)).mono ?_
      rintro e w7 ⟨v7, rfl, hv7, hw7, hr7, hu7⟩
      obtain ⟨m, rfl⟩ := Int.eq_ofNat_of_zero_le hv7
      have hm : m < l.wn := by omega
      have E7D := E6D.pass hr7 hu7
      have E7V := E6V.up hu7 E6V.lt hVR
      have E7Z := E6Z.up hu7 E6Z.lt n0
      have E7Y := E6Y.up hu7 E6Y.lt n1
      clear E6D E6V E6Z E6Y hr7 hu7
      go_wp2_with fail
      refine hK.out _ _ (⟨E7V.c11, E7D.lv.1.1⟩) (fun hHeld => ?_); clear hK K; (try simp only [Act.put, List.setIfInBounds_toArray, List.set_cons_zero, List.set_cons_succ])
      refine wpAnyH_take (i := 9) (v := .pointer (some ⟨bb, off + m * 4, none⟩)) rfl (by kernel_rfl) (by kernel_rfl) (by kernel_rfl) (fun _ _ _ h => h) (Or.inl ⟨by rfl, ?_⟩) (by assumption) ?_
      · intro w hSw
        have hwa := hWa.out
        clear hSw hHeld
        go_simp
      (try simp only [Act.put, List.setIfInBounds_toArray, List.set_cons_zero, List.set_cons_succ])
      refine wpAnyH_take (i := 10) (v := .agg #[.int .i64 (l.wf m).lx, .int .i64 (l.wf m).ly, .int .i64 (l.wf m).hx, .int .i64 (l.wf m).hy]) rfl (by kernel_rfl) (by kernel_rfl) (by kernel_rfl) (fun _ _ _ h => h) (Or.inl ⟨by rfl, ?_⟩) (by assumption) ?_
      · intro w hSw
        have hwa := hWa.out
        have hbx := hSw.2
        rw [hwa] at hbx
        rcases hbx with hbx | ⟨b2, off2, he, _, hc⟩
        · omega
        · simp only [Option.some.injEq, Addr.mk.injEq, and_true] at he
          obtain ⟨rfl, rfl⟩ := he
          obtain ⟨g0, g1, g2, g3⟩ := hc m hm
          clear hSw hHeld hc
          go_simp
      (try simp only [Act.put, List.setIfInBounds_toArray, List.set_cons_zero, List.set_cons_succ])
      obtain ⟨⟨t1, t2⟩, ⟨t3, t4⟩, _, _⟩ := hs3.walls m hm
      refine wpAnyH_ready (rs := [11]) (by kernel_rfl) (by simp) ?_; refine AllReadyH.cons rfl (fun K hK => ?_) AllReadyH.nil; (try simp only [List.getElem_toArray, List.getElem_cons_succ, List.getElem_cons_zero])
      go_simp
      go_at_call 53
      refine (lNear_any R (k3 + 1 + 1) _ _ _ _ _ E7D.rd (by omega) t1 t2 t3 t4).mono ?_
      rintro e w8 ⟨x, y, k8, rfl, hx1, hx2, hy1, hy2, hk7, hk8, hr8, hu8⟩
      have E8D := E7D.pass hr8 hu8
      have E8V := E7V.up hu8 E7V.lt hVR
      have E8Z := E7Z.up hu8 E7Z.lt n0
      have E8Y := E7Y.up hu8 E7Y.lt n1
      go_wp2_with fail
      refine hK.out _ _ (⟨E8V.c11, E8D.lv.1.1⟩) (fun hHeld => ?_); clear hK K; (try simp only [Act.put, List.setIfInBounds_toArray, List.set_cons_zero, List.set_cons_succ])
      clear hr8 hu8
      refine wpAnyH_done (by kernel_rfl) ?_ _
      simp only [TailQ, List.drop_succ_cons, List.drop_zero]
      clear hHeld
      refine st_row rfl rfl E8Z (by kernel_rfl) rfl (by simp [Value.oneCell']) ?_
      have ZA := E8Z.row #[.int .i64 l.id, .int .i64 l.ticks, .int .i64 l.sx, .int .i64 l.sy, .slice l.wa l.wn l.wc, .slice l.ga l.gn l.gc, .int .i64 l.flx, .int .i64 l.fly, .int .i64 l.fhx, .int .i64 l.fhy, .int .i64 l.bans]
      have YA := E8Y.rowOther (g := w.heap.size) (by omega) #[.int .i64 l.id, .int .i64 l.ticks, .int .i64 l.sx, .int .i64 l.sy, .slice l.wa l.wn l.wc, .slice l.ga l.gn l.gc, .int .i64 l.flx, .int .i64 l.fly, .int .i64 l.fhx, .int .i64 l.fhy, .int .i64 l.bans]
      have A8 := up_row w.heap.size w8 #[.int .i64 l.id, .int .i64 l.ticks, .int .i64 l.sx, .int .i64 l.sy, .slice l.wa l.wn l.wc, .slice l.ga l.gn l.gc, .int .i64 l.flx, .int .i64 l.fly, .int .i64 l.fhx, .int .i64 l.fhy, .int .i64 l.bans]
      refine st_row rfl rfl YA (by kernel_rfl) rfl (by simp [Value.oneCell']) ?_
      refine wpList_nil ?_
      have ZB := ZA.rowOther (g := w.heap.size + 1) (by omega) #[.int .i64 x, .int .i64 y]
      have YB := YA.row #[.int .i64 x, .int .i64 y]
      have A9 := up_row (w.heap.size + 1) (w8.setRow w.heap.size #[.int .i64 l.id, .int .i64 l.ticks, .int .i64 l.sx, .int .i64 l.sy, .slice l.wa l.wn l.wc, .slice l.ga l.gn l.gc, .int .i64 l.flx, .int .i64 l.fly, .int .i64 l.fhx, .int .i64 l.fhy, .int .i64 l.bans]) #[.int .i64 x, .int .i64 y]
      obtain ⟨hL8, hB8⟩ := E8D.fin A8 (Nat.le_refl _) (by omega)
      have hL9 := hL8.set A9 (by omega)
      have hB9 := hB8.trans (A9.under (B := w.heap.size) (by omega) hB8.size)
      generalize (w8.setRow w.heap.size #[.int .i64 l.id, .int .i64 l.ticks, .int .i64 l.sx, .int .i64 l.sy, .slice l.wa l.wn l.wc, .slice l.ga l.gn l.gc, .int .i64 l.flx, .int .i64 l.fly, .int .i64 l.fhx, .int .i64 l.fhy, .int .i64 l.bans]).setRow (w.heap.size + 1) #[.int .i64 x, .int .i64 y] = W9 at *
      clear ZA YA A8 A9 hL8 hB8
      go_wp2
      refine bodyPost_ret (res_row_row rfl rfl ZB Try.underlying37 rfl (by kernel_rfl) rfl YB Try.underlying24 rfl (by kernel_rfl)) rfl ?_
      exact ⟨l, R, x, y, rfl, by omega, hL9, hs3, ⟨by omega, by omega⟩, ⟨by omega, by omega⟩, hB9⟩
    · clear hw0
      go_wp2_with fail
      have E6D := E5D.drew
      have E6V : Blk w5.drew w3.heap.size #[.int .i64 l.id, .int .i64 l.ticks, .int .i64 l.sx, .int .i64 l.sy, .slice l.wa l.wn l.wc, .slice l.ga l.gn l.gc, .int .i64 l.flx, .int .i64 l.fly, .int .i64 l.fhx, .int .i64 l.fhy, .int .i64 l.bans] := E5V
      have E6Z : Blk w5.drew w.heap.size #[.int .i64 0, .int .i64 0, .int .i64 0, .int .i64 0, .slice none 0 0, .slice none 0 0, .int .i64 0, .int .i64 0, .int .i64 0, .int .i64 0, .int .i64 0] := E5Z
      have E6Y : Blk w5.drew (w.heap.size + 1) #[.int .i64 0, .int .i64 0] := E5Y
      clear E5D E5V E5Z E5Y
      refine wp_region_cut 3 (by kernel_rfl) (by kernel_rfl) (S := fun W => W.cell? ⟨w3.heap.size, 0, none⟩ = some (.int .i64 l.id) ∧ W.cell? ⟨w3.heap.size, 1, none⟩ = some (.int .i64 l.ticks) ∧ W.cell? ⟨w3.heap.size, 2, none⟩ = some (.int .i64 l.sx) ∧ W.cell? ⟨w3.heap.size, 3, none⟩ = some (.int .i64 l.sy) ∧ W.cell? ⟨w3.heap.size, 4, none⟩ = some (.slice l.wa l.wn l.wc) ∧ W.cell? ⟨w3.heap.size, 5, none⟩ = some (.slice l.ga l.gn l.gc) ∧ W.cell? ⟨w3.heap.size, 6, none⟩ = some (.int .i64 l.flx) ∧ W.cell? ⟨w3.heap.size, 7, none⟩ = some (.int .i64 l.fly) ∧ W.cell? ⟨w3.heap.size, 8, none⟩ = some (.int .i64 l.fhx) ∧ W.cell? ⟨w3.heap.size, 9, none⟩ = some (.int .i64 l.fhy) ∧ W.cell? ⟨w3.heap.size, 10, none⟩ = some (.int .i64 l.bans)) E6V.c11 (fun hHeld => ?_)
      simp only [List.take_succ_cons, List.take_zero]
      (refine wpAnyH_take (i := 0) (v := ?_) rfl (by kernel_rfl) (by kernel_rfl) (by kernel_rfl) (fun _ _ _ h => h) (Or.inl ⟨by rfl, ?_⟩) (by assumption) ?_; rotate_left; · (intro w hSw; (try dsimp only at hSw); go_simp; (try with_reducible rfl))); (try simp only [Act.put, List.setIfInBounds_toArray, List.set_cons_zero, List.set_cons_succ])
      (refine wpAnyH_take (i := 1) (v := ?_) rfl (by kernel_rfl) (by kernel_rfl) (by kernel_rfl) (fun _ _ _ h => h) (Or.inl ⟨by rfl, ?_⟩) (by assumption) ?_; rotate_left; · (intro w hSw; (try dsimp only at hSw); go_simp; (try with_reducible rfl))); (try simp only [Act.put, List.setIfInBounds_toArray, List.set_cons_zero, List.set_cons_succ])
      refine wpAnyH_ready (rs := [2]) (by kernel_rfl) (by simp) ?_; refine AllReadyH.cons rfl (fun K hK => ?_) AllReadyH.nil; (try simp only [List.getElem_toArray, List.getElem_cons_succ, List.getElem_cons_zero])
      go_simp
      go_at_call 70
      refine (lVec_any R (k3 + 1) _ E6D.rd (by omega)).mono ?_
      rintro e w7 ⟨x, y, k7, rfl, hx1, hx2, hy1, hy2, hk7, hk8, hr7, hu7⟩
      have E7D := E6D.pass hr7 hu7
      have E7V := E6V.up hu7 E6V.lt hVR
      have E7Z := E6Z.up hu7 E6Z.lt n0
      have E7Y := E6Y.up hu7 E6Y.lt n1
      go_wp2_with fail
      refine hK.out _ _ (E7V.c11) (fun hHeld => ?_); clear hK K; (try simp only [Act.put, List.setIfInBounds_toArray, List.set_cons_zero, List.set_cons_succ])
      clear hr7 hu7
      refine wpAnyH_done (by kernel_rfl) ?_ _
      simp only [TailQ, List.drop_succ_cons, List.drop_zero]
      clear hHeld
      refine st_row rfl rfl E7Z (by kernel_rfl) rfl (by simp [Value.oneCell']) ?_
      have ZA := E7Z.row #[.int .i64 l.id, .int .i64 l.ticks, .int .i64 l.sx, .int .i64 l.sy, .slice l.wa l.wn l.wc, .slice l.ga l.gn l.gc, .int .i64 l.flx, .int .i64 l.fly, .int .i64 l.fhx, .int .i64 l.fhy, .int .i64 l.bans]
      have YA := E7Y.rowOther (g := w.heap.size) (by omega) #[.int .i64 l.id, .int .i64 l.ticks, .int .i64 l.sx, .int .i64 l.sy, .slice l.wa l.wn l.wc, .slice l.ga l.gn l.gc, .int .i64 l.flx, .int .i64 l.fly, .int .i64 l.fhx, .int .i64 l.fhy, .int .i64 l.bans]
      have A8 := up_row w.heap.size w7 #[.int .i64 l.id, .int .i64 l.ticks, .int .i64 l.sx, .int .i64 l.sy, .slice l.wa l.wn l.wc, .slice l.ga l.gn l.gc, .int .i64 l.flx, .int .i64 l.fly, .int .i64 l.fhx, .int .i64 l.fhy, .int .i64 l.bans]
      refine st_row rfl rfl YA (by kernel_rfl) rfl (by simp [Value.oneCell']) ?_
      refine wpList_nil ?_
      have ZB := ZA.rowOther (g := w.heap.size + 1) (by omega) #[.int .i64 x, .int .i64 y]
      have YB := YA.row #[.int .i64 x, .int .i64 y]
      have A9 := up_row (w.heap.size + 1) (w7.setRow w.heap.size #[.int .i64 l.id, .int .i64 l.ticks, .int .i64 l.sx, .int .i64 l.sy, .slice l.wa l.wn l.wc, .slice l.ga l.gn l.gc, .int .i64 l.flx, .int .i64 l.fly, .int .i64 l.fhx, .int .i64 l.fhy, .int .i64 l.bans]) #[.int .i64 x, .int .i64 y]
      obtain ⟨hL8, hB8⟩ := E7D.fin A8 (Nat.le_refl _) (by omega)
      have hL9 := hL8.set A9 (by omega)
      have hB9 := hB8.trans (A9.under (B := w.heap.size) (by omega) hB8.size)
      generalize (w7.setRow w.heap.size #[.int .i64 l.id, .int .i64 l.ticks, .int .i64 l.sx, .int .i64 l.sy, .slice l.wa l.wn l.wc, .slice l.ga l.gn l.gc, .int .i64 l.flx, .int .i64 l.fly, .int .i64 l.fhx, .int .i64 l.fhy, .int .i64 l.bans]).setRow (w.heap.size + 1) #[.int .i64 x, .int .i64 y] = W9 at *
      clear ZA YA A8 A9 hL8 hB8
      go_wp2
      refine bodyPost_ret (res_row_row rfl rfl ZB Try.underlying37 rfl (by kernel_rfl) rfl YB Try.underlying24 rfl (by kernel_rfl)) rfl ?_
      exact ⟨l, R, x, y, rfl, by omega, hL9, hs3, ⟨by omega, by omega⟩, ⟨by omega, by omega⟩, hB9⟩
end Go.Proofs.Ytgghfbkeipchkaa
