/- A level and two inputs drawn. -/
import Derived.Test.YtgghfbkeipchkaaDw
set_option linter.unusedVariables false
set_option linter.unusedSimpArgs false
namespace Go.Proofs.Ytgghfbkeipchkaa
open Go.RowKit

theorem step_store {P : Program} {ops : Array Oper} {o : Oper} {a : Act} {w : World} {K : Act → World → Prop} {Q : Exit → Act → World → Prop} {E : Prop} {g : Nat} {cells old : Array Value} (hgd : o.guard = none) (ty : TypeId) (x y : Operand) (ho : o.op = .store ty x y)
    (hx : a.eval x = .pointer (some ⟨g, 0, none⟩)) (hy : a.eval y = .agg cells) (hb : Blk w g old) (hi : (P.info? ty).map (·.size) = some cells.size) (hold : old.size = cells.size) (h1 : cells.all (·.oneCell') = true) (hK : K (a.put o.dst undef) (w.setRow g cells)) :
    if Region.wanted o (yielded ops a.tmps) = true then Oper.wp P o a w K Q else E := by
  obtain ⟨t0, hg⟩ := hb
  rw [if_pos (by simp [Region.wanted, hgd])]
  exact wp_store_row ty x y ho g cells hx hy t0 old hg hi hold h1 hK
theorem up_row (A : Nat) (w : World) (c : Array Value) : Up A w.heap.size w (w.setRow A c) := ⟨rfl, rfl, rfl, by simp, fun k hk hr => setRow_other w A k c hr⟩
/-- a level and two inputs drawn by a law -/
def DrawnFol (w : World) (e : Ending) (w' : World) : Prop := ∃ (l : Lv) (R : Nat) (s p : Int) (b : Bool) (s' p' : Int) (b' : Bool), e = .returned (.tuple #[.agg #[.int .i64 l.id, .int .i64 l.ticks, .int .i64 l.sx, .int .i64 l.sy, .slice l.wa l.wn l.wc, .slice l.ga l.gn l.gc, .int .i64 l.flx, .int .i64 l.fly, .int .i64 l.fhx, .int .i64 l.fhy, .int .i64 l.bans], .agg #[.int .i64 s, .int .i64 p, .bool b], .agg #[.int .i64 s', .int .i64 p', .bool b']]) ∧ w.heap.size ≤ R ∧ LvR w' R l ∧ l.sm 6 ∧ (-10 ≤ s ∧ s ≤ 10 ∧ -10 ≤ p ∧ p ≤ 10) ∧ (-10 ≤ s' ∧ s' ≤ 10 ∧ -10 ≤ p' ∧ p' ≤ 10) ∧ Below w.heap.size w w'
set_option maxRecDepth 100000 in
set_option maxHeartbeats 2000000 in
theorem dInputFollows (a : Option Addr) (len cap : Nat) (zs : List Int) (w : World) (h : IsRow .u8 w a len cap zs) : Calls Try.prog 36 #[.slice a len cap] w (DrawnFol w) := by
  go_enter Try.func36, Try.ntmps36
  go_wp2_with fail
  refine (open_any _ _ _ _ _ (h.keep (by (repeat (first | with_reducible assumption | with_reducible exact Below.refl _ _ | ((with_reducible refine Below.alloc ?_ ?_ _); rotate_left; · exact (by first | omega | (simp; done) | (simp; omega))) | ((with_reducible refine Below.setCell ?_ ?_ _); rotate_left; · exact (by first | omega | (simp; done) | (simp; omega))) | with_reducible refine Below.drew ?_ | assumption | exact Below.refl _ _ | refine Below.alloc ?_ (by first | omega | (simp; done) | (simp; omega)) _ | refine Below.setCell ?_ (by first | omega | (simp; done) | (simp; omega)) _ | refine Below.drew ?_))))).mono ?_
  rintro e w1 ⟨R, rfl, hR0, hr1, hb1⟩
  have hR : w.heap.size + 1 + 1 < R := by simp at hR0; omega
  have Z1 : Blk w1 w.heap.size #[.int .i64 0, .int .i64 0, .int .i64 0, .int .i64 0, .slice none 0 0, .slice none 0 0, .int .i64 0, .int .i64 0, .int .i64 0, .int .i64 0, .int .i64 0] := (((Blk.at rfl).alloc _).alloc _).below hb1 (by simp; omega)
  have Y1 : Blk w1 (w.heap.size + 1) #[.int .i64 0, .int .i64 0, .bool false] := ((Blk.at (by simp)).alloc _).below hb1 (by simp)
  have X1 : Blk w1 (w.heap.size + 1 + 1) #[.int .i64 0, .int .i64 0, .bool false] := (Blk.at (by simp)).below hb1 (by simp)
  have hU1 : Up R w.heap.size w w1 := Up.of_below (bstep (by (repeat (first | with_reducible assumption | with_reducible exact Below.refl _ _ | ((with_reducible refine Below.alloc ?_ ?_ _); rotate_left; · exact (by first | omega | (simp; done) | (simp; omega))) | ((with_reducible refine Below.setCell ?_ ?_ _); rotate_left; · exact (by first | omega | (simp; done) | (simp; omega))) | with_reducible refine Below.drew ?_ | assumption | exact Below.refl _ _ | refine Below.alloc ?_ (by first | omega | (simp; done) | (simp; omega)) _ | refine Below.setCell ?_ (by first | omega | (simp; done) | (simp; omega)) _ | refine Below.drew ?_))) (by first | omega | (simp; done) | (simp; omega)) hb1)
  have n0 : w.heap.size ≠ R := by omega
  have n1 : w.heap.size + 1 ≠ R := by omega
  have n2 : w.heap.size + 1 + 1 ≠ R := by omega
  have hRl := hr1.lt
  go_wp2_with fail
  refine (lLevel_any R 0 _ hr1 (by omega)).mono ?_
  rintro e w2 ⟨l2, k2, rfl, hl2, hs2, hk1, hk2, hr2, hu2⟩
  go_wp2_with fail
  refine (lBent_any R k2 l2 _ hr2 (by omega) hl2 hs2).mono ?_
  rintro e w3 ⟨l, k3, rfl, hl3, hs3, hk3, hk4, hr3, hu3⟩
  have hU2 : Up R w.heap.size w w2 := hU1.trans (hu2.mono hU1.size)
  have hU3 : Up R w.heap.size w w3 := hU2.trans (hu3.mono hU2.size)
  have Z3 := (Z1.up hu2 Z1.lt n0).up hu3 (Z1.up hu2 Z1.lt n0).lt n0
  have Y3 := (Y1.up hu2 Y1.lt n1).up hu3 (Y1.up hu2 Y1.lt n1).lt n1
  have X3 := (X1.up hu2 X1.lt n2).up hu3 (X1.up hu2 X1.lt n2).lt n2
  have hD3 : DM w R k3 l w3 := ⟨hr3, hU3, hl3, hs3, by omega⟩
  have hVR : w3.heap.size ≠ R := by have := hr3.lt; omega
  clear Z1 Y1 X1 hU1 hU2 hU3 hu2 hu3 hr1 hr2 hr3 hl2 hs2 hl3 hb1
  go_wp2_with fail
  have hD4 := hD3.alloc (.cells #[.int .i64 l.id, .int .i64 l.ticks, .int .i64 l.sx, .int .i64 l.sy, .slice l.wa l.wn l.wc, .slice l.ga l.gn l.gc, .int .i64 l.flx, .int .i64 l.fly, .int .i64 l.fhx, .int .i64 l.fhy, .int .i64 l.bans] 37)
  refine (lInput_any R k3 _ hD4.rd (by omega)).mono ?_
  rintro e w5 ⟨s, p, b, k5, rfl, s1, s2, s3, s4, hk5, hk6, hr5, hu5⟩
  have hD5 := hD4.pass hr5 hu5
  have V5 : Blk w5 w3.heap.size #[.int .i64 l.id, .int .i64 l.ticks, .int .i64 l.sx, .int .i64 l.sy, .slice l.wa l.wn l.wc, .slice l.ga l.gn l.gc, .int .i64 l.flx, .int .i64 l.fly, .int .i64 l.fhx, .int .i64 l.fhy, .int .i64 l.bans] := (Blk.at rfl).up hu5 (by simp) hVR
  have Z5 := (Z3.alloc _).up hu5 (by have := Z3.lt; simp; omega) n0
  have Y5 := (Y3.alloc _).up hu5 (by have := Y3.lt; simp; omega) n1
  have X5 := (X3.alloc _).up hu5 (by have := X3.lt; simp; omega) n2
  have hz3 := Z3.lt
  have hz5 := V5.lt
  have hzx := X3.lt
  have hUR : w5.heap.size ≠ R := by have := hr5.lt; omega
  have hr5l := hr5.lt
  clear Z3 Y3 X3 hD3 hD4 hr5 hu5
  go_wp2_with fail
  have hD6 := (hD5.alloc (.cells #[.int .i64 s, .int .i64 p, .bool b] 51)).drew
  have V6 : Blk (w5.alloc (.cells #[.int .i64 s, .int .i64 p, .bool b] 51)).drew w3.heap.size #[.int .i64 l.id, .int .i64 l.ticks, .int .i64 l.sx, .int .i64 l.sy, .slice l.wa l.wn l.wc, .slice l.ga l.gn l.gc, .int .i64 l.flx, .int .i64 l.fly, .int .i64 l.fhx, .int .i64 l.fhy, .int .i64 l.bans] := (show Blk (w5.alloc (.cells #[.int .i64 s, .int .i64 p, .bool b] 51)) w3.heap.size #[.int .i64 l.id, .int .i64 l.ticks, .int .i64 l.sx, .int .i64 l.sy, .slice l.wa l.wn l.wc, .slice l.ga l.gn l.gc, .int .i64 l.flx, .int .i64 l.fly, .int .i64 l.fhx, .int .i64 l.fhy, .int .i64 l.bans] from V5.alloc _)
  have U6 : Blk (w5.alloc (.cells #[.int .i64 s, .int .i64 p, .bool b] 51)).drew w5.heap.size #[.int .i64 s, .int .i64 p, .bool b] := (show Blk (w5.alloc (.cells #[.int .i64 s, .int .i64 p, .bool b] 51)) w5.heap.size #[.int .i64 s, .int .i64 p, .bool b] from Blk.at rfl)
  have Z6 : Blk (w5.alloc (.cells #[.int .i64 s, .int .i64 p, .bool b] 51)).drew w.heap.size #[.int .i64 0, .int .i64 0, .int .i64 0, .int .i64 0, .slice none 0 0, .slice none 0 0, .int .i64 0, .int .i64 0, .int .i64 0, .int .i64 0, .int .i64 0] := (show Blk (w5.alloc (.cells #[.int .i64 s, .int .i64 p, .bool b] 51)) w.heap.size #[.int .i64 0, .int .i64 0, .int .i64 0, .int .i64 0, .slice none 0 0, .slice none 0 0, .int .i64 0, .int .i64 0, .int .i64 0, .int .i64 0, .int .i64 0] from Z5.alloc _)
  have Y6 : Blk (w5.alloc (.cells #[.int .i64 s, .int .i64 p, .bool b] 51)).drew (w.heap.size + 1) #[.int .i64 0, .int .i64 0, .bool false] := (show Blk (w5.alloc (.cells #[.int .i64 s, .int .i64 p, .bool b] 51)) (w.heap.size + 1) #[.int .i64 0, .int .i64 0, .bool false] from Y5.alloc _)
  have X6 : Blk (w5.alloc (.cells #[.int .i64 s, .int .i64 p, .bool b] 51)).drew (w.heap.size + 1 + 1) #[.int .i64 0, .int .i64 0, .bool false] := (show Blk (w5.alloc (.cells #[.int .i64 s, .int .i64 p, .bool b] 51)) (w.heap.size + 1 + 1) #[.int .i64 0, .int .i64 0, .bool false] from X5.alloc _)
  clear V5 Z5 Y5 X5 hD5
  refine wp_region_held_drew (S := fun W => (W.cell? ⟨w3.heap.size, 0, none⟩ = some (.int .i64 l.id) ∧ W.cell? ⟨w3.heap.size, 1, none⟩ = some (.int .i64 l.ticks) ∧ W.cell? ⟨w3.heap.size, 2, none⟩ = some (.int .i64 l.sx) ∧ W.cell? ⟨w3.heap.size, 3, none⟩ = some (.int .i64 l.sy) ∧ W.cell? ⟨w3.heap.size, 4, none⟩ = some (.slice l.wa l.wn l.wc) ∧ W.cell? ⟨w3.heap.size, 5, none⟩ = some (.slice l.ga l.gn l.gc) ∧ W.cell? ⟨w3.heap.size, 6, none⟩ = some (.int .i64 l.flx) ∧ W.cell? ⟨w3.heap.size, 7, none⟩ = some (.int .i64 l.fly) ∧ W.cell? ⟨w3.heap.size, 8, none⟩ = some (.int .i64 l.fhx) ∧ W.cell? ⟨w3.heap.size, 9, none⟩ = some (.int .i64 l.fhy) ∧ W.cell? ⟨w3.heap.size, 10, none⟩ = some (.int .i64 l.bans)) ∧ (W.cell? ⟨w5.heap.size, 0, none⟩ = some (.int .i64 s) ∧ W.cell? ⟨w5.heap.size, 1, none⟩ = some (.int .i64 p) ∧ W.cell? ⟨w5.heap.size, 2, none⟩ = some (.bool b))) (by kernel_rfl) ⟨V6.c11, ⟨U6.cell 0, U6.cell 1, U6.cell 2⟩⟩ (fun hHeld => ?_)
  simp only [List.size_toArray, List.length_cons, List.length_nil, Nat.zero_add, Nat.reduceAdd]
  (refine wpAnyH_take (i := 0) (v := ?_) rfl (by kernel_rfl) (by kernel_rfl) (by kernel_rfl) (fun _ _ _ h => h) (Or.inl ⟨by rfl, ?_⟩) (by assumption) ?_; rotate_left; · (intro w hSw; (try dsimp only at hSw); go_simp; (try with_reducible rfl))); (try simp only [Act.put, List.setIfInBounds_toArray, List.set_cons_zero, List.set_cons_succ])
  (refine wpAnyH_take (i := 1) (v := ?_) rfl (by kernel_rfl) (by kernel_rfl) (by kernel_rfl) (fun _ _ _ h => h) (Or.inl ⟨by rfl, ?_⟩) (by assumption) ?_; rotate_left; · (intro w hSw; (try dsimp only at hSw); go_simp; (try with_reducible rfl))); (try simp only [Act.put, List.setIfInBounds_toArray, List.set_cons_zero, List.set_cons_succ])
  (refine wpAnyH_take (i := 2) (v := ?_) rfl (by kernel_rfl) (by kernel_rfl) (by kernel_rfl) (fun _ _ _ h => h) (Or.inl ⟨by rfl, ?_⟩) (by assumption) ?_; rotate_left; · (intro w hSw; (try dsimp only at hSw); go_simp; (try with_reducible rfl))); (try simp only [Act.put, List.setIfInBounds_toArray, List.set_cons_zero, List.set_cons_succ])
  refine wpAnyH_ready (rs := [3]) (by kernel_rfl) (by simp) ?_; refine AllReadyH.cons rfl (fun K hK => ?_) AllReadyH.nil; (try simp only [List.getElem_toArray, List.getElem_cons_succ, List.getElem_cons_zero])
  go_simp
  go_at_call 75
  refine (lInput_any R k5 _ hD6.rd (by omega)).mono ?_
  rintro e w7 ⟨s', p', b', k7, rfl, r1, r2, r3, r4, hk7, hk8, hr7, hu7⟩
  have hD7 := hD6.pass hr7 hu7
  have V7 := V6.up hu7 V6.lt hVR
  have U7 := U6.up hu7 U6.lt hUR
  have Z7 := Z6.up hu7 Z6.lt n0
  have Y7 := Y6.up hu7 Y6.lt n1
  have X7 := X6.up hu7 X6.lt n2
  go_wp2_with fail
  refine hK.out _ _ (⟨V7.c11, ⟨U7.cell 0, U7.cell 1, U7.cell 2⟩⟩) (fun hHeld => ?_); clear hK K; (try simp only [Act.put, List.setIfInBounds_toArray, List.set_cons_zero, List.set_cons_succ])
  clear hD6 V6 U6 Z6 Y6 X6 hr7 hu7
  have e01 : w.heap.size ≠ w.heap.size + 1 := by omega
  have e02 : w.heap.size ≠ w.heap.size + 1 + 1 := by omega
  have e12 : w.heap.size + 1 ≠ w.heap.size + 1 + 1 := by omega
  have ev0 : w3.heap.size ≠ w.heap.size := by omega
  have ev1 : w3.heap.size ≠ w.heap.size + 1 := by omega
  have ev2 : w3.heap.size ≠ w.heap.size + 1 + 1 := by omega
  have eu0 : w5.heap.size ≠ w.heap.size := by omega
  have eu1 : w5.heap.size ≠ w.heap.size + 1 := by omega
  have eu2 : w5.heap.size ≠ w.heap.size + 1 + 1 := by omega
  refine wpAnyH_ready (rs := [4]) (by kernel_rfl) (by simp) ?_; refine AllReadyH.cons rfl (fun K hK => ?_) AllReadyH.nil
  refine step_store (by rfl) _ _ _ (by rfl) (by rfl) (by rfl) Z7 (by kernel_rfl) (by rfl) (by simp [Value.oneCell']) ?_
  have A8 := up_row w.heap.size w7 #[.int .i64 l.id, .int .i64 l.ticks, .int .i64 l.sx, .int .i64 l.sy, .slice l.wa l.wn l.wc, .slice l.ga l.gn l.gc, .int .i64 l.flx, .int .i64 l.fly, .int .i64 l.fhx, .int .i64 l.fhy, .int .i64 l.bans]
  have Z8 := Z7.row #[.int .i64 l.id, .int .i64 l.ticks, .int .i64 l.sx, .int .i64 l.sy, .slice l.wa l.wn l.wc, .slice l.ga l.gn l.gc, .int .i64 l.flx, .int .i64 l.fly, .int .i64 l.fhx, .int .i64 l.fhy, .int .i64 l.bans]
  have Y8 := Y7.rowOther e01.symm #[.int .i64 l.id, .int .i64 l.ticks, .int .i64 l.sx, .int .i64 l.sy, .slice l.wa l.wn l.wc, .slice l.ga l.gn l.gc, .int .i64 l.flx, .int .i64 l.fly, .int .i64 l.fhx, .int .i64 l.fhy, .int .i64 l.bans]
  have X8 := X7.rowOther e02.symm #[.int .i64 l.id, .int .i64 l.ticks, .int .i64 l.sx, .int .i64 l.sy, .slice l.wa l.wn l.wc, .slice l.ga l.gn l.gc, .int .i64 l.flx, .int .i64 l.fly, .int .i64 l.fhx, .int .i64 l.fhy, .int .i64 l.bans]
  have V8 := V7.rowOther ev0 #[.int .i64 l.id, .int .i64 l.ticks, .int .i64 l.sx, .int .i64 l.sy, .slice l.wa l.wn l.wc, .slice l.ga l.gn l.gc, .int .i64 l.flx, .int .i64 l.fly, .int .i64 l.fhx, .int .i64 l.fhy, .int .i64 l.bans]
  have U8 := U7.rowOther eu0 #[.int .i64 l.id, .int .i64 l.ticks, .int .i64 l.sx, .int .i64 l.sy, .slice l.wa l.wn l.wc, .slice l.ga l.gn l.gc, .int .i64 l.flx, .int .i64 l.fly, .int .i64 l.fhx, .int .i64 l.fhy, .int .i64 l.bans]
  refine hK.out _ _ (⟨V8.c11, ⟨U8.cell 0, U8.cell 1, U8.cell 2⟩⟩) (fun hHeld => ?_); clear hK K; (try simp only [Act.put, List.setIfInBounds_toArray, List.set_cons_zero, List.set_cons_succ])
  generalize hW8 : w7.setRow w.heap.size #[.int .i64 l.id, .int .i64 l.ticks, .int .i64 l.sx, .int .i64 l.sy, .slice l.wa l.wn l.wc, .slice l.ga l.gn l.gc, .int .i64 l.flx, .int .i64 l.fly, .int .i64 l.fhx, .int .i64 l.fhy, .int .i64 l.bans] = W8 at *
  refine wpAnyH_ready (rs := [5]) (by kernel_rfl) (by simp) ?_; refine AllReadyH.cons rfl (fun K hK => ?_) AllReadyH.nil
  refine step_store (by rfl) _ _ _ (by rfl) (by rfl) (by rfl) Y8 (by kernel_rfl) (by rfl) (by simp [Value.oneCell']) ?_
  have A9 := up_row (w.heap.size + 1) W8 #[.int .i64 s, .int .i64 p, .bool b]
  have Z9 := Z8.rowOther e01 #[.int .i64 s, .int .i64 p, .bool b]
  have Y9 := Y8.row #[.int .i64 s, .int .i64 p, .bool b]
  have X9 := X8.rowOther e12.symm #[.int .i64 s, .int .i64 p, .bool b]
  have V9 := V8.rowOther ev1 #[.int .i64 s, .int .i64 p, .bool b]
  have U9 := U8.rowOther eu1 #[.int .i64 s, .int .i64 p, .bool b]
  refine hK.out _ _ (⟨V9.c11, ⟨U9.cell 0, U9.cell 1, U9.cell 2⟩⟩) (fun hHeld => ?_); clear hK K; (try simp only [Act.put, List.setIfInBounds_toArray, List.set_cons_zero, List.set_cons_succ])
  generalize hW9 : W8.setRow (w.heap.size + 1) #[.int .i64 s, .int .i64 p, .bool b] = W9 at *
  refine wpAnyH_ready (rs := [6]) (by kernel_rfl) (by simp) ?_; refine AllReadyH.cons rfl (fun K hK => ?_) AllReadyH.nil
  refine step_store (by rfl) _ _ _ (by rfl) (by rfl) (by rfl) X9 (by kernel_rfl) (by rfl) (by simp [Value.oneCell']) ?_
  have A10 := up_row (w.heap.size + 1 + 1) W9 #[.int .i64 s', .int .i64 p', .bool b']
  have Z10 := Z9.rowOther e02 #[.int .i64 s', .int .i64 p', .bool b']
  have Y10 := Y9.rowOther e12 #[.int .i64 s', .int .i64 p', .bool b']
  have X10 := X9.row #[.int .i64 s', .int .i64 p', .bool b']
  have V10 := V9.rowOther ev2 #[.int .i64 s', .int .i64 p', .bool b']
  have U10 := U9.rowOther eu2 #[.int .i64 s', .int .i64 p', .bool b']
  refine hK.out _ _ (⟨V10.c11, ⟨U10.cell 0, U10.cell 1, U10.cell 2⟩⟩) (fun hHeld => ?_); clear hK K; (try simp only [Act.put, List.setIfInBounds_toArray, List.set_cons_zero, List.set_cons_succ])
  generalize hW10 : W9.setRow (w.heap.size + 1 + 1) #[.int .i64 s', .int .i64 p', .bool b'] = W10 at *
  refine wpAnyH_done (by kernel_rfl) ?_ _
  obtain ⟨hL8, hB8⟩ := hD7.fin A8 (Nat.le_refl _) (by omega)
  have hL9 := hL8.set A9 (by omega)
  have hL10 := hL9.set A10 (by omega)
  have hB9 := hB8.trans (A9.under (B := w.heap.size) (by omega) hB8.size)
  have hB10 := hB9.trans (A10.under (B := w.heap.size) (by omega) hB9.size)
  clear hHeld V8 U8 V9 U9 V10 U10 Z8 Y8 X8 Z9 Y9 X9 hW8 hW9 hW10 A8 A9 A10 Z7 Y7 X7 V7 U7 hL8 hL9 hB8 hB9
  go_wp2
  refine bodyPost_ret (res_row3 rfl rfl Z10 Try.underlying37 rfl (by kernel_rfl) rfl Y10 Try.underlying51 rfl (by kernel_rfl) rfl X10 Try.underlying51 rfl (by kernel_rfl)) rfl ?_
  exact ⟨l, R, s, p, b, s', p', b', rfl, by omega, hL10, hs3, ⟨s1, s2, s3, s4⟩, ⟨r1, r2, r3, r4⟩, hB10⟩
end Go.Proofs.Ytgghfbkeipchkaa
