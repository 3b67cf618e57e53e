/- The hash of a level, of the program and of the reference. -/
import Derived.Test.YtgghfbkeipchkaaHl
import Derived.Test.YtgghfbkeipchkaaTp
set_option linter.unusedVariables false
namespace Go.Proofs.Ytgghfbkeipchkaa
open Go.RowKit

theorem ints4 {W : World} {g : Nat} {a b c d : Int} (h : Blk W g #[.int .i64 a, .int .i64 b, .int .i64 c, .int .i64 d]) : IntsAt W (some ⟨g, 0, none⟩) 4 (fun i => [a, b, c, d].getD i 0) :=
  .inr ⟨g, 0, rfl, h.lt, fun i hi => by
    have hm : i = 0 ∨ i = 1 ∨ i = 2 ∨ i = 3 := by omega
    rcases hm with rfl | rfl | rfl | rfl
    · exact h.cell 0
    · exact h.cell 1
    · exact h.cell 2
    · exact h.cell 3⟩
theorem ints7 {W : World} {g : Nat} {a b c d e f k : Int} (h : Blk W g #[.int .i64 a, .int .i64 b, .int .i64 c, .int .i64 d, .int .i64 e, .int .i64 f, .int .i64 k]) : IntsAt W (some ⟨g, 0, none⟩) 7 (fun i => [a, b, c, d, e, f, k].getD i 0) :=
  .inr ⟨g, 0, rfl, h.lt, fun i hi => by
    have hm : i = 0 ∨ i = 1 ∨ i = 2 ∨ i = 3 ∨ i = 4 ∨ i = 5 ∨ i = 6 := by omega
    rcases hm with rfl | rfl | rfl | rfl | rfl | rfl | rfl
    · exact h.cell 0
    · exact h.cell 1
    · exact h.cell 2
    · exact h.cell 3
    · exact h.cell 4
    · exact h.cell 5
    · exact h.cell 6⟩
theorem BoxesAt.up {w w' : World} {R g n : Nat} {f : Nat → Bx} (h : BoxesAt w (some ⟨g, 0, none⟩) n f) (hu : Up R w.heap.size w w') (hlt : g < w.heap.size) (hne : g ≠ R) : BoxesAt w' (some ⟨g, 0, none⟩) n f :=
  h.same hu.size fun p hp => by cases hp; exact hu.block g hlt hne
theorem hfo_head (l : Lv) : hfo (fun i => [l.id, l.ticks, l.sx, l.sy, (l.wn : Int), (l.gn : Int), l.bans].getD i 0) 17 7 = l.head.foldl hst 17 := hfo_list l.head 17
theorem hfo_box (b : Bx) (h : Int) : hfo (fun i => [b.lx, b.ly, b.hx, b.hy].getD i 0) h 4 = b.nums.foldl hst h := hfo_list b.nums h

set_option maxRecDepth 100000 in
set_option maxHeartbeats 4000000 in
theorem iLevelHash (l : Lv) (w : World) (hl : LvAt w l) : Calls Try.prog 34 #[.agg #[.int .i64 l.id, .int .i64 l.ticks, .int .i64 l.sx, .int .i64 l.sy, .slice l.wa l.wn l.wc, .slice l.ga l.gn l.gc, .int .i64 l.flx, .int .i64 l.fly, .int .i64 l.fhx, .int .i64 l.fhy, .int .i64 l.bans]] w fun e w' => e = .returned (.int .i64 l.hashV) ∧ Below w.heap.size w w' := by
  go_enter Try.func34, Try.ntmps34
  go_wp2_with fail
  refine (iLevelValid l _ (hl.keep (by (repeat (first | with_reducible assumption | with_reducible exact Below.refl _ _ | ((with_reducible refine Below.alloc ?_ ?_ _); rotate_left; · exact (by first | omega | (simp; done) | (simp; omega))) | ((with_reducible refine Below.setCell ?_ ?_ _); rotate_left; · exact (by first | omega | (simp; done) | (simp; omega))) | with_reducible refine Below.drew ?_ | assumption | exact Below.refl _ _ | refine Below.alloc ?_ (by first | omega | (simp; done) | (simp; omega)) _ | refine Below.setCell ?_ (by first | omega | (simp; done) | (simp; omega)) _ | refine Below.drew ?_))))).mono ?_
  rintro e w1 ⟨rfl, hb1⟩; obtain ⟨hc1, hf1⟩ := bcell hb1; have hz1 : w.heap.size < w1.heap.size := (by have := hb1.size; first | omega | (simp at this; omega)); have hy1 : w.heap.size < w1.heap.size + 1 := Nat.lt_succ_of_lt hz1; have hB1 : Below w.heap.size w w1 := bstep (by (repeat (first | with_reducible assumption | with_reducible exact Below.refl _ _ | ((with_reducible refine Below.alloc ?_ ?_ _); rotate_left; · exact (by first | omega | (simp; done) | (simp; omega))) | ((with_reducible refine Below.setCell ?_ ?_ _); rotate_left; · exact (by first | omega | (simp; done) | (simp; omega))) | with_reducible refine Below.drew ?_ | assumption | exact Below.refl _ _ | refine Below.alloc ?_ (by first | omega | (simp; done) | (simp; omega)) _ | refine Below.setCell ?_ (by first | omega | (simp; done) | (simp; omega)) _ | refine Below.drew ?_))) (by first | omega | (simp; done) | (simp; omega)) hb1
  cases hk : l.ok with
  | false =>
    go_wp2
    go_ret
    exact ⟨ret_int (Lv.hashV_f hk).symm, by (repeat (first | with_reducible assumption | with_reducible exact Below.refl _ _ | ((with_reducible refine Below.alloc ?_ ?_ _); rotate_left; · exact (by first | omega | (simp; done) | (simp; omega))) | ((with_reducible refine Below.setCell ?_ ?_ _); rotate_left; · exact (by first | omega | (simp; done) | (simp; omega))) | with_reducible refine Below.drew ?_ | assumption | exact Below.refl _ _ | refine Below.alloc ?_ (by first | omega | (simp; done) | (simp; omega)) _ | refine Below.setCell ?_ (by first | omega | (simp; done) | (simp; omega)) _ | refine Below.drew ?_))⟩
  | true =>
    obtain ⟨_, _, _, hwn, _, hgn, _⟩ := Lv.ok_id hk
    have hV := Lib.hid (Lv.hashV_t hk)
    have P1 : Blk w1 w.heap.size #[.int .i64 l.id, .int .i64 l.ticks, .int .i64 l.sx, .int .i64 l.sy, .slice l.wa l.wn l.wc, .slice l.ga l.gn l.gc, .int .i64 l.flx, .int .i64 l.fly, .int .i64 l.fhx, .int .i64 l.fhy, .int .i64 l.bans] := (Blk.at rfl).below hb1 (by simp)
    go_wp2_with (go_at_call 72; refine (iHasher _).mono ?_; rintro e w' ⟨rfl, rfl⟩)
    have N0 : Blk ((w1.alloc (.cells #[.int .i64 17] 3)).alloc (.cells #[.int .i64 l.id, .int .i64 l.ticks, .int .i64 l.sx, .int .i64 l.sy, .int .i64 (l.wn : Int), .int .i64 (l.gn : Int), .int .i64 l.bans] 3)) w1.heap.size #[.int .i64 17] := (Blk.at rfl).alloc _
    have N7 : Blk ((w1.alloc (.cells #[.int .i64 17] 3)).alloc (.cells #[.int .i64 l.id, .int .i64 l.ticks, .int .i64 l.sx, .int .i64 l.sy, .int .i64 (l.wn : Int), .int .i64 (l.gn : Int), .int .i64 l.bans] 3)) (w1.heap.size + 1) #[.int .i64 l.id, .int .i64 l.ticks, .int .i64 l.sx, .int .i64 l.sy, .int .i64 (l.wn : Int), .int .i64 (l.gn : Int), .int .i64 l.bans] := Blk.at (by simp)
    have I7 := ints7 N7
    have C0 := N0.cell 0
    have F0 := N0.frozen 0
    have hne7 : ∀ b : Addr, some (⟨w1.heap.size + 1, 0, none⟩ : Addr) = some b → b.block ≠ w1.heap.size := by intro b hb; cases hb; simp
    refine (iNext w1.heap.size 17 _ 7 7 _ _ C0 F0 (by omega) (by omega) (by omega) I7 hne7).mono ?_
    rintro e w2 ⟨rfl, hH2, hF2, hu2⟩
    clear C0 F0 I7 N7 N0 hne7
    rw [hfo_head] at hH2 ⊢
    have hz12 : w1.heap.size < w2.heap.size := by have := hu2.size; simp at this; omega
    have P2 := ((P1.alloc _).alloc _).up hu2 (by simp; omega) (by omega)
    have hU1 : Up w1.heap.size w.heap.size w w1 := Up.of_below hB1
    have hU2 : Up w1.heap.size w.heap.size w w2 := upstep (by (repeat (first | assumption | exact Up.refl _ _ _ | refine Up.alloc ?_ (by first | omega | (simp; done) | (simp; omega)) _ | refine Up.setCell ?_ (.inr (by first | omega | (simp; done) | (simp; omega))) _ | refine Up.drew ?_ | refine Up.drewN ?_ _))) (by first | omega | (simp; done) | (simp; omega)) hu2
    have hB2 : Below w.heap.size w w2 := hU2.below (by omega)
    have hlo0 := fold_lo l.head (h := 17) (by omega)
    have hhi0 := fold_hi l.head (h := 17) (by omega)
    obtain ⟨c0, c1, c2, c3, c4, c5, c6, c7, c8, c9, c10⟩ := P2.c11
    clear hc1 hf1 hb1 P1 hu2 hU2
    have hAll := Lib.hid l.hash_all
    generalize l.head.foldl hst 17 = h7 at *
    go_wp2_with fail
    refine (iBoxes l _ (hl.keep hB2) (by omega) (by omega)).mono ?_
    rintro e w3 ⟨g, cap, rfl, hbx, hg1, hg2, hb3⟩
    have hH3 := (hb3.cell (p := ⟨w1.heap.size, 0, none⟩) hz12).trans hH2
    have hF3 := (hb3.frozen (p := ⟨w1.heap.size, 0, none⟩) hz12).trans hF2
    have hB3 : Below w.heap.size w w3 := bstep hB2 (by omega) hb3
    have hz13 : w1.heap.size < w3.heap.size := by have := hb3.size; omega
    have hgH : g ≠ w1.heap.size := by omega
    clear c0 c1 c2 c3 c4 c5 c6 c7 c8 c9 c10 hH2 hF2 P2 hB2
    generalize allB l.wf l.gf l.wn l.gn ⟨l.flx, l.fly, l.fhx, l.fhy⟩ = fB at *
    obtain ⟨N, hN⟩ : ∃ N, N = l.wn + l.gn + 1 := ⟨_, rfl⟩
    rw [← hN] at hbx hAll ⊢
    have hN8 : N ≤ 8 := by omega
    go_wp2_with fail
    go_loopw [4, 6, 35] (fun v b i wr => ∃ k : Nat, k ≤ N ∧ i = .int .i64 k ∧ v = .int .i64 ((bnums fB k).foldl hst h7) ∧ wr.cell? ⟨w1.heap.size, 0, none⟩ = some (.int .i64 ((bnums fB k).foldl hst h7)) ∧ wr.frozen? ⟨w1.heap.size, 0, none⟩ = false ∧ BoxesAt wr (some ⟨g, 0, none⟩) N fB ∧ g < wr.heap.size ∧ w1.heap.size < wr.heap.size ∧ Below w.heap.size w wr) (fun _ _ i _ => N - (intOf i).toNat)
    case atStart => exact ⟨0, Nat.zero_le _, rfl, rfl, hH3, hF3, hbx, hg2, hz13, hB3⟩
    case round =>
      obtain ⟨k, hk, rfl, rfl, hH, hF, hbx, hg, hzr, hB⟩ := hrel
      have hlo := fold_lo (bnums fB k) hlo0
      have hhi := fold_hi (bnums fB k) hhi0
      by_cases hlt : k < N
      · obtain ⟨b', off', hbe, hbl, hcs⟩ := hbx.resolve_left (by omega)
        cases hbe
        obtain ⟨g0, g1, g2, g3⟩ := hcs k hlt
        have hL := Lib.hid hbx
        have q1 : (0 : Int) ≤ (k : Int) := by omega
        have q2 : (k : Int) < (N : Int) := by omega
        clear hcs hbx
        simp only [Nat.zero_add] at g0 g1 g2 g3
        go_wp2_with fail
        have HB : Below wr.heap.size wr ((wr.alloc (.cells #[.int .i64 (fB k).lx, .int .i64 (fB k).ly, .int .i64 (fB k).hx, .int .i64 (fB k).hy] 26)).alloc (.cells #[.int .i64 (fB k).lx, .int .i64 (fB k).ly, .int .i64 (fB k).hx, .int .i64 (fB k).hy] 3)) := by (repeat (first | with_reducible assumption | with_reducible exact Below.refl _ _ | ((with_reducible refine Below.alloc ?_ ?_ _); rotate_left; · exact (by first | omega | (simp; done) | (simp; omega))) | ((with_reducible refine Below.setCell ?_ ?_ _); rotate_left; · exact (by first | omega | (simp; done) | (simp; omega))) | with_reducible refine Below.drew ?_ | assumption | exact Below.refl _ _ | refine Below.alloc ?_ (by first | omega | (simp; done) | (simp; omega)) _ | refine Below.setCell ?_ (by first | omega | (simp; done) | (simp; omega)) _ | refine Below.drew ?_))
        have N4 : Blk ((wr.alloc (.cells #[.int .i64 (fB k).lx, .int .i64 (fB k).ly, .int .i64 (fB k).hx, .int .i64 (fB k).hy] 26)).alloc (.cells #[.int .i64 (fB k).lx, .int .i64 (fB k).ly, .int .i64 (fB k).hx, .int .i64 (fB k).hy] 3)) (wr.heap.size + 1) #[.int .i64 (fB k).lx, .int .i64 (fB k).ly, .int .i64 (fB k).hx, .int .i64 (fB k).hy] := Blk.at (by simp)
        have C0 := (HB.cell (p := ⟨w1.heap.size, 0, none⟩) hzr).trans hH
        have F0 := (HB.frozen (p := ⟨w1.heap.size, 0, none⟩) hzr).trans hF
        have I4 := ints4 N4
        have hne4 : ∀ b : Addr, some (⟨wr.heap.size + 1, 0, none⟩ : Addr) = some b → b.block ≠ w1.heap.size := by intro b hb; cases hb; simp; omega
        have hUr : Up w1.heap.size w.heap.size w ((wr.alloc (.cells #[.int .i64 (fB k).lx, .int .i64 (fB k).ly, .int .i64 (fB k).hx, .int .i64 (fB k).hy] 26)).alloc (.cells #[.int .i64 (fB k).lx, .int .i64 (fB k).ly, .int .i64 (fB k).hx, .int .i64 (fB k).hy] 3)) := Up.of_below (hB.trans (HB.mono hB.size))
        have hbW := hL.out.keep HB
        refine (iNext w1.heap.size _ _ 4 4 _ _ C0 F0 hlo hhi (by omega) I4 hne4).mono ?_
        rintro e w4 ⟨rfl, hH4, hF4, hu4⟩
        rw [hfo_box] at hH4 ⊢
        have eN : (bnums fB (k + 1)).foldl hst h7 = (fB k).nums.foldl hst ((bnums fB k).foldl hst h7) := by rw [bnums, List.foldl_append]
        rw [← eN] at hH4 ⊢
        have hz4 : wr.heap.size < w4.heap.size := by have := hu4.size; simp at this; omega
        have hsW : w.heap.size ≤ ((wr.alloc (.cells #[.int .i64 (fB k).lx, .int .i64 (fB k).ly, .int .i64 (fB k).hx, .int .i64 (fB k).hy] 26)).alloc (.cells #[.int .i64 (fB k).lx, .int .i64 (fB k).ly, .int .i64 (fB k).hx, .int .i64 (fB k).hy] 3)).heap.size := by have := hB.size; simp; omega
        have hB4 : Below w.heap.size w w4 := (upstep hUr hsW hu4).below (by omega)
        have hb4 := hbW.up hu4 (by simp; omega) hgH
        clear C0 F0 I4 N4 hne4 HB hbW hH hF hu4 hUr
        go_wp2
        go_roundw
        case rel => exact ⟨k + 1, by omega, by go_num, by rw [eN], hH4, hF4, hb4, by omega, by omega, hB4⟩
        case measure => simp [intOf]; omega
      · obtain rfl : k = N := by omega
        go_wp2
        go_ret
        exact ⟨ret_int (by rw [hV.out, ← hAll.out]), hB⟩

theorem infoInt' : (Try.prog.info? 3).map (fun i => (i.zero, i.size, i.bytes)) = some (some (.int .i64 0), 1, 8) := by kernel_rfl
/-- a list of numbers as cells -/
def ivals (zs : List Int) : List Value := zs.map (Value.int .i64)
theorem ivals_one (zs : List Int) : ∀ u ∈ ivals zs, u.oneCell' = true := by
  intro u hu
  obtain ⟨z, _, rfl⟩ := List.mem_map.1 hu
  rfl
theorem ints_row {w : World} {base g n cap : Nat} {zs : List Int} (h : w.ownsRow base 3 1 (.slice (some ⟨g, 0, none⟩) n cap) n (ivals zs)) : IntsAt w (some ⟨g, 0, none⟩) n (fun i => zs.getD i 0) := by
  have hl : zs.length = n := by have := h.1; simpa [ivals] using this
  refine .inr ⟨g, 0, rfl, (h.lt _ rfl).2, fun i hi => ?_⟩
  rw [Nat.zero_add, h.cellAt i (by omega)]
  have hi' : i < zs.length := by omega
  simp [ivals, List.getD, hi']
/-- a new list of a box's numbers -/
def NewNums (b : Bx) (w : World) (e : Ending) (w' : World) : Prop := ∃ g, e = .returned (.slice (some ⟨g, 0, none⟩) 4 4) ∧ Blk w' g #[.int .i64 b.lx, .int .i64 b.ly, .int .i64 b.hx, .int .i64 b.hy] ∧ w.heap.size ≤ g ∧ Below w.heap.size w w'
set_option maxHeartbeats 400000 in
theorem sNums (b : Bx) (w : World) : Calls Try.prog 73 #[.agg #[.int .i64 b.lx, .int .i64 b.ly, .int .i64 b.hx, .int .i64 b.hy]] w (NewNums b w) := by
  go_enter Try.func73, Try.ntmps73
  go_wp2
  go_ret
  exact ⟨_, rfl, Blk.at (by simp), by omega, by (repeat (first | with_reducible assumption | with_reducible exact Below.refl _ _ | ((with_reducible refine Below.alloc ?_ ?_ _); rotate_left; · exact (by first | omega | (simp; done) | (simp; omega))) | ((with_reducible refine Below.setCell ?_ ?_ _); rotate_left; · exact (by first | omega | (simp; done) | (simp; omega))) | with_reducible refine Below.drew ?_ | assumption | exact Below.refl _ _ | refine Below.alloc ?_ (by first | omega | (simp; done) | (simp; omega)) _ | refine Below.setCell ?_ (by first | omega | (simp; done) | (simp; omega)) _ | refine Below.drew ?_))⟩
theorem nums_cells {w : World} {g : Nat} {b : Bx} (h : Blk w g #[.int .i64 b.lx, .int .i64 b.ly, .int .i64 b.hx, .int .i64 b.hy]) : ∀ j u, (ivals b.nums)[j]? = some u → w.cell? ((⟨g, 0, none⟩ : Addr).add j) = some u := by
  intro j u hu
  rw [addr_add, Nat.zero_add, h.cell j]
  simpa [ivals, Bx.nums] using hu
set_option maxRecDepth 100000 in
set_option maxHeartbeats 2000000 in
theorem sLevelHash (l : Lv) (w : World) (hn1 : l.wn ≤ 1099511627776) (hn2 : l.gn ≤ 1099511627776) (hl : LvAt w l) : Calls Try.prog 35 #[.agg #[.int .i64 l.id, .int .i64 l.ticks, .int .i64 l.sx, .int .i64 l.sy, .slice l.wa l.wn l.wc, .slice l.ga l.gn l.gc, .int .i64 l.flx, .int .i64 l.fly, .int .i64 l.fhx, .int .i64 l.fhy, .int .i64 l.bans]] w fun e w' => e = .returned (.int .i64 l.hashV) ∧ Below w.heap.size w w' := by
  obtain ⟨i0, hii, hiz, his, hib⟩ := info_parts infoInt'
  go_enter Try.func35, Try.ntmps35
  go_wp2_with fail
  refine (sLevelValid l _ hn1 hn2 (hl.keep (by (repeat (first | with_reducible assumption | with_reducible exact Below.refl _ _ | ((with_reducible refine Below.alloc ?_ ?_ _); rotate_left; · exact (by first | omega | (simp; done) | (simp; omega))) | ((with_reducible refine Below.setCell ?_ ?_ _); rotate_left; · exact (by first | omega | (simp; done) | (simp; omega))) | with_reducible refine Below.drew ?_ | assumption | exact Below.refl _ _ | refine Below.alloc ?_ (by first | omega | (simp; done) | (simp; omega)) _ | refine Below.setCell ?_ (by first | omega | (simp; done) | (simp; omega)) _ | refine Below.drew ?_))))).mono ?_
  rintro e w1 ⟨rfl, hb1⟩; obtain ⟨hc1, hf1⟩ := bcell hb1; have hz1 : w.heap.size < w1.heap.size := (by have := hb1.size; first | omega | (simp at this; omega)); have hy1 : w.heap.size < w1.heap.size + 1 := Nat.lt_succ_of_lt hz1; have hB1 : Below w.heap.size w w1 := bstep (by (repeat (first | with_reducible assumption | with_reducible exact Below.refl _ _ | ((with_reducible refine Below.alloc ?_ ?_ _); rotate_left; · exact (by first | omega | (simp; done) | (simp; omega))) | ((with_reducible refine Below.setCell ?_ ?_ _); rotate_left; · exact (by first | omega | (simp; done) | (simp; omega))) | with_reducible refine Below.drew ?_ | assumption | exact Below.refl _ _ | refine Below.alloc ?_ (by first | omega | (simp; done) | (simp; omega)) _ | refine Below.setCell ?_ (by first | omega | (simp; done) | (simp; omega)) _ | refine Below.drew ?_))) (by first | omega | (simp; done) | (simp; omega)) hb1
  cases hk : l.ok with
  | false =>
    go_wp2
    go_ret
    exact ⟨ret_int (Lv.hashV_f hk).symm, by (repeat (first | with_reducible assumption | with_reducible exact Below.refl _ _ | ((with_reducible refine Below.alloc ?_ ?_ _); rotate_left; · exact (by first | omega | (simp; done) | (simp; omega))) | ((with_reducible refine Below.setCell ?_ ?_ _); rotate_left; · exact (by first | omega | (simp; done) | (simp; omega))) | with_reducible refine Below.drew ?_ | assumption | exact Below.refl _ _ | refine Below.alloc ?_ (by first | omega | (simp; done) | (simp; omega)) _ | refine Below.setCell ?_ (by first | omega | (simp; done) | (simp; omega)) _ | refine Below.drew ?_))⟩
  | true =>
    obtain ⟨_, _, _, hwn, _, hgn, _⟩ := Lv.ok_id hk
    have hV := Lib.hid (Lv.hashV_t hk)
    have P1 : Blk w1 w.heap.size #[.int .i64 l.id, .int .i64 l.ticks, .int .i64 l.sx, .int .i64 l.sy, .slice l.wa l.wn l.wc, .slice l.ga l.gn l.gc, .int .i64 l.flx, .int .i64 l.fly, .int .i64 l.fhx, .int .i64 l.fhy, .int .i64 l.bans] := (Blk.at rfl).below hb1 (by simp)
    have hW := hl.1
    have hG := hl.2
    generalize l.wa = wA at P1 hW ⊢
    generalize l.ga = gA at P1 hG ⊢
    go_wp2_with fail
    go_loopw [3, 4] (fun v i wr => ∃ k : Nat, k ≤ l.wn ∧ i = .int .i64 k ∧ wr.ownsRow w1.heap.size 3 1 v (7 + 4 * k) (ivals (l.head ++ bnums l.wf k)) ∧ Blk wr w.heap.size #[.int .i64 l.id, .int .i64 l.ticks, .int .i64 l.sx, .int .i64 l.sy, .slice wA l.wn l.wc, .slice gA l.gn l.gc, .int .i64 l.flx, .int .i64 l.fly, .int .i64 l.fhx, .int .i64 l.fhy, .int .i64 l.bans] ∧ w1.heap.size ≤ wr.heap.size ∧ Below w.heap.size w wr) (fun _ i _ => l.wn - (intOf i).toNat)
    case atStart =>
      have P2 := P1.alloc (.cells #[.int .i64 l.id, .int .i64 l.ticks, .int .i64 l.sx, .int .i64 l.sy, .int .i64 (l.wn : Int), .int .i64 (l.gn : Int), .int .i64 l.bans] 3)
      refine ⟨0, Nat.zero_le _, rfl, ?_, P2, by simp, by (repeat (first | with_reducible assumption | with_reducible exact Below.refl _ _ | ((with_reducible refine Below.alloc ?_ ?_ _); rotate_left; · exact (by first | omega | (simp; done) | (simp; omega))) | ((with_reducible refine Below.setCell ?_ ?_ _); rotate_left; · exact (by first | omega | (simp; done) | (simp; omega))) | with_reducible refine Below.drew ?_ | assumption | exact Below.refl _ _ | refine Below.alloc ?_ (by first | omega | (simp; done) | (simp; omega)) _ | refine Below.setCell ?_ (by first | omega | (simp; done) | (simp; omega)) _ | refine Below.drew ?_))⟩
      exact ⟨rfl, .inr ⟨w1.heap.size, 7, _, rfl, Nat.le_refl _, heap_alloc_new w1 _, Nat.le_refl _, by unfold maxLen; omega, rfl, rfl⟩⟩
    case round =>
      obtain ⟨k, hk, rfl, hown, hP, hz1r, hB⟩ := hrel
      obtain ⟨_, _, _, _, hc4, hc5, _⟩ := hP.c11
      have hOwn := Lib.hid hown
      clear hown
      by_cases hlt : k < l.wn
      · obtain ⟨b, off, rfl, hbl, hcs⟩ := hW.resolve_left (by omega)
        obtain ⟨g0, g1, g2, g3⟩ := hcs k hlt
        have e0 := (hB.cell (p := ⟨b, off + k * 4, none⟩) hbl).trans g0
        have e1 := (hB.cell (p := ⟨b, off + k * 4 + 1, none⟩) hbl).trans g1
        have e2 := (hB.cell (p := ⟨b, off + k * 4 + 2, none⟩) hbl).trans g2
        have e3 := (hB.cell (p := ⟨b, off + k * 4 + 3, none⟩) hbl).trans g3
        clear g0 g1 g2 g3
        have q1 : (0 : Int) ≤ (k : Int) := by omega
        have q2 : (k : Int) < (l.wn : Int) := by omega
        have hL := Lib.hid hW
        have hCs := Lib.hid hcs
        have hzw : w.heap.size < wr.heap.size := hP.lt
        clear hcs hW
        go_wp2_with fail
        refine (sNums (l.wf k) _).mono ?_
        rintro e wa ⟨ga, rfl, hga, hge, hba⟩
        have hPa := hP.below hba hzw
        have hzr := hB.size
        have hza := hba.size
        have hBa : Below w.heap.size w wa := bstep hB hzr hba
        have hown : wa.ownsRow w1.heap.size 3 1 u3 (7 + 4 * k) (ivals (l.head ++ bnums l.wf k)) := by
          obtain ⟨h1, h2⟩ := hOwn.out
          refine ⟨h1, ?_⟩
          rcases h2 with h2 | ⟨g', cap, cur, hv, hgb, hg, h3⟩
          · exact .inl h2
          · exact .inr ⟨g', cap, cur, hv, hgb, (hba.block g' (Array.getElem?_eq_some_iff.1 hg).1).trans hg, h3⟩
        have hN := nums_cells hga
        have hge2 : ∀ b, u3.ownBlock = some b → w.heap.size < b := fun b hb => by have := (hown.lt b hb).1; omega
        clear hOwn hc4 hc5 hB hba hga hP
        have hN' := Lib.hid hN
        clear hN
        go_wp2_with (at_builtin; refine wpList_append_own _ rfl _ _ 92 rfl w1.heap.size 3 i0 (.int .i64 0) 1 8 Try.underlying92 hii hiz his hib rfl (by decide) _ _ _ rfl hown ⟨ga, 0, none⟩ 4 4 (ivals (l.wf k).nums) rfl rfl hN'.out (ivals_one _) (by unfold maxLen; omega) (by omega) (by omega) ?_; intro v' wd hown' hgrow' hnil')
        go_roundw
        case rel =>
          refine ⟨k + 1, by omega, by go_num, ?_, hPa.keep (hgrow'.block _ hPa.lt (fun e => by have := hge2 _ e.symm; omega)), (by have := hgrow'.size; omega), hBa.grown hgrow' (by omega) (fun b hb => by have := hge2 b hb; omega)⟩
          have e1 : ivals (l.head ++ bnums l.wf k) ++ ivals (l.wf k).nums = ivals (l.head ++ bnums l.wf (k + 1)) := by simp [ivals, bnums]
          rw [← e1, show 7 + 4 * (k + 1) = 7 + 4 * k + 4 from by omega]
          exact hown'
        case measure => simp [intOf]; omega
      obtain rfl : k = l.wn := by omega
      go_wp2_with fail
      go_loopw [3, 5] (fun v i wr => ∃ k : Nat, k ≤ l.gn ∧ i = .int .i64 k ∧ wr.ownsRow w1.heap.size 3 1 v (7 + 4 * l.wn + 4 * k) (ivals (l.head ++ bnums l.wf l.wn ++ bnums l.gf k)) ∧ Blk wr w.heap.size #[.int .i64 l.id, .int .i64 l.ticks, .int .i64 l.sx, .int .i64 l.sy, .slice wA l.wn l.wc, .slice gA l.gn l.gc, .int .i64 l.flx, .int .i64 l.fly, .int .i64 l.fhx, .int .i64 l.fhy, .int .i64 l.bans] ∧ w1.heap.size ≤ wr.heap.size ∧ Below w.heap.size w wr) (fun _ i _ => l.gn - (intOf i).toNat)
      case atStart => exact ⟨0, Nat.zero_le _, rfl, by simpa [bnums] using hOwn.out, hP, hz1r, hB⟩
      case round =>
        clear hOwn hP hz1r hB hc4 hc5
        obtain ⟨k, hk, rfl, hown, hP, hz1r, hB⟩ := hrel
        obtain ⟨_, _, _, _, hc4, hc5, _⟩ := hP.c11
        have hOwn := Lib.hid hown
        clear hown
        by_cases hlt : k < l.gn
        · obtain ⟨b, off, rfl, hbl, hcs⟩ := hG.resolve_left (by omega)
          obtain ⟨g0, g1, g2, g3⟩ := hcs k hlt
          have e0 := (hB.cell (p := ⟨b, off + k * 4, none⟩) hbl).trans g0
          have e1 := (hB.cell (p := ⟨b, off + k * 4 + 1, none⟩) hbl).trans g1
          have e2 := (hB.cell (p := ⟨b, off + k * 4 + 2, none⟩) hbl).trans g2
          have e3 := (hB.cell (p := ⟨b, off + k * 4 + 3, none⟩) hbl).trans g3
          clear g0 g1 g2 g3
          have q1 : (0 : Int) ≤ (k : Int) := by omega
          have q2 : (k : Int) < (l.gn : Int) := by omega
          have hL := Lib.hid hG
          have hCs := Lib.hid hcs
          have hzw : w.heap.size < wr.heap.size := hP.lt
          clear hcs hG
          go_wp2_with fail
          refine (sNums (l.gf k) _).mono ?_
          rintro e wa ⟨ga, rfl, hga, hge, hba⟩
          have hPa := hP.below hba hzw
          have hzr := hB.size
          have hza := hba.size
          have hBa : Below w.heap.size w wa := bstep hB hzr hba
          have hown : wa.ownsRow w1.heap.size 3 1 u3 ((7 + 4 * l.wn) + 4 * k) (ivals ((l.head ++ bnums l.wf l.wn) ++ bnums l.gf k)) := by
            obtain ⟨h1, h2⟩ := hOwn.out
            refine ⟨h1, ?_⟩
            rcases h2 with h2 | ⟨g', cap, cur, hv, hgb, hg, h3⟩
            · exact .inl h2
            · exact .inr ⟨g', cap, cur, hv, hgb, (hba.block g' (Array.getElem?_eq_some_iff.1 hg).1).trans hg, h3⟩
          have hN := nums_cells hga
          have hge2 : ∀ b, u3.ownBlock = some b → w.heap.size < b := fun b hb => by have := (hown.lt b hb).1; omega
          clear hOwn hc4 hc5 hB hba hga hP
          have hN' := Lib.hid hN
          clear hN
          go_wp2_with (at_builtin; refine wpList_append_own _ rfl _ _ 92 rfl w1.heap.size 3 i0 (.int .i64 0) 1 8 Try.underlying92 hii hiz his hib rfl (by decide) _ _ _ rfl hown ⟨ga, 0, none⟩ 4 4 (ivals (l.gf k).nums) rfl rfl hN'.out (ivals_one _) (by unfold maxLen; omega) (by omega) (by omega) ?_; intro v' wd hown' hgrow' hnil')
          go_roundw
          case rel =>
            refine ⟨k + 1, by omega, by go_num, ?_, hPa.keep (hgrow'.block _ hPa.lt (fun e => by have := hge2 _ e.symm; omega)), (by have := hgrow'.size; omega), hBa.grown hgrow' (by omega) (fun b hb => by have := hge2 b hb; omega)⟩
            have e1 : ivals ((l.head ++ bnums l.wf l.wn) ++ bnums l.gf k) ++ ivals (l.gf k).nums = ivals ((l.head ++ bnums l.wf l.wn) ++ bnums l.gf (k + 1)) := by simp [ivals, bnums]
            rw [← e1, show (7 + 4 * l.wn) + 4 * (k + 1) = (7 + 4 * l.wn) + 4 * k + 4 from by omega]
            exact hown'
          case measure => simp [intOf]; omega
        obtain rfl : k = l.gn := by omega
        obtain ⟨_, _, _, _, _, _, hc6, hc7, hc8, hc9, _⟩ := hP.c11
        go_wp2_with fail
        refine (sNums ⟨l.flx, l.fly, l.fhx, l.fhy⟩ _).mono ?_
        rintro e wa ⟨ga, rfl, hga, hge, hba⟩
        have hBa : Below w.heap.size w wa := bstep hB hB.size hba
        have hz1 := hB.size
        have hza := hba.size
        have hown : wa.ownsRow w1.heap.size 3 1 u3 (7 + 4 * l.wn + 4 * l.gn) (ivals (l.head ++ bnums l.wf l.wn ++ bnums l.gf l.gn)) := by
          obtain ⟨h1, h2⟩ := hOwn.out
          refine ⟨h1, ?_⟩
          rcases h2 with h2 | ⟨g', cap, cur, hv, hgb, hg, h3⟩
          · exact .inl h2
          · exact .inr ⟨g', cap, cur, hv, hgb, (hba.block g' (Array.getElem?_eq_some_iff.1 hg).1).trans hg, h3⟩
        have hge2 : ∀ b, u3.ownBlock = some b → w.heap.size < b := fun b hb => by have := (hown.lt b hb).1; omega
        have hN' := Lib.hid (nums_cells hga)
        clear hOwn hP hB hba hga hc4 hc5 hc6 hc7 hc8 hc9
        go_wp2_with (at_builtin; refine wpList_append_own _ rfl _ _ 92 rfl w1.heap.size 3 i0 (.int .i64 0) 1 8 Try.underlying92 hii hiz his hib rfl (by decide) _ _ _ rfl hown ⟨ga, 0, none⟩ 4 4 (ivals (⟨l.flx, l.fly, l.fhx, l.fhy⟩ : Bx).nums) rfl rfl hN'.out (ivals_one _) (by unfold maxLen; omega) (by omega) (by omega) ?_; intro v' wd hown' hgrow' hnil'; obtain ⟨g2, cap2, rfl, hg2, hg3⟩ := hown'.form (by omega))
        have eN : ivals (l.head ++ bnums l.wf l.wn ++ bnums l.gf l.gn) ++ ivals (⟨l.flx, l.fly, l.fhx, l.fhy⟩ : Bx).nums = ivals l.nums := by simp [ivals, Lv.nums]
        rw [eN] at hown'
        have hI := ints_row hown'
        have hlen : l.nums.length = 7 + 4 * l.wn + 4 * l.gn + 4 := by simp [Lv.nums, Lv.head, bnums_len, Bx.nums]; omega
        refine (sHash 17 _ _ _ _ _ (by omega) (by omega) (by omega) hI).mono ?_
        rintro e w' ⟨rfl, rfl⟩
        rw [← hlen, hfo_list]
        have hBd := hBa.grown hgrow' (by omega) (fun b hb => by have := hge2 b hb; omega)
        go_wp2
        go_ret
        exact ⟨ret_int (by rw [hV.out, Lv.hash_def]), hBd⟩
end Go.Proofs.Ytgghfbkeipchkaa
