/- Plain laws: a changed state has another hash. -/
import Derived.Test.YtnhjalijnociaaaQar
import Derived.Test.YtnhjalijnociaaaQat
import Derived.Deep.RegionWith
/- Plain laws: a changed state has another hash. -/
set_option linter.unusedVariables false
namespace Go.Proofs.Ytnhjalijnociaaa
open Go.RowKit

theorem St.hashV_ok {s : St} (h : 0 ≤ s.hashV) : s.own = true := by
  cases ho : s.own with
  | true => rfl
  | false => rw [St.hashV_f ho] at h; omega
theorem St.hashV_bd (s : St) : -1 ≤ s.hashV ∧ s.hashV < 1000003 := by
  cases ho : s.own with
  | true => rw [St.hashV_t ho]; have := s.hash_lo; have := s.hash_hi; omega
  | false => rw [St.hashV_f ho]; omega
theorem St.hashV_ne {s k : St} (hs : s.own = true) (h : k.hash ≠ s.hash) : k.hashV ≠ s.hashV := by
  rw [St.hashV_t hs]
  have := s.hash_lo
  cases ho : k.own with
  | true => rw [St.hashV_t ho]; exact h
  | false => rw [St.hashV_f ho]; omega
theorem St.hash_tick (s : St) {n : Int} (h : n % 1000003 ≠ s.tick % 1000003) : ({ s with tick := n } : St).hash ≠ s.hash := by
  rw [St.hash_def, St.hash_def]
  exact fold_chg [] [s.ax, s.ay, s.fx, s.fy, s.turn, s.gate, s.flag] (by omega) (by omega) h
theorem St.hash_ax (s : St) {n : Int} (h : n % 1000003 ≠ s.ax % 1000003) : ({ s with ax := n } : St).hash ≠ s.hash := by
  rw [St.hash_def, St.hash_def]
  exact fold_chg [s.tick] [s.ay, s.fx, s.fy, s.turn, s.gate, s.flag] (by omega) (by omega) h
theorem St.hash_turn (s : St) {n : Int} (h : n % 1000003 ≠ s.turn % 1000003) : ({ s with turn := n } : St).hash ≠ s.hash := by
  rw [St.hash_def, St.hash_def]
  exact fold_chg [s.tick, s.ax, s.ay, s.fx, s.fy] [s.gate, s.flag] (by omega) (by omega) h
theorem St.own_bd {s : St} (h : s.own = true) : (0 ≤ s.tick ∧ s.tick ≤ 60) ∧ (0 ≤ s.turn ∧ s.turn ≤ 15) ∧ (-1000000 ≤ s.ax ∧ s.ax ≤ 1000000) := by
  simp only [St.own, Bool.and_eq_true] at h
  obtain ⟨⟨⟨⟨⟨⟨h1, h2⟩, _⟩, _⟩, h3⟩, _⟩, _⟩ := h
  exact ⟨inB_true h1, inB_true h3, (vokB_ok h2).1⟩
/-- what the law of a changed tick, a changed direction asks -/
theorem St.new_tick {s : St} (h : s.own = true) (m : Int) (h0 : 0 ≤ m) : ({ s with tick := (s.tick + 1 + m % 60) % 61 } : St).hashV ≠ s.hashV := by
  obtain ⟨⟨t0, t1⟩, _, _⟩ := St.own_bd h
  exact St.hashV_ne h (St.hash_tick s (by omega))
theorem St.new_turn {s : St} (h : s.own = true) (m : Int) (h0 : 0 ≤ m) : ({ s with turn := (s.turn + 1 + m % 15) % 16 } : St).hashV ≠ s.hashV := by
  obtain ⟨_, ⟨t0, t1⟩, _⟩ := St.own_bd h
  exact St.hashV_ne h (St.hash_turn s (by omega))
theorem St.new_ax {s : St} (h : s.own = true) (m : Int) (h0 : 0 ≤ m) : ({ s with ax := s.ax + 1 + m % 500 } : St).hashV ≠ s.hashV := by
  obtain ⟨_, _, ⟨t0, t1⟩⟩ := St.own_bd h
  exact St.hashV_ne h (St.hash_ax s (by omega))
end Go.Proofs.Ytnhjalijnociaaa

/- The hash of a state, of the program. -/
set_option linter.unusedVariables false
namespace Go.Proofs.Ytnhjalijnociaaa
open Go.RowKit

set_option maxRecDepth 100000 in
set_option maxHeartbeats 4000000 in
theorem iStHash (s : St) (w : World) (h : (s.done && s.over) = false) : Calls Try.prog 88 #[.agg #[.int .i64 s.tick, .int .i64 s.ax, .int .i64 s.ay, .int .i64 s.fx, .int .i64 s.fy, .int .i64 s.turn, .int .i64 s.gate, .bool s.done, .bool s.over]] w fun e w' => e = .returned (.int .i64 s.hash) ∧ Below w.heap.size w w' := by
  obtain ⟨tick, ax, ay, fx, fy, turn, gate, done, over⟩ := s
  simp only at h ⊢
  cases done <;> cases over
  case true.true => cases h
  case false.false =>
    have P0 : Blk ((w.alloc (.cells #[.int .i64 tick, .int .i64 ax, .int .i64 ay, .int .i64 fx, .int .i64 fy, .int .i64 turn, .int .i64 gate, .bool false, .bool false] 31))) w.heap.size #[.int .i64 tick, .int .i64 ax, .int .i64 ay, .int .i64 fx, .int .i64 fy, .int .i64 turn, .int .i64 gate, .bool false, .bool false] := (show Blk (w.alloc (.cells #[.int .i64 tick, .int .i64 ax, .int .i64 ay, .int .i64 fx, .int .i64 fy, .int .i64 turn, .int .i64 gate, .bool false, .bool false] 31)) w.heap.size #[.int .i64 tick, .int .i64 ax, .int .i64 ay, .int .i64 fx, .int .i64 fy, .int .i64 turn, .int .i64 gate, .bool false, .bool false] from Blk.at rfl)
    have PH : Blk ((w.alloc (.cells #[.int .i64 tick, .int .i64 ax, .int .i64 ay, .int .i64 fx, .int .i64 fy, .int .i64 turn, .int .i64 gate, .bool false, .bool false] 31)).alloc (.cells #[.int .i64 17] 3)) w.heap.size #[.int .i64 tick, .int .i64 ax, .int .i64 ay, .int .i64 fx, .int .i64 fy, .int .i64 turn, .int .i64 gate, .bool false, .bool false] := P0.alloc _
    have PI : Blk ((w.alloc (.cells #[.int .i64 tick, .int .i64 ax, .int .i64 ay, .int .i64 fx, .int .i64 fy, .int .i64 turn, .int .i64 gate, .bool false, .bool false] 31)).alloc (.cells #[.int .i64 tick, .int .i64 ax, .int .i64 ay, .int .i64 fx, .int .i64 fy, .int .i64 turn, .int .i64 gate, .int .i64 0] 3)) w.heap.size #[.int .i64 tick, .int .i64 ax, .int .i64 ay, .int .i64 fx, .int .i64 fy, .int .i64 turn, .int .i64 gate, .bool false, .bool false] := P0.alloc _
    have PA : Blk (((w.alloc (.cells #[.int .i64 tick, .int .i64 ax, .int .i64 ay, .int .i64 fx, .int .i64 fy, .int .i64 turn, .int .i64 gate, .bool false, .bool false] 31)).alloc (.cells #[.int .i64 17] 3)).alloc (.cells #[.int .i64 tick, .int .i64 ax, .int .i64 ay, .int .i64 fx, .int .i64 fy, .int .i64 turn, .int .i64 gate, .int .i64 0] 3)) w.heap.size #[.int .i64 tick, .int .i64 ax, .int .i64 ay, .int .i64 fx, .int .i64 fy, .int .i64 turn, .int .i64 gate, .bool false, .bool false] := PH.alloc _
    have PB : Blk (((w.alloc (.cells #[.int .i64 tick, .int .i64 ax, .int .i64 ay, .int .i64 fx, .int .i64 fy, .int .i64 turn, .int .i64 gate, .bool false, .bool false] 31)).alloc (.cells #[.int .i64 tick, .int .i64 ax, .int .i64 ay, .int .i64 fx, .int .i64 fy, .int .i64 turn, .int .i64 gate, .int .i64 0] 3)).alloc (.cells #[.int .i64 17] 3)) w.heap.size #[.int .i64 tick, .int .i64 ax, .int .i64 ay, .int .i64 fx, .int .i64 fy, .int .i64 turn, .int .i64 gate, .bool false, .bool false] := PI.alloc _
    have NA0 : Blk (((w.alloc (.cells #[.int .i64 tick, .int .i64 ax, .int .i64 ay, .int .i64 fx, .int .i64 fy, .int .i64 turn, .int .i64 gate, .bool false, .bool false] 31)).alloc (.cells #[.int .i64 17] 3)).alloc (.cells #[.int .i64 tick, .int .i64 ax, .int .i64 ay, .int .i64 fx, .int .i64 fy, .int .i64 turn, .int .i64 gate, .int .i64 0] 3)).drew (w.heap.size + 1) #[.int .i64 17] := (show Blk (((w.alloc (.cells #[.int .i64 tick, .int .i64 ax, .int .i64 ay, .int .i64 fx, .int .i64 fy, .int .i64 turn, .int .i64 gate, .bool false, .bool false] 31)).alloc (.cells #[.int .i64 17] 3)).alloc (.cells #[.int .i64 tick, .int .i64 ax, .int .i64 ay, .int .i64 fx, .int .i64 fy, .int .i64 turn, .int .i64 gate, .int .i64 0] 3)) (w.heap.size + 1) #[.int .i64 17] from (Blk.at (by simp)).alloc _)
    have NA8 : Blk (((w.alloc (.cells #[.int .i64 tick, .int .i64 ax, .int .i64 ay, .int .i64 fx, .int .i64 fy, .int .i64 turn, .int .i64 gate, .bool false, .bool false] 31)).alloc (.cells #[.int .i64 17] 3)).alloc (.cells #[.int .i64 tick, .int .i64 ax, .int .i64 ay, .int .i64 fx, .int .i64 fy, .int .i64 turn, .int .i64 gate, .int .i64 0] 3)).drew (w.heap.size + 1 + 1) #[.int .i64 tick, .int .i64 ax, .int .i64 ay, .int .i64 fx, .int .i64 fy, .int .i64 turn, .int .i64 gate, .int .i64 0] := (show Blk (((w.alloc (.cells #[.int .i64 tick, .int .i64 ax, .int .i64 ay, .int .i64 fx, .int .i64 fy, .int .i64 turn, .int .i64 gate, .bool false, .bool false] 31)).alloc (.cells #[.int .i64 17] 3)).alloc (.cells #[.int .i64 tick, .int .i64 ax, .int .i64 ay, .int .i64 fx, .int .i64 fy, .int .i64 turn, .int .i64 gate, .int .i64 0] 3)) (w.heap.size + 1 + 1) #[.int .i64 tick, .int .i64 ax, .int .i64 ay, .int .i64 fx, .int .i64 fy, .int .i64 turn, .int .i64 gate, .int .i64 0] from Blk.at (by simp))
    have NB8 : Blk (((w.alloc (.cells #[.int .i64 tick, .int .i64 ax, .int .i64 ay, .int .i64 fx, .int .i64 fy, .int .i64 turn, .int .i64 gate, .bool false, .bool false] 31)).alloc (.cells #[.int .i64 tick, .int .i64 ax, .int .i64 ay, .int .i64 fx, .int .i64 fy, .int .i64 turn, .int .i64 gate, .int .i64 0] 3)).alloc (.cells #[.int .i64 17] 3)).drew (w.heap.size + 1) #[.int .i64 tick, .int .i64 ax, .int .i64 ay, .int .i64 fx, .int .i64 fy, .int .i64 turn, .int .i64 gate, .int .i64 0] := (show Blk (((w.alloc (.cells #[.int .i64 tick, .int .i64 ax, .int .i64 ay, .int .i64 fx, .int .i64 fy, .int .i64 turn, .int .i64 gate, .bool false, .bool false] 31)).alloc (.cells #[.int .i64 tick, .int .i64 ax, .int .i64 ay, .int .i64 fx, .int .i64 fy, .int .i64 turn, .int .i64 gate, .int .i64 0] 3)).alloc (.cells #[.int .i64 17] 3)) (w.heap.size + 1) #[.int .i64 tick, .int .i64 ax, .int .i64 ay, .int .i64 fx, .int .i64 fy, .int .i64 turn, .int .i64 gate, .int .i64 0] from (Blk.at (by simp)).alloc _)
    have NB0 : Blk (((w.alloc (.cells #[.int .i64 tick, .int .i64 ax, .int .i64 ay, .int .i64 fx, .int .i64 fy, .int .i64 turn, .int .i64 gate, .bool false, .bool false] 31)).alloc (.cells #[.int .i64 tick, .int .i64 ax, .int .i64 ay, .int .i64 fx, .int .i64 fy, .int .i64 turn, .int .i64 gate, .int .i64 0] 3)).alloc (.cells #[.int .i64 17] 3)).drew (w.heap.size + 1 + 1) #[.int .i64 17] := (show Blk (((w.alloc (.cells #[.int .i64 tick, .int .i64 ax, .int .i64 ay, .int .i64 fx, .int .i64 fy, .int .i64 turn, .int .i64 gate, .bool false, .bool false] 31)).alloc (.cells #[.int .i64 tick, .int .i64 ax, .int .i64 ay, .int .i64 fx, .int .i64 fy, .int .i64 turn, .int .i64 gate, .int .i64 0] 3)).alloc (.cells #[.int .i64 17] 3)) (w.heap.size + 1 + 1) #[.int .i64 17] from Blk.at (by simp))
    have z17a : (0 : Int) ≤ 17 := by omega
    have z17b : (17 : Int) < 1000003 := by omega
    have z8 : 8 ≤ 1099511627776 := by omega
    have CA := NA0.cell 0
    have FA := NA0.frozen 0
    have IA := ints8 NA8
    have CB := NB0.cell 0
    have FB := NB0.frozen 0
    have IB := ints8 NB8
    have hneA : ∀ b : Addr, some (⟨w.heap.size + 1 + 1, 0, none⟩ : Addr) = some b → b.block ≠ w.heap.size + 1 := by intro b hb; cases hb; simp
    have hneB : ∀ b : Addr, some (⟨w.heap.size + 1, 0, none⟩ : Addr) = some b → b.block ≠ w.heap.size + 1 + 1 := by intro b hb; cases hb; simp
    have hA := Lib.hid (And.intro CA (And.intro FA (And.intro IA hneA)))
    have hB := Lib.hid (And.intro CB (And.intro FB (And.intro IB hneB)))
    clear CA FA IA CB FB IB hneA hneB NA0 NA8 NB0 NB8
    go_enter Try.func88, Try.ntmps88
    go_wp2_with fail
    go_region_held3 (fun W => W.cell? ⟨w.heap.size, 0, none⟩ = some (.int .i64 tick) ∧ W.cell? ⟨w.heap.size, 1, none⟩ = some (.int .i64 ax) ∧ W.cell? ⟨w.heap.size, 2, none⟩ = some (.int .i64 ay) ∧ W.cell? ⟨w.heap.size, 3, none⟩ = some (.int .i64 fx) ∧ W.cell? ⟨w.heap.size, 4, none⟩ = some (.int .i64 fy) ∧ W.cell? ⟨w.heap.size, 5, none⟩ = some (.int .i64 turn) ∧ W.cell? ⟨w.heap.size, 6, none⟩ = some (.int .i64 gate))
      (((try simp only [World.cell?_drew]); (first | with_reducible exact ⟨P0.c9.1, P0.c9.2.1, P0.c9.2.2.1, P0.c9.2.2.2.1, P0.c9.2.2.2.2.1, P0.c9.2.2.2.2.2.1, P0.c9.2.2.2.2.2.2.1⟩ | with_reducible exact ⟨PH.c9.1, PH.c9.2.1, PH.c9.2.2.1, PH.c9.2.2.2.1, PH.c9.2.2.2.2.1, PH.c9.2.2.2.2.2.1, PH.c9.2.2.2.2.2.2.1⟩ | with_reducible exact ⟨PI.c9.1, PI.c9.2.1, PI.c9.2.2.1, PI.c9.2.2.2.1, PI.c9.2.2.2.2.1, PI.c9.2.2.2.2.2.1, PI.c9.2.2.2.2.2.2.1⟩ | with_reducible exact ⟨PA.c9.1, PA.c9.2.1, PA.c9.2.2.1, PA.c9.2.2.2.1, PA.c9.2.2.2.2.1, PA.c9.2.2.2.2.2.1, PA.c9.2.2.2.2.2.2.1⟩ | with_reducible exact ⟨PB.c9.1, PB.c9.2.1, PB.c9.2.2.1, PB.c9.2.2.2.1, PB.c9.2.2.2.2.1, PB.c9.2.2.2.2.2.1, PB.c9.2.2.2.2.2.2.1⟩ | with_reducible exact ⟨P3.c9.1, P3.c9.2.1, P3.c9.2.2.1, P3.c9.2.2.2.1, P3.c9.2.2.2.2.1, P3.c9.2.2.2.2.2.1, P3.c9.2.2.2.2.2.2.1⟩ | fail)))
      (first
        | (go_at_call 119; refine (iHasher _).mono ?_; rintro e w' ⟨rfl, rfl⟩)
        | (go_at_call 132; (with_reducible refine (iNext (w.heap.size + 1) 17 _ 8 8 _ _ hA.out.1 hA.out.2.1 z17a z17b z8 hA.out.2.2.1 hA.out.2.2.2).mono ?_); rintro e w3 ⟨rfl, hH3, hF3, hu3⟩; (have P3 := Blk.up (w := (((w.alloc (.cells #[.int .i64 tick, .int .i64 ax, .int .i64 ay, .int .i64 fx, .int .i64 fy, .int .i64 turn, .int .i64 gate, .bool false, .bool false] 31)).alloc (.cells #[.int .i64 17] 3)).alloc (.cells #[.int .i64 tick, .int .i64 ax, .int .i64 ay, .int .i64 fx, .int .i64 fy, .int .i64 turn, .int .i64 gate, .int .i64 0] 3)).drew) PA hu3 (by simp; omega) (by omega)); (have hB3 : Below w.heap.size w w3 := (upstep (R := w.heap.size + 1) (by (repeat (first | assumption | exact Up.refl _ _ _ | refine Up.alloc ?_ (by first | omega | (simp; done) | (simp; omega)) _ | refine Up.setCell ?_ (.inr (by first | omega | (simp; done) | (simp; omega))) _ | refine Up.drew ?_ | refine Up.drewN ?_ _))) (by first | omega | (simp; done) | (simp; omega)) hu3).below (by omega)))
        | (go_at_call 132; (with_reducible refine (iNext (w.heap.size + 1 + 1) 17 _ 8 8 _ _ hB.out.1 hB.out.2.1 z17a z17b z8 hB.out.2.2.1 hB.out.2.2.2).mono ?_); rintro e w3 ⟨rfl, hH3, hF3, hu3⟩; (have P3 := Blk.up (w := (((w.alloc (.cells #[.int .i64 tick, .int .i64 ax, .int .i64 ay, .int .i64 fx, .int .i64 fy, .int .i64 turn, .int .i64 gate, .bool false, .bool false] 31)).alloc (.cells #[.int .i64 tick, .int .i64 ax, .int .i64 ay, .int .i64 fx, .int .i64 fy, .int .i64 turn, .int .i64 gate, .int .i64 0] 3)).alloc (.cells #[.int .i64 17] 3)).drew) PB hu3 (by simp; omega) (by omega)); (have hB3 : Below w.heap.size w w3 := (upstep (R := w.heap.size + 1 + 1) (by (repeat (first | assumption | exact Up.refl _ _ _ | refine Up.alloc ?_ (by first | omega | (simp; done) | (simp; omega)) _ | refine Up.setCell ?_ (.inr (by first | omega | (simp; done) | (simp; omega))) _ | refine Up.drew ?_ | refine Up.drewN ?_ _))) (by first | omega | (simp; done) | (simp; omega)) hu3).below (by omega))))
    all_goals
      go_wp2
      go_ret
      exact ⟨ret_int (by rw [St.hash_def]; exact hfo_eight _ _ _ _ _ _ _ _), hB3⟩
  case false.true =>
    have P0 : Blk ((w.alloc (.cells #[.int .i64 tick, .int .i64 ax, .int .i64 ay, .int .i64 fx, .int .i64 fy, .int .i64 turn, .int .i64 gate, .bool false, .bool true] 31))) w.heap.size #[.int .i64 tick, .int .i64 ax, .int .i64 ay, .int .i64 fx, .int .i64 fy, .int .i64 turn, .int .i64 gate, .bool false, .bool true] := (show Blk (w.alloc (.cells #[.int .i64 tick, .int .i64 ax, .int .i64 ay, .int .i64 fx, .int .i64 fy, .int .i64 turn, .int .i64 gate, .bool false, .bool true] 31)) w.heap.size #[.int .i64 tick, .int .i64 ax, .int .i64 ay, .int .i64 fx, .int .i64 fy, .int .i64 turn, .int .i64 gate, .bool false, .bool true] from Blk.at rfl)
    have PH : Blk ((w.alloc (.cells #[.int .i64 tick, .int .i64 ax, .int .i64 ay, .int .i64 fx, .int .i64 fy, .int .i64 turn, .int .i64 gate, .bool false, .bool true] 31)).alloc (.cells #[.int .i64 17] 3)) w.heap.size #[.int .i64 tick, .int .i64 ax, .int .i64 ay, .int .i64 fx, .int .i64 fy, .int .i64 turn, .int .i64 gate, .bool false, .bool true] := P0.alloc _
    have PI : Blk ((w.alloc (.cells #[.int .i64 tick, .int .i64 ax, .int .i64 ay, .int .i64 fx, .int .i64 fy, .int .i64 turn, .int .i64 gate, .bool false, .bool true] 31)).alloc (.cells #[.int .i64 tick, .int .i64 ax, .int .i64 ay, .int .i64 fx, .int .i64 fy, .int .i64 turn, .int .i64 gate, .int .i64 2] 3)) w.heap.size #[.int .i64 tick, .int .i64 ax, .int .i64 ay, .int .i64 fx, .int .i64 fy, .int .i64 turn, .int .i64 gate, .bool false, .bool true] := P0.alloc _
    have PA : Blk (((w.alloc (.cells #[.int .i64 tick, .int .i64 ax, .int .i64 ay, .int .i64 fx, .int .i64 fy, .int .i64 turn, .int .i64 gate, .bool false, .bool true] 31)).alloc (.cells #[.int .i64 17] 3)).alloc (.cells #[.int .i64 tick, .int .i64 ax, .int .i64 ay, .int .i64 fx, .int .i64 fy, .int .i64 turn, .int .i64 gate, .int .i64 2] 3)) w.heap.size #[.int .i64 tick, .int .i64 ax, .int .i64 ay, .int .i64 fx, .int .i64 fy, .int .i64 turn, .int .i64 gate, .bool false, .bool true] := PH.alloc _
    have PB : Blk (((w.alloc (.cells #[.int .i64 tick, .int .i64 ax, .int .i64 ay, .int .i64 fx, .int .i64 fy, .int .i64 turn, .int .i64 gate, .bool false, .bool true] 31)).alloc (.cells #[.int .i64 tick, .int .i64 ax, .int .i64 ay, .int .i64 fx, .int .i64 fy, .int .i64 turn, .int .i64 gate, .int .i64 2] 3)).alloc (.cells #[.int .i64 17] 3)) w.heap.size #[.int .i64 tick, .int .i64 ax, .int .i64 ay, .int .i64 fx, .int .i64 fy, .int .i64 turn, .int .i64 gate, .bool false, .bool true] := PI.alloc _
    have NA0 : Blk (((w.alloc (.cells #[.int .i64 tick, .int .i64 ax, .int .i64 ay, .int .i64 fx, .int .i64 fy, .int .i64 turn, .int .i64 gate, .bool false, .bool true] 31)).alloc (.cells #[.int .i64 17] 3)).alloc (.cells #[.int .i64 tick, .int .i64 ax, .int .i64 ay, .int .i64 fx, .int .i64 fy, .int .i64 turn, .int .i64 gate, .int .i64 2] 3)).drew (w.heap.size + 1) #[.int .i64 17] := (show Blk (((w.alloc (.cells #[.int .i64 tick, .int .i64 ax, .int .i64 ay, .int .i64 fx, .int .i64 fy, .int .i64 turn, .int .i64 gate, .bool false, .bool true] 31)).alloc (.cells #[.int .i64 17] 3)).alloc (.cells #[.int .i64 tick, .int .i64 ax, .int .i64 ay, .int .i64 fx, .int .i64 fy, .int .i64 turn, .int .i64 gate, .int .i64 2] 3)) (w.heap.size + 1) #[.int .i64 17] from (Blk.at (by simp)).alloc _)
    have NA8 : Blk (((w.alloc (.cells #[.int .i64 tick, .int .i64 ax, .int .i64 ay, .int .i64 fx, .int .i64 fy, .int .i64 turn, .int .i64 gate, .bool false, .bool true] 31)).alloc (.cells #[.int .i64 17] 3)).alloc (.cells #[.int .i64 tick, .int .i64 ax, .int .i64 ay, .int .i64 fx, .int .i64 fy, .int .i64 turn, .int .i64 gate, .int .i64 2] 3)).drew (w.heap.size + 1 + 1) #[.int .i64 tick, .int .i64 ax, .int .i64 ay, .int .i64 fx, .int .i64 fy, .int .i64 turn, .int .i64 gate, .int .i64 2] := (show Blk (((w.alloc (.cells #[.int .i64 tick, .int .i64 ax, .int .i64 ay, .int .i64 fx, .int .i64 fy, .int .i64 turn, .int .i64 gate, .bool false, .bool true] 31)).alloc (.cells #[.int .i64 17] 3)).alloc (.cells #[.int .i64 tick, .int .i64 ax, .int .i64 ay, .int .i64 fx, .int .i64 fy, .int .i64 turn, .int .i64 gate, .int .i64 2] 3)) (w.heap.size + 1 + 1) #[.int .i64 tick, .int .i64 ax, .int .i64 ay, .int .i64 fx, .int .i64 fy, .int .i64 turn, .int .i64 gate, .int .i64 2] from Blk.at (by simp))
    have NB8 : Blk (((w.alloc (.cells #[.int .i64 tick, .int .i64 ax, .int .i64 ay, .int .i64 fx, .int .i64 fy, .int .i64 turn, .int .i64 gate, .bool false, .bool true] 31)).alloc (.cells #[.int .i64 tick, .int .i64 ax, .int .i64 ay, .int .i64 fx, .int .i64 fy, .int .i64 turn, .int .i64 gate, .int .i64 2] 3)).alloc (.cells #[.int .i64 17] 3)).drew (w.heap.size + 1) #[.int .i64 tick, .int .i64 ax, .int .i64 ay, .int .i64 fx, .int .i64 fy, .int .i64 turn, .int .i64 gate, .int .i64 2] := (show Blk (((w.alloc (.cells #[.int .i64 tick, .int .i64 ax, .int .i64 ay, .int .i64 fx, .int .i64 fy, .int .i64 turn, .int .i64 gate, .bool false, .bool true] 31)).alloc (.cells #[.int .i64 tick, .int .i64 ax, .int .i64 ay, .int .i64 fx, .int .i64 fy, .int .i64 turn, .int .i64 gate, .int .i64 2] 3)).alloc (.cells #[.int .i64 17] 3)) (w.heap.size + 1) #[.int .i64 tick, .int .i64 ax, .int .i64 ay, .int .i64 fx, .int .i64 fy, .int .i64 turn, .int .i64 gate, .int .i64 2] from (Blk.at (by simp)).alloc _)
    have NB0 : Blk (((w.alloc (.cells #[.int .i64 tick, .int .i64 ax, .int .i64 ay, .int .i64 fx, .int .i64 fy, .int .i64 turn, .int .i64 gate, .bool false, .bool true] 31)).alloc (.cells #[.int .i64 tick, .int .i64 ax, .int .i64 ay, .int .i64 fx, .int .i64 fy, .int .i64 turn, .int .i64 gate, .int .i64 2] 3)).alloc (.cells #[.int .i64 17] 3)).drew (w.heap.size + 1 + 1) #[.int .i64 17] := (show Blk (((w.alloc (.cells #[.int .i64 tick, .int .i64 ax, .int .i64 ay, .int .i64 fx, .int .i64 fy, .int .i64 turn, .int .i64 gate, .bool false, .bool true] 31)).alloc (.cells #[.int .i64 tick, .int .i64 ax, .int .i64 ay, .int .i64 fx, .int .i64 fy, .int .i64 turn, .int .i64 gate, .int .i64 2] 3)).alloc (.cells #[.int .i64 17] 3)) (w.heap.size + 1 + 1) #[.int .i64 17] from Blk.at (by simp))
    have z17a : (0 : Int) ≤ 17 := by omega
    have z17b : (17 : Int) < 1000003 := by omega
    have z8 : 8 ≤ 1099511627776 := by omega
    have CA := NA0.cell 0
    have FA := NA0.frozen 0
    have IA := ints8 NA8
    have CB := NB0.cell 0
    have FB := NB0.frozen 0
    have IB := ints8 NB8
    have hneA : ∀ b : Addr, some (⟨w.heap.size + 1 + 1, 0, none⟩ : Addr) = some b → b.block ≠ w.heap.size + 1 := by intro b hb; cases hb; simp
    have hneB : ∀ b : Addr, some (⟨w.heap.size + 1, 0, none⟩ : Addr) = some b → b.block ≠ w.heap.size + 1 + 1 := by intro b hb; cases hb; simp
    have hA := Lib.hid (And.intro CA (And.intro FA (And.intro IA hneA)))
    have hB := Lib.hid (And.intro CB (And.intro FB (And.intro IB hneB)))
    clear CA FA IA CB FB IB hneA hneB NA0 NA8 NB0 NB8
    go_enter Try.func88, Try.ntmps88
    go_wp2_with fail
    go_region_held3 (fun W => W.cell? ⟨w.heap.size, 0, none⟩ = some (.int .i64 tick) ∧ W.cell? ⟨w.heap.size, 1, none⟩ = some (.int .i64 ax) ∧ W.cell? ⟨w.heap.size, 2, none⟩ = some (.int .i64 ay) ∧ W.cell? ⟨w.heap.size, 3, none⟩ = some (.int .i64 fx) ∧ W.cell? ⟨w.heap.size, 4, none⟩ = some (.int .i64 fy) ∧ W.cell? ⟨w.heap.size, 5, none⟩ = some (.int .i64 turn) ∧ W.cell? ⟨w.heap.size, 6, none⟩ = some (.int .i64 gate))
      (((try simp only [World.cell?_drew]); (first | with_reducible exact ⟨P0.c9.1, P0.c9.2.1, P0.c9.2.2.1, P0.c9.2.2.2.1, P0.c9.2.2.2.2.1, P0.c9.2.2.2.2.2.1, P0.c9.2.2.2.2.2.2.1⟩ | with_reducible exact ⟨PH.c9.1, PH.c9.2.1, PH.c9.2.2.1, PH.c9.2.2.2.1, PH.c9.2.2.2.2.1, PH.c9.2.2.2.2.2.1, PH.c9.2.2.2.2.2.2.1⟩ | with_reducible exact ⟨PI.c9.1, PI.c9.2.1, PI.c9.2.2.1, PI.c9.2.2.2.1, PI.c9.2.2.2.2.1, PI.c9.2.2.2.2.2.1, PI.c9.2.2.2.2.2.2.1⟩ | with_reducible exact ⟨PA.c9.1, PA.c9.2.1, PA.c9.2.2.1, PA.c9.2.2.2.1, PA.c9.2.2.2.2.1, PA.c9.2.2.2.2.2.1, PA.c9.2.2.2.2.2.2.1⟩ | with_reducible exact ⟨PB.c9.1, PB.c9.2.1, PB.c9.2.2.1, PB.c9.2.2.2.1, PB.c9.2.2.2.2.1, PB.c9.2.2.2.2.2.1, PB.c9.2.2.2.2.2.2.1⟩ | with_reducible exact ⟨P3.c9.1, P3.c9.2.1, P3.c9.2.2.1, P3.c9.2.2.2.1, P3.c9.2.2.2.2.1, P3.c9.2.2.2.2.2.1, P3.c9.2.2.2.2.2.2.1⟩ | fail)))
      (first
        | (go_at_call 119; refine (iHasher _).mono ?_; rintro e w' ⟨rfl, rfl⟩)
        | (go_at_call 132; (with_reducible refine (iNext (w.heap.size + 1) 17 _ 8 8 _ _ hA.out.1 hA.out.2.1 z17a z17b z8 hA.out.2.2.1 hA.out.2.2.2).mono ?_); rintro e w3 ⟨rfl, hH3, hF3, hu3⟩; (have P3 := Blk.up (w := (((w.alloc (.cells #[.int .i64 tick, .int .i64 ax, .int .i64 ay, .int .i64 fx, .int .i64 fy, .int .i64 turn, .int .i64 gate, .bool false, .bool true] 31)).alloc (.cells #[.int .i64 17] 3)).alloc (.cells #[.int .i64 tick, .int .i64 ax, .int .i64 ay, .int .i64 fx, .int .i64 fy, .int .i64 turn, .int .i64 gate, .int .i64 2] 3)).drew) PA hu3 (by simp; omega) (by omega)); (have hB3 : Below w.heap.size w w3 := (upstep (R := w.heap.size + 1) (by (repeat (first | assumption | exact Up.refl _ _ _ | refine Up.alloc ?_ (by first | omega | (simp; done) | (simp; omega)) _ | refine Up.setCell ?_ (.inr (by first | omega | (simp; done) | (simp; omega))) _ | refine Up.drew ?_ | refine Up.drewN ?_ _))) (by first | omega | (simp; done) | (simp; omega)) hu3).below (by omega)))
        | (go_at_call 132; (with_reducible refine (iNext (w.heap.size + 1 + 1) 17 _ 8 8 _ _ hB.out.1 hB.out.2.1 z17a z17b z8 hB.out.2.2.1 hB.out.2.2.2).mono ?_); rintro e w3 ⟨rfl, hH3, hF3, hu3⟩; (have P3 := Blk.up (w := (((w.alloc (.cells #[.int .i64 tick, .int .i64 ax, .int .i64 ay, .int .i64 fx, .int .i64 fy, .int .i64 turn, .int .i64 gate, .bool false, .bool true] 31)).alloc (.cells #[.int .i64 tick, .int .i64 ax, .int .i64 ay, .int .i64 fx, .int .i64 fy, .int .i64 turn, .int .i64 gate, .int .i64 2] 3)).alloc (.cells #[.int .i64 17] 3)).drew) PB hu3 (by simp; omega) (by omega)); (have hB3 : Below w.heap.size w w3 := (upstep (R := w.heap.size + 1 + 1) (by (repeat (first | assumption | exact Up.refl _ _ _ | refine Up.alloc ?_ (by first | omega | (simp; done) | (simp; omega)) _ | refine Up.setCell ?_ (.inr (by first | omega | (simp; done) | (simp; omega))) _ | refine Up.drew ?_ | refine Up.drewN ?_ _))) (by first | omega | (simp; done) | (simp; omega)) hu3).below (by omega))))
    all_goals
      go_wp2
      go_ret
      exact ⟨ret_int (by rw [St.hash_def]; exact hfo_eight _ _ _ _ _ _ _ _), hB3⟩
  case true.false =>
    have P0 : Blk ((w.alloc (.cells #[.int .i64 tick, .int .i64 ax, .int .i64 ay, .int .i64 fx, .int .i64 fy, .int .i64 turn, .int .i64 gate, .bool true, .bool false] 31))) w.heap.size #[.int .i64 tick, .int .i64 ax, .int .i64 ay, .int .i64 fx, .int .i64 fy, .int .i64 turn, .int .i64 gate, .bool true, .bool false] := (show Blk (w.alloc (.cells #[.int .i64 tick, .int .i64 ax, .int .i64 ay, .int .i64 fx, .int .i64 fy, .int .i64 turn, .int .i64 gate, .bool true, .bool false] 31)) w.heap.size #[.int .i64 tick, .int .i64 ax, .int .i64 ay, .int .i64 fx, .int .i64 fy, .int .i64 turn, .int .i64 gate, .bool true, .bool false] from Blk.at rfl)
    have PH : Blk ((w.alloc (.cells #[.int .i64 tick, .int .i64 ax, .int .i64 ay, .int .i64 fx, .int .i64 fy, .int .i64 turn, .int .i64 gate, .bool true, .bool false] 31)).alloc (.cells #[.int .i64 17] 3)) w.heap.size #[.int .i64 tick, .int .i64 ax, .int .i64 ay, .int .i64 fx, .int .i64 fy, .int .i64 turn, .int .i64 gate, .bool true, .bool false] := P0.alloc _
    have PI : Blk ((w.alloc (.cells #[.int .i64 tick, .int .i64 ax, .int .i64 ay, .int .i64 fx, .int .i64 fy, .int .i64 turn, .int .i64 gate, .bool true, .bool false] 31)).alloc (.cells #[.int .i64 tick, .int .i64 ax, .int .i64 ay, .int .i64 fx, .int .i64 fy, .int .i64 turn, .int .i64 gate, .int .i64 1] 3)) w.heap.size #[.int .i64 tick, .int .i64 ax, .int .i64 ay, .int .i64 fx, .int .i64 fy, .int .i64 turn, .int .i64 gate, .bool true, .bool false] := P0.alloc _
    have PA : Blk (((w.alloc (.cells #[.int .i64 tick, .int .i64 ax, .int .i64 ay, .int .i64 fx, .int .i64 fy, .int .i64 turn, .int .i64 gate, .bool true, .bool false] 31)).alloc (.cells #[.int .i64 17] 3)).alloc (.cells #[.int .i64 tick, .int .i64 ax, .int .i64 ay, .int .i64 fx, .int .i64 fy, .int .i64 turn, .int .i64 gate, .int .i64 1] 3)) w.heap.size #[.int .i64 tick, .int .i64 ax, .int .i64 ay, .int .i64 fx, .int .i64 fy, .int .i64 turn, .int .i64 gate, .bool true, .bool false] := PH.alloc _
    have PB : Blk (((w.alloc (.cells #[.int .i64 tick, .int .i64 ax, .int .i64 ay, .int .i64 fx, .int .i64 fy, .int .i64 turn, .int .i64 gate, .bool true, .bool false] 31)).alloc (.cells #[.int .i64 tick, .int .i64 ax, .int .i64 ay, .int .i64 fx, .int .i64 fy, .int .i64 turn, .int .i64 gate, .int .i64 1] 3)).alloc (.cells #[.int .i64 17] 3)) w.heap.size #[.int .i64 tick, .int .i64 ax, .int .i64 ay, .int .i64 fx, .int .i64 fy, .int .i64 turn, .int .i64 gate, .bool true, .bool false] := PI.alloc _
    have NA0 : Blk (((w.alloc (.cells #[.int .i64 tick, .int .i64 ax, .int .i64 ay, .int .i64 fx, .int .i64 fy, .int .i64 turn, .int .i64 gate, .bool true, .bool false] 31)).alloc (.cells #[.int .i64 17] 3)).alloc (.cells #[.int .i64 tick, .int .i64 ax, .int .i64 ay, .int .i64 fx, .int .i64 fy, .int .i64 turn, .int .i64 gate, .int .i64 1] 3)).drew (w.heap.size + 1) #[.int .i64 17] := (show Blk (((w.alloc (.cells #[.int .i64 tick, .int .i64 ax, .int .i64 ay, .int .i64 fx, .int .i64 fy, .int .i64 turn, .int .i64 gate, .bool true, .bool false] 31)).alloc (.cells #[.int .i64 17] 3)).alloc (.cells #[.int .i64 tick, .int .i64 ax, .int .i64 ay, .int .i64 fx, .int .i64 fy, .int .i64 turn, .int .i64 gate, .int .i64 1] 3)) (w.heap.size + 1) #[.int .i64 17] from (Blk.at (by simp)).alloc _)
    have NA8 : Blk (((w.alloc (.cells #[.int .i64 tick, .int .i64 ax, .int .i64 ay, .int .i64 fx, .int .i64 fy, .int .i64 turn, .int .i64 gate, .bool true, .bool false] 31)).alloc (.cells #[.int .i64 17] 3)).alloc (.cells #[.int .i64 tick, .int .i64 ax, .int .i64 ay, .int .i64 fx, .int .i64 fy, .int .i64 turn, .int .i64 gate, .int .i64 1] 3)).drew (w.heap.size + 1 + 1) #[.int .i64 tick, .int .i64 ax, .int .i64 ay, .int .i64 fx, .int .i64 fy, .int .i64 turn, .int .i64 gate, .int .i64 1] := (show Blk (((w.alloc (.cells #[.int .i64 tick, .int .i64 ax, .int .i64 ay, .int .i64 fx, .int .i64 fy, .int .i64 turn, .int .i64 gate, .bool true, .bool false] 31)).alloc (.cells #[.int .i64 17] 3)).alloc (.cells #[.int .i64 tick, .int .i64 ax, .int .i64 ay, .int .i64 fx, .int .i64 fy, .int .i64 turn, .int .i64 gate, .int .i64 1] 3)) (w.heap.size + 1 + 1) #[.int .i64 tick, .int .i64 ax, .int .i64 ay, .int .i64 fx, .int .i64 fy, .int .i64 turn, .int .i64 gate, .int .i64 1] from Blk.at (by simp))
    have NB8 : Blk (((w.alloc (.cells #[.int .i64 tick, .int .i64 ax, .int .i64 ay, .int .i64 fx, .int .i64 fy, .int .i64 turn, .int .i64 gate, .bool true, .bool false] 31)).alloc (.cells #[.int .i64 tick, .int .i64 ax, .int .i64 ay, .int .i64 fx, .int .i64 fy, .int .i64 turn, .int .i64 gate, .int .i64 1] 3)).alloc (.cells #[.int .i64 17] 3)).drew (w.heap.size + 1) #[.int .i64 tick, .int .i64 ax, .int .i64 ay, .int .i64 fx, .int .i64 fy, .int .i64 turn, .int .i64 gate, .int .i64 1] := (show Blk (((w.alloc (.cells #[.int .i64 tick, .int .i64 ax, .int .i64 ay, .int .i64 fx, .int .i64 fy, .int .i64 turn, .int .i64 gate, .bool true, .bool false] 31)).alloc (.cells #[.int .i64 tick, .int .i64 ax, .int .i64 ay, .int .i64 fx, .int .i64 fy, .int .i64 turn, .int .i64 gate, .int .i64 1] 3)).alloc (.cells #[.int .i64 17] 3)) (w.heap.size + 1) #[.int .i64 tick, .int .i64 ax, .int .i64 ay, .int .i64 fx, .int .i64 fy, .int .i64 turn, .int .i64 gate, .int .i64 1] from (Blk.at (by simp)).alloc _)
    have NB0 : Blk (((w.alloc (.cells #[.int .i64 tick, .int .i64 ax, .int .i64 ay, .int .i64 fx, .int .i64 fy, .int .i64 turn, .int .i64 gate, .bool true, .bool false] 31)).alloc (.cells #[.int .i64 tick, .int .i64 ax, .int .i64 ay, .int .i64 fx, .int .i64 fy, .int .i64 turn, .int .i64 gate, .int .i64 1] 3)).alloc (.cells #[.int .i64 17] 3)).drew (w.heap.size + 1 + 1) #[.int .i64 17] := (show Blk (((w.alloc (.cells #[.int .i64 tick, .int .i64 ax, .int .i64 ay, .int .i64 fx, .int .i64 fy, .int .i64 turn, .int .i64 gate, .bool true, .bool false] 31)).alloc (.cells #[.int .i64 tick, .int .i64 ax, .int .i64 ay, .int .i64 fx, .int .i64 fy, .int .i64 turn, .int .i64 gate, .int .i64 1] 3)).alloc (.cells #[.int .i64 17] 3)) (w.heap.size + 1 + 1) #[.int .i64 17] from Blk.at (by simp))
    have z17a : (0 : Int) ≤ 17 := by omega
    have z17b : (17 : Int) < 1000003 := by omega
    have z8 : 8 ≤ 1099511627776 := by omega
    have CA := NA0.cell 0
    have FA := NA0.frozen 0
    have IA := ints8 NA8
    have CB := NB0.cell 0
    have FB := NB0.frozen 0
    have IB := ints8 NB8
    have hneA : ∀ b : Addr, some (⟨w.heap.size + 1 + 1, 0, none⟩ : Addr) = some b → b.block ≠ w.heap.size + 1 := by intro b hb; cases hb; simp
    have hneB : ∀ b : Addr, some (⟨w.heap.size + 1, 0, none⟩ : Addr) = some b → b.block ≠ w.heap.size + 1 + 1 := by intro b hb; cases hb; simp
    have hA := Lib.hid (And.intro CA (And.intro FA (And.intro IA hneA)))
    have hB := Lib.hid (And.intro CB (And.intro FB (And.intro IB hneB)))
    clear CA FA IA CB FB IB hneA hneB NA0 NA8 NB0 NB8
    go_enter Try.func88, Try.ntmps88
    go_wp2_with fail
    go_region_held3 (fun W => W.cell? ⟨w.heap.size, 0, none⟩ = some (.int .i64 tick) ∧ W.cell? ⟨w.heap.size, 1, none⟩ = some (.int .i64 ax) ∧ W.cell? ⟨w.heap.size, 2, none⟩ = some (.int .i64 ay) ∧ W.cell? ⟨w.heap.size, 3, none⟩ = some (.int .i64 fx) ∧ W.cell? ⟨w.heap.size, 4, none⟩ = some (.int .i64 fy) ∧ W.cell? ⟨w.heap.size, 5, none⟩ = some (.int .i64 turn) ∧ W.cell? ⟨w.heap.size, 6, none⟩ = some (.int .i64 gate))
      (((try simp only [World.cell?_drew]); (first | with_reducible exact ⟨P0.c9.1, P0.c9.2.1, P0.c9.2.2.1, P0.c9.2.2.2.1, P0.c9.2.2.2.2.1, P0.c9.2.2.2.2.2.1, P0.c9.2.2.2.2.2.2.1⟩ | with_reducible exact ⟨PH.c9.1, PH.c9.2.1, PH.c9.2.2.1, PH.c9.2.2.2.1, PH.c9.2.2.2.2.1, PH.c9.2.2.2.2.2.1, PH.c9.2.2.2.2.2.2.1⟩ | with_reducible exact ⟨PI.c9.1, PI.c9.2.1, PI.c9.2.2.1, PI.c9.2.2.2.1, PI.c9.2.2.2.2.1, PI.c9.2.2.2.2.2.1, PI.c9.2.2.2.2.2.2.1⟩ | with_reducible exact ⟨PA.c9.1, PA.c9.2.1, PA.c9.2.2.1, PA.c9.2.2.2.1, PA.c9.2.2.2.2.1, PA.c9.2.2.2.2.2.1, PA.c9.2.2.2.2.2.2.1⟩ | with_reducible exact ⟨PB.c9.1, PB.c9.2.1, PB.c9.2.2.1, PB.c9.2.2.2.1, PB.c9.2.2.2.2.1, PB.c9.2.2.2.2.2.1, PB.c9.2.2.2.2.2.2.1⟩ | with_reducible exact ⟨P3.c9.1, P3.c9.2.1, P3.c9.2.2.1, P3.c9.2.2.2.1, P3.c9.2.2.2.2.1, P3.c9.2.2.2.2.2.1, P3.c9.2.2.2.2.2.2.1⟩ | fail)))
      (first
        | (go_at_call 119; refine (iHasher _).mono ?_; rintro e w' ⟨rfl, rfl⟩)
        | (go_at_call 132; (with_reducible refine (iNext (w.heap.size + 1) 17 _ 8 8 _ _ hA.out.1 hA.out.2.1 z17a z17b z8 hA.out.2.2.1 hA.out.2.2.2).mono ?_); rintro e w3 ⟨rfl, hH3, hF3, hu3⟩; (have P3 := Blk.up (w := (((w.alloc (.cells #[.int .i64 tick, .int .i64 ax, .int .i64 ay, .int .i64 fx, .int .i64 fy, .int .i64 turn, .int .i64 gate, .bool true, .bool false] 31)).alloc (.cells #[.int .i64 17] 3)).alloc (.cells #[.int .i64 tick, .int .i64 ax, .int .i64 ay, .int .i64 fx, .int .i64 fy, .int .i64 turn, .int .i64 gate, .int .i64 1] 3)).drew) PA hu3 (by simp; omega) (by omega)); (have hB3 : Below w.heap.size w w3 := (upstep (R := w.heap.size + 1) (by (repeat (first | assumption | exact Up.refl _ _ _ | refine Up.alloc ?_ (by first | omega | (simp; done) | (simp; omega)) _ | refine Up.setCell ?_ (.inr (by first | omega | (simp; done) | (simp; omega))) _ | refine Up.drew ?_ | refine Up.drewN ?_ _))) (by first | omega | (simp; done) | (simp; omega)) hu3).below (by omega)))
        | (go_at_call 132; (with_reducible refine (iNext (w.heap.size + 1 + 1) 17 _ 8 8 _ _ hB.out.1 hB.out.2.1 z17a z17b z8 hB.out.2.2.1 hB.out.2.2.2).mono ?_); rintro e w3 ⟨rfl, hH3, hF3, hu3⟩; (have P3 := Blk.up (w := (((w.alloc (.cells #[.int .i64 tick, .int .i64 ax, .int .i64 ay, .int .i64 fx, .int .i64 fy, .int .i64 turn, .int .i64 gate, .bool true, .bool false] 31)).alloc (.cells #[.int .i64 tick, .int .i64 ax, .int .i64 ay, .int .i64 fx, .int .i64 fy, .int .i64 turn, .int .i64 gate, .int .i64 1] 3)).alloc (.cells #[.int .i64 17] 3)).drew) PB hu3 (by simp; omega) (by omega)); (have hB3 : Below w.heap.size w w3 := (upstep (R := w.heap.size + 1 + 1) (by (repeat (first | assumption | exact Up.refl _ _ _ | refine Up.alloc ?_ (by first | omega | (simp; done) | (simp; omega)) _ | refine Up.setCell ?_ (.inr (by first | omega | (simp; done) | (simp; omega))) _ | refine Up.drew ?_ | refine Up.drewN ?_ _))) (by first | omega | (simp; done) | (simp; omega)) hu3).below (by omega))))
    all_goals
      go_wp2
      go_ret
      exact ⟨ret_int (by rw [St.hash_def]; exact hfo_eight _ _ _ _ _ _ _ _), hB3⟩
end Go.Proofs.Ytnhjalijnociaaa

/- The walk of FnExactEngineHash. -/
set_option linter.unusedVariables false
namespace Go.Proofs.Ytnhjalijnociaaa
open Go.RowKit

theorem own_both {s : St} (h : s.own = true) : (s.done && s.over) = false := by
  simp only [St.own, Bool.and_eq_true, Bool.not_eq_true'] at h
  exact h.2
set_option maxRecDepth 100000 in
set_option maxHeartbeats 1000000 in
theorem iEngineHash (s : St) (w : World) : Calls Try.prog 47 #[.agg #[.int .i64 s.tick, .int .i64 s.ax, .int .i64 s.ay, .int .i64 s.fx, .int .i64 s.fy, .int .i64 s.turn, .int .i64 s.gate, .bool s.done, .bool s.over]] w fun e w' => e = .returned (.int .i64 s.hashV) ∧ Below w.heap.size w w' := by
  go_enter Try.func47, Try.ntmps47
  go_wp2_with fail; refine (iStateOk s _).mono ?_; rintro e w1 ⟨rfl, hb1⟩; obtain ⟨hc1, hf1⟩ := bcell hb1; have hz1 : w.heap.size < w1.heap.size := (by have := hb1.size; first | omega | (simp at this; omega)); have hy1 : w.heap.size < w1.heap.size + 1 := Nat.lt_succ_of_lt hz1; have hB1 : Below w.heap.size w w1 := bstep (by (repeat (first | with_reducible assumption | with_reducible exact Below.refl _ _ | ((with_reducible refine Below.alloc ?_ ?_ _); rotate_left; · exact (by first | omega | (simp; done) | (simp; omega))) | ((with_reducible refine Below.setCell ?_ ?_ _); rotate_left; · exact (by first | omega | (simp; done) | (simp; omega))) | with_reducible refine Below.drew ?_ | assumption | exact Below.refl _ _ | refine Below.alloc ?_ (by first | omega | (simp; done) | (simp; omega)) _ | refine Below.setCell ?_ (by first | omega | (simp; done) | (simp; omega)) _ | refine Below.drew ?_))) (by first | omega | (simp; done) | (simp; omega)) hb1
  cases hk : s.own with
  | false =>
    go_wp2
    go_ret
    exact ⟨ret_int (St.hashV_f hk).symm, by (repeat (first | with_reducible assumption | with_reducible exact Below.refl _ _ | ((with_reducible refine Below.alloc ?_ ?_ _); rotate_left; · exact (by first | omega | (simp; done) | (simp; omega))) | ((with_reducible refine Below.setCell ?_ ?_ _); rotate_left; · exact (by first | omega | (simp; done) | (simp; omega))) | with_reducible refine Below.drew ?_ | assumption | exact Below.refl _ _ | refine Below.alloc ?_ (by first | omega | (simp; done) | (simp; omega)) _ | refine Below.setCell ?_ (by first | omega | (simp; done) | (simp; omega)) _ | refine Below.drew ?_))⟩
  | true =>
    have hb := own_both hk
    go_wp2_with fail; refine (iStHash s _ hb).mono ?_; rintro e w2 ⟨rfl, hb2⟩; obtain ⟨hc2, hf2⟩ := bcell hb2; have hz2 : w.heap.size < w2.heap.size := (by have := hb2.size; first | omega | (simp at this; omega)); have hy2 : w.heap.size < w2.heap.size + 1 := Nat.lt_succ_of_lt hz2; have hB2 : Below w.heap.size w w2 := bstep (by (repeat (first | with_reducible assumption | with_reducible exact Below.refl _ _ | ((with_reducible refine Below.alloc ?_ ?_ _); rotate_left; · exact (by first | omega | (simp; done) | (simp; omega))) | ((with_reducible refine Below.setCell ?_ ?_ _); rotate_left; · exact (by first | omega | (simp; done) | (simp; omega))) | with_reducible refine Below.drew ?_ | assumption | exact Below.refl _ _ | refine Below.alloc ?_ (by first | omega | (simp; done) | (simp; omega)) _ | refine Below.setCell ?_ (by first | omega | (simp; done) | (simp; omega)) _ | refine Below.drew ?_))) (by first | omega | (simp; done) | (simp; omega)) hb2
    go_wp2
    go_ret
    exact ⟨ret_int (St.hashV_t hk).symm, by (repeat (first | with_reducible assumption | with_reducible exact Below.refl _ _ | ((with_reducible refine Below.alloc ?_ ?_ _); rotate_left; · exact (by first | omega | (simp; done) | (simp; omega))) | ((with_reducible refine Below.setCell ?_ ?_ _); rotate_left; · exact (by first | omega | (simp; done) | (simp; omega))) | with_reducible refine Below.drew ?_ | assumption | exact Below.refl _ _ | refine Below.alloc ?_ (by first | omega | (simp; done) | (simp; omega)) _ | refine Below.setCell ?_ (by first | omega | (simp; done) | (simp; omega)) _ | refine Below.drew ?_))⟩
set_option maxRecDepth 100000 in
set_option maxHeartbeats 1000000 in
theorem sEngineHash (s : St) (w : World) : Calls Try.prog 48 #[.agg #[.int .i64 s.tick, .int .i64 s.ax, .int .i64 s.ay, .int .i64 s.fx, .int .i64 s.fy, .int .i64 s.turn, .int .i64 s.gate, .bool s.done, .bool s.over]] w fun e w' => e = .returned (.int .i64 s.hashV) ∧ Below w.heap.size w w' := by
  go_enter Try.func48, Try.ntmps48
  go_wp2_with fail; refine (sOwn s _).mono ?_; rintro e w1 ⟨rfl, hb1⟩; obtain ⟨hc1, hf1⟩ := bcell hb1; have hz1 : w.heap.size < w1.heap.size := (by have := hb1.size; first | omega | (simp at this; omega)); have hy1 : w.heap.size < w1.heap.size + 1 := Nat.lt_succ_of_lt hz1; have hB1 : Below w.heap.size w w1 := bstep (by (repeat (first | with_reducible assumption | with_reducible exact Below.refl _ _ | ((with_reducible refine Below.alloc ?_ ?_ _); rotate_left; · exact (by first | omega | (simp; done) | (simp; omega))) | ((with_reducible refine Below.setCell ?_ ?_ _); rotate_left; · exact (by first | omega | (simp; done) | (simp; omega))) | with_reducible refine Below.drew ?_ | assumption | exact Below.refl _ _ | refine Below.alloc ?_ (by first | omega | (simp; done) | (simp; omega)) _ | refine Below.setCell ?_ (by first | omega | (simp; done) | (simp; omega)) _ | refine Below.drew ?_))) (by first | omega | (simp; done) | (simp; omega)) hb1
  cases hk : s.own with
  | false =>
    go_wp2
    go_ret
    exact ⟨ret_int (St.hashV_f hk).symm, by (repeat (first | with_reducible assumption | with_reducible exact Below.refl _ _ | ((with_reducible refine Below.alloc ?_ ?_ _); rotate_left; · exact (by first | omega | (simp; done) | (simp; omega))) | ((with_reducible refine Below.setCell ?_ ?_ _); rotate_left; · exact (by first | omega | (simp; done) | (simp; omega))) | with_reducible refine Below.drew ?_ | assumption | exact Below.refl _ _ | refine Below.alloc ?_ (by first | omega | (simp; done) | (simp; omega)) _ | refine Below.setCell ?_ (by first | omega | (simp; done) | (simp; omega)) _ | refine Below.drew ?_))⟩
  | true =>
    have hb := own_both hk
    go_wp2_with fail; refine (sStHash s _ hb).mono ?_; rintro e w2 ⟨rfl, hb2⟩; obtain ⟨hc2, hf2⟩ := bcell hb2; have hz2 : w.heap.size < w2.heap.size := (by have := hb2.size; first | omega | (simp at this; omega)); have hy2 : w.heap.size < w2.heap.size + 1 := Nat.lt_succ_of_lt hz2; have hB2 : Below w.heap.size w w2 := bstep (by (repeat (first | with_reducible assumption | with_reducible exact Below.refl _ _ | ((with_reducible refine Below.alloc ?_ ?_ _); rotate_left; · exact (by first | omega | (simp; done) | (simp; omega))) | ((with_reducible refine Below.setCell ?_ ?_ _); rotate_left; · exact (by first | omega | (simp; done) | (simp; omega))) | with_reducible refine Below.drew ?_ | assumption | exact Below.refl _ _ | refine Below.alloc ?_ (by first | omega | (simp; done) | (simp; omega)) _ | refine Below.setCell ?_ (by first | omega | (simp; done) | (simp; omega)) _ | refine Below.drew ?_))) (by first | omega | (simp; done) | (simp; omega)) hb2
    go_wp2
    go_ret
    exact ⟨ret_int (St.hashV_t hk).symm, by (repeat (first | with_reducible assumption | with_reducible exact Below.refl _ _ | ((with_reducible refine Below.alloc ?_ ?_ _); rotate_left; · exact (by first | omega | (simp; done) | (simp; omega))) | ((with_reducible refine Below.setCell ?_ ?_ _); rotate_left; · exact (by first | omega | (simp; done) | (simp; omega))) | with_reducible refine Below.drew ?_ | assumption | exact Below.refl _ _ | refine Below.alloc ?_ (by first | omega | (simp; done) | (simp; omega)) _ | refine Below.setCell ?_ (by first | omega | (simp; done) | (simp; omega)) _ | refine Below.drew ?_))⟩
end Go.Proofs.Ytnhjalijnociaaa
