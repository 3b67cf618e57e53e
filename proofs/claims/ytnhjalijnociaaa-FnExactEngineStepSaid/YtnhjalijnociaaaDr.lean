/- The vector of a direction, of the program: a range over a function. -/
import Derived.Test.YtnhjalijnociaaaRl
import Derived.Test.YtnhjalijnociaaaQar
import Derived.Test.YtnhjalijnociaaaQae
set_option linter.unusedVariables false
set_option linter.unusedSimpArgs false
namespace Go.Proofs.Ytnhjalijnociaaa
open Go.RowKit Go.Shelf

attribute [local go_sem] Oper.semAt_some

/-- the k-th value -/
def dval (k : Nat) : Value := .agg #[.int .i64 (dirX k), .int .i64 (dirY k)]
/-- the quarter's cells when k values have come -/
def qix (k j : Nat) : Nat := if k % 4 ≤ j then (k / 4 * 4 + j) % 16 else (k / 4 * 4 + 4 + j) % 16
def qcs (k : Nat) : Array Value := #[.int .i64 (dirX (qix k 0)), .int .i64 (dirY (qix k 0)), .int .i64 (dirX (qix k 1)), .int .i64 (dirY (qix k 1)), .int .i64 (dirX (qix k 2)), .int .i64 (dirY (qix k 2)), .int .i64 (dirX (qix k 3)), .int .i64 (dirY (qix k 3))]
theorem qfacts (r i : Nat) (hr : r < 4) (hi : i < 4) : (qcs (r * 4 + i))[i * 2]? = some (.int .i64 (dirX ((r * 4 + i : Nat) : Int))) ∧ (qcs (r * 4 + i))[i * 2 + 1]? = some (.int .i64 (dirY ((r * 4 + i : Nat) : Int))) ∧
    ((qcs (r * 4 + i)).setIfInBounds (i * 2) (.int .i64 (-dirY ((r * 4 + i : Nat) : Int)))).setIfInBounds (i * 2 + 1) (.int .i64 (dirX ((r * 4 + i : Nat) : Int))) = qcs (r * 4 + i + 1) := by
  have h1 : r = 0 ∨ r = 1 ∨ r = 2 ∨ r = 3 := by omega
  have h2 : i = 0 ∨ i = 1 ∨ i = 2 ∨ i = 3 := by omega
  rcases h1 with rfl | rfl | rfl | rfl <;> rcases h2 with rfl | rfl | rfl | rfl <;> exact ⟨rfl, rfl, rfl⟩
theorem dbd (k : Nat) (h : k < 16) : (-1000 ≤ dirX (k : Int) ∧ dirX (k : Int) ≤ 1000) ∧ (-1000 ≤ dirY (k : Int) ∧ dirY (k : Int) ≤ 1000) := by
  have e : k = 0 ∨ k = 1 ∨ k = 2 ∨ k = 3 ∨ k = 4 ∨ k = 5 ∨ k = 6 ∨ k = 7 ∨ k = 8 ∨ k = 9 ∨ k = 10 ∨ k = 11 ∨ k = 12 ∨ k = 13 ∨ k = 14 ∨ k = 15 := by omega
  rcases e with rfl | rfl | rfl | rfl | rfl | rfl | rfl | rfl | rfl | rfl | rfl | rfl | rfl | rfl | rfl | rfl <;> decide
theorem SameFrom.blk {B : Nat} {W W' : World} (h : SameFrom B W W') {b : Nat} {cs : Array Value} (hb : Blk W b cs) (hB : B ≤ b) : Blk W' b cs := hb.keep (h.same b hB hb.lt)
theorem SameFrom.refl (B : Nat) (W : World) : SameFrom B W W := ⟨Nat.le_refl _, fun _ _ _ => rfl⟩
theorem SameFrom.setCell {B : Nat} {A C : World} (h : SameFrom B A C) {p : Addr} (hp : p.block < B) (v : Value) : SameFrom B A (C.setCell p v) :=
  ⟨by have := h.size; simpa using this, fun j hj hj2 => (heap_setCell_other C p j v (by omega)).trans (h.same j hj hj2)⟩
theorem dirs_in (F : Fence) (n : Nat) (hF : F.fn 80) (hro : F.round = none) (w : World) :
    CallsIn F n Try.prog 80 #[] w fun e w' => e = .returned (.func (.func 116) #[] #[]) ∧ w' = w := by
  refine callsIn_of_wp Try.func80 rfl hF ?_ hro
  simp only [Try.ntmps80, List.size_toArray, List.length_cons, List.length_nil, Nat.reduceAdd, Nat.reduceSub, Array.replicate_succ, Array.replicate_zero, List.push_toArray, List.append_toArray, List.nil_append, List.cons_append]
  gi_wp2
  go_ret
  exact ⟨rfl, rfl⟩
set_option maxRecDepth 100000 in
set_option maxHeartbeats 4000000 in
theorem dirs1_in (F : Fence) (n : Nat) (hF : F.fn 116) (hro : F.round = none) (hn : 1 ≤ n) : GivesN F n Try.prog 116 dval 16 := by
  intro l J Jx W hJ hJx hY h0
  refine callsIn_of_wp Try.func116 rfl hF ?_ hro
  simp only [Try.ntmps116, List.size_toArray, List.length_cons, List.length_nil, Nat.reduceAdd, Nat.reduceSub, Array.replicate_succ, Array.replicate_zero, List.push_toArray, List.append_toArray, List.nil_append, List.cons_append]
  gi_wp2
  have q0 : Blk (W.alloc (.cells (qcs 0) 24)) W.heap.size (qcs 0) := Blk.at rfl
  have hq0 : W.alloc (.cells #[.int .i64 1000, .int .i64 0, .int .i64 924, .int .i64 383, .int .i64 707, .int .i64 707, .int .i64 383, .int .i64 924] 24) = W.alloc (.cells (qcs 0) 24) := rfl
  rw [hq0]
  have b0 : Below W.heap.size W (W.alloc (.cells (qcs 0) 24)) := (Below.refl _ _).alloc (Nat.le_refl _) _
  have j0 : J 0 (W.alloc (.cells (qcs 0) 24)) := hJ 0 _ _ h0 b0
  generalize W.alloc (.cells (qcs 0) 24) = V at *
  clear hq0 b0
  gi_loopw [10] (fun rv wr => ∃ r : Nat, r ≤ 4 ∧ rv = .int .i64 (r : Int) ∧ J (r * 4) wr ∧ Blk wr W.heap.size (qcs (r * 4)))
    (fun rv _ => 4 - (intOf rv).toNat)
  case atStart => exact ⟨0, by omega, rfl, j0, q0⟩
  case round =>
    obtain ⟨r, hr, rfl, j1, q1⟩ := hrel
    clear j0 q0
    by_cases hr4 : r < 4
    · gi_wp2
      simp only [show decide ((r : Int) < 4) = true from decide_eq_true (by omega)]
      gi_loopw [14] (fun iv wr => ∃ i : Nat, i ≤ 4 ∧ iv = .int .i64 (i : Int) ∧ J (r * 4 + i) wr ∧ Blk wr W.heap.size (qcs (r * 4 + i)))
        (fun iv _ => 4 - (intOf iv).toNat)
      case atStart => exact ⟨0, by omega, rfl, j1, q1⟩
      case round =>
        obtain ⟨i, hi, rfl, j2, q2⟩ := hrel
        clear j1 q1
        by_cases hi4 : i < 4
        · have hk : r * 4 + i < 16 := by omega
          obtain ⟨e0, e1, eS⟩ := qfacts r i hr4 hi4
          have c0 := (q2.cell (i * 2)).trans e0
          have c1 := (q2.cell (i * 2 + 1)).trans e1
          have hWl := q2.lt
          generalize hkk : r * 4 + i = k at *
          obtain ⟨X, hX⟩ : ∃ X, X = dirX (k : Int) := ⟨_, rfl⟩
          obtain ⟨Y, hY'⟩ : ∃ Y, Y = dirY (k : Int) := ⟨_, rfl⟩
          rw [← hX] at c0 eS e0
          rw [← hY'] at c1 eS e1
          obtain ⟨hXb, hYb⟩ := dbd k hk
          rw [← hX] at hXb
          rw [← hY'] at hYb
          have bA := (Below.refl W.heap.size wr).alloc (Nat.le_of_lt hWl) (.cells #[.int .i64 X, .int .i64 Y] 24)
          have vA : Blk (wr.alloc (.cells #[.int .i64 X, .int .i64 Y] 24)) wr.heap.size #[.int .i64 X, .int .i64 Y] := Blk.at rfl
          have qA := q2.alloc (.cells #[.int .i64 X, .int .i64 Y] 24)
          obtain ⟨fn, tmps, assign, body, hy, hR⟩ := hY k _ (hJ _ _ _ j2 bA) hk
          dsimp only [dval] at hy
          rw [← hX, ← hY'] at hy
          have e0 := Lib.hid e0
          have e1 := Lib.hid e1
          have eS := Lib.hid eS
          clear hX hY'
          have q1' : (0 : Int) ≤ (i : Int) := by omega
          have q2' : (i : Int) < 4 := by omega
          gi_wp2
          refine hR.mono ?_
          rintro e W3 (⟨rfl, hJ3, hs3⟩ | ⟨rfl, hJx3⟩)
          · have q3 := hs3.blk qA (Nat.le_refl _)
            have v3 := hs3.blk vA (Nat.le_of_lt hWl)
            obtain ⟨v0, v1⟩ := v3.c2
            have d0 := (q3.cell (i * 2)).trans e0.out
            have d1 := (q3.cell (i * 2 + 1)).trans e1.out
            have df := q3.frozen
            have hz3 := q3.lt
            have gN : IntKind.i64.wrap (-Y) = -Y := IntWalk.i64_in _ (by omega)
            have q4 : Blk ((W3.setCell ⟨W.heap.size, i * 2, none⟩ (.int .i64 (-Y))).setCell ⟨W.heap.size, i * 2 + 1, none⟩ (.int .i64 X)) W.heap.size (qcs (k + 1)) := by
              have := (q3.set (i * 2) (.int .i64 (-Y))).set (i * 2 + 1) (.int .i64 X)
              rw [eS.out] at this
              exact this
            have j4 := hJ _ _ _ hJ3 ((((Below.refl W.heap.size W3).setCell (p := ⟨W.heap.size, i * 2, none⟩) (Nat.le_refl _) (.int .i64 (-Y)))).setCell (p := ⟨W.heap.size, i * 2 + 1, none⟩) (Nat.le_refl _) (.int .i64 X))
            gi_wp2
            go_roundw
            case rel => exact ⟨i + 1, by omega, by go_num, by rw [← Nat.add_assoc, hkk]; exact j4, by rw [← Nat.add_assoc, hkk]; exact q4⟩
            case measure => simp [intOf]; omega
          · gi_wp2
            refine bodyPost_ret (results_none rfl _ _ _) rfl ?_
            exact ⟨⟨_, rfl⟩, .inr ⟨k + 1, by omega, hJx3⟩⟩
        · obtain rfl : i = 4 := by omega
          gi_wp2
          go_roundw
          case rel => exact ⟨r + 1, by omega, by go_num, by rw [Nat.succ_mul]; exact j2, by rw [Nat.succ_mul]; exact q2⟩
          case measure => simp [intOf]; omega
    · obtain rfl : r = 4 := by omega
      gi_wp2
      go_end0
      exact ⟨⟨_, rfl⟩, .inl j1⟩
/-- between two rounds of the search for a direction; behind the round that found it -/
def DirI (w : World) (d : Int) (k : Nat) (W : World) : Prop := (k : Int) ≤ d ∧ Blk W w.heap.size #[.int .i64 (d - k)] ∧ Blk W (w.heap.size + 1) #[.int .i64 0, .int .i64 0] ∧ Blk W (w.heap.size + 1 + 1) #[.bool false] ∧ Below w.heap.size w W
def DirX (w : World) (d : Int) (k : Nat) (W : World) : Prop := Blk W (w.heap.size + 1) #[.int .i64 (dirX d), .int .i64 (dirY d)] ∧ Blk W (w.heap.size + 1 + 1) #[.bool true] ∧ Below w.heap.size w W
set_option maxRecDepth 100000 in
set_option maxHeartbeats 4000000 in
theorem dir_in (F : Fence) (n : Nat) (hV : F.fn 37) (hD : F.fn 80) (hD1 : F.fn 116) (hro : F.round = none) (hn : 4 ≤ n) (d : Int) (w : World) (h0 : 0 ≤ d) (h1 : d ≤ 15) :
    CallsIn F n Try.prog 37 #[.int .i64 d] w fun e w' => e = .returned (.tuple #[.agg #[.int .i64 (dirX d), .int .i64 (dirY d)], .bool true]) ∧ Below w.heap.size w w' := by
  have hn1 : 1 ≤ n := by omega
  refine callsIn_of_wp_marks Try.func37 rfl hV ?_ hro
  simp only [Try.ntmps37, List.size_toArray, List.length_cons, List.length_nil, Nat.reduceAdd, Nat.reduceSub, Array.replicate_succ, Array.replicate_zero, List.push_toArray, List.append_toArray, List.nil_append, List.cons_append]
  gi_wp2_with (gi_at_call 80; refine (dirs_in F (n - 1) hD hro _).mono ?_; rintro e w' ⟨rfl, rfl⟩)
  obtain ⟨W0, hW0⟩ : ∃ W0, ((w.alloc (.cells #[.int .i64 d] 3)).alloc (.cells #[.int .i64 0, .int .i64 0] 24)).alloc (.cells #[.bool false] 4) = W0 := ⟨_, rfl⟩
  have hI0 : DirI w d 0 W0 := by
    rw [← hW0]
    exact ⟨by omega, by simpa using (((Blk.at rfl).alloc _).alloc _ : Blk (((w.alloc (.cells #[.int .i64 d] 3)).alloc (.cells #[.int .i64 0, .int .i64 0] 24)).alloc (.cells #[.bool false] 4)) w.heap.size #[.int .i64 d]), (Blk.at (by simp)).alloc _, Blk.at (by simp), by (repeat (first | with_reducible assumption | with_reducible exact Below.refl _ _ | ((with_reducible refine Below.alloc ?_ ?_ _); rotate_left; · exact (by first | omega | (simp; done) | (simp; omega))) | ((with_reducible refine Below.setCell ?_ ?_ _); rotate_left; · exact (by first | omega | (simp; done) | (simp; omega))) | with_reducible refine Below.drew ?_ | assumption | exact Below.refl _ _ | refine Below.alloc ?_ (by first | omega | (simp; done) | (simp; omega)) _ | refine Below.setCell ?_ (by first | omega | (simp; done) | (simp; omega)) _ | refine Below.drew ?_))⟩
  have hsz : W0.heap.size = w.heap.size + 3 := by rw [← hW0]; simp
  rw [hW0]
  clear hW0
  refine wpIn_rangeN hro hn1 (gf := 116) (enc := dval) (N := 16) rfl hD1 (enters_of Try.func116 (by kernel_rfl) rfl) (dirs1_in F (n - 1) hD1 hro (by omega))
    (DirI w d) (DirX w d)
    (fun k A C h hb => ⟨h.1, h.2.1.below hb (by omega), h.2.2.1.below hb (by omega), h.2.2.2.1.below hb (by omega), h.2.2.2.2.trans (hb.mono (by omega))⟩)
    (fun k A C h hb => ⟨h.1.below hb (by omega), h.2.1.below hb (by omega), h.2.2.trans (hb.mono (by omega))⟩)
    hI0
    (fun k a' W => ∃ Bx, W0.heap.size + 1 < Bx ∧ Blk W Bx #[.int .i64 (dirX k), .int .i64 (dirY k)] ∧ a' = { tmps := #[.int .i64 d, .pointer (some ⟨w.heap.size, 0, none⟩), .pointer (some ⟨w.heap.size + 1, 0, none⟩), .pointer (some ⟨w.heap.size + 1 + 1, 0, none⟩), .pointer (some ⟨Bx, 0, none⟩), .func (.func 116) #[] #[], dval k, undef, undef, undef, undef, undef, undef], defers := [] })
    (fun k a' A C h hc => by
      obtain ⟨Bx, h1, h2, h3⟩ := h
      exact ⟨Bx, h1, h2.keep (hc Bx (by omega)), h3⟩)
    ?assign ?body ?done ?stop
  case assign =>
    intro l k W K hlt hI hK
    dsimp only [dval]
    obtain ⟨i1, i2, i3, i4, i5⟩ := hI
    gi_wp2
    exact hK _ _ ⟨by simp, fun j _ hj2 => Below.heap_alloc _ _ _ hj2⟩ ⟨i1, i2.alloc _, i3.alloc _, i4.alloc _, i5.alloc i5.size _⟩ ⟨W.heap.size, hlt, Blk.at rfl, rfl⟩
  case body =>
    rintro l k a' W hl ⟨i1, i2, i3, i4, i5⟩ ⟨Bx, b1, b2, rfl⟩ hk
    dsimp only [dval]
    obtain ⟨m, hm⟩ : ∃ m, m = d - (k : Int) := ⟨_, rfl⟩
    rw [← hm] at i2
    have c0 := i2.cell 0
    have cf := i2.frozen
    obtain ⟨r0, r1⟩ := i3.c2
    have rf := i3.frozen
    have s0 := i4.cell 0
    have sf := i4.frozen
    obtain ⟨x0, x1⟩ := b2.c2
    simp only [List.getElem?_toArray, List.getElem?_cons_zero, List.getElem?_cons_succ] at c0 s0
    have hz2 := i2.lt
    have hz3 := i3.lt
    have hz4 := i4.lt
    by_cases hz : m = 0
    · have hdk : dirX (k : Int) = dirX d ∧ dirY (k : Int) = dirY d := by rw [show (k : Int) = d from by omega]; exact ⟨rfl, rfl⟩
      have f1 := (((SameFrom.refl W0.heap.size W).setCell (p := ⟨w.heap.size + 1, 0, none⟩) (by simp only; omega) (.int .i64 (dirX d))).setCell (p := ⟨w.heap.size + 1, 1, none⟩) (by simp only; omega) (.int .i64 (dirY d))).setCell (p := ⟨w.heap.size + 1 + 1, 0, none⟩) (by simp only; omega) (.bool true)
      have f2 := ((i3.s2_0 (.int .i64 (dirX d))).s2_1 (.int .i64 (dirY d))).other (p := ⟨w.heap.size + 1 + 1, 0, none⟩) (by simp only; omega) (.bool true)
      have f3 := ((i4.other (p := ⟨w.heap.size + 1, 0, none⟩) (by simp only; omega) (.int .i64 (dirX d))).other (p := ⟨w.heap.size + 1, 1, none⟩) (by simp only; omega) (.int .i64 (dirY d))).set 0 (.bool true)
      have f4 := ((i5.setCell (p := ⟨w.heap.size + 1, 0, none⟩) (Nat.le_succ _) (.int .i64 (dirX d))).setCell (p := ⟨w.heap.size + 1, 1, none⟩) (Nat.le_succ _) (.int .i64 (dirY d))).setCell (p := ⟨w.heap.size + 1 + 1, 0, none⟩) (by simp only; omega) (.bool true)
      have f1 := Lib.hid f1
      have f2 := Lib.hid f2
      have f3 := Lib.hid f3
      have f4 := Lib.hid f4
      obtain ⟨hd1, hd2⟩ := hdk
      have i1 := Lib.hid i1
      subst hz
      clear hm
      gi_wp2
      exact ⟨f1.out, f2.out, f3.out, f4.out⟩
    · have hzb : (m == 0) = false := by simpa using hz
      have hk1 : ((k + 1 : Nat) : Int) ≤ d := by omega
      have f1 := (SameFrom.refl W0.heap.size W).setCell (p := ⟨w.heap.size, 0, none⟩) (by simp only; omega) (.int .i64 (m - 1))
      have f2 : Blk (W.setCell ⟨w.heap.size, 0, none⟩ (.int .i64 (m - 1))) w.heap.size #[.int .i64 (m - 1)] := i2.set 0 _
      have f3 := i3.other (p := ⟨w.heap.size, 0, none⟩) (by simp only; omega) (.int .i64 (m - 1))
      have f4 := i4.other (p := ⟨w.heap.size, 0, none⟩) (by simp only; omega) (.int .i64 (m - 1))
      have f5 := i5.setCell (p := ⟨w.heap.size, 0, none⟩) (Nat.le_refl _) (.int .i64 (m - 1))
      have g1 : IntKind.i64.wrap (m - 1) = m - 1 := IntWalk.i64_in _ (by omega)
      rw [show m - 1 = d - ((k + 1 : Nat) : Int) from by omega] at f2
      rw [show m - 1 = d - ((k + 1 : Nat) : Int) from by omega] at g1
      have f1 := Lib.hid f1
      have f2 := Lib.hid f2
      have f3 := Lib.hid f3
      have f4 := Lib.hid f4
      have f5 := Lib.hid f5
      have hk1 := Lib.hid hk1
      have hm1 := Lib.hid (show m - 1 = d - ((k + 1 : Nat) : Int) from by omega)
      have hb1 : 0 ≤ m := by omega
      have hb2 : m ≤ 15 := by omega
      clear hm hz g1
      gi_wp2
      refine ⟨f1.out, hk1.out, ?_, f3.out, f4.out, f5.out⟩
      have := f2.out
      rw [← hm1.out] at this ⊢
      exact this
  case done =>
    rintro D W hD ⟨i1, _⟩
    omega
  case stop =>
    rintro D k W hD hk ⟨i1, i2, i3⟩ hK
    gi_wp2
    refine ⟨by simp, .inl ⟨_, _, rfl, run_takeDeferred hK, ?_⟩⟩
    have j1 := i1.keep (w' := W.putObj D (.deferred none)) (World.putObj_heap_other (by omega))
    have j2 := i2.keep (w' := W.putObj D (.deferred none)) (World.putObj_heap_other (by omega))
    obtain ⟨r0, r1⟩ := j1.c2
    have s0 := j2.cell 0
    simp only [List.getElem?_toArray, List.getElem?_cons_zero, List.getElem?_cons_succ] at s0
    refine ⟨.tuple #[.agg #[.int .i64 (dirX d), .int .i64 (dirY d)], .bool true], ?_, rfl, i3.trans (belowK_b (w := w) (Nat.le_refl _) W D _ _ (by omega) hK rfl rfl)⟩
    simp [results, Try.f37, go_sem, r0, r1, s0]
/-- the vector of a direction -/
theorem iDir (d : Int) (w : World) (h0 : 0 ≤ d) (h1 : d ≤ 15) : Calls Try.prog 37 #[.int .i64 d] w fun e w' => e = .returned (.tuple #[.agg #[.int .i64 (dirX d), .int .i64 (dirY d)], .bool true]) ∧ Below w.heap.size w w' :=
  callsIn_wide.1 (dir_in Fence.wide 4 trivial trivial trivial rfl (Nat.le_refl _) d w h0 h1)
end Go.Proofs.Ytnhjalijnociaaa
