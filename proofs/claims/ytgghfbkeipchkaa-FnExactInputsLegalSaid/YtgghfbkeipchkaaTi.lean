/- Lists of inputs: what they are, the copies and comparisons that the exact laws make. -/
import Derived.Test.YtgghfbkeipchkaaTo
import Derived.Test.YtgghfbkeipchkaaFx
set_option linter.unusedVariables false
namespace Go.Proofs.Ytgghfbkeipchkaa
open Go.ChangeShapes Go.WideShapes Go.ChangeAt Go.RowKit
attribute [local go_sem] BelW.cell_eq nl1 nl2 nl3 nl4 nl5 nl6 nl7 nl8 nl9 nl10 nl11

def InCells (w : World) (b o : Nat) (x : Inp) : Prop := w.cell? ⟨b, o, none⟩ = some (.int .i64 x.s) ∧ w.cell? ⟨b, o + 1, none⟩ = some (.int .i64 x.p) ∧ w.cell? ⟨b, o + 2, none⟩ = some (.bool x.b)
/-- a slice of n inputs -/
def InsAt (w : World) (a : Option Addr) (n : Nat) (f : Nat → Inp) : Prop := n = 0 ∨ ∃ b off, a = some ⟨b, off, none⟩ ∧ b < w.heap.size ∧ ∀ i, i < n → InCells w b (off + i * 3) (f i)
theorem InsAt.keep {w w' : World} {a : Option Addr} {n : Nat} {f : Nat → Inp} (h : InsAt w a n f) (hb : Below w.heap.size w w') : InsAt w' a n f := by
  rcases h with h | ⟨b, off, ha, hlt, hc⟩
  · exact .inl h
  · refine .inr ⟨b, off, ha, Nat.lt_of_lt_of_le hlt hb.size, fun i hi => ?_⟩
    obtain ⟨h0, h1, h2⟩ := hc i hi
    exact ⟨(hb.cell (p := ⟨b, off + i * 3, none⟩) hlt).trans h0, (hb.cell (p := ⟨b, off + i * 3 + 1, none⟩) hlt).trans h1, (hb.cell (p := ⟨b, off + i * 3 + 2, none⟩) hlt).trans h2⟩
theorem InsAt.less {w : World} {a : Option Addr} {n m : Nat} {f : Nat → Inp} (h : InsAt w a n f) (hm : m ≤ n) : InsAt w a m f := by
  rcases h with h | ⟨b, off, ha, hlt, hc⟩
  · exact .inl (by omega)
  · exact .inr ⟨b, off, ha, hlt, fun i hi => hc i (by omega)⟩
theorem infoIn : (Try.prog.info? 51).map (fun i => (i.zero, i.size, i.bytes)) = some (some (.agg #[.int .i64 0, .int .i64 0, .bool false]), 3, 24) := by kernel_rfl
def Inp.cells (x : Inp) : List Value := [.int .i64 x.s, .int .i64 x.p, .bool x.b]
def ivals (f : Nat → Inp) : Nat → List Value
  | 0 => []
  | n + 1 => ivals f n ++ (f n).cells
theorem ivals_len (f : Nat → Inp) : ∀ n, (ivals f n).length = n * 3
  | 0 => rfl
  | n + 1 => by rw [ivals, List.length_append, ivals_len f n]; simp [Inp.cells]; omega
theorem ivals_at (f : Nat → Inp) : ∀ {n i : Nat}, i < n → ∀ {j : Nat}, j < 3 → (ivals f n)[i * 3 + j]? = (f i).cells[j]?
  | 0, _, h, _, _ => absurd h (Nat.not_lt_zero _)
  | n + 1, i, h, j, hj => by
    rw [ivals]
    by_cases e : i = n
    · subst e
      rw [List.getElem?_append_right (by rw [ivals_len]; omega), ivals_len]
      congr 1
      omega
    · rw [List.getElem?_append_left (by rw [ivals_len]; omega)]
      exact ivals_at f (by omega) hj
theorem ins_own {w : World} {base g n cap : Nat} {f : Nat → Inp} (h : w.ownsRow base 51 3 (.slice (some ⟨g, 0, none⟩) n cap) n (ivals f n)) : InsAt w (some ⟨g, 0, none⟩) n f := by
  refine .inr ⟨g, 0, rfl, ?_, fun i hi => ?_⟩
  · rcases h.2 with ⟨h', _⟩ | ⟨g', cap', cur, h', _, hg, _⟩
    · simp at h'
    · simp only [Value.slice.injEq, Option.some.injEq, Addr.mk.injEq, and_true] at h'
      obtain ⟨rfl, _⟩ := h'
      exact (Array.getElem?_eq_some_iff.1 hg).1
  · rw [Nat.zero_add]
    have h0 := h.cellAt (i * 3) (by omega)
    have h1 := h.cellAt (i * 3 + 1) (by omega)
    have h2 := h.cellAt (i * 3 + 2) (by omega)
    have b0 := ivals_at f hi (j := 0) (by omega)
    rw [Nat.add_zero] at b0
    rw [b0] at h0
    rw [ivals_at f hi (by omega)] at h1 h2
    exact ⟨h0, h1, h2⟩
theorem set3_at {xs : List Value} {f : Nat → Inp} {k : Nat} (h : ∀ i, i < k → ∀ j, j < 3 → xs[i * 3 + j]? = (f i).cells[j]?) (hl : k * 3 + 2 < xs.length) :
    ∀ i, i < k + 1 → ∀ j, j < 3 → (((xs.set (k * 3) (.int .i64 (f k).s)).set (k * 3 + 1) (.int .i64 (f k).p)).set (k * 3 + 2) (.bool (f k).b))[i * 3 + j]? = (f i).cells[j]? := by
  intro i hi j hj
  by_cases e : i = k
  · subst e
    have hm : j = 0 ∨ j = 1 ∨ j = 2 := by omega
    rcases hm with rfl | rfl | rfl
    · rw [List.getElem?_set_ne (by omega), List.getElem?_set_ne (by omega), Nat.add_zero, List.getElem?_set_self (by omega)]; rfl
    · rw [List.getElem?_set_ne (by omega), List.getElem?_set_self (by simp; omega)]; rfl
    · rw [List.getElem?_set_self (by simp; omega)]; rfl
  · rw [List.getElem?_set_ne (by omega), List.getElem?_set_ne (by omega), List.getElem?_set_ne (by omega)]
    exact h i (by omega) j hj
theorem ivals_of {xs : List Value} {f : Nat → Inp} {n : Nat} (hl : xs.length = n * 3) (h : ∀ i, i < n → ∀ j, j < 3 → xs[i * 3 + j]? = (f i).cells[j]?) : xs = ivals f n := by
  apply List.ext_getElem?
  intro m
  by_cases hm : m < n * 3
  · have e : m = m / 3 * 3 + m % 3 := by omega
    rw [e, h (m / 3) (by omega) (m % 3) (by omega), ivals_at f (by omega) (by omega)]
  · rw [List.getElem?_eq_none (by omega), List.getElem?_eq_none (by rw [ivals_len]; omega)]
theorem own3 {w : World} {base g n cap k : Nat} {xs : List Value} (h : w.ownsRow base 51 3 (.slice (some ⟨g, 0, none⟩) n cap) n xs) (a b c : Value) :
    (((w.setCell ⟨g, k * 3, none⟩ a).setCell ⟨g, k * 3 + 1, none⟩ b).setCell ⟨g, k * 3 + 2, none⟩ c).ownsRow base 51 3 (.slice (some ⟨g, 0, none⟩) n cap) n (((xs.set (k * 3) a).set (k * 3 + 1) b).set (k * 3 + 2) c) :=
  (((h.stored _ a).1.stored _ b).1.stored _ c).1
theorem below3 {B : Nat} {w w' : World} (h : Below B w w') {g k : Nat} (hg : B ≤ g) (a b c : Value) : Below B w (((w'.setCell ⟨g, k * 3, none⟩ a).setCell ⟨g, k * 3 + 1, none⟩ b).setCell ⟨g, k * 3 + 2, none⟩ c) :=
  ((h.setCell (p := ⟨g, k * 3, none⟩) hg _).setCell (p := ⟨g, k * 3 + 1, none⟩) hg _).setCell (p := ⟨g, k * 3 + 2, none⟩) hg _
section
variable {H : Type} {enc : TypeId × Value → H} {w : World} {spare : Nat → Bool}
theorem kIn : Try.prog.cellsOf 62 = 3 := by kernel_rfl
theorem list3 {cs : List Value} (h : cs.length = 3) : ∃ a b c, cs = [a, b, c] := by
  match cs, h with
  | [a, b, c], _ => exact ⟨a, b, c, rfl⟩
theorem rd_inp {fuel : Nat} {cs : List Value} {y : DataW H × List MemPlace} (h : DataW.trod enc Try.prog w 0 spare true fuel 62 cs = some y) : ∃ x : Inp, cs = x.cells := by
  obtain ⟨xs, n, _, _, hl, hlen, hf⟩ := DataW.trod_struct Try.underlying62 h
  obtain ⟨c0, c1, c2, rfl⟩ := list3 (hl.trans kIn)
  match xs, hlen with
  | [x0, x1, x2], _ =>
    have h0 : DataW.trod enc Try.prog w 0 spare true n 3 [c0] = some x0 := by have := hf 0 _ rfl; simpa [kInt] using this
    have h1 : DataW.trod enc Try.prog w 0 spare true n 3 [c1] = some x1 := by have := hf 1 _ rfl; simpa [kInt] using this
    have h2 : DataW.trod enc Try.prog w 0 spare true n 4 [c2] = some x2 := by
      have kB : Try.prog.cellsOf 4 = 1 := by kernel_rfl
      have := hf 2 _ rfl
      simpa [kInt, kB] using this
    obtain ⟨a, e0, _, wa⟩ := DataW.trod_int Try.underlying3 h0
    obtain ⟨b, e1, _, wb⟩ := DataW.trod_int Try.underlying3 h1
    obtain ⟨c, e2, _⟩ := DataW.trod_bool Try.underlying4 h2
    simp only [List.cons.injEq, and_true] at e0 e1 e2
    subst e0 e1 e2
    exact ⟨⟨a, b, c⟩, rfl⟩
/-- a slice of inputs that came in -/
theorem open_inputs {a : Option Addr} {len cap : Nat} {d : DataW H} {p : List MemPlace} (h : DataW.Trod enc Try.prog w 0 (fun _ => true) true 68 (.slice a len cap) d p) : ∃ f : Nat → Inp, InsAt w a len f ∧ len ≤ maxLen := by
  obtain ⟨fuel, h⟩ := h
  simp only [Value.cells] at h
  rcases DataW.trod_slice Try.underlying68 h with ⟨hcs, _⟩ | ⟨x, l, c, elems, rest, n, _, hcs, _, _, hl, hm, hlen, hel, _⟩
  · simp only [List.cons.injEq, Value.slice.injEq, and_true] at hcs
    obtain ⟨rfl, rfl, rfl⟩ := hcs
    exact ⟨fun _ => ⟨0, 0, false⟩, .inl rfl, by simp [maxLen]⟩
  · simp only [List.cons.injEq, Value.slice.injEq, and_true] at hcs
    obtain ⟨rfl, rfl, rfl⟩ := hcs
    rw [kIn] at hel
    have each : ∀ i, i < len → ∃ b : Inp, w.cell? ((x.add (i * 3)).add 0) = some (.int .i64 b.s) ∧ w.cell? ((x.add (i * 3)).add 1) = some (.int .i64 b.p) ∧ w.cell? ((x.add (i * 3)).add 2) = some (.bool b.b) := by
      intro i hi
      have hi' := hel i hi
      rw [List.getElem?_eq_getElem (by omega), Option.bind_eq_some_iff] at hi'
      obtain ⟨cs, hc, ht⟩ := hi'
      obtain ⟨b, rfl⟩ := rd_inp ht
      obtain ⟨_, _, hcell⟩ := World.cells?_some hc
      exact ⟨b, by simpa [Inp.cells] using hcell 0 (by omega), by simpa [Inp.cells] using hcell 1 (by omega), by simpa [Inp.cells] using hcell 2 (by omega)⟩
    obtain ⟨f, hf⟩ : ∃ f : Nat → Inp, ∀ i, i < len → w.cell? ((x.add (i * 3)).add 0) = some (.int .i64 (f i).s) ∧ w.cell? ((x.add (i * 3)).add 1) = some (.int .i64 (f i).p) ∧ w.cell? ((x.add (i * 3)).add 2) = some (.bool (f i).b) := by
      refine ⟨fun i => if h : i < len then Classical.choose (each i h) else ⟨0, 0, false⟩, fun i hi => ?_⟩
      simp only [hi, dite_true]
      exact Classical.choose_spec (each i hi)
    refine ⟨f, ?_, by omega⟩
    rcases Nat.eq_zero_or_pos len with h0 | hp
    · exact .inl h0
    · obtain ⟨b, off, spot⟩ := x
      have hc0 := (hf 0 hp).1
      have hspot : spot = none := by simpa [Addr.add] using World.cell?_spot hc0
      subst hspot
      refine .inr ⟨b, off, rfl, ?_, fun i hi => ?_⟩
      · by_cases hlt : b < w.heap.size
        · exact hlt
        · exfalso
          have : w.heap[b]? = none := by simp; omega
          simp [World.cell?, Addr.add, this] at hc0
      · have h := hf i hi
        simp only [addr_add, Nat.add_zero] at h
        exact h
end
set_option maxHeartbeats 400000 in
theorem eqInp (s p : Int) (b : Bool) (w : World) : Calls Try.prog 86 #[.agg #[.int .i64 s, .int .i64 p, .bool b], .agg #[.int .i64 s, .int .i64 p, .bool b]] w fun e w' => e = .returned (.bool true) ∧ Below w.heap.size w w' := by
  go_enter Try.func86, Try.ntmps86
  go_wp2
  go_ret
  exact ⟨rfl, by (repeat (first | with_reducible assumption | with_reducible exact Below.refl _ _ | ((with_reducible refine Below.alloc ?_ ?_ _); rotate_left; · exact (by first | omega | (simp; done) | (simp; omega))) | ((with_reducible refine Below.setCell ?_ ?_ _); rotate_left; · exact (by first | omega | (simp; done) | (simp; omega))) | with_reducible refine Below.drew ?_ | assumption | exact Below.refl _ _ | refine Below.alloc ?_ (by first | omega | (simp; done) | (simp; omega)) _ | refine Below.setCell ?_ (by first | omega | (simp; done) | (simp; omega)) _ | refine Below.drew ?_))⟩
set_option maxRecDepth 100000 in
set_option maxHeartbeats 1000000 in
theorem eqInS (a a' : Option Addr) (n c c' : Nat) (f : Nat → Inp) (w : World) (hn : n ≤ 1099511627776) (hl : InsAt w a n f) (hl' : InsAt w a' n f) : Calls Try.prog 49 #[.slice a n c, .slice a' n c'] w fun e w' => e = .returned (.bool true) ∧ Below w.heap.size w w' := by
  go_enter Try.func49, Try.ntmps49
  go_wp2
  go_loopw [5] (fun i wr => ∃ k : Nat, k ≤ n ∧ i = .int .i64 k ∧ Below w.heap.size w wr) (fun i _ => n - (intOf i).toNat)
  case atStart => exact ⟨0, Nat.zero_le _, rfl, Below.refl _ _⟩
  case round =>
    obtain ⟨k, hk, rfl, hB⟩ := hrel
    by_cases hlt : k < n
    · obtain ⟨b, off, rfl, hbl, hcs⟩ := hl.resolve_left (by omega)
      obtain ⟨b', off', rfl, hbl', hcs'⟩ := hl'.resolve_left (by omega)
      obtain ⟨g0, g1, g2⟩ := hcs k hlt
      obtain ⟨g0', g1', g2'⟩ := hcs' k hlt
      have e0 := (hB.cell (p := ⟨b, off + k * 3, none⟩) hbl).trans g0
      have e1 := (hB.cell (p := ⟨b, off + k * 3 + 1, none⟩) hbl).trans g1
      have e2 := (hB.cell (p := ⟨b, off + k * 3 + 2, none⟩) hbl).trans g2
      have e0' := (hB.cell (p := ⟨b', off' + k * 3, none⟩) hbl').trans g0'
      have e1' := (hB.cell (p := ⟨b', off' + k * 3 + 1, none⟩) hbl').trans g1'
      have e2' := (hB.cell (p := ⟨b', off' + k * 3 + 2, none⟩) hbl').trans g2'
      clear g0 g1 g2 g0' g1' g2'
      have hsz := hB.size
      have hbr : b < wr.heap.size := by omega
      have hbr' : b' < wr.heap.size := by omega
      have q1 : (0 : Int) ≤ (k : Int) := by omega
      have q2 : (k : Int) < (n : Int) := by omega
      have hL := Lib.hid hl
      have hCs := Lib.hid hcs
      have hL' := Lib.hid hl'
      have hCs' := Lib.hid hcs'
      clear hcs hl hcs' hl'
      go_wp2_with fail
      refine region_bel (by kernel_rfl) (by kernel_rfl) ?_; (repeat (first | go_big_quiet_step ((go_at_call 86; exact calls_bel (eqInp _ _ _ _))) | quiet_step ((go_at_call 86; exact calls_bel (eqInp _ _ _ _))))); refine wpQuiet_nil ?_; intro w1 hwq; obtain ⟨⟨wq, hb1⟩, hwq⟩ := hwq; dsimp only at hwq; subst hwq; obtain ⟨hc1, hf1⟩ := bcell hb1
      go_wp2
      go_roundw
      case rel => exact ⟨k + 1, by omega, by go_num, hB.trans (hb1.mono hB.size)⟩
      case measure => simp [intOf]; omega
    · obtain rfl : k = n := by omega
      go_wp2
      go_ret
      exact ⟨rfl, hB⟩
/-- a new slice of n inputs -/
def NewIns (n : Nat) (f : Nat → Inp) (w : World) (e : Ending) (w' : World) : Prop :=
  ∃ g cap, e = .returned (.slice (some ⟨g, 0, none⟩) n cap) ∧ InsAt w' (some ⟨g, 0, none⟩) n f ∧ w.heap.size ≤ g ∧ g < w'.heap.size ∧ Below w.heap.size w w'
set_option maxRecDepth 100000 in
set_option maxHeartbeats 2000000 in
theorem toInS (a : Option Addr) (n c : Nat) (f : Nat → Inp) (w : World) (hn : n ≤ 1048576) (hl : InsAt w a n f) : Calls Try.prog 47 #[.slice a n c] w (NewIns n f w) := by
  obtain ⟨i0, hi, hz0, hz1, hz2⟩ := info_parts infoIn
  go_enter Try.func47, Try.ntmps47
  go_wp2_with (at_make; refine wpList_make_full _ rfl _ _ 71 rfl w.heap.size 51 i0 _ 3 Try.underlying71 hi hz0 hz1 .i64 .i64 _ _ n rfl rfl rfl rfl (by rw [hz2]; omega) (by unfold maxLen; omega) (Nat.le_refl _) ?_; intro w0 hown0 hgrow0)
  go_loopw [4] (fun i wr => ∃ (k : Nat) (xs : List Value), k ≤ n ∧ i = .int .i64 k ∧ wr.ownsRow w.heap.size 51 3 (.slice (some ⟨w.heap.size, 0, none⟩) n n) n xs ∧ (∀ i, i < k → ∀ j, j < 3 → xs[i * 3 + j]? = (f i).cells[j]?) ∧ Below w.heap.size w wr) (fun i _ => n - (intOf i).toNat)
  case atStart => exact ⟨0, _, Nat.zero_le _, rfl, hown0, fun j hj => absurd hj (Nat.not_lt_zero _), (Below.refl _ _).grown hgrow0 (Nat.le_refl _) (fun k h => by cases h)⟩
  case round =>
    obtain ⟨k, xs, hk, rfl, hown, hxs, hB⟩ := hrel
    have hXs := Lib.hid hxs
    clear hxs
    by_cases hlt : k < n
    · obtain ⟨b, off, rfl, hbl, hcs⟩ := hl.resolve_left (by omega)
      obtain ⟨g0, g1, g2⟩ := hcs k hlt
      have e0 := (hB.cell (p := ⟨b, off + k * 3, none⟩) hbl).trans g0
      have e1 := (hB.cell (p := ⟨b, off + k * 3 + 1, none⟩) hbl).trans g1
      have e2 := (hB.cell (p := ⟨b, off + k * 3 + 2, none⟩) hbl).trans g2
      clear g0 g1 g2
      have q1 : (0 : Int) ≤ (k : Int) := by omega
      have q2 : (k : Int) < (n : Int) := by omega
      have hL := Lib.hid hl
      have hCs := Lib.hid hcs
      clear hcs hl
      go_wp2_with fail
      refine (toInp _ _ _ _).mono ?_
      rintro e w1 ⟨rfl, hb1⟩
      have hlen : xs.length = n * 3 := hown.1
      have hown1 : w1.ownsRow w.heap.size 51 3 (.slice (some ⟨w.heap.size, 0, none⟩) n n) n xs := by
        obtain ⟨h1, h2⟩ := hown
        refine ⟨h1, ?_⟩
        rcases h2 with h2 | ⟨g, cap, cur, hv, hgb, hg, h3⟩
        · exact .inl h2
        · exact .inr ⟨g, cap, cur, hv, hgb, (hb1.block g (Array.getElem?_eq_some_iff.1 hg).1).trans hg, h3⟩
      have hz1 : w.heap.size < w1.heap.size := (hown1.lt _ rfl).2
      obtain ⟨u0, hu0⟩ : ∃ u, w1.cell? ⟨w.heap.size, k * 3, none⟩ = some u := ⟨xs[k * 3], by rw [hown1.cellAt (k * 3) (by omega)]; exact List.getElem?_eq_getElem (by omega)⟩
      obtain ⟨u1, hu1⟩ : ∃ u, w1.cell? ⟨w.heap.size, k * 3 + 1, none⟩ = some u := ⟨xs[k * 3 + 1], by rw [hown1.cellAt (k * 3 + 1) (by omega)]; exact List.getElem?_eq_getElem (by omega)⟩
      obtain ⟨u2, hu2⟩ : ∃ u, w1.cell? ⟨w.heap.size, k * 3 + 2, none⟩ = some u := ⟨xs[k * 3 + 2], by rw [hown1.cellAt (k * 3 + 2) (by omega)]; exact List.getElem?_eq_getElem (by omega)⟩
      have hf0 := hown1.frozenAt (k * 3)
      have hf1 := hown1.frozenAt (k * 3 + 1)
      have hf2 := hown1.frozenAt (k * 3 + 2)
      have hLen := Lib.hid hlen
      clear hlen hown
      go_wp2
      go_roundw
      case rel => exact ⟨k + 1, _, by omega, by go_num, own3 hown1 _ _ _, set3_at hXs.out (by rw [hLen.out]; omega), below3 (hB.trans (hb1.mono hB.size)) (Nat.le_refl _) _ _ _⟩
      case measure => simp [intOf]; omega
    · obtain rfl : k = n := by omega
      go_wp2
      go_ret
      have hlt := (hown.lt _ rfl)
      have hv := ivals_of hown.1 hXs.out
      subst hv
      exact ⟨_, _, rfl, ins_own hown, hlt.1, hlt.2, hB⟩
/-- how much room is left -/
def SzIn (n : Nat) (z v : Int) : Prop := ((n : Int) ≤ z → v = z - n) ∧ (z < (n : Int) → v < 0)
set_option maxHeartbeats 400000 in
theorem szInS (a : Option Addr) (n c : Nat) (z : Int) (w : World) (hn : n ≤ 9223372036854775807) (hz0 : 0 ≤ z) (hz : z ≤ 1048576) : Calls Try.prog 45 #[.slice a n c, .int .i64 z] w fun e w' => ∃ v : Int, e = .returned (.int .i64 v) ∧ SzIn n z v ∧ Below w.heap.size w w' := by
  by_cases h : (n : Int) ≤ z
  · go_enter Try.func45, Try.ntmps45
    go_wp2
    go_ret
    exact ⟨_, rfl, ⟨fun _ => rfl, fun h' => by omega⟩, by (repeat (first | with_reducible assumption | with_reducible exact Below.refl _ _ | ((with_reducible refine Below.alloc ?_ ?_ _); rotate_left; · exact (by first | omega | (simp; done) | (simp; omega))) | ((with_reducible refine Below.setCell ?_ ?_ _); rotate_left; · exact (by first | omega | (simp; done) | (simp; omega))) | with_reducible refine Below.drew ?_ | assumption | exact Below.refl _ _ | refine Below.alloc ?_ (by first | omega | (simp; done) | (simp; omega)) _ | refine Below.setCell ?_ (by first | omega | (simp; done) | (simp; omega)) _ | refine Below.drew ?_))⟩
  · go_enter Try.func45, Try.ntmps45
    go_wp2
    go_ret
    exact ⟨_, rfl, ⟨fun h' => by omega, fun _ => by omega⟩, by (repeat (first | with_reducible assumption | with_reducible exact Below.refl _ _ | ((with_reducible refine Below.alloc ?_ ?_ _); rotate_left; · exact (by first | omega | (simp; done) | (simp; omega))) | ((with_reducible refine Below.setCell ?_ ?_ _); rotate_left; · exact (by first | omega | (simp; done) | (simp; omega))) | with_reducible refine Below.drew ?_ | assumption | exact Below.refl _ _ | refine Below.alloc ?_ (by first | omega | (simp; done) | (simp; omega)) _ | refine Below.setCell ?_ (by first | omega | (simp; done) | (simp; omega)) _ | refine Below.drew ?_))⟩
end Go.Proofs.Ytgghfbkeipchkaa
