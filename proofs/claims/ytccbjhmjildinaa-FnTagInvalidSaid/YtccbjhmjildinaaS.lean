/- The walks of FnHashNext and FnHashChange. -/
import Derived.Test.YtccbjhmjildinaaQ
namespace Go.Proofs.Ytccbjhmjildinaa
open Go.RowKit

/-- the numbers as values -/
def vals (f : Nat → Int) (n : Nat) : List Value := (List.range n).map fun i => .int .i64 (f i)
theorem vals_len (f : Nat → Int) (n : Nat) : (vals f n).length = n := by simp [vals]
theorem vals_at (f : Nat → Int) {n i : Nat} (h : i < n) : (vals f n)[i]? = some (.int .i64 (f i)) := by simp [vals, h]
theorem vals_one (f : Nat → Int) (n : Nat) : ∀ u ∈ vals f n, u.oneCell' = true := by
  intro u hu
  simp [vals] at hu
  obtain ⟨i, _, rfl⟩ := hu
  rfl
theorem vals_cells {w : World} {g n : Nat} {f : Nat → Int} (h : IntsAt w (some ⟨g, 0, none⟩) n f) : ∀ j u, (vals f n)[j]? = some u → w.cell? ((⟨g, 0, none⟩ : Addr).add j) = some u := by
  intro j u hu
  have hj : j < n := by
    by_cases hj : j < n
    · exact hj
    · rw [List.getElem?_eq_none (by rw [vals_len]; omega)] at hu; cases hu
  rw [vals_at f hj] at hu
  cases hu
  rcases h with h | ⟨b, off, hb, _, hc⟩
  · omega
  · cases hb; rw [addr_add]; exact hc j hj
theorem own_empty (w : World) (t : TypeId) : (w.alloc (.cells #[] t)).ownsRow w.heap.size t 1 (.slice (some ⟨w.heap.size, 0, none⟩) 0 0) 0 [] :=
  ⟨rfl, .inr ⟨w.heap.size, 0, #[], rfl, Nat.le_refl _, heap_alloc_new w _, Nat.le_refl _, by simp [maxLen], rfl, rfl⟩⟩
theorem ints_vals {w : World} {base : Nat} {e : TypeId} {g n cap : Nat} {f : Nat → Int} {xs : List Value} (h : w.ownsRow base e 1 (.slice (some ⟨g, 0, none⟩) n cap) n xs) (hx : ∀ i, i < n → xs[i]? = some (.int .i64 (f i))) : IntsAt w (some ⟨g, 0, none⟩) n f :=
  .inr ⟨g, 0, rfl, ownsRow_lt h, fun i hi => by rw [Nat.zero_add, h.cellAt i (by omega)]; exact hx i hi⟩

theorem own_shape {w : World} {base : Nat} {e : TypeId} {size : Nat} {v : Value} {n : Nat} {xs : List Value} (h : w.ownsRow base e size v n xs) (hn : v ≠ .slice none 0 0) : ∃ g cap, v = .slice (some ⟨g, 0, none⟩) n cap := by
  rcases h.2 with ⟨hv, _⟩ | ⟨g, cap, cur, hv, _⟩
  · exact absurd hv hn
  · exact ⟨g, cap, hv⟩
theorem snoc_at (f : Nat → Int) (n : Nat) (m : Int) : ∀ i, i < n + 1 → (vals f n ++ [Value.int .i64 m])[i]? = some (.int .i64 (chg f n m i)) := by
  intro i hi
  by_cases h : i < n
  · rw [List.getElem?_append_left (by rw [vals_len]; exact h), vals_at f h, chg_ne (by omega)]
  · obtain rfl : i = n := by omega
    rw [List.getElem?_append_right (by rw [vals_len]; exact Nat.le_refl _), vals_len, Nat.sub_self, chg_at]
    rfl
theorem set_at (f : Nat → Int) {n k : Nat} (hk : k < n) (m : Int) : ∀ i, i < n → ((vals f n).set k (Value.int .i64 m))[i]? = some (.int .i64 (chg f k m i)) := by
  intro i hi
  by_cases h : i = k
  · subst h; rw [List.getElem?_set_self (by rw [vals_len]; exact hk), chg_at]
  · rw [List.getElem?_set_ne (fun e => h e.symm), vals_at f hi, chg_ne h]

set_option maxHeartbeats 2000000 in
theorem lawHashNext (a : Option Addr) (len cap : Nat) (zs : List Int) (a' : Option Addr) (len' cap' : Nat) (zs' : List Int) (w : World) (h : IsRow .u8 w a len cap zs) (_ : IsRow .u8 w a' len' cap' zs') :
    Calls Try.prog 15 #[.slice a len cap, .slice a' len' cap'] w fun e w' => e = .returned (.bool true) ∧ Below w.heap.size w w' := by
  obtain ⟨i0, hii, hiz, his, hib⟩ := info_parts infoInt
  by_cases hl : len ≤ 1048576
  · by_cases hl' : len' ≤ 1048576
    · go_enter Try.func15, Try.ntmps15
      go_wp2_with fail; refine (dHashInts _ _ _ _ _ h).mono ?_
      rintro e w1 ⟨n, g, c1, f, rfl, hn, hI, hf, hg, hb1⟩
      obtain ⟨hc1, hf1⟩ := bcell hb1; have hz1 : w.heap.size ≤ w1.heap.size := (by have := hb1.size; first | omega | (simp at this; omega)); have hB1 : Below w.heap.size w w1 := bstep (by (repeat (first | assumption | exact Below.refl _ _ | refine Below.alloc ?_ (by first | omega | (simp; done) | (simp; omega)) _ | refine Below.setCell ?_ (by first | omega | (simp; done) | (simp; omega)) _ | refine Below.drew ?_))) (by first | omega | (simp; done) | (simp; omega)) hb1
      go_wp2_with fail; refine (iHashInts _ _ _ f _ (by omega) hI (fun b hb => by cases hb; have := hg.2; simp; omega)).mono ?_
      rintro e w2 ⟨rfl, hb2⟩
      obtain ⟨hc2, hf2⟩ := bcell hb2; have hz2 : w.heap.size ≤ w2.heap.size := (by have := hb2.size; first | omega | (simp at this; omega)); have hB2 : Below w.heap.size w w2 := bstep (by (repeat (first | assumption | exact Below.refl _ _ | refine Below.alloc ?_ (by first | omega | (simp; done) | (simp; omega)) _ | refine Below.setCell ?_ (by first | omega | (simp; done) | (simp; omega)) _ | refine Below.drew ?_))) (by first | omega | (simp; done) | (simp; omega)) hb2
      have hI2 := hI.keep hb2
      go_wp2_with fail; refine (sHashInts _ _ _ f _ (by omega) hI2).mono ?_
      rintro e w' ⟨rfl, rfl⟩
      by_cases h0 : hashF f n < 0
      · go_wp2
        go_ret
        exact ⟨rfl, by (repeat (first | assumption | exact Below.refl _ _ | refine Below.alloc ?_ (by first | omega | (simp; done) | (simp; omega)) _ | refine Below.setCell ?_ (by first | omega | (simp; done) | (simp; omega)) _ | refine Below.drew ?_))⟩
      · have h0 : 0 ≤ hashF f n := by omega
        by_cases h200 : n = 200
        · subst h200
          go_wp2
          go_ret
          exact ⟨rfl, by (repeat (first | assumption | exact Below.refl _ _ | refine Below.alloc ?_ (by first | omega | (simp; done) | (simp; omega)) _ | refine Below.setCell ?_ (by first | omega | (simp; done) | (simp; omega)) _ | refine Below.drew ?_))⟩
        · have g200 : ((n : Int) == 200) = false := by simp; omega
          have hnx := Lib.hid (hashF_next (m := (len' : Int)) h0 h200 (by omega) (by omega))
          have hbd := (hashF_bd f n).2
          have nn : (Value.slice (some ⟨w2.heap.size, 0, none⟩) 0 0) ≠ .slice none 0 0 := by simp
          go_wp2_with (first | (at_builtin; refine wpList_append_own _ rfl (.tmp 40) (.tmp 41) 38 rfl w2.heap.size 3 i0 (.int .i64 0) 1 8 Try.underlying38 hii hiz his hib rfl (by decide) _ _ _ rfl (own_empty w2 _) ⟨g, 0, none⟩ n _ (vals f n) rfl (by rw [vals_len]; omega) (vals_cells (hI2.keep ((Below.refl _ _).alloc (Nat.le_refl _) _))) (vals_one f n) (by unfold maxLen; omega) (by omega) (by simp) ?_; intro v3 w3 hown3 hgrow3 hnil3; simp only [Nat.zero_add, List.nil_append] at hown3; have hz23 : w2.heap.size < w3.heap.size := (by have := hgrow3.size; simp at this; omega)) | (at_builtin; refine wpList_append_own _ rfl (.tmp 42) (.tmp 44) 38 rfl w2.heap.size 3 i0 (.int .i64 0) 1 8 Try.underlying38 hii hiz his hib rfl (by decide) _ _ _ rfl (hown3.alloc _) ⟨w3.heap.size, 0, none⟩ 1 1 [.int .i64 (len' : Int)] rfl rfl (cell_one_new _ _ _) (by simp [Value.oneCell']) (by unfold maxLen; omega) (by omega) (by simp; omega) ?_; intro v4 w4 hown4 hgrow4 hnil4))
          have hB3 : Below w.heap.size w w3 := (hB2.alloc hz2 _).grown hgrow3 (by simp; omega) (fun b hb => by have := ownBlock_ge (own_empty w2 3) b hb; omega)
          have hB4 : Below w.heap.size w w4 := (hB3.alloc (by omega) _).grown hgrow4 (by simp; omega) (fun b hb => by have := ownBlock_ge hown3 b hb; omega)
          obtain ⟨g4, c4, rfl⟩ := own_shape hown4 (fun e => nn (hnil3.1 (hnil4.1 e).1).1)
          have hI4 := ints_vals hown4 (snoc_at f n (len' : Int))
          have hg4 := ownsRow_lt hown4
          refine (iHashInts _ _ _ (chg f n (len' : Int)) _ (by omega) hI4 (fun b hb => by cases hb; simp; omega)).mono ?_
          rintro e w5 ⟨rfl, hb5⟩
          have hB5 : Below w.heap.size w w5 := hB4.trans (hb5.mono hB4.size)
          rw [hnx.out]
          go_wp2
          go_ret
          exact ⟨rfl, hB5⟩
    · go_enter Try.func15, Try.ntmps15
      go_wp2
      go_ret
      exact ⟨rfl, by (repeat (first | assumption | exact Below.refl _ _ | refine Below.alloc ?_ (by first | omega | (simp; done) | (simp; omega)) _ | refine Below.setCell ?_ (by first | omega | (simp; done) | (simp; omega)) _ | refine Below.drew ?_))⟩
  · go_enter Try.func15, Try.ntmps15
    go_wp2
    go_ret
    exact ⟨rfl, by (repeat (first | assumption | exact Below.refl _ _ | refine Below.alloc ?_ (by first | omega | (simp; done) | (simp; omega)) _ | refine Below.setCell ?_ (by first | omega | (simp; done) | (simp; omega)) _ | refine Below.drew ?_))⟩

set_option maxHeartbeats 2000000 in
theorem lawHashChange (a : Option Addr) (len cap : Nat) (zs : List Int) (a' : Option Addr) (len' cap' : Nat) (zs' : List Int) (w : World) (h : IsRow .u8 w a len cap zs) (_ : IsRow .u8 w a' len' cap' zs') :
    Calls Try.prog 13 #[.slice a len cap, .slice a' len' cap'] w fun e w' => e = .returned (.bool true) ∧ Below w.heap.size w w' := by
  obtain ⟨i0, hii, hiz, his, hib⟩ := info_parts infoInt
  by_cases hl : len ≤ 1048576
  · by_cases hl' : len' ≤ 1048576
    · go_enter Try.func13, Try.ntmps13
      go_wp2_with fail; refine (dHashInts _ _ _ _ _ h).mono ?_
      rintro e w1 ⟨n, g, c1, f, rfl, hn, hI, hf, hg, hb1⟩
      obtain ⟨hc1, hf1⟩ := bcell hb1; have hz1 : w.heap.size ≤ w1.heap.size := (by have := hb1.size; first | omega | (simp at this; omega)); have hB1 : Below w.heap.size w w1 := bstep (by (repeat (first | assumption | exact Below.refl _ _ | refine Below.alloc ?_ (by first | omega | (simp; done) | (simp; omega)) _ | refine Below.setCell ?_ (by first | omega | (simp; done) | (simp; omega)) _ | refine Below.drew ?_))) (by first | omega | (simp; done) | (simp; omega)) hb1
      go_wp2_with fail; refine (iHashInts _ _ _ f _ (by omega) hI (fun b hb => by cases hb; have := hg.2; simp; omega)).mono ?_
      rintro e w2 ⟨rfl, hb2⟩
      obtain ⟨hc2, hf2⟩ := bcell hb2; have hz2 : w.heap.size ≤ w2.heap.size := (by have := hb2.size; first | omega | (simp at this; omega)); have hB2 : Below w.heap.size w w2 := bstep (by (repeat (first | assumption | exact Below.refl _ _ | refine Below.alloc ?_ (by first | omega | (simp; done) | (simp; omega)) _ | refine Below.setCell ?_ (by first | omega | (simp; done) | (simp; omega)) _ | refine Below.drew ?_))) (by first | omega | (simp; done) | (simp; omega)) hb2
      have hI2 := hI.keep hb2
      go_wp2_with fail; refine (sHashInts _ _ _ f _ (by omega) hI2).mono ?_
      rintro e w' ⟨rfl, rfl⟩
      by_cases h0 : hashF f n < 0
      · go_wp2
        go_ret
        exact ⟨rfl, by (repeat (first | assumption | exact Below.refl _ _ | refine Below.alloc ?_ (by first | omega | (simp; done) | (simp; omega)) _ | refine Below.setCell ?_ (by first | omega | (simp; done) | (simp; omega)) _ | refine Below.drew ?_))⟩
      · have h0 : 0 ≤ hashF f n := by omega
        by_cases hn0 : n = 0
        · subst hn0
          go_wp2
          go_ret
          exact ⟨rfl, by (repeat (first | assumption | exact Below.refl _ _ | refine Below.alloc ?_ (by first | omega | (simp; done) | (simp; omega)) _ | refine Below.setCell ?_ (by first | omega | (simp; done) | (simp; omega)) _ | refine Below.drew ?_))⟩
        · have gn0 : ((n : Int) == 0) = false := by simp; omega
          have hnp : (0 : Int) < (n : Int) := by omega
          have hkm := Nat.mod_lt len' (by omega : 0 < n)
          obtain ⟨q, hq⟩ : ∃ q, q = len' % n := ⟨_, rfl⟩
          rw [← hq] at hkm
          have hqe : ((len' : Int).tmod (n : Int)) = (q : Int) := by rw [Int.tmod_eq_emod_of_nonneg (by omega), hq]; simp
          have hqe2 : ((len' : Int) % (n : Int)) = (q : Int) := by rw [hq]; simp
          clear hq
          have hfq := hf q hkm
          have hne := hashF_chg (d := 1 + (len : Int) % 1000) hkm (by omega) (by omega) h0
          rw [← Int.add_assoc] at hne
          have hNe := Lib.hid hne
          clear hne
          have nn : (Value.slice (some ⟨w2.heap.size, 0, none⟩) 0 0) ≠ .slice none 0 0 := by simp
          go_wp2_with (at_builtin; refine wpList_append_own _ rfl (.tmp 44) (.tmp 45) 38 rfl w2.heap.size 3 i0 (.int .i64 0) 1 8 Try.underlying38 hii hiz his hib rfl (by decide) _ _ _ rfl (own_empty w2 _) ⟨g, 0, none⟩ n _ (vals f n) rfl (by rw [vals_len]; omega) (vals_cells (hI2.keep ((Below.refl _ _).alloc (Nat.le_refl _) _))) (vals_one f n) (by unfold maxLen; omega) (by omega) (by simp) ?_; intro v3 w3 hown3 hgrow3 hnil3; simp only [Nat.zero_add, List.nil_append] at hown3; have hB3 : Below w.heap.size w w3 := (hB2.alloc hz2 _).grown hgrow3 (by simp; omega) (fun b hb => by have := ownBlock_ge (own_empty w2 3) b hb; omega); obtain ⟨g3, c3, rfl⟩ := own_shape hown3 (fun e => nn (hnil3.1 e).1); have hg3 := ownBlock_ge hown3 g3 rfl; have hcell3 := (hown3.cellAt q (by omega)).trans (vals_at f hkm); have hfz3 := hown3.frozenAt q; have hst3 := Lib.hid (hown3.stored q (.int .i64 (f q + 1 + (len : Int) % 1000))); have hHid := Lib.hid hown3; clear hown3 hnil3 hgrow3)
          · have hI4 := ints_vals hst3.out.1 (set_at f hkm (f q + 1 + (len : Int) % 1000))
            have hg4 := ownsRow_lt hst3.out.1
            have hB4 : Below w.heap.size w (w3.setCell ⟨g3, q, none⟩ (.int .i64 (f q + 1 + (len : Int) % 1000))) := hB3.setCell (by simp; omega) _
            refine (iHashInts _ _ _ (chg f q (f q + 1 + (len : Int) % 1000)) _ (by omega) hI4 (fun b hb => by cases hb; simp at hg4 ⊢; omega)).mono ?_
            rintro e w5 ⟨rfl, hb5⟩
            have hB5 : Below w.heap.size w w5 := hB4.trans (hb5.mono hB4.size)
            go_wp2
            go_ret
            exact ⟨ret_bool (by simp [hNe.out]), hB5⟩
          · go_ret
            exact ⟨rfl, hB3.setCell (by simp; omega) _⟩
    · go_enter Try.func13, Try.ntmps13
      go_wp2
      go_ret
      exact ⟨rfl, by (repeat (first | assumption | exact Below.refl _ _ | refine Below.alloc ?_ (by first | omega | (simp; done) | (simp; omega)) _ | refine Below.setCell ?_ (by first | omega | (simp; done) | (simp; omega)) _ | refine Below.drew ?_))⟩
  · go_enter Try.func13, Try.ntmps13
    go_wp2
    go_ret
    exact ⟨rfl, by (repeat (first | assumption | exact Below.refl _ _ | refine Below.alloc ?_ (by first | omega | (simp; done) | (simp; omega)) _ | refine Below.setCell ?_ (by first | omega | (simp; done) | (simp; omega)) _ | refine Below.drew ?_))⟩
end Go.Proofs.Ytccbjhmjildinaa
