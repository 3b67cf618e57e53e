/- The lists drawn. -/
import Derived.Test.YtccbjhmjildinaaN
namespace Go.Proofs.Ytccbjhmjildinaa
open Go.RowKit

theorem ownsRow_up {w w' : World} {R base : Nat} {e : TypeId} {size : Nat} {v : Value} {n : Nat} {xs : List Value} (h : w.ownsRow base e size v n xs) (hu : Up R w.heap.size w w') (hR : R < base) : w'.ownsRow base e size v n xs := by
  obtain ⟨h1, h2⟩ := h
  refine ⟨h1, ?_⟩
  rcases h2 with h2 | ⟨g, cap, cur, hv, hb, hg, h3⟩
  · exact .inl h2
  · exact .inr ⟨g, cap, cur, hv, hb, (hu.block g (Array.getElem?_eq_some_iff.1 hg).1 (by omega)).trans hg, h3⟩
theorem Up.grown {R B : Nat} {a w w' : World} {row : Option Nat} (h : Up R B a w) (hg : w.grownBy w' row) (hB : B ≤ w.heap.size) (hr : ∀ k, row = some k → B ≤ k ∨ k = R) : Up R B a w' :=
  h.trans ⟨hg.os, hg.tape, hg.output, hg.size, fun k hk hne => hg.block k (by omega) (fun e => by have := hr k e.symm; omega)⟩
theorem ownBlock_ge {w : World} {base : Nat} {e : TypeId} {size : Nat} {v : Value} {n : Nat} {xs : List Value} (h : w.ownsRow base e size v n xs) : ∀ k, v.ownBlock = some k → base ≤ k := by
  intro k hk
  rcases h.2 with ⟨hv, _⟩ | ⟨g, cap, cur, hv, hb, _⟩
  · subst hv; simp [Value.ownBlock] at hk
  · subst hv; simp [Value.ownBlock] at hk; omega

theorem Rd.grown {w w' : World} {R k : Nat} {row : Option Nat} (h : Rd w R k) (hg : w.grownBy w' row) (hr : ∀ b, row = some b → R < b) : Rd w' R k :=
  h.keep ((Below.refl (R + 1) w).grown hg h.lt (fun b hb => hr b hb))
theorem ints_snoc {xs : List Value} {z : Int} (h : ∀ u ∈ xs, ∃ z : Int, u = .int .i64 z ∧ -1099511627776 ≤ z ∧ z ≤ 1099511627776) (h1 : -1099511627776 ≤ z) (h2 : z ≤ 1099511627776) :
    ∀ u ∈ xs ++ [Value.int .i64 z], ∃ z : Int, u = .int .i64 z ∧ -1099511627776 ≤ z ∧ z ≤ 1099511627776 := by
  intro u hu
  rcases List.mem_append.1 hu with hu | hu
  · exact h u hu
  · simp at hu; exact ⟨z, hu, h1, h2⟩

theorem ints_set {xs : List Value} {z : Int} {i : Nat} (h : ∀ u ∈ xs, ∃ z : Int, u = .int .i64 z ∧ -1099511627776 ≤ z ∧ z ≤ 1099511627776) (h1 : -1099511627776 ≤ z) (h2 : z ≤ 1099511627776) :
    ∀ u ∈ xs.set i (Value.int .i64 z), ∃ z : Int, u = .int .i64 z ∧ -1099511627776 ≤ z ∧ z ≤ 1099511627776 := by
  intro u hu
  rcases List.mem_or_eq_of_mem_set hu with hu | hu
  · exact h u hu
  · exact ⟨z, hu, h1, h2⟩
theorem ints_own {w : World} {base : Nat} {e : TypeId} {g n cap : Nat} {xs : List Value} (h : w.ownsRow base e 1 (.slice (some ⟨g, 0, none⟩) n cap) n xs) (hx : ∀ u ∈ xs, ∃ z : Int, u = .int .i64 z ∧ -1099511627776 ≤ z ∧ z ≤ 1099511627776) :
    ∃ f, IntsAt w (some ⟨g, 0, none⟩) n f ∧ ∀ i, i < n → -1099511627776 ≤ f i ∧ f i ≤ 1099511627776 := by
  have hlen : xs.length = n := by simpa using h.1
  have hz : ∀ i, i < n → ∃ z : Int, xs[i]? = some (.int .i64 z) ∧ -1099511627776 ≤ z ∧ z ≤ 1099511627776 := fun i hi => by
    obtain ⟨z, h1, h2⟩ := hx xs[i] (List.getElem_mem (by omega))
    exact ⟨z, by rw [List.getElem?_eq_getElem (by omega), h1], h2⟩
  refine ⟨fun i => intOf (xs.getD i (.int .i64 0)), .inr ⟨g, 0, rfl, ownsRow_lt h, fun i hi => ?_⟩, fun i hi => ?_⟩
  · obtain ⟨z, h1, _⟩ := hz i hi
    rw [Nat.zero_add, h.cellAt i (by omega), h1]
    simp [List.getD, h1, intOf]
  · obtain ⟨z, h1, h2⟩ := hz i hi
    show _ ≤ intOf (xs.getD i (.int .i64 0)) ∧ intOf (xs.getD i (.int .i64 0)) ≤ _
    simp only [List.getD, h1, intOf, Option.getD_some]
    exact h2

/-- a list drawn -/
def DrawnInts (c R k : Nat) (w : World) (e : Ending) (w' : World) : Prop :=
  ∃ (n g cap : Nat) (f : Nat → Int) (k' : Nat), e = .returned (.slice (some ⟨g, 0, none⟩) n cap) ∧ n ≤ 201 ∧ IntsAt w' (some ⟨g, 0, none⟩) n f ∧ (∀ i, i < n → -1099511627776 ≤ f i ∧ f i ≤ 1099511627776) ∧ (w.heap.size ≤ g ∧ g < w'.heap.size) ∧ k ≤ k' ∧ k' ≤ k + c ∧ Rd w' R k' ∧ Up R w.heap.size w w'

set_option maxRecDepth 100000 in
set_option maxHeartbeats 4000000 in
theorem lList_any (R k : Nat) (w : World) (hr : Rd w R k) (hk : k < 800000) : Calls Try.prog 53 #[.pointer (some ⟨R, 0, none⟩)] w (DrawnInts 1000 R k w) := by
  have hR := hr.lt
  obtain ⟨i0, hii, hiz, his, hib⟩ := info_parts infoInt
  go_enter Try.func53, Try.ntmps53
  go_wp2_with fail; refine (pick_any R _ _ _ (by (first | assumption | exact Rd.keep ‹Rd _ R _› (by (repeat (first | assumption | exact Below.refl _ _ | refine Below.alloc ?_ (by first | omega | (simp; done) | (simp; omega)) _ | refine Below.setCell ?_ (by first | omega | (simp; done) | (simp; omega)) _ | refine Below.drew ?_))))) (by omega) (by omega) (by omega)).mono ?_; rintro e w1 ⟨v1, rfl, hv1, hw1, hr1, hu1⟩; have hz1 : w.heap.size ≤ w1.heap.size := (by have := hu1.size; first | omega | (simp at this; omega)); have hU1 : Up R w.heap.size w w1 := upstep (by (repeat (first | assumption | exact Up.refl _ _ _ | refine Up.alloc ?_ (by first | omega | (simp; done) | (simp; omega)) _ | refine Up.setCell ?_ (.inr (by first | omega | (simp; done) | (simp; omega))) _ | refine Up.drew ?_ | refine Up.drewN ?_ _))) (by first | omega | (simp; done) | (simp; omega)) hu1
  go_wp2_with fail; refine (pick_any R _ _ _ (by (first | assumption | exact Rd.keep ‹Rd _ R _› (by (repeat (first | assumption | exact Below.refl _ _ | refine Below.alloc ?_ (by first | omega | (simp; done) | (simp; omega)) _ | refine Below.setCell ?_ (by first | omega | (simp; done) | (simp; omega)) _ | refine Below.drew ?_))))) (by omega) (by omega) (by omega)).mono ?_; rintro e w2 ⟨v2, rfl, hv2, hw2, hr2, hu2⟩; have hz2 : w.heap.size ≤ w2.heap.size := (by have := hu2.size; first | omega | (simp at this; omega)); have hU2 : Up R w.heap.size w w2 := upstep (by (repeat (first | assumption | exact Up.refl _ _ _ | refine Up.alloc ?_ (by first | omega | (simp; done) | (simp; omega)) _ | refine Up.setCell ?_ (.inr (by first | omega | (simp; done) | (simp; omega))) _ | refine Up.drew ?_ | refine Up.drewN ?_ _))) (by first | omega | (simp; done) | (simp; omega)) hu2
  have hneR : w.heap.size ≠ R := by omega
  have hown2 : w2.ownsRow w.heap.size 3 1 (.slice (some ⟨w.heap.size, 0, none⟩) 0 0) 0 [] := by
    refine ⟨rfl, .inr ⟨w.heap.size, 0, #[], rfl, Nat.le_refl _, ?_, Nat.le_refl _, by simp [maxLen], rfl, rfl⟩⟩
    rw [hu2.block _ (by have := hu1.size; simp at this; omega) hneR, hu1.block _ (by simp) hneR]
    exact heap_alloc_new w _
  by_cases h20 : v2 = 0
  · subst h20
    go_wp2_with fail; refine (pick_any R _ _ _ (by (first | assumption | exact Rd.keep ‹Rd _ R _› (by (repeat (first | assumption | exact Below.refl _ _ | refine Below.alloc ?_ (by first | omega | (simp; done) | (simp; omega)) _ | refine Below.setCell ?_ (by first | omega | (simp; done) | (simp; omega)) _ | refine Below.drew ?_))))) (by omega) (by omega) (by omega)).mono ?_; rintro e w3 ⟨v3, rfl, hv3, hw3, hr3, hu3⟩; have hz3 : w.heap.size ≤ w3.heap.size := (by have := hu3.size; first | omega | (simp at this; omega)); have hU3 : Up R w.heap.size w w3 := upstep (by (repeat (first | assumption | exact Up.refl _ _ _ | refine Up.alloc ?_ (by first | omega | (simp; done) | (simp; omega)) _ | refine Up.setCell ?_ (.inr (by first | omega | (simp; done) | (simp; omega))) _ | refine Up.drew ?_ | refine Up.drewN ?_ _))) (by first | omega | (simp; done) | (simp; omega)) hu3
    have hown3 := ownsRow_up hown2 hu3 hR
    go_wp2_with fail
    go_loopw [3, 5] (fun v i wr => ∃ (j kj : Nat) (xs : List Value), (j : Int) ≤ 199 + v3 ∧ i = .int .i64 j ∧ wr.ownsRow w.heap.size 3 1 v j xs ∧ (∀ u ∈ xs, ∃ z : Int, u = .int .i64 z ∧ -1099511627776 ≤ z ∧ z ≤ 1099511627776) ∧ v ≠ .slice none 0 0 ∧ k ≤ kj ∧ kj ≤ k + 3 + 3 * j ∧ Rd wr R kj ∧ Up R w.heap.size w wr) (fun _ i _ => (199 + v3 - intOf i).toNat)
    case atStart => exact ⟨0, k + 1 + 1 + 1, [], by omega, rfl, hown3, by simp, by simp, by omega, by omega, hr3, hU3⟩
    case round =>
      obtain ⟨j, kj, xs, hj, rfl, hown, hxs, hnn, hk1, hk2, hrj, hUj⟩ := hrel
      have hXs := Lib.hid hxs
      have hNn := Lib.hid hnn
      clear hxs hnn
      by_cases hlt : (j : Int) < 199 + v3
      · have hlt' : j < 201 := by omega
        go_wp2_with fail
        refine (pick_any R kj _ _ hrj (by omega) (by omega) (by omega)).mono ?_
        rintro e wa ⟨va, rfl, hva, hwa, hra, hua⟩
        have hzj : w.heap.size ≤ wa.heap.size := (by have := hua.size; have := hUj.size; omega)
        have hUa : Up R w.heap.size w wa := upstep hUj hUj.size hua
        have howna := ownsRow_up hown hua hR
        go_wp2_with fail
        refine (pick_any R (kj + 1) _ _ hra (by omega) (by omega) (by omega)).mono ?_
        rintro e wb ⟨vb, rfl, hvb, hwb, hrb, hub⟩
        have hUb : Up R w.heap.size w wb := upstep hUa hUa.size hub
        have hownb := ownsRow_up howna hub hR
        go_wp2_with fail
        refine (pick_any R (kj + 1 + 1) _ _ hrb (by omega) (by omega) (by omega)).mono ?_
        rintro e wc ⟨vc, rfl, hvc, hwc, hrc, huc⟩
        have hUc : Up R w.heap.size w wc := upstep hUb hUb.size huc
        have hownc := ownsRow_up hownb huc hR
        have hzc : w.heap.size ≤ wc.heap.size := hUc.size
        rcases two_of hvc hwc with rfl | rfl
        all_goals
          go_wp2_with (at_builtin; refine wpList_append_own _ rfl _ _ 38 rfl w.heap.size 3 i0 (.int .i64 0) 1 8 Try.underlying38 hii hiz his hib rfl (by decide) _ _ _ rfl (hownc.alloc _) ⟨wc.heap.size, 0, none⟩ 1 1 [.int .i64 _] rfl rfl (cell_one_new _ _ _) (by simp [Value.oneCell']) (by unfold maxLen; omega) (by omega) (by simp; omega) ?_; intro v' wd hown' hgrow' hnil')
          go_roundw
          case rel =>
            have hge := ownBlock_ge hownc
            refine ⟨j + 1, kj + 1 + 1 + 1, _, by omega, by go_num, hown', ints_snoc hXs.out (by omega) (by omega), fun e => hNn.out (hnil'.1 e).1, by omega, by omega, ?_, ?_⟩
            · exact Rd.grown (Rd.keep hrc ((Below.refl _ _).alloc hrc.lt _)) hgrow' (fun b hb => by have := hge b hb; omega)
            · exact (hUc.alloc hzc _).grown hgrow' (by simp; omega) (fun b hb => .inl (hge b hb))
          case measure => simp [intOf]; omega
      · obtain ⟨g, cap, rfl⟩ : ∃ g cap, u3 = Value.slice (some ⟨g, 0, none⟩) j cap := by
          rcases hown.2 with ⟨hv, _⟩ | ⟨g, cap, cur, hv, _⟩
          · exact absurd hv hNn.out
          · exact ⟨g, cap, hv⟩
        have hgb : w.heap.size ≤ g := ownBlock_ge hown g rfl
        have hgl := ownsRow_lt hown
        have hgR : g ≠ R := by omega
        have hzr := hUj.size
        by_cases hp : 0 < 199 + v3
        · go_wp2_with fail
          refine (pick_any R kj _ _ hrj (by omega) (by omega) (by omega)).mono ?_
          rintro e wa ⟨va, rfl, hva, hwa, hra, hua⟩
          have hUa : Up R w.heap.size w wa := upstep hUj hUj.size hua
          have howna := ownsRow_up hown hua hR
          go_wp2_with fail
          · refine (pick_any R (kj + 1) _ _ hra (by omega) (by omega) (by omega)).mono ?_
            rintro e wb ⟨vb, rfl, hvb, hwb, hrb, hub⟩
            have hUb : Up R w.heap.size w wb := upstep hUa hUa.size hub
            have hownb := ownsRow_up howna hub hR
            go_wp2_with fail
            refine (lFix_any R (kj + 1 + 1) _ hrb (by omega)).mono ?_
            rintro e wc ⟨vc, kc, rfl, hvc, hwc, hkc, hkd, hrc, huc⟩
            have hUc : Up R w.heap.size w wc := upstep hUb hUb.size huc
            have hownc := ownsRow_up hownb huc hR
            have hlen : xs.length = j := by simpa using hownc.1
            have hvt : vb.toNat < j := by omega
            obtain ⟨u, hu⟩ : ∃ u, wc.cell? ⟨g, vb.toNat, none⟩ = some u := ⟨xs[vb.toNat], by rw [hownc.cellAt vb.toNat (by omega)]; exact List.getElem?_eq_getElem (by omega)⟩
            have hfz := hownc.frozenAt vb.toNat
            have hst := hownc.stored vb.toNat (.int .i64 vc)
            have hSt := Lib.hid hst
            have hLen := Lib.hid hlen
            clear hlen hst
            go_wp2
            go_ret
            obtain ⟨f, hf1, hf2⟩ := ints_own hSt.out.1 (ints_set hXs.out hvc hwc)
            have hUd := hUc.setCell (p := ⟨g, vb.toNat, none⟩) (.inr hgb) (.int .i64 vc)
            exact ⟨j, _, cap, f, kc, rfl, by omega, hf1, hf2, ⟨hgb, Nat.lt_of_lt_of_le (ownsRow_lt hownc) (by simp)⟩, by omega, by omega, Rd.keep hrc ((Below.refl _ _).setCell (by simp; omega) _), hUd⟩
          · go_ret
            obtain ⟨f, hf1, hf2⟩ := ints_own howna hXs.out
            exact ⟨j, _, cap, f, kj + 1, rfl, by omega, hf1, hf2, ⟨hgb, ownsRow_lt howna⟩, by omega, by omega, hra, hUa⟩
        · have hp' : 199 + v3 ≤ 0 := by omega
          go_wp2
          go_ret
          obtain ⟨f, hf1, hf2⟩ := ints_own hown hXs.out
          exact ⟨j, _, cap, f, kj, rfl, by omega, hf1, hf2, ⟨hgb, hgl⟩, by omega, by omega, hrj, hUj⟩
  · have h2f : (v2 == 0) = false := by simpa using h20
    go_wp2_with fail
    go_loopw [3, 5] (fun v i wr => ∃ (j kj : Nat) (xs : List Value), (j : Int) ≤ v1 ∧ i = .int .i64 j ∧ wr.ownsRow w.heap.size 3 1 v j xs ∧ (∀ u ∈ xs, ∃ z : Int, u = .int .i64 z ∧ -1099511627776 ≤ z ∧ z ≤ 1099511627776) ∧ v ≠ .slice none 0 0 ∧ k ≤ kj ∧ kj ≤ k + 3 + 3 * j ∧ Rd wr R kj ∧ Up R w.heap.size w wr) (fun _ i _ => (v1 - intOf i).toNat)
    case atStart => exact ⟨0, k + 1 + 1, [], by omega, rfl, hown2, by simp, by simp, by omega, by omega, hr2, hU2⟩
    case round =>
      obtain ⟨j, kj, xs, hj, rfl, hown, hxs, hnn, hk1, hk2, hrj, hUj⟩ := hrel
      have hXs := Lib.hid hxs
      have hNn := Lib.hid hnn
      clear hxs hnn
      by_cases hlt : (j : Int) < v1
      · have hlt' : j < 201 := by omega
        go_wp2_with fail
        refine (pick_any R kj _ _ hrj (by omega) (by omega) (by omega)).mono ?_
        rintro e wa ⟨va, rfl, hva, hwa, hra, hua⟩
        have hzj : w.heap.size ≤ wa.heap.size := (by have := hua.size; have := hUj.size; omega)
        have hUa : Up R w.heap.size w wa := upstep hUj hUj.size hua
        have howna := ownsRow_up hown hua hR
        go_wp2_with fail
        refine (pick_any R (kj + 1) _ _ hra (by omega) (by omega) (by omega)).mono ?_
        rintro e wb ⟨vb, rfl, hvb, hwb, hrb, hub⟩
        have hUb : Up R w.heap.size w wb := upstep hUa hUa.size hub
        have hownb := ownsRow_up howna hub hR
        go_wp2_with fail
        refine (pick_any R (kj + 1 + 1) _ _ hrb (by omega) (by omega) (by omega)).mono ?_
        rintro e wc ⟨vc, rfl, hvc, hwc, hrc, huc⟩
        have hUc : Up R w.heap.size w wc := upstep hUb hUb.size huc
        have hownc := ownsRow_up hownb huc hR
        have hzc : w.heap.size ≤ wc.heap.size := hUc.size
        rcases two_of hvc hwc with rfl | rfl
        all_goals
          go_wp2_with (at_builtin; refine wpList_append_own _ rfl _ _ 38 rfl w.heap.size 3 i0 (.int .i64 0) 1 8 Try.underlying38 hii hiz his hib rfl (by decide) _ _ _ rfl (hownc.alloc _) ⟨wc.heap.size, 0, none⟩ 1 1 [.int .i64 _] rfl rfl (cell_one_new _ _ _) (by simp [Value.oneCell']) (by unfold maxLen; omega) (by omega) (by simp; omega) ?_; intro v' wd hown' hgrow' hnil')
          go_roundw
          case rel =>
            have hge := ownBlock_ge hownc
            refine ⟨j + 1, kj + 1 + 1 + 1, _, by omega, by go_num, hown', ints_snoc hXs.out (by omega) (by omega), fun e => hNn.out (hnil'.1 e).1, by omega, by omega, ?_, ?_⟩
            · exact Rd.grown (Rd.keep hrc ((Below.refl _ _).alloc hrc.lt _)) hgrow' (fun b hb => by have := hge b hb; omega)
            · exact (hUc.alloc hzc _).grown hgrow' (by simp; omega) (fun b hb => .inl (hge b hb))
          case measure => simp [intOf]; omega
      · obtain ⟨g, cap, rfl⟩ : ∃ g cap, u3 = Value.slice (some ⟨g, 0, none⟩) j cap := by
          rcases hown.2 with ⟨hv, _⟩ | ⟨g, cap, cur, hv, _⟩
          · exact absurd hv hNn.out
          · exact ⟨g, cap, hv⟩
        have hgb : w.heap.size ≤ g := ownBlock_ge hown g rfl
        have hgl := ownsRow_lt hown
        have hgR : g ≠ R := by omega
        have hzr := hUj.size
        by_cases hp : 0 < v1
        · go_wp2_with fail
          refine (pick_any R kj _ _ hrj (by omega) (by omega) (by omega)).mono ?_
          rintro e wa ⟨va, rfl, hva, hwa, hra, hua⟩
          have hUa : Up R w.heap.size w wa := upstep hUj hUj.size hua
          have howna := ownsRow_up hown hua hR
          go_wp2_with fail
          · refine (pick_any R (kj + 1) _ _ hra (by omega) (by omega) (by omega)).mono ?_
            rintro e wb ⟨vb, rfl, hvb, hwb, hrb, hub⟩
            have hUb : Up R w.heap.size w wb := upstep hUa hUa.size hub
            have hownb := ownsRow_up howna hub hR
            go_wp2_with fail
            refine (lFix_any R (kj + 1 + 1) _ hrb (by omega)).mono ?_
            rintro e wc ⟨vc, kc, rfl, hvc, hwc, hkc, hkd, hrc, huc⟩
            have hUc : Up R w.heap.size w wc := upstep hUb hUb.size huc
            have hownc := ownsRow_up hownb huc hR
            have hlen : xs.length = j := by simpa using hownc.1
            have hvt : vb.toNat < j := by omega
            obtain ⟨u, hu⟩ : ∃ u, wc.cell? ⟨g, vb.toNat, none⟩ = some u := ⟨xs[vb.toNat], by rw [hownc.cellAt vb.toNat (by omega)]; exact List.getElem?_eq_getElem (by omega)⟩
            have hfz := hownc.frozenAt vb.toNat
            have hst := hownc.stored vb.toNat (.int .i64 vc)
            have hSt := Lib.hid hst
            have hLen := Lib.hid hlen
            clear hlen hst
            go_wp2
            go_ret
            obtain ⟨f, hf1, hf2⟩ := ints_own hSt.out.1 (ints_set hXs.out hvc hwc)
            have hUd := hUc.setCell (p := ⟨g, vb.toNat, none⟩) (.inr hgb) (.int .i64 vc)
            exact ⟨j, _, cap, f, kc, rfl, by omega, hf1, hf2, ⟨hgb, Nat.lt_of_lt_of_le (ownsRow_lt hownc) (by simp)⟩, by omega, by omega, Rd.keep hrc ((Below.refl _ _).setCell (by simp; omega) _), hUd⟩
          · go_ret
            obtain ⟨f, hf1, hf2⟩ := ints_own howna hXs.out
            exact ⟨j, _, cap, f, kj + 1, rfl, by omega, hf1, hf2, ⟨hgb, ownsRow_lt howna⟩, by omega, by omega, hra, hUa⟩
        · have hp' : v1 ≤ 0 := by omega
          go_wp2
          go_ret
          obtain ⟨f, hf1, hf2⟩ := ints_own hown hXs.out
          exact ⟨j, _, cap, f, kj, rfl, by omega, hf1, hf2, ⟨hgb, hgl⟩, by omega, by omega, hrj, hUj⟩
end Go.Proofs.Ytccbjhmjildinaa
