/- The walk of FnStart. -/
import Derived.Test.YtnhjalijnociaaaQau
import Derived.Test.YtnhjalijnociaaaQat
import Derived.Test.YtnhjalijnociaaaQas
set_option linter.unusedVariables false
set_option linter.unusedSimpArgs false
namespace Go.Proofs.Ytnhjalijnociaaa
open Go.RowKit
attribute [local go_sem ↓] run_eqlVec run_neqVec vq_self bq_self

set_option maxRecDepth 100000 in
set_option maxHeartbeats 2000000 in
theorem dEngineStart (a : Option Addr) (len cap : Nat) (zs : List Int) (w : World) (h : IsRow .u8 w a len cap zs) : Calls Try.prog 39 #[.slice a len cap] w (DrawnLv w) := by
  go_enter Try.func39, Try.ntmps39
  go_wp2_with fail
  refine (dLevelValid _ _ _ _ _ (h.keep (by (repeat (first | with_reducible assumption | with_reducible exact Below.refl _ _ | ((with_reducible refine Below.alloc ?_ ?_ _); rotate_left; · exact (by first | omega | (simp; done) | (simp; omega))) | ((with_reducible refine Below.setCell ?_ ?_ _); rotate_left; · exact (by first | omega | (simp; done) | (simp; omega))) | with_reducible refine Below.drew ?_ | assumption | exact Below.refl _ _ | refine Below.alloc ?_ (by first | omega | (simp; done) | (simp; omega)) _ | refine Below.setCell ?_ (by first | omega | (simp; done) | (simp; omega)) _ | refine Below.drew ?_))))).mono ?_
  rintro e w3 ⟨l, R, rfl, hR, hl3, hs3, hb3⟩
  have hR : w.heap.size ≤ R := by simp at hR; omega
  have Z3 : Blk w3 w.heap.size #[.int .i64 0, .int .i64 0, .int .i64 0, .int .i64 0, .slice none 0 0, .slice none 0 0, .int .i64 0, .int .i64 0, .int .i64 0, .int .i64 0, .int .i64 0] := (Blk.at rfl).below hb3 (by simp)
  have hU3 : Below w.heap.size w w3 := bstep (by (repeat (first | with_reducible assumption | with_reducible exact Below.refl _ _ | ((with_reducible refine Below.alloc ?_ ?_ _); rotate_left; · exact (by first | omega | (simp; done) | (simp; omega))) | ((with_reducible refine Below.setCell ?_ ?_ _); rotate_left; · exact (by first | omega | (simp; done) | (simp; omega))) | with_reducible refine Below.drew ?_ | assumption | exact Below.refl _ _ | refine Below.alloc ?_ (by first | omega | (simp; done) | (simp; omega)) _ | refine Below.setCell ?_ (by first | omega | (simp; done) | (simp; omega)) _ | refine Below.drew ?_))) (by first | omega | (simp; done) | (simp; omega)) hb3
  obtain ⟨q0, q1, q2, q3, q4, q5, q6, q7, q8, q9, q10⟩ := Z3.c11
  have qf := Z3.frozen
  have ZF := (((((((((((Z3.s11_0 (.int .i64 l.id)).s11_1 (.int .i64 l.ticks)).s11_2 (.int .i64 l.sx)).s11_3 (.int .i64 l.sy)).s11_4 (.slice l.wa l.wn l.wc)).s11_5 (.slice l.ga l.gn l.gc)).s11_6 (.int .i64 l.flx)).s11_7 (.int .i64 l.fly)).s11_8 (.int .i64 l.fhx)).s11_9 (.int .i64 l.fhy)).s11_10 (.int .i64 l.bans))
  have hA := sets_up w.heap.size w3.heap.size [.int .i64 l.id, .int .i64 l.ticks, .int .i64 l.sx, .int .i64 l.sy, .slice l.wa l.wn l.wc, .slice l.ga l.gn l.gc, .int .i64 l.flx, .int .i64 l.fly, .int .i64 l.fhx, .int .i64 l.fhy, .int .i64 l.bans] 0 w3
  go_wp2
  refine bodyPost_ret (res_row rfl rfl ZF Try.underlying29 rfl (by kernel_rfl)) rfl ?_
  exact ⟨l, R, rfl, by omega, hl3.set hA (by omega), hs3, hU3.trans (hA.under (Nat.le_refl _) hU3.size)⟩
/-- a law's variable that holds a level -/
structure LJ (w0 : World) (P : Nat) (l : Lv) (w : World) : Prop where
  blk : Blk w P #[.int .i64 l.id, .int .i64 l.ticks, .int .i64 l.sx, .int .i64 l.sy, .slice l.wa l.wn l.wc, .slice l.ga l.gn l.gc, .int .i64 l.flx, .int .i64 l.fly, .int .i64 l.fhx, .int .i64 l.fhy, .int .i64 l.bans]
  lv : LvAt w l
  bel : Below w0.heap.size w0 w
  hP : w0.heap.size ≤ P
theorem LJ.mk0 {w0 w : World} {l : Lv} {t : TypeId} (h : LvAt w l) (hb : Below w0.heap.size w0 w) : LJ w0 w.heap.size l (w.alloc (.cells #[.int .i64 l.id, .int .i64 l.ticks, .int .i64 l.sx, .int .i64 l.sy, .slice l.wa l.wn l.wc, .slice l.ga l.gn l.gc, .int .i64 l.flx, .int .i64 l.fly, .int .i64 l.fhx, .int .i64 l.fhy, .int .i64 l.bans] t)) := ⟨Blk.at rfl, h.keep ((Below.refl _ _).alloc (Nat.le_refl _) _), hb.alloc hb.size _, hb.size⟩
theorem LJ.pass {w0 w w' : World} {P : Nat} {l : Lv} (h : LJ w0 P l w) (hb : Below w.heap.size w w') : LJ w0 P l w' := ⟨h.blk.below hb h.blk.lt, h.lv.keep hb, h.bel.trans (hb.mono h.bel.size), h.hP⟩
theorem LJ.alloc {w0 w : World} {P : Nat} {l : Lv} (h : LJ w0 P l w) (o : Obj) : LJ w0 P l (w.alloc o) := h.pass ((Below.refl _ _).alloc (Nat.le_refl _) o)
theorem start_okIn {l : Lv} (h : l.ok = true) : (⟨0, l.sx, l.sy, 0, 0, 0, 0, false, false⟩ : St).okIn l = true := by
  obtain ⟨o1, o2, o3, o4, o5, o6, o7, o8, o9, o10⟩ := Lv.ok_id h
  have t := inB_true o2
  have e1 : len 0 0 = 0 := by
    have := len_mono (x := 0) (y := 0) (a := 0) (b := 0) (Int.le_refl _) (Int.le_refl _)
    have h0 := len_nn 0 0
    have h1 : len 0 0 ≤ 0 := by
      unfold len
      exact rt_le (by omega) (by omega) (by omega)
    omega
  have e2 : (⟨0, l.sx, l.sy, 0, 0, 0, 0, false, false⟩ : St).own = true := by
    simp only [St.own, o3, e1, inB_yes (n := 0) (lo := 0) (hi := 60) (by omega) (by omega), inB_yes (n := 0) (lo := 0) (hi := 15) (by omega) (by omega), inB_yes (n := 0) (lo := 0) (hi := 3) (by omega) (by omega), show vokB 0 0 = true by simp [vokB, inB]]
    rfl
  simp only [St.okIn, h, e2, o10, Bool.true_and, Bool.and_eq_true, Bool.or_eq_true, decide_eq_true_eq]
  refine ⟨⟨⟨by omega, by omega⟩, trivial⟩, Or.inl rfl⟩
end Go.Proofs.Ytnhjalijnociaaa
