/- Contracts: the hasher and what it makes, HashInts, TagOf, TagCheck, of the program and of the reference. -/
import Derived.Test.YtnhjalijnociaaaQac
import Derived.Test.YtnhjalijnociaaaQaj
/- Contracts: the hasher and what it makes, HashInts, TagOf, TagCheck, of the program and of the reference. -/
namespace Go.Proofs.Ytnhjalijnociaaa
open Go.RowKit

theorem IntsAt.up {w w' : World} {H : Nat} {a : Option Addr} {n : Nat} {f : Nat → Int} (h : IntsAt w a n f) (hb : Up H w.heap.size w w') (hne : ∀ b, a = some b → b.block ≠ H) : IntsAt w' a n f := by
  rcases h with h | ⟨b, off, ha, hlt, hc⟩
  · exact .inl h
  · exact .inr ⟨b, off, ha, Nat.lt_of_lt_of_le hlt hb.size, fun i hi => (hb.cell (p := ⟨b, off + i, none⟩) hlt (hne ⟨b, off, none⟩ ha)).trans (hc i hi)⟩

set_option maxHeartbeats 1000000 in
theorem iNext (H : Nat) (h : Int) (a : Option Addr) (n cap : Nat) (f : Nat → Int) (w : World) (hc0 : w.cell? ⟨H, 0, none⟩ = some (.int .i64 h)) (hf0 : w.frozen? ⟨H, 0, none⟩ = false) (h0 : 0 ≤ h) (h1 : h < 1000003) (hn : n ≤ 1099511627776) (hl : IntsAt w a n f) (hne : ∀ b, a = some b → b.block ≠ H) :
    Calls Try.prog 132 #[.slice a n cap, .pointer (some ⟨H, 0, none⟩)] w fun e w' => e = .returned (.int .i64 (hfo f h n)) ∧ w'.cell? ⟨H, 0, none⟩ = some (.int .i64 (hfo f h n)) ∧ w'.frozen? ⟨H, 0, none⟩ = false ∧ Up H w.heap.size w w' := by
  rcases hl with rfl | ⟨b, off, rfl, hb, hc⟩
  · go_enter Try.func132, Try.ntmps132
    go_wp2
    go_loop [5, 8] (fun _ i => i = .int .i64 0) (fun _ _ => 0)
    case atStart => exact rfl
    case round =>
      obtain rfl := hrel
      go_wp2
      go_ret
      exact ⟨rfl, hc0, hf0, Up.refl _ _ _⟩
  · have hc' := Lib.hid hc
    have hbH : b ≠ H := hne _ rfl
    have hHb : H ≠ b := fun e => hbH e.symm
    clear hc hne
    go_enter Try.func132, Try.ntmps132
    go_wp2
    go_loopw [5, 8] (fun _ i wr => ∃ k : Nat, k ≤ n ∧ i = .int .i64 k ∧ wr.cell? ⟨H, 0, none⟩ = some (.int .i64 (hfo f h k)) ∧ wr.frozen? ⟨H, 0, none⟩ = false ∧ Up H w.heap.size w wr) (fun _ i _ => n - (intOf i).toNat)
    case atStart => exact ⟨0, Nat.zero_le _, rfl, hc0, hf0, Up.refl _ _ _⟩
    case round =>
      obtain ⟨k, hk, rfl, hcr, hfr, hup⟩ := hrel
      have b0 := hfo_lo f h0 k
      have b1 := hfo_hi f h1 k
      have t1 := tmod_lo (f k)
      have t2 := tmod_hi (f k)
      by_cases hlt : k < n
      · have hcell := (hup.cell (p := ⟨b, off + k, none⟩) hb hbH).trans (hc'.out k hlt)
        go_wp2
        go_roundw
        case rel => exact ⟨k + 1, by omega, by go_num, by rw [hfo, ← hst_eq2]; exact World.cell?_setCell_same' _ _ _ (by rw [hcr]; rfl), by rw [World.frozen?_setCell]; exact hfr, hup.setCell (p := ⟨H, 0, none⟩) (.inl rfl) _⟩
        case measure => simp [intOf]; omega
      · obtain rfl : k = n := by omega
        go_wp2
        go_ret
        exact ⟨rfl, hcr, hfr, hup⟩

set_option maxHeartbeats 400000 in
theorem iHasher (w : World) : Calls Try.prog 119 #[] w fun e w' => e = .returned (.func (.func 132) #[] #[.pointer (some ⟨w.heap.size, 0, none⟩)]) ∧ w' = w.alloc (.cells #[.int .i64 17] 3) := by
  have hmf : ∀ (fn : Fn) (first cap : Array Value) (w : World), (Instr.makeFunc fn first cap).run Try.prog w = .ok (.func fn first cap) w := fun _ _ _ _ => rfl
  go_enter Try.func119, Try.ntmps119
  go_wp2
  go_ret
  exact ⟨rfl, rfl⟩


theorem IntsAt.one (W : World) (key : Int) (t : TypeId) : IntsAt (W.alloc (.cells #[.int .i64 key] t)) (some ⟨W.heap.size, 0, none⟩) 1 (fun _ => key) :=
  .inr ⟨_, 0, rfl, by simp, fun i hi => by
    obtain rfl : i = 0 := by omega
    exact World.cell?_alloc_new _ _ _ _⟩

/-- the hash of a list -/
def hashF (f : Nat → Int) (n : Nat) : Int := if okf f n && decide (n ≤ 200) then hfo f 17 n else -1
/-- .. and its tag -/
def tagF (key : Int) (f : Nat → Int) (n : Nat) : Int := if inB key 1 9999 && (okf f n && decide (n ≤ 200)) then hst (hfo f (hst 17 key) n) key else -1
theorem hashF_yes {f : Nat → Int} {n : Nat} (h : (okf f n && decide (n ≤ 200)) = true) : hashF f n = hfo f 17 n := by simp only [hashF, h, if_true]
theorem hashF_no {f : Nat → Int} {n : Nat} (h : (okf f n && decide (n ≤ 200)) = false) : hashF f n = -1 := by simp only [hashF, h]; rfl
theorem tagF_yes {key : Int} {f : Nat → Int} {n : Nat} (hk : inB key 1 9999 = true) (h : (okf f n && decide (n ≤ 200)) = true) : tagF key f n = hst (hfo f (hst 17 key) n) key := by simp only [tagF, h, hk, Bool.true_and, if_true]
theorem tagF_no {key : Int} {f : Nat → Int} {n : Nat} (h : inB key 1 9999 = false ∨ (okf f n && decide (n ≤ 200)) = false) : tagF key f n = -1 := by
  rcases h with h | h
  · simp only [tagF, h, Bool.false_and]; rfl
  · simp only [tagF, h, Bool.and_false]; rfl






end Go.Proofs.Ytnhjalijnociaaa

/- Plain laws: the hash of a level; its numbers as a list. -/
set_option linter.unusedVariables false
namespace Go.Proofs.Ytnhjalijnociaaa
open Go.RowKit

theorem hfo_shift (f : Nat → Int) (h : Int) : ∀ n, hfo f h (n + 1) = hfo (fun i => f (i + 1)) (hst h (f 0)) n
  | 0 => rfl
  | n + 1 => by rw [hfo, hfo_shift f h n]; rfl
theorem hfo_list : ∀ (zs : List Int) (h : Int), hfo (fun i => zs.getD i 0) h zs.length = zs.foldl hst h
  | [], _ => rfl
  | z :: zs, h => by
    rw [List.length_cons, hfo_shift, List.foldl_cons, ← hfo_list zs]
    rfl
theorem fold_lo : ∀ (zs : List Int) {h : Int}, 0 ≤ h → 0 ≤ zs.foldl hst h
  | [], _, h0 => h0
  | _ :: zs, _, _ => fold_lo zs (hst_lo _ _)
theorem fold_hi : ∀ (zs : List Int) {h : Int}, h < 1000003 → zs.foldl hst h < 1000003
  | [], _, h0 => h0
  | _ :: zs, _, _ => fold_hi zs (hst_hi _ _)
theorem fold_inj : ∀ (zs : List Int) {a b : Int}, 0 ≤ a → a < 1000003 → 0 ≤ b → b < 1000003 → zs.foldl hst a = zs.foldl hst b → a = b
  | [], _, _, _, _, _, _, e => e
  | _ :: zs, _, _, a0, a1, b0, b1, e => hst_inj a0 a1 b0 b1 (fold_inj zs (hst_lo _ _) (hst_hi _ _) (hst_lo _ _) (hst_hi _ _) e)
/-- a number changed changes the hash -/
theorem fold_chg (xs zs : List Int) {h a b : Int} (h0 : 0 ≤ h) (h1 : h < 1000003) (hab : a % 1000003 ≠ b % 1000003) : (xs ++ a :: zs).foldl hst h ≠ (xs ++ b :: zs).foldl hst h := by
  rw [List.foldl_append, List.foldl_append, List.foldl_cons, List.foldl_cons]
  intro e
  exact hab (hst_inj2 (fold_inj zs (hst_lo _ _) (hst_hi _ _) (hst_lo _ _) (hst_hi _ _) e))

/-- a box's numbers; the numbers of the first n boxes -/
def Bx.nums (b : Bx) : List Int := [b.lx, b.ly, b.hx, b.hy]
def bnums (f : Nat → Bx) : Nat → List Int
  | 0 => []
  | n + 1 => bnums f n ++ (f n).nums
theorem bnums_len (f : Nat → Bx) : ∀ n, (bnums f n).length = n * 4
  | 0 => rfl
  | n + 1 => by rw [bnums, List.length_append, bnums_len f n]; simp [Bx.nums]; omega
theorem bnums_congr {f g : Nat → Bx} : ∀ n, (∀ i, i < n → f i = g i) → bnums f n = bnums g n
  | 0, _ => rfl
  | n + 1, h => by rw [bnums, bnums, bnums_congr n (fun i hi => h i (by omega)), h n (by omega)]
theorem bnums_add (f : Nat → Bx) (n : Nat) : ∀ m, bnums f (n + m) = bnums f n ++ bnums (fun i => f (n + i)) m
  | 0 => by simp [bnums]
  | m + 1 => by rw [← Nat.add_assoc, bnums, bnums_add f n m, bnums, List.append_assoc]
theorem allB_nums (wf gf : Nat → Bx) (wn gn : Nat) (fin : Bx) : bnums (allB wf gf wn gn fin) (wn + gn + 1) = (bnums wf wn ++ bnums gf gn) ++ fin.nums := by
  rw [bnums, bnums_add]
  congr 1
  · congr 1
    · exact bnums_congr _ fun i hi => by simp [allB, hi]
    · refine bnums_congr _ fun i hi => ?_
      have h1 : ¬ (wn + i < wn) := by omega
      have h2 : wn + i < wn + gn := by omega
      have h3 : wn + i - wn = i := by omega
      simp [allB, h1, h2, h3]
  · have h1 : ¬ (wn + gn < wn) := by omega
    have h2 : ¬ (wn + gn < wn + gn) := by omega
    simp only [allB, if_neg h1, if_neg h2]
/-- the numbers ahead of the boxes; all numbers of a level; its hash -/
def Lv.head (l : Lv) : List Int := [l.id, l.ticks, l.sx, l.sy, (l.wn : Int), (l.gn : Int), l.bans]
def Lv.nums (l : Lv) : List Int := l.head ++ (bnums l.wf l.wn ++ bnums l.gf l.gn) ++ (⟨l.flx, l.fly, l.fhx, l.fhy⟩ : Bx).nums
def Lv.hash (l : Lv) : Int := l.nums.foldl hst 17
def Lv.hashV (l : Lv) : Int := if l.ok then l.hash else -1
theorem Lv.hash_all (l : Lv) : (bnums (allB l.wf l.gf l.wn l.gn ⟨l.flx, l.fly, l.fhx, l.fhy⟩) (l.wn + l.gn + 1)).foldl hst (l.head.foldl hst 17) = l.hash := by
  rw [allB_nums, Lv.hash, Lv.nums]
  simp only [List.foldl_append]
theorem Lv.hash_lo (l : Lv) : 0 ≤ l.hash := fold_lo _ (by omega)
theorem Lv.hash_hi (l : Lv) : l.hash < 1000003 := fold_hi _ (by omega)
theorem Lv.hashV_t {l : Lv} (h : l.ok = true) : l.hashV = l.hash := by rw [Lv.hashV, h]; rfl
theorem Lv.hashV_f {l : Lv} (h : l.ok = false) : l.hashV = -1 := by rw [Lv.hashV, h]; rfl
theorem Lv.hashV_ok {l : Lv} (h : 0 ≤ l.hashV) : l.ok = true := by
  cases e : l.ok with
  | true => rfl
  | false => rw [Lv.hashV_f e] at h; omega
theorem Lv.hashV_bd (l : Lv) : -1 ≤ l.hashV ∧ l.hashV < 1000003 := by
  have := l.hash_lo
  have := l.hash_hi
  cases e : l.ok with
  | true => rw [Lv.hashV_t e]; omega
  | false => rw [Lv.hashV_f e]; omega
/-- levels that differ in a number have different hashes -/
theorem Lv.hashV_ne {l k : Lv} (hl : l.ok = true) (h : l.hash ≠ k.hash) : k.hashV ≠ l.hashV := by
  rw [Lv.hashV_t hl]
  cases e : k.ok with
  | true => rw [Lv.hashV_t e]; exact fun e => h e.symm
  | false => rw [Lv.hashV_f e]; have := l.hash_lo; omega
theorem Lv.hash_id (l : Lv) {n : Int} (h : n % 1000003 ≠ l.id % 1000003) : ({ l with id := n } : Lv).hash ≠ l.hash :=
  fold_chg [] _ (by omega) (by omega) h
theorem Lv.hash_ticks (l : Lv) {n : Int} (h : n % 1000003 ≠ l.ticks % 1000003) : ({ l with ticks := n } : Lv).hash ≠ l.hash :=
  fold_chg [l.id] _ (by omega) (by omega) h
theorem Lv.hash_fhx (l : Lv) {n : Int} (h : n % 1000003 ≠ l.fhx % 1000003) : ({ l with fhx := n } : Lv).hash ≠ l.hash := by
  have e : ∀ m, ({ l with fhx := m } : Lv).hash = ((l.head ++ (bnums l.wf l.wn ++ bnums l.gf l.gn) ++ [l.flx, l.fly]) ++ m :: [l.fhy]).foldl hst 17 := by
    intro m
    rw [Lv.hash, Lv.nums, List.append_assoc _ [l.flx, l.fly]]
    rfl
  have e2 := e l.fhx
  rw [e n, show l.hash = ({ l with fhx := l.fhx } : Lv).hash from rfl, e2]
  exact fold_chg _ _ (by omega) (by omega) h
theorem hst4 (h a b c d : Int) : [a, b, c, d].foldl hst h = hst (hst (hst (hst h a) b) c) d := rfl
theorem Lv.hash_def (l : Lv) : l.hash = l.nums.foldl hst 17 := rfl
attribute [irreducible] Lv.hash
end Go.Proofs.Ytnhjalijnociaaa
