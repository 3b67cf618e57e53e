/- The closed facts of the program that every row asks, each once. The head of the dump is long: it is taken apart by a law, not by a run of the kernel over its text. -/
import Derived.Test.YtnhjalijnociaaaRows
import Derived.JoinedOf
import Derived.KernelRfl
/- The closed facts of the program that every row asks, each once. The head of the dump is long: it is taken apart by a law, not by a run of the kernel over its text. -/
namespace Go.Proofs.Ytnhjalijnociaaa
theorem and_mk {a b : Bool} (ha : a = true) (hb : b = true) : (a && b) = true := by rw [ha, hb]; rfl
def hdA : List Char := List.map Char.ofNat [104, 97, 114, 110, 101, 115, 115]
def hdB : List Char := List.map Char.ofNat [53, 100, 101, 102, 49, 52, 99, 102, 57, 55, 100, 97, 54, 97, 56, 49, 97, 56, 53, 49, 100, 56, 55, 57, 55, 48, 57, 56, 48, 99, 102, 56, 57, 50, 100, 101, 100, 52, 102, 52, 56, 97, 102, 55, 99, 97, 51, 97, 100, 102, 102, 99, 48, 97, 54, 52, 99, 52, 49, 50, 56, 49, 97, 50]
def hdC : List Char := List.map Char.ofNat [97, 116, 32, 108, 111, 111, 112, 46, 101, 120, 97, 109, 112, 108, 101, 47, 114, 101, 112, 108, 97, 121, 118, 101, 114, 105, 102, 105, 101, 114, 47, 108, 97, 119, 115, 46, 70, 110, 83, 116, 101, 112, 84, 105, 99, 107, 32, 108, 111, 111, 112, 46, 101, 120, 97, 109, 112, 108, 101, 47, 114, 101, 112, 108, 97, 121, 118, 101, 114, 105, 102, 105, 101, 114, 47, 108, 97, 119, 115, 46, 70, 110, 83, 116, 101, 112, 84, 117, 114, 110, 32, 108, 111, 111, 112, 46, 101, 120, 97, 109, 112, 108, 101, 47, 114, 101, 112, 108, 97, 121, 118, 101, 114, 105, 102, 105, 101, 114, 47, 108, 97, 119, 115, 46, 70, 110, 83, 116, 101, 112, 68, 111, 110, 101, 32, 108, 111, 111, 112, 46, 101, 120, 97, 109, 112, 108, 101, 47, 114, 101, 112, 108, 97, 121, 118, 101, 114, 105, 102, 105, 101, 114, 47, 108, 97, 119, 115, 46, 70, 110, 69, 120, 97, 99, 116, 69, 110, 103, 105, 110, 101, 83, 116, 101, 112, 32, 108, 111, 111, 112, 46, 101, 120, 97, 109, 112, 108, 101, 47, 114, 101, 112, 108, 97, 121, 118, 101, 114, 105, 102, 105, 101, 114, 47, 108, 97, 119, 115, 46, 70, 110, 83, 116, 101, 112, 32, 108, 111, 111, 112, 46, 101, 120, 97, 109, 112, 108, 101, 47, 114, 101, 112, 108, 97, 121, 118, 101, 114, 105, 102, 105, 101, 114, 47, 108, 97, 119, 115, 46, 70, 110, 83, 116, 101, 112, 69, 110, 100, 32, 108, 111, 111, 112, 46, 101, 120, 97, 109, 112, 108, 101, 47, 114, 101, 112, 108, 97, 121, 118, 101, 114, 105, 102, 105, 101, 114, 47, 108, 97, 119, 115, 46, 70, 110, 83, 116, 101, 112, 77, 111, 118, 101, 32, 108, 111, 111, 112, 46, 101, 120, 97, 109, 112, 108, 101, 47, 114, 101, 112, 108, 97, 121, 118, 101, 114, 105, 102, 105, 101, 114, 47, 108, 97, 119, 115, 46, 70, 110, 83, 116, 101, 112, 79, 118, 101, 114, 32, 108, 111, 111, 112, 46, 101, 120, 97, 109, 112, 108, 101, 47, 114, 101, 112, 108, 97, 121, 118, 101, 114, 105, 102, 105, 101, 114, 47, 108, 97, 119, 115, 46, 70, 110, 83, 116, 101, 112, 80, 97, 117, 115, 101, 32, 108, 111, 111, 112, 46, 101, 120, 97, 109, 112, 108, 101, 47, 114, 101, 112, 108, 97, 121, 118, 101, 114, 105, 102, 105, 101, 114, 47, 108, 97, 119, 115, 46, 70, 110, 83, 116, 101, 112, 80, 117, 115, 104, 32, 108, 111, 111, 112, 46, 101, 120, 97, 109, 112, 108, 101, 47, 114, 101, 112, 108, 97, 121, 118, 101, 114, 105, 102, 105, 101, 114, 47, 108, 97, 119, 115, 46, 70, 110, 83, 116, 101, 112, 82, 111, 108, 108, 32, 108, 111, 111, 112, 46, 101, 120, 97, 109, 112, 108, 101, 47, 114, 101, 112, 108, 97, 121, 118, 101, 114, 105, 102, 105, 101, 114, 47, 108, 97, 119, 115, 46, 70, 110, 83, 116, 101, 112, 70, 117, 108, 108, 32, 108, 111, 111, 112, 46, 101, 120, 97, 109, 112, 108, 101, 47, 114, 101, 112, 108, 97, 121, 118, 101, 114, 105, 102, 105, 101, 114, 47, 108, 97, 119, 115, 46, 70, 110, 83, 112, 101, 101, 100, 32, 108, 111, 111, 112, 46, 101, 120, 97, 109, 112, 108, 101, 47, 114, 101, 112, 108, 97, 121, 118, 101, 114, 105, 102, 105, 101, 114, 47, 108, 97, 119, 115, 46, 70, 110, 69, 110, 103, 105, 110, 101, 72, 97, 115, 104, 32, 108, 111, 111, 112, 46, 101, 120, 97, 109, 112, 108, 101, 47, 114, 101, 112, 108, 97, 121, 118, 101, 114, 105, 102, 105, 101, 114, 47, 108, 97, 119, 115, 46, 70, 110, 69, 110, 103, 105, 110, 101, 72, 97, 115, 104, 65, 116, 32, 108, 111, 111, 112, 46, 101, 120, 97, 109, 112, 108, 101, 47, 114, 101, 112, 108, 97, 121, 118, 101, 114, 105, 102, 105, 101, 114, 47, 108, 97, 119, 115, 46, 70, 110, 76, 101, 103, 97, 108, 76, 111, 110, 103, 32, 108, 111, 111, 112, 46, 101, 120, 97, 109, 112, 108, 101, 47, 114, 101, 112, 108, 97, 121, 118, 101, 114, 105, 102, 105, 101, 114, 47, 108, 97, 119, 115, 46, 70, 110, 76, 101, 103, 97, 108, 78, 111, 110, 101, 32, 108, 111, 111, 112, 46, 101, 120, 97, 109, 112, 108, 101, 47, 114, 101, 112, 108, 97, 121, 118, 101, 114, 105, 102, 105, 101, 114, 47, 108, 97, 119, 115, 46, 70, 110, 76, 101, 103, 97, 108, 80, 114, 101, 102, 105, 120, 32, 108, 111, 111, 112, 46, 101, 120, 97, 109, 112, 108, 101, 47, 114, 101, 112, 108, 97, 121, 118, 101, 114, 105, 102, 105, 101, 114, 47, 108, 97, 119, 115, 46, 70, 110, 76, 101, 103, 97, 108, 83, 116, 101, 101, 114, 32, 108, 111, 111, 112, 46, 101, 120, 97, 109, 112, 108, 101, 47, 114, 101, 112, 108, 97, 121, 118, 101, 114, 105, 102, 105, 101, 114, 47, 108, 97, 119, 115, 46, 70, 110, 76, 101, 103, 97, 108, 80, 97, 105, 114, 115, 32, 108, 111, 111, 112, 46, 101, 120, 97, 109, 112, 108, 101, 47, 114, 101, 112, 108, 97, 121, 118, 101, 114, 105, 102, 105, 101, 114, 47, 108, 97, 119, 115, 46, 70, 110, 76, 101, 103, 97, 108, 80, 97, 117, 115, 101, 115]
def hdCut : List Char := List.map Char.ofNat [99, 117, 116]
def hdSp : Char := Char.ofNat 32
theorem fInit : Try.prog.initOrder = String.ofList (hdA ++ hdSp :: (hdB ++ hdSp :: (hdCut ++ hdSp :: hdC))) := by kernel_rfl
theorem words_of (w r : List Char) (h : w.all (fun c => !(c == hdSp)) = true) : wordsSigns (w ++ hdSp :: r) = w :: wordsSigns r := by
  induction w with
  | nil => rfl
  | cons c w ih =>
    simp only [List.all_cons, Bool.and_eq_true] at h
    have hc : c ≠ hdSp := by simpa using h.1
    have ih' := ih h.2
    show wordsSigns (c :: (w ++ hdSp :: r)) = _
    rw [wordsSigns.eq_3 _ _ (fun e => hc e), ih']
theorem fWords : ∃ rest, behindMainWord (wordsSigns Try.prog.initOrder.toList) = "cut".toList :: rest := by
  refine ⟨wordsSigns hdC, ?_⟩
  rw [fInit, String.toList_ofList, words_of _ _ (by kernel_rfl), words_of _ _ (by kernel_rfl), words_of _ _ (by kernel_rfl)]
  show (if (hdA == "harness".toList || hdA == "ownmain".toList) && isSumSigns hdB then hdCut :: wordsSigns hdC else hdA :: hdB :: hdCut :: wordsSigns hdC) = _
  rw [if_pos (by kernel_rfl)]
  exact congrArg (· :: wordsSigns hdC) (by kernel_rfl)
theorem fLater : Try.prog.laysLater = false := by kernel_rfl
theorem fRefl : Try.prog.bearsReflect = false := by kernel_rfl
theorem fDoor : Try.prog.doorFits [] = true := by kernel_rfl
theorem strip_cut (rest : List (List Char)) : stripLifts liftWords ("cut".toList :: rest) = ([], "cut".toList :: rest) := by
  have h : ∀ o ∈ liftWords, ("cut".toList == o.toList) = false := by decide +kernel
  generalize liftWords = l at h
  induction l with
  | nil => rfl
  | cons o os ih =>
    rw [stripLifts, if_neg (by rw [h o (List.mem_cons_self ..)]; exact Bool.false_ne_true)]
    exact ih fun o' ho => h o' (List.mem_cons_of_mem _ ho)
theorem enter_of {P : Program} (h : ∃ rest, behindMainWord (wordsSigns P.initOrder.toList) = "cut".toList :: rest) (h1 : P.laysLater = false) (h2 : P.bearsReflect = false) (h3 : P.doorFits [] = true) : P.mayEnter = true := by
  obtain ⟨rest, hr⟩ := h
  unfold Program.mayEnter
  rw [hr]
  simp only [strip_cut, h1, h2, h3]
  simp
theorem lifts_of {P : Program} (h : ∃ rest, behindMainWord (wordsSigns P.initOrder.toList) = "cut".toList :: rest) : (false == P.liftsFinal) = true := by
  obtain ⟨rest, hr⟩ := h
  unfold Program.liftsFinal Program.headLifts
  rw [hr]
  simp only [strip_cut]
  simp
theorem make_of {P : Program} (h : ∃ rest, behindMainWord (wordsSigns P.initOrder.toList) = "cut".toList :: rest) : (P.make == some .cut) = true := by
  obtain ⟨rest, hr⟩ := h
  unfold Program.make
  rw [hr]
  simp
theorem fEnter : Try.prog.mayEnter = true := enter_of fWords fLater fRefl fDoor
theorem fLifts : (false == Try.prog.liftsFinal) = true := lifts_of fWords
theorem fMake : (Try.prog.make == some .cut) = true := make_of fWords
theorem fLaid : laidOutB Try.prog = true := by kernel_rfl
theorem fMaps : mapsRowed Try.prog = true := by kernel_rfl
theorem fStops : (Try.prog.stops == []) = true := by kernel_rfl
theorem fKnobs : (Try.prog.stopKnobs == []) = true := by kernel_rfl
theorem fKeys : (true == Try.prog.plainKeys) = true := by kernel_rfl
theorem fHeard : Try.prog.stopsHeard = true := by kernel_rfl
end Go.Proofs.Ytnhjalijnociaaa
