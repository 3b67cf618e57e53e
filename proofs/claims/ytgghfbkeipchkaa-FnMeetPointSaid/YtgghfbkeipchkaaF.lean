/- The closed facts of the program that every row asks, each once. The head of the dump is long: it is taken apart by a law, not by a run of the kernel over its text. -/
import Derived.Test.YtgghfbkeipchkaaRows
import Derived.JoinedOf
import Derived.KernelRfl
namespace Go.Proofs.Ytgghfbkeipchkaa
theorem and_mk {a b : Bool} (ha : a = true) (hb : b = true) : (a && b) = true := by rw [ha, hb]; rfl
def hdA : List Char := List.map Char.ofNat [104, 97, 114, 110, 101, 115, 115]
def hdB : List Char := List.map Char.ofNat [101, 98, 48, 101, 53, 100, 56, 55, 51, 102, 56, 55, 100, 54, 98, 48, 52, 57, 57, 52, 99, 55, 53, 55, 99, 100, 48, 102, 51, 54, 50, 55, 51, 51, 55, 100, 57, 56, 55, 98, 56, 102, 49, 51, 51, 55, 50, 100, 98, 54, 49, 50, 50, 98, 54, 48, 101, 98, 50, 98, 97, 49, 54, 56]
def hdC : List Char := List.map Char.ofNat [97, 116, 32, 108, 111, 111, 112, 46, 101, 120, 97, 109, 112, 108, 101, 47, 114, 101, 112, 108, 97, 121, 118, 101, 114, 105, 102, 105, 101, 114, 47, 108, 97, 119, 115, 46, 70, 110, 77, 101, 101, 116, 80, 111, 105, 110, 116, 32, 108, 111, 111, 112, 46, 101, 120, 97, 109, 112, 108, 101, 47, 114, 101, 112, 108, 97, 121, 118, 101, 114, 105, 102, 105, 101, 114, 47, 108, 97, 119, 115, 46, 70, 110, 76, 101, 118, 101, 108, 83, 116, 97, 114, 116, 32, 108, 111, 111, 112, 46, 101, 120, 97, 109, 112, 108, 101, 47, 114, 101, 112, 108, 97, 121, 118, 101, 114, 105, 102, 105, 101, 114, 47, 108, 97, 119, 115, 46, 70, 110, 66, 97, 110, 115, 32, 108, 111, 111, 112, 46, 101, 120, 97, 109, 112, 108, 101, 47, 114, 101, 112, 108, 97, 121, 118, 101, 114, 105, 102, 105, 101, 114, 47, 108, 97, 119, 115, 46, 70, 110, 66, 97, 110, 115, 78, 111, 110, 101, 32, 108, 111, 111, 112, 46, 101, 120, 97, 109, 112, 108, 101, 47, 114, 101, 112, 108, 97, 121, 118, 101, 114, 105, 102, 105, 101, 114, 47, 108, 97, 119, 115, 46, 70, 110, 76, 101, 118, 101, 108, 76, 101, 115, 115, 32, 108, 111, 111, 112, 46, 101, 120, 97, 109, 112, 108, 101, 47, 114, 101, 112, 108, 97, 121, 118, 101, 114, 105, 102, 105, 101, 114, 47, 108, 97, 119, 115, 46, 70, 110, 76, 101, 118, 101, 108, 70, 114, 101, 101, 32, 108, 111, 111, 112, 46, 101, 120, 97, 109, 112, 108, 101, 47, 114, 101, 112, 108, 97, 121, 118, 101, 114, 105, 102, 105, 101, 114, 47, 108, 97, 119, 115, 46, 70, 110, 76, 101, 118, 101, 108, 71, 97, 116, 101, 115, 32, 108, 111, 111, 112, 46, 101, 120, 97, 109, 112, 108, 101, 47, 114, 101, 112, 108, 97, 121, 118, 101, 114, 105, 102, 105, 101, 114, 47, 108, 97, 119, 115, 46, 70, 110, 76, 101, 118, 101, 108, 72, 97, 115, 104, 32, 108, 111, 111, 112, 46, 101, 120, 97, 109, 112, 108, 101, 47, 114, 101, 112, 108, 97, 121, 118, 101, 114, 105, 102, 105, 101, 114, 47, 108, 97, 119, 115, 46, 70, 110, 76, 101, 118, 101, 108, 72, 97, 115, 104, 87, 97, 108, 108, 115, 32, 108, 111, 111, 112, 46, 101, 120, 97, 109, 112, 108, 101, 47, 114, 101, 112, 108, 97, 121, 118, 101, 114, 105, 102, 105, 101, 114, 47, 108, 97, 119, 115, 46, 70, 110, 70, 111, 108, 108, 111, 119, 115, 83, 101, 108, 102, 32, 108, 111, 111, 112, 46, 101, 120, 97, 109, 112, 108, 101, 47, 114, 101, 112, 108, 97, 121, 118, 101, 114, 105, 102, 105, 101, 114, 47, 108, 97, 119, 115, 46, 70, 110, 70, 111, 108, 108, 111, 119, 115, 83, 116, 101, 101, 114, 32, 108, 111, 111, 112, 46, 101, 120, 97, 109, 112, 108, 101, 47, 114, 101, 112, 108, 97, 121, 118, 101, 114, 105, 102, 105, 101, 114, 47, 108, 97, 119, 115, 46, 70, 110, 70, 111, 108, 108, 111, 119, 115, 66, 97, 110, 115, 32, 108, 111, 111, 112, 46, 101, 120, 97, 109, 112, 108, 101, 47, 114, 101, 112, 108, 97, 121, 118, 101, 114, 105, 102, 105, 101, 114, 47, 108, 97, 119, 115, 46, 70, 110, 69, 120, 97, 99, 116, 73, 110, 112, 117, 116, 70, 111, 108, 108, 111, 119, 115, 32, 108, 111, 111, 112, 46, 101, 120, 97, 109, 112, 108, 101, 47, 114, 101, 112, 108, 97, 121, 118, 101, 114, 105, 102, 105, 101, 114, 47, 108, 97, 119, 115, 46, 70, 110, 69, 120, 97, 99, 116, 73, 110, 112, 117, 116, 115, 76, 101, 103, 97, 108]
def hdCut : List Char := List.map Char.ofNat [99, 117, 116]
def hdSp : Char := Char.ofNat 32
theorem fInit : Try.prog.initOrder = String.ofList (hdA ++ hdSp :: (hdB ++ hdSp :: (hdCut ++ hdSp :: hdC))) := by kernel_rfl
theorem words_of (w r : List Char) (h : w.all (fun c => !(c == hdSp)) = true) : wordsSigns (w ++ hdSp :: r) = w :: wordsSigns r := by
  induction w with
  | nil => rfl
  | cons c w ih =>
    simp only [List.all_cons, Bool.and_eq_true] at h
    have hc : c ≠ hdSp := by simpa using h.1
    have ih' := ih h.2
    show wordsSigns (c :: (w ++ hdSp :: r)) = _
    rw [wordsSigns.eq_3 _ _ (fun e => hc e), ih']
theorem fWords : ∃ rest, behindMainWord (wordsSigns Try.prog.initOrder.toList) = "cut".toList :: rest := by
  refine ⟨wordsSigns hdC, ?_⟩
  rw [fInit, String.toList_ofList, words_of _ _ (by kernel_rfl), words_of _ _ (by kernel_rfl), words_of _ _ (by kernel_rfl)]
  show (if (hdA == "harness".toList || hdA == "ownmain".toList) && isSumSigns hdB then hdCut :: wordsSigns hdC else hdA :: hdB :: hdCut :: wordsSigns hdC) = _
  rw [if_pos (by kernel_rfl)]
  exact congrArg (· :: wordsSigns hdC) (by kernel_rfl)
theorem fLater : Try.prog.laysLater = false := by kernel_rfl
theorem fRefl : Try.prog.bearsReflect = false := by kernel_rfl
theorem fDoor : Try.prog.doorFits [] = true := by kernel_rfl
theorem strip_cut (rest : List (List Char)) : stripLifts liftWords ("cut".toList :: rest) = ([], "cut".toList :: rest) := by
  have h : ∀ o ∈ liftWords, ("cut".toList == o.toList) = false := by decide +kernel
  generalize liftWords = l at h
  induction l with
  | nil => rfl
  | cons o os ih =>
    rw [stripLifts, if_neg (by rw [h o (List.mem_cons_self ..)]; exact Bool.false_ne_true)]
    exact ih fun o' ho => h o' (List.mem_cons_of_mem _ ho)
theorem enter_of {P : Program} (h : ∃ rest, behindMainWord (wordsSigns P.initOrder.toList) = "cut".toList :: rest) (h1 : P.laysLater = false) (h2 : P.bearsReflect = false) (h3 : P.doorFits [] = true) : P.mayEnter = true := by
  obtain ⟨rest, hr⟩ := h
  unfold Program.mayEnter
  rw [hr]
  simp only [strip_cut, h1, h2, h3]
  simp
theorem lifts_of {P : Program} (h : ∃ rest, behindMainWord (wordsSigns P.initOrder.toList) = "cut".toList :: rest) : (false == P.liftsFinal) = true := by
  obtain ⟨rest, hr⟩ := h
  unfold Program.liftsFinal Program.headLifts
  rw [hr]
  simp only [strip_cut]
  simp
theorem make_of {P : Program} (h : ∃ rest, behindMainWord (wordsSigns P.initOrder.toList) = "cut".toList :: rest) : (P.make == some .cut) = true := by
  obtain ⟨rest, hr⟩ := h
  unfold Program.make
  rw [hr]
  simp
theorem fEnter : Try.prog.mayEnter = true := enter_of fWords fLater fRefl fDoor
theorem fLifts : (false == Try.prog.liftsFinal) = true := lifts_of fWords
theorem fMake : (Try.prog.make == some .cut) = true := make_of fWords
theorem fLaid : laidOutB Try.prog = true := by kernel_rfl
theorem fMaps : mapsRowed Try.prog = true := by kernel_rfl
theorem fStops : (Try.prog.stops == []) = true := by kernel_rfl
theorem fKnobs : (Try.prog.stopKnobs == []) = true := by kernel_rfl
theorem fKeys : (true == Try.prog.plainKeys) = true := by kernel_rfl
theorem fHeard : Try.prog.stopsHeard = true := by kernel_rfl
end Go.Proofs.Ytgghfbkeipchkaa
