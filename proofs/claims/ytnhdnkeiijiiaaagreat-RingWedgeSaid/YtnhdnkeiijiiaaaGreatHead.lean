/- The three closed facts of the form that read the translation's head, each proved by its first three words alone. -/
import Derived.Test.YtnhdnkeiijiiaaaGreatRows
import Derived.JoinedOf
namespace Go.Proofs.YtnhdnkeiijiiaaaGreat
set_option linter.unusedSimpArgs false
set_option linter.unusedVariables false
namespace Head
def signs (l : List Nat) : List Char := l.map Char.ofNat
def restCodes : List Nat := [97, 116, 32, 108, 97, 110, 100, 102, 97, 108, 108, 47, 108, 97, 110, 100, 102, 97, 108, 108, 108, 97, 119, 49, 48, 46, 82, 105, 110, 103, 72, 97, 115, 32, 108, 97, 110, 100, 102, 97, 108, 108, 47, 108, 97, 110, 100, 102, 97, 108, 108, 108, 97, 119, 49, 48, 46, 82, 105, 110, 103, 84, 105, 103, 104, 116, 32, 108, 97, 110, 100, 102, 97, 108, 108, 47, 108, 97, 110, 100, 102, 97, 108, 108, 108, 97, 119, 49, 48, 46, 82, 105, 110, 103, 87, 101, 100, 103, 101, 32, 108, 97, 110, 100, 102, 97, 108, 108, 47, 108, 97, 110, 100, 102, 97, 108, 108, 108, 97, 119, 49, 48, 46, 82, 105, 110, 103, 78, 101, 97, 114]
def w1 : List Char := signs [104, 97, 114, 110, 101, 115, 115]
def w2 : List Char := signs [57, 50, 56, 51, 53, 48, 54, 56, 51, 102, 101, 51, 55, 57, 52, 97, 98, 98, 97, 49, 49, 100, 56, 48, 53, 56, 54, 100, 100, 98, 53, 52, 100, 98, 52, 57, 54, 52, 51, 57, 51, 102, 52, 54, 56, 48, 52, 102, 49, 100, 97, 55, 49, 57, 97, 55, 53, 53, 100, 55, 49, 52, 54, 101]
def w3 : List Char := signs [99, 117, 116]
theorem words_app (w r : List Char) (h : (w.all fun c => c.toNat != 32) = true) : wordsSigns (w ++ Char.ofNat 32 :: r) = w :: wordsSigns r := by
  induction w with
  | nil => rfl
  | cons c w ih =>
    simp only [List.all_cons, Bool.and_eq_true] at h
    have h1 : c ≠ Char.ofNat 32 := by rintro rfl; exact absurd h.1 (by decide)
    have ih' := ih h.2
    simp only [List.cons_append]
    rw [wordsSigns]
    · rw [ih']
    · exact h1
theorem headIs : Tryz.prog.initOrder = String.ofList (w1 ++ Char.ofNat 32 :: (w2 ++ Char.ofNat 32 :: (w3 ++ Char.ofNat 32 :: signs restCodes))) := by kernel_rfl
theorem headWords : wordsSigns Tryz.prog.initOrder.toList = w1 :: w2 :: w3 :: wordsSigns (signs restCodes) := by
  rw [headIs, String.toList_ofList, words_app _ _ (by kernel_rfl), words_app _ _ (by kernel_rfl), words_app _ _ (by kernel_rfl)]
theorem behind : ∀ R, behindMainWord (w1 :: w2 :: w3 :: R) = w3 :: R := by intro R; kernel_rfl
theorem strips : ∀ R, stripLifts liftWords (w3 :: R) = ([], w3 :: R) := by intro R; kernel_rfl
theorem isGc : (w3 == "gc".toList) = false := by kernel_rfl
theorem isSpec : (w3 == "spec".toList) = false := by kernel_rfl
theorem isCarried : (w3 == "carried".toList) = false := by kernel_rfl
theorem isCarried2 : (some w3 == some "carried".toList) = false := by kernel_rfl
theorem isCut : (w3 == "cut".toList) = true := by kernel_rfl
theorem isCut2 : (some w3 == some "cut".toList) = true := by kernel_rfl
theorem laysLater : Tryz.prog.laysLater = false := by kernel_rfl
theorem bearsReflect : Tryz.prog.bearsReflect = false := by kernel_rfl
theorem doorFits : Tryz.prog.doorFits [] = true := by kernel_rfl
theorem lifts_of (P : Program) (c : List Char) (R : List (List Char)) (h : behindMainWord (wordsSigns P.initOrder.toList) = c :: R) (hs : stripLifts liftWords (c :: R) = ([], c :: R)) (h3 : (some c == some "cut".toList) = true) : P.headLifts = [] := by
  unfold Program.headLifts
  rw [h, hs]
  simp only [List.head?_cons, h3, if_true]
theorem mayEnter_of (P : Program) (c : List Char) (R : List (List Char)) (h : behindMainWord (wordsSigns P.initOrder.toList) = c :: R) (hs : stripLifts liftWords (c :: R) = ([], c :: R))
    (h1 : (c == "gc".toList) = false) (h2 : (c == "spec".toList) = false) (h3 : (c == "carried".toList) = false) (h4 : (some c == some "cut".toList) = true) (h5 : P.laysLater = false) (h6 : P.bearsReflect = false) (h7 : P.doorFits [] = true) : P.mayEnter = true := by
  unfold Program.mayEnter
  rw [h]
  simp only [hs, h1, h2, h3, List.head?_cons, h4, h5, h6, h7, Bool.or_false, Bool.false_and, Bool.true_and, Bool.false_or, Bool.not_false, Bool.or_true, List.contains_nil, Bool.and_true]
theorem liftsFinal_of (P : Program) (c : List Char) (R : List (List Char)) (h : behindMainWord (wordsSigns P.initOrder.toList) = c :: R) (hl : P.headLifts = []) (h3 : (some c == some "carried".toList) = false) : P.liftsFinal = false := by
  unfold Program.liftsFinal
  rw [h, hl]
  simp only [List.head?_cons, h3, Bool.false_and, Bool.false_or, List.contains_nil]
theorem make_of (P : Program) (c : List Char) (R : List (List Char)) (h : behindMainWord (wordsSigns P.initOrder.toList) = c :: R)
    (h1 : (c == "gc".toList) = false) (h2 : (c == "spec".toList) = false) (h4 : (c == "cut".toList) = true) : P.make = some .cut := by
  unfold Program.make
  rw [h]
  simp only [h1, h2, h4, Bool.or_false, Bool.true_or, if_true, Bool.false_eq_true, if_false]
theorem head_eq : behindMainWord (wordsSigns Tryz.prog.initOrder.toList) = w3 :: wordsSigns (signs restCodes) := (congrArg behindMainWord headWords).trans (behind _)
theorem lifts : Tryz.prog.headLifts = [] := lifts_of _ _ _ head_eq (strips _) isCut2
theorem mayEnter : Tryz.prog.mayEnter = true := mayEnter_of _ _ _ head_eq (strips _) isGc isSpec isCarried isCut2 laysLater bearsReflect doorFits
theorem liftsFinal : Tryz.prog.liftsFinal = false := liftsFinal_of _ _ _ head_eq lifts isCarried2
theorem make : Tryz.prog.make = some .cut := make_of _ _ _ head_eq isGc isSpec isCut
end Head
end Go.Proofs.YtnhdnkeiijiiaaaGreat
