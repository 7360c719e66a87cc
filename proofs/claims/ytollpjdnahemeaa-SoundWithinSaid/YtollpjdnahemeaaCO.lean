import Derived.Test.YtollpjdnahemeaaS1
import Derived.Test.YtollpjdnahemeaaChecked
import Derived.WalkKit
import Derived.ProofKit
import Derived.OpenShut
import Derived.ChangeOld
import Derived.Below
import Derived.Deep.Slices
import Derived.Deep.Fields
import Derived.ChangeSame
import Derived.Lib.SmallJoins
/- An argument that is a clock, opened to its cells. -/
namespace Go.Proofs.Ytollpjdnahemeaa
open Go.ChangeShapes Go.WideShapes Go.ChangeAt Go.RowKit Go.Joins Go.Deep
set_option linter.unusedSimpArgs false
set_option linter.unusedVariables false

theorem cellsOf45 : Try.prog.cellsOf 45 = 4 := by kernel_rfl
theorem cellsOf23 : Try.prog.cellsOf 23 = 2 := by kernel_rfl
theorem cellsOf3 : Try.prog.cellsOf 3 = 1 := by kernel_rfl

theorem open_clock {H : Type} {enc : TypeId × Value → H} {w : World} {held : Bool} {base b0 : Nat} {r : Reach} {v : Value} {d : DataW H} {ps : List MemPlace} {spare : Nat → Bool}
    (hval : Value.okWide Try.prog w r b0 45 v) (h : DataW.Trod enc Try.prog w base spare held 45 v d ps) :
    ∃ a0 a1 a2 a3 : Int, v = .agg #[.int .i64 a0, .int .i64 a1, .int .i64 a2, .int .i64 a3] := by
  obtain ⟨cs, rfl, hsz⟩ := okWide_struct Try.underlying45 hval
  obtain ⟨l⟩ := cs
  match l, hsz.trans cellsOf45 with
  | [v0, v1, v2, v3], _ =>
    obtain ⟨fuel, hf⟩ := h
    obtain ⟨xs, n, _, _, _, hxl, hg⟩ := DataW.trod_struct Try.underlying45 hf
    have sz : xs.length = 3 := hxl
    have g0 : DataW.trod enc Try.prog w base spare held n 3 (([v0, v1, v2, v3].drop 0).take (Try.prog.cellsOf 3)) = xs[0]? := hg 0 _ rfl
    have g1 : DataW.trod enc Try.prog w base spare held n 23 (([v0, v1, v2, v3].drop 1).take (Try.prog.cellsOf 23)) = xs[1]? := hg 1 _ rfl
    have g2 : DataW.trod enc Try.prog w base spare held n 3 (([v0, v1, v2, v3].drop 3).take (Try.prog.cellsOf 3)) = xs[2]? := hg 2 _ rfl
    rw [show xs[0]? = some (xs[0]'(by omega)) from List.getElem?_eq_getElem (by omega)] at g0
    rw [show xs[1]? = some (xs[1]'(by omega)) from List.getElem?_eq_getElem (by omega)] at g1
    rw [show xs[2]? = some (xs[2]'(by omega)) from List.getElem?_eq_getElem (by omega)] at g2
    rw [cellsOf3] at g0 g2
    rw [cellsOf23] at g1
    obtain ⟨ys, n', _, _, _, hyl, hf'⟩ := DataW.trod_struct Try.underlying23 g1
    have sy : ys.length = 2 := hyl
    have k0 : DataW.trod enc Try.prog w base spare held n' 3 ((((([v0, v1, v2, v3] : List Value).drop 1).take 2).drop 0).take (Try.prog.cellsOf 3)) = ys[0]? := hf' 0 _ rfl
    have k1 : DataW.trod enc Try.prog w base spare held n' 3 ((((([v0, v1, v2, v3] : List Value).drop 1).take 2).drop 1).take (Try.prog.cellsOf 3)) = ys[1]? := hf' 1 _ rfl
    rw [show ys[0]? = some (ys[0]'(by omega)) from List.getElem?_eq_getElem (by omega)] at k0
    rw [show ys[1]? = some (ys[1]'(by omega)) from List.getElem?_eq_getElem (by omega)] at k1
    rw [cellsOf3] at k0 k1
    obtain ⟨a0, e0, _, _⟩ := DataW.trod_int Try.underlying3 g0
    obtain ⟨a1, e1, _, _⟩ := DataW.trod_int Try.underlying3 k0
    obtain ⟨a2, e2, _, _⟩ := DataW.trod_int Try.underlying3 k1
    obtain ⟨a3, e3, _, _⟩ := DataW.trod_int Try.underlying3 g2
    simp only [List.drop_zero, List.drop_succ_cons, List.take_succ_cons, List.take_zero, List.cons.injEq, and_true] at e0 e1 e2 e3
    subst e0 e1 e2 e3
    exact ⟨a0, a1, a2, a3, rfl⟩
end Go.Proofs.Ytollpjdnahemeaa
