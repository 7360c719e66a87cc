import Derived.Test.YtollpjdnahemeaaCO
import Derived.Test.YtollpjdnahemeaaQ1
/- An argument that is a slice of layers, opened to its cells. -/
namespace Go.Proofs.Ytollpjdnahemeaa
open Go.ChangeShapes Go.WideShapes Go.ChangeAt Go.RowKit Go.Joins Go.Deep
set_option linter.unusedSimpArgs false
set_option linter.unusedVariables false

theorem cellsOf68 : Try.prog.cellsOf 68 = 3 := by kernel_rfl

theorem trod_wt {H : Type} {enc : TypeId × Value → H} {w : World} {base : Nat} {spare : Nat → Bool} {held : Bool} {fuel : Nat} {cs : List Value} {x : DataW H × List MemPlace}
    (h : DataW.trod enc Try.prog w base spare held fuel 68 cs = some x) : ∃ r : Wt, cs = r.cs := by
  obtain ⟨xs, n, _, _, hlen, hxl, hf⟩ := DataW.trod_struct Try.underlying68 h
  rw [cellsOf68] at hlen
  match cs, hlen with
  | [v0, v1, v2], _ =>
    have sz : xs.length = 2 := hxl
    have g0 : DataW.trod enc Try.prog w base spare held n 3 (([v0, v1, v2].drop 0).take (Try.prog.cellsOf 3)) = xs[0]? := hf 0 _ rfl
    have g1 : DataW.trod enc Try.prog w base spare held n 23 (([v0, v1, v2].drop 1).take (Try.prog.cellsOf 23)) = xs[1]? := hf 1 _ rfl
    rw [show xs[0]? = some (xs[0]'(by omega)) from List.getElem?_eq_getElem (by omega)] at g0
    rw [show xs[1]? = some (xs[1]'(by omega)) from List.getElem?_eq_getElem (by omega)] at g1
    rw [cellsOf3] at g0
    rw [cellsOf23] at g1
    obtain ⟨ys, n', _, _, _, hyl, hf'⟩ := DataW.trod_struct Try.underlying23 g1
    have sy : ys.length = 2 := hyl
    have k0 : DataW.trod enc Try.prog w base spare held n' 3 (([v1, v2].drop 0).take (Try.prog.cellsOf 3)) = ys[0]? := hf' 0 _ rfl
    have k1 : DataW.trod enc Try.prog w base spare held n' 3 (([v1, v2].drop 1).take (Try.prog.cellsOf 3)) = ys[1]? := hf' 1 _ rfl
    rw [show ys[0]? = some (ys[0]'(by omega)) from List.getElem?_eq_getElem (by omega)] at k0
    rw [show ys[1]? = some (ys[1]'(by omega)) from List.getElem?_eq_getElem (by omega)] at k1
    rw [cellsOf3] at k0 k1
    obtain ⟨a0, e0, _, _⟩ := DataW.trod_int Try.underlying3 g0
    obtain ⟨a1, e1, _, _⟩ := DataW.trod_int Try.underlying3 k0
    obtain ⟨a2, e2, _, _⟩ := DataW.trod_int Try.underlying3 k1
    simp only [List.drop_zero, List.drop_succ_cons, List.take_succ_cons, List.take_zero, List.cons.injEq, and_true] at e0 e1 e2
    subst e0 e1 e2
    exact ⟨⟨a0, a1, a2⟩, rfl⟩

theorem open_waters {H : Type} {enc : TypeId × Value → H} {w : World} {held : Bool} {base b0 : Nat} {r : Reach} {v : Value} {d : DataW H} {ps : List MemPlace} {spare : Nat → Bool}
    (hval : Value.okWide Try.prog w r b0 60 v) (h : DataW.Trod enc Try.prog w base spare held 60 v d ps) :
    ∃ (A : Option Addr) (n c : Nat) (xs : List Wt), v = .slice A n c ∧ xs.length = n ∧ n ≤ maxLen ∧ n ≤ c ∧ Wts? w.heap.size w A xs := by
  obtain ⟨A, n, c, rfl⟩ := okWide_slice Try.underlying60 hval
  obtain ⟨fuel, hf⟩ := h
  rcases open_slice Try.underlying60 hf with ⟨hcs, _⟩ | ⟨a, len, cap, m, k, D, Pl, hcs, _, hl, hm, hmm, _, hi⟩
  · simp [Value.cells] at hcs
    obtain ⟨rfl, rfl, rfl⟩ := hcs
    exact ⟨none, 0, 0, [], rfl, rfl, Nat.zero_le _, Nat.le_refl _, fun h => absurd h (by simp)⟩
  · simp [Value.cells] at hcs
    obtain ⟨rfl, rfl, rfl⟩ := hcs
    rw [cellsOf68] at hi
    have hle : n ≤ m := by rw [hmm]; split <;> omega
    have each : ∀ i, ∃ r : Wt, i < n → ∀ j, j < 3 → w.cell? ((a.add (i * 3)).add j) = r.cs[j]? := by
      intro i
      by_cases hin : i < n
      · obtain ⟨cs', hc, ht⟩ := hi i (by omega)
        obtain ⟨r, rfl⟩ := trod_wt ht
        obtain ⟨_, _, hat⟩ := World.cells?_some hc
        exact ⟨r, fun _ => hat⟩
      · exact ⟨default, fun h => absurd h hin⟩
    obtain ⟨f, hfs⟩ := Classical.axiomOfChoice each
    refine ⟨_, n, c, (List.range n).map f, rfl, by simp, by omega, hl, fun hn => ?_⟩
    have hn' : 0 < n := by simpa using hn
    obtain ⟨b, off, spot⟩ := a
    have hspot : spot = none := by
      have g0 := hfs 0 hn' 0 (by omega)
      simpa [Addr.add] using World.cell?_spot (g0.trans (by rfl))
    subst hspot
    have hbl : b < w.heap.size := by
      have g0 := hfs 0 hn' 0 (by omega)
      exact World.block_lt_of_cell? _ _ (g0.trans (by rfl))
    refine ⟨b, off, rfl, hbl, fun i r hr => ?_⟩
    have hin : i < n := by
      have := (List.getElem?_eq_some_iff.1 hr).1
      simpa using this
    have hr' : f i = r := by
      simpa [List.getElem?_map, List.getElem?_range hin] using hr
    subst hr'
    have g := hfs i hin
    have ad : ∀ j, ((⟨b, off, none⟩ : Addr).add (i * 3)).add j = ⟨b, off + i * 3 + j, none⟩ := by
      intro j; simp only [add_plain]
    refine ⟨?_, ?_, ?_⟩
    · have := g 0 (by omega); rw [ad] at this; exact this
    · have := g 1 (by omega); rw [ad] at this; exact this
    · have := g 2 (by omega); rw [ad] at this; exact this
end Go.Proofs.Ytollpjdnahemeaa
