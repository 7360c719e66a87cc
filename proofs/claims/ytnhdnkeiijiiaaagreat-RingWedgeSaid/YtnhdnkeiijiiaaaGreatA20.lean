import Derived.Test.YtnhdnkeiijiiaaaGreatA19
import Derived.WalkKit
import Derived.ProofKit
import Derived.OpenShut
import Derived.ChangeOld
import Derived.Below
import Derived.Deep.Slices
import Derived.Deep.Fields
import Derived.ChangeSame
import Derived.Lib.SmallJoins
/- Arguments that are lists of points and of polygons, opened to their cells. -/
namespace Go.Proofs.YtnhdnkeiijiiaaaGreat
open Go.ChangeShapes Go.WideShapes Go.ChangeAt Go.RowKit Go.Joins Go.Deep
set_option maxRecDepth 100000
set_option linter.unusedSimpArgs false
set_option linter.unusedVariables false
theorem cellsOf23 : Tryz.prog.cellsOf 23 = 2 := by kernel_rfl
theorem cellsOf3 : Tryz.prog.cellsOf 3 = 1 := by kernel_rfl
theorem cellsOf39 : Tryz.prog.cellsOf 39 = 1 := by kernel_rfl
theorem trod_pt {H : Type} {enc : TypeId × Value → H} {w : World} {base : Nat} {spare : Nat → Bool} {held : Bool} {fuel : Nat} {cs : List Value} {x : DataW H × List MemPlace}
    (h : DataW.trod enc Tryz.prog w base spare held fuel 23 cs = some x) : ∃ r : Pt, cs = r.cs ∧ I64 r.x ∧ I64 r.y := by
  obtain ⟨xs, n, _, _, hlen, hxl, hf⟩ := DataW.trod_struct Tryz.underlying23 h
  rw [cellsOf23] at hlen
  match cs, hlen with
  | [v0, v1], _ =>
    have sz : xs.length = 2 := hxl
    have g0 : DataW.trod enc Tryz.prog w base spare held n 3 (([v0, v1].drop 0).take (Tryz.prog.cellsOf 3)) = xs[0]? := hf 0 _ rfl
    have g1 : DataW.trod enc Tryz.prog w base spare held n 3 (([v0, v1].drop 1).take (Tryz.prog.cellsOf 3)) = xs[1]? := hf 1 _ rfl
    rw [show xs[0]? = some (xs[0]'(by omega)) from List.getElem?_eq_getElem (by omega)] at g0
    rw [show xs[1]? = some (xs[1]'(by omega)) from List.getElem?_eq_getElem (by omega)] at g1
    rw [cellsOf3] at g0 g1
    obtain ⟨a0, e0, _, w0⟩ := DataW.trod_int Tryz.underlying3 g0
    obtain ⟨a1, e1, _, w1⟩ := DataW.trod_int Tryz.underlying3 g1
    simp only [List.drop_zero, List.drop_succ_cons, List.take_succ_cons, List.take_zero, List.cons.injEq, and_true] at e0 e1
    subst e0 e1
    exact ⟨⟨a0, a1⟩, rfl, ⟨(bounds_i64 w0).1, (bounds_i64 w0).2⟩, ⟨(bounds_i64 w1).1, (bounds_i64 w1).2⟩⟩
theorem trod_pts {H : Type} {enc : TypeId × Value → H} {w : World} {base : Nat} {spare : Nat → Bool} {held : Bool} {fuel : Nat} {cs : List Value} {x : DataW H × List MemPlace}
    (hf : DataW.trod enc Tryz.prog w base spare held fuel 39 cs = some x) : ∃ (A : Option Addr) (n c : Nat) (xs : List Pt), cs = [.slice A n c] ∧ xs.length = n ∧ n ≤ maxLen ∧ n ≤ c ∧ Pts? w.heap.size w A xs ∧ Ok64 xs := by
  rcases open_slice Tryz.underlying39 hf with ⟨hcs, _⟩ | ⟨a, len, cap, m, k, D, Pl, hcs, _, hl, hm, hmm, _, hi⟩
  · exact ⟨none, 0, 0, [], hcs, rfl, Nat.zero_le _, Nat.le_refl _, fun h => absurd h (by simp), fun p hp => by simp at hp⟩
  · rw [cellsOf23] at hi
    have hle : len ≤ m := by rw [hmm]; split <;> omega
    have each : ∀ i, ∃ r : Pt, i < len → (∀ j, j < 2 → w.cell? ((a.add (i * 2)).add j) = r.cs[j]?) ∧ I64 r.x ∧ I64 r.y := by
      intro i
      by_cases hin : i < len
      · obtain ⟨cs', hc, ht⟩ := hi i (by omega)
        obtain ⟨r, rfl, hI⟩ := trod_pt ht
        obtain ⟨_, _, hat⟩ := World.cells?_some hc
        exact ⟨r, fun _ => ⟨hat, hI⟩⟩
      · exact ⟨default, fun h => absurd h hin⟩
    obtain ⟨f, hfs⟩ := Classical.axiomOfChoice each
    refine ⟨_, len, cap, (List.range len).map f, hcs, by simp, by omega, hl, fun hn => ?_, fun p hp => ?_⟩
    · have hn' : 0 < len := by simpa using hn
      obtain ⟨b, off, spot⟩ := a
      have hspot : spot = none := by
        have g0 := (hfs 0 hn').1 0 (by omega)
        simpa [Addr.add] using World.cell?_spot (g0.trans (by rfl))
      subst hspot
      have ad : ∀ i j, ((⟨b, off, none⟩ : Addr).add (i * 2)).add j = ⟨b, off + i * 2 + j, none⟩ := by
        intro i j; simp only [add_plain]
      refine ⟨b, off, rfl, ?_, fun i r hr => ?_⟩
      · have g0 := (hfs 0 hn').1 0 (by omega)
        rw [ad] at g0
        exact World.block_lt_of_cell? _ _ (g0.trans (by rfl))
      · have hin : i < len := by
          have := (List.getElem?_eq_some_iff.1 hr).1
          simpa using this
        have hr' : f i = r := by
          simpa [List.getElem?_map, List.getElem?_range hin] using hr
        subst hr'
        have g := (hfs i hin).1
        refine ⟨?_, ?_⟩
        · have := g 0 (by omega); rw [ad] at this; exact this
        · have := g 1 (by omega); rw [ad] at this; exact this
    · obtain ⟨i, hi', rfl⟩ := List.mem_map.1 hp
      exact (hfs i (List.mem_range.1 hi')).2
theorem open_pts {H : Type} {enc : TypeId × Value → H} {w : World} {held : Bool} {base b0 : Nat} {r : Reach} {v : Value} {d : DataW H} {ps : List MemPlace} {spare : Nat → Bool}
    (hval : Value.okWide Tryz.prog w r b0 39 v) (h : DataW.Trod enc Tryz.prog w base spare held 39 v d ps) :
    ∃ (A : Option Addr) (n c : Nat) (xs : List Pt), v = .slice A n c ∧ xs.length = n ∧ n ≤ maxLen ∧ n ≤ c ∧ Pts? w.heap.size w A xs ∧ Ok64 xs := by
  obtain ⟨A, n, c, rfl⟩ := okWide_slice Tryz.underlying39 hval
  obtain ⟨fuel, hf⟩ := h
  obtain ⟨A', n', c', xs, hcs, h1⟩ := trod_pts hf
  simp [Value.cells] at hcs
  obtain ⟨rfl, rfl, rfl⟩ := hcs
  exact ⟨_, _, _, xs, rfl, h1⟩
theorem open_regs {H : Type} {enc : TypeId × Value → H} {w : World} {held : Bool} {base b0 : Nat} {r : Reach} {v : Value} {d : DataW H} {ps : List MemPlace} {spare : Nat → Bool}
    (hval : Value.okWide Tryz.prog w r b0 27 v) (h : DataW.Trod enc Tryz.prog w base spare held 27 v d ps) :
    ∃ (A : Option Addr) (n c : Nat) (rs : List (List Pt)), v = .slice A n c ∧ rs.length = n ∧ n ≤ maxLen ∧ n ≤ c ∧ Reg? w.heap.size w A rs ∧ Oks64 rs ∧ ∀ r ∈ rs, r.length ≤ maxLen := by
  obtain ⟨A, n, c, rfl⟩ := okWide_slice Tryz.underlying27 hval
  obtain ⟨fuel, hf⟩ := h
  rcases open_slice Tryz.underlying27 hf with ⟨hcs, _⟩ | ⟨a, len, cap, m, k, D, Pl, hcs, _, hl, hm, hmm, _, hi⟩
  · simp [Value.cells] at hcs
    obtain ⟨rfl, rfl, rfl⟩ := hcs
    exact ⟨none, 0, 0, [], rfl, rfl, Nat.zero_le _, Nat.le_refl _, fun h => absurd h (by simp), fun p hp => by simp at hp, fun p hp => by simp at hp⟩
  · simp [Value.cells] at hcs
    obtain ⟨rfl, rfl, rfl⟩ := hcs
    rw [cellsOf39] at hi
    have hle : n ≤ m := by rw [hmm]; split <;> omega
    have each : ∀ i, ∃ r : List Pt, i < n → (∃ Ai ci, w.cell? ((a.add (i * 1)).add 0) = some (.slice Ai r.length ci) ∧ Pts? w.heap.size w Ai r) ∧ Ok64 r ∧ r.length ≤ maxLen := by
      intro i
      by_cases hin : i < n
      · obtain ⟨cs', hc, ht⟩ := hi i (by omega)
        obtain ⟨Ai, ni, ci, xs, rfl, hxl, hxm, -, hpt, hok⟩ := trod_pts ht
        obtain ⟨_, _, hat⟩ := World.cells?_some hc
        exact ⟨xs, fun _ => ⟨⟨Ai, ci, by rw [hxl]; exact hat 0 (by omega), hpt⟩, hok, by omega⟩⟩
      · exact ⟨default, fun h => absurd h hin⟩
    obtain ⟨f, hfs⟩ := Classical.axiomOfChoice each
    refine ⟨_, n, c, (List.range n).map f, rfl, by simp, by omega, hl, fun hn => ?_, fun p hp => ?_, fun p hp => ?_⟩
    · have hn' : 0 < n := by simpa using hn
      obtain ⟨b, off, spot⟩ := a
      have hspot : spot = none := by
        obtain ⟨⟨A0, c0, g0, -⟩, -⟩ := hfs 0 hn'
        simpa [Addr.add] using World.cell?_spot g0
      subst hspot
      have ad : ∀ i j, ((⟨b, off, none⟩ : Addr).add (i * 1)).add j = ⟨b, off + i * 1 + j, none⟩ := by
        intro i j; simp only [add_plain]
      refine ⟨b, off, rfl, ?_, fun i r hr => ?_⟩
      · obtain ⟨⟨A0, c0, g0, -⟩, -⟩ := hfs 0 hn'
        rw [ad] at g0
        exact World.block_lt_of_cell? _ _ g0
      · have hin : i < n := by
          have := (List.getElem?_eq_some_iff.1 hr).1
          simpa using this
        have hr' : f i = r := by
          simpa [List.getElem?_map, List.getElem?_range hin] using hr
        subst hr'
        obtain ⟨⟨Ai, ci, g, hp⟩, -⟩ := hfs i hin
        rw [ad] at g
        exact ⟨Ai, ci, by simpa using g, hp⟩
    · obtain ⟨i, hi', rfl⟩ := List.mem_map.1 hp
      exact (hfs i (List.mem_range.1 hi')).2.1
    · obtain ⟨i, hi', rfl⟩ := List.mem_map.1 hp
      exact (hfs i (List.mem_range.1 hi')).2.2
end Go.Proofs.YtnhdnkeiijiiaaaGreat
