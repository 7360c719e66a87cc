import Derived.Test.YthkjejikhlcmfaaTO
import Derived.Test.YthkjejikhlcmfaaRows
/- An argument that is a slice of rows, opened to its cells, with what its reading is of bulk. -/
namespace Go.Proofs.Ythkjejikhlcmfaa
open Go.ChangeShapes Go.WideShapes Go.ChangeAt Go.RowKit Go.Joins Go.Deep
set_option linter.unusedSimpArgs false
set_option linter.unusedVariables false

theorem bulk_one {H : Type} (d : DataW H) : 1 ≤ Rows.uptoBulk d := by
  cases d with
  | lit l => cases l <;> simp [Rows.uptoBulk]
  | _ => simp [Rows.uptoBulk]
theorem bulk_len {H : Type} (l : List (DataW H)) : l.length ≤ Rows.uptoBulkAll l := by
  induction l with
  | nil => simp [Rows.uptoBulkAll]
  | cons x r ih => have := bulk_one x; simp only [Rows.uptoBulkAll, List.length_cons]; omega
theorem open_rows2 {H : Type} {enc : TypeId × Value → H} {w : World} {held : Bool} {base b0 : Nat} {r : Reach} {v : Value} {d : DataW H} {ps : List MemPlace} {spare : Nat → Bool}
    (hval : Value.okWide Try.prog w r b0 22 v) (h : DataW.Trod enc Try.prog w base spare held 22 v d ps) :
    ∃ (A : Option Addr) (n c : Nat) (xs : List Rw), v = .slice A n c ∧ xs.length = n ∧ n ≤ maxLen ∧ n ≤ c ∧ Rows? w A xs ∧ (A = none → n = 0 ∧ c = 0) ∧ n ≤ Rows.uptoBulk d := by
  obtain ⟨A, n, c, rfl⟩ := okWide_slice Try.underlying22 hval
  obtain ⟨fuel, hf⟩ := h
  rcases open_slice Try.underlying22 hf with ⟨hcs, _⟩ | ⟨a, len, cap, m, k, D, Pl, hcs, _, hl, hm, hmm, hx, hi⟩
  · simp [Value.cells] at hcs
    obtain ⟨rfl, rfl, rfl⟩ := hcs
    exact ⟨none, 0, 0, [], rfl, rfl, Nat.zero_le _, Nat.le_refl _, fun h => absurd h (by simp), fun _ => ⟨rfl, rfl⟩, Nat.zero_le _⟩
  · simp [Value.cells] at hcs
    obtain ⟨rfl, rfl, rfl⟩ := hcs
    rw [cellsOf32] at hi
    have hle : n ≤ m := by rw [hmm]; split <;> omega
    have each : ∀ i, ∃ r : Rw, i < n → ∀ j, j < 6 → w.cell? ((a.add (i * 6)).add j) = r.cs[j]? := by
      intro i
      by_cases hin : i < n
      · obtain ⟨cs', hc, ht⟩ := hi i (by omega)
        obtain ⟨r, rfl⟩ := trod_row ht
        obtain ⟨_, _, hat⟩ := World.cells?_some hc
        exact ⟨r, fun _ => hat⟩
      · exact ⟨default, fun h => absurd h hin⟩
    obtain ⟨f, hfs⟩ := Classical.axiomOfChoice each
    have hbulk : n ≤ Rows.uptoBulk d := by
      have e : d = _ := congrArg Prod.fst hx
      rw [e]
      have := bulk_len ((List.range n).map D)
      simp only [List.length_map, List.length_range] at this
      simp only [Rows.uptoBulk]
      omega
    refine ⟨_, n, c, (List.range n).map f, rfl, by simp, by omega, hl, fun hn => ?_, fun h => by simp at h, hbulk⟩
    have hn' : 0 < n := by simpa using hn
    obtain ⟨b, off, spot⟩ := a
    have hspot : spot = none := by
      have g0 := hfs 0 hn' 0 (by omega)
      simpa [Addr.add] using World.cell?_spot (g0.trans (by rfl))
    subst hspot
    refine ⟨b, off, rfl, fun i r hr => ?_⟩
    have hin : i < n := by
      have := (List.getElem?_eq_some_iff.1 hr).1
      simpa using this
    have hr' : f i = r := by
      simpa [List.getElem?_map, List.getElem?_range hin] using hr
    subst hr'
    have g := hfs i hin
    have ad : ∀ j, ((⟨b, off, none⟩ : Addr).add (i * 6)).add j = ⟨b, off + i * 6 + j, none⟩ := by
      intro j; simp only [add_plain]
    refine ⟨?_, ?_, ?_, ?_, ?_, ?_⟩
    · have := g 0 (by omega); rw [ad] at this; exact this
    · have := g 1 (by omega); rw [ad] at this; exact this
    · have := g 2 (by omega); rw [ad] at this; exact this
    · have := g 3 (by omega); rw [ad] at this; exact this
    · have := g 4 (by omega); rw [ad] at this; exact this
    · have := g 5 (by omega); rw [ad] at this; exact this
end Go.Proofs.Ythkjejikhlcmfaa
