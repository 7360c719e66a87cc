import Derived.Test.YthkjejikhlcmfaaT2
import Derived.BigQuiet
import Derived.Deep.QuietTactic
namespace Go.Proofs.Ythkjejikhlcmfaa
open Go.RowKit
set_option linter.unusedSimpArgs false
set_option linter.unusedVariables false

theorem idxI_ge (p : Rw → Bool) : ∀ (xs : List Rw) (k : Nat), decide (0 ≤ idxI p xs k) = xs.any p := by
  intro xs
  induction xs with
  | nil => intro k; simp [idxI]
  | cons r xs ih =>
    intro k
    simp only [idxI, List.any_cons]
    by_cases h : p r = true
    · simp [h]
    · simp only [Bool.not_eq_true] at h
      simpa [h] using ih (k + 1)
theorem idxI_find (p : Rw → Bool) : ∀ (xs : List Rw) (k : Nat), (idxI p xs k = -1 ∧ xs.find? p = none) ∨ ∃ j r, idxI p xs k = ((k + j : Nat) : Int) ∧ xs[j]? = some r ∧ xs.find? p = some r := by
  intro xs
  induction xs with
  | nil => intro k; exact .inl ⟨rfl, rfl⟩
  | cons r xs ih =>
    intro k
    by_cases h : p r = true
    · exact .inr ⟨0, r, by simp [idxI, h], by simp, by simp [h]⟩
    · simp only [Bool.not_eq_true] at h
      rcases ih (k + 1) with ⟨a, b⟩ | ⟨j, r', a, b, c⟩
      · exact .inl ⟨by simp [idxI, h, a], by simp [h, b]⟩
      · exact .inr ⟨j + 1, r', by simp only [idxI, h, Bool.false_eq_true, if_false, a]; congr 1; omega, by simpa using b, by simp [h, c]⟩
/-- rows are a table -/
def validB (xs : List Rw) : Bool := decide (xs.length ≤ 50) && xs.all Rw.ok
/-- what is found -/
def findS (xs : List Rw) (temp a s : Int) : Int × Int × Int :=
  if validB xs && useB temp a s then (match xs.find? (Rw.isFor temp a s) with | some r => (r.part, r.turn, 0) | none => (0, 0, 4)) else (0, 0, 1)
theorem useB_nonneg {temp a s : Int} (h : useB temp a s = true) : 0 ≤ a ∧ 0 ≤ s := by simp [useB, limB] at h; omega

set_option maxHeartbeats 800000 in
set_option maxRecDepth 100000 in
theorem contains_any (A : Option Addr) (n c : Nat) (xs : List Rw) (w : World) (hn : xs.length = n) (hbig : n ≤ 9223372036854775807) (hx : Rows? w A xs) :
    Calls Try.prog 22 #[.slice A n c, .func (.func 23) #[] #[]] w fun e w' => e = .returned (.bool (xs.any fun r => !r.ok)) ∧ Below w.heap.size w w' := by
  have H := idx23_any (fun r => !r.ok) A n c xs w hn hbig hx (fun W r _ => notRow_any r.lo r.hi r.age r.since r.part r.turn W)
  have hr := idxI_ge (fun r => !r.ok) xs 0
  generalize idxI (fun r => !r.ok) xs 0 = x at *
  have HH := Lib.hid H
  have HR := Lib.hid hr
  clear H hr hx hn
  go_enter Try.func22, Try.ntmps22
  go_wp2_with (go_at_call 18; refine HH.out.mono ?_; rintro e w' ⟨rfl, hb'⟩)
  go_ret
  exact ⟨ret_bool HR.out, hb'⟩

set_option maxHeartbeats 800000 in
set_option maxRecDepth 100000 in
theorem Valid_any (A : Option Addr) (n c : Nat) (xs : List Rw) (w : World) (hn : xs.length = n) (hbig : n ≤ 9223372036854775807) (hx : Rows? w A xs) :
    Calls Try.prog 13 #[.slice A n c] w fun e w' => e = .returned (.bool (validB xs)) ∧ Below w.heap.size w w' := by
  have H := contains_any A n c xs w hn hbig hx
  have hr : validB xs = (decide (n ≤ 50) && !(xs.any fun r => !r.ok)) := by
    rw [validB, hn]; congr 1
    rw [List.all_eq_not_any_not]
  generalize (xs.any fun r => !r.ok) = x at *
  by_cases h : n ≤ 50
  · simp only [h, decide_true, Bool.true_and] at hr
    have HH := Lib.hid H
    have HR := Lib.hid hr
    clear H hr hx hn
    have h2 : (n : Int) ≤ 50 := by omega
    go_enter Try.func13, Try.ntmps13
    go_wp2_with (go_at_call 22; refine HH.out.mono ?_; rintro e w' ⟨rfl, hb'⟩)
    all_goals
      go_ret
      exact ⟨ret_bool HR.out.symm, hb'⟩
  · simp only [h, decide_false, Bool.false_and] at hr
    have HR := Lib.hid hr
    clear H hr hx hn
    have h2 : ¬ (n : Int) ≤ 50 := by omega
    go_enter Try.func13, Try.ntmps13
    go_wp2_with fail
    all_goals
      go_ret
      exact ⟨ret_bool HR.out.symm, Below.refl _ _⟩

set_option maxHeartbeats 800000 in
set_option maxRecDepth 100000 in
theorem RValid_any (A : Option Addr) (n c : Nat) (xs : List Rw) (w : World) (hn : xs.length = n) (hbig : n ≤ 9223372036854775807) (hx : Rows? w A xs) :
    Calls Try.prog 14 #[.slice A n c] w fun e w' => e = .returned (.bool (validB xs)) ∧ Below w.heap.size w w' := by
  have hr : validB xs = (decide (n ≤ 50) && xs.all Rw.ok) := by rw [validB, hn]
  by_cases h : n ≤ 50
  · simp only [h, decide_true, Bool.true_and] at hr
    generalize hR : validB xs = R at *
    have HX := Lib.hid hx
    have HN := Lib.hid hn
    have HR := Lib.hid hr
    clear hx hn hr hR
    have h2 : ¬ (50 < (n : Int)) := by omega
    go_enter Try.func14, Try.ntmps14
    go_wp2_with fail
    go_loopg [3] (n + 1) (fun g s3 wr => ∃ k : Nat, k ≤ n ∧ g + k = n + 1 ∧ s3 = .int .i64 k ∧ Aside ((xs.drop k).all Rw.ok = R) ∧ Below w.heap.size w wr)
    case atStart => exact ⟨0, by omega, by omega, rfl, HR.out.symm, Below.refl _ _⟩
    case round =>
      obtain ⟨k, hk, hg, rfl, HB, hBr⟩ := hrel
      by_cases hlt : k < n
      · have hkx : k < xs.length := by rw [HN.out]; exact hlt
        obtain ⟨r, hr⟩ : ∃ r, xs[k]? = some r := ⟨_, List.getElem?_eq_getElem hkx⟩
        have hd : (r.ok && (xs.drop (k + 1)).all Rw.ok) = R := by
          rw [← HB.out, List.drop_eq_getElem_cons hkx, List.all_cons]
          rw [List.getElem?_eq_getElem hkx] at hr; cases hr; rfl
        obtain ⟨b, off, rfl, hc⟩ := HX.out (by omega)
        obtain ⟨c0, c1, c2, c3, c4, c5⟩ := (hc k r hr).below hBr
        have hcall : Calls Try.prog 25 #[r.val] wr fun e w' => e = .returned (.bool r.ok) ∧ Below wr.heap.size wr w' := Row_any r.lo r.hi r.age r.since r.part r.turn wr
        have hlt2 : (k : Int) < (n : Int) := by omega
        cases hq : r.ok with
        | true =>
          rw [hq] at hcall hd
          have HC := Lib.hid hcall
          have HD := Lib.hid hd
          clear hcall hq hd hc hr hkx
          go_wp2_with fail
          refine HC.out.mono ?_
          rintro e w1 ⟨rfl, hb1⟩
          have hB1 : Below w.heap.size w w1 := below_after hBr hb1
          clear hb1
          go_wp2_with fail
          go_roundg (gk - 1)
          case measure => omega
          case rel => exact ⟨k + 1, by omega, by omega, by go_num, HD.out, hB1⟩
        | false =>
          rw [hq] at hcall hd
          have HC := Lib.hid hcall
          have HD := Lib.hid hd
          clear hcall hq hd hc hr hkx
          go_wp2_with fail
          refine HC.out.mono ?_
          rintro e w1 ⟨rfl, hb1⟩
          have hB1 : Below w.heap.size w w1 := below_after hBr hb1
          clear hb1
          go_wp2_with fail
          go_ret
          exact ⟨ret_bool HD.out, by go_grown⟩
      · have hd : true = R := by
          rw [← HB.out, List.drop_eq_nil_of_le (by rw [HN.out]; omega)]; rfl
        have HD := Lib.hid hd
        have hnlt : ¬ ((k : Int) < (n : Int)) := by omega
        clear hd
        go_wp2_with fail
        go_ret
        exact ⟨ret_bool HD.out, by go_grown⟩
  · simp only [h, decide_false, Bool.false_and] at hr
    have HR := Lib.hid hr
    clear hr hx hn
    have h2 : 50 < (n : Int) := by omega
    go_enter Try.func14, Try.ntmps14
    go_wp2_with fail
    all_goals
      go_ret
      exact ⟨ret_bool HR.out.symm, Below.refl _ _⟩

set_option maxHeartbeats 800000 in
set_option maxRecDepth 100000 in
theorem First_any (temp a s : Int) (A : Option Addr) (n c : Nat) (xs : List Rw) (w : World) (hn : xs.length = n) (hbig : n ≤ 9223372036854775807) (hx : Rows? w A xs) :
    Calls Try.prog 21 #[.slice A n c, .int .i64 temp, .int .i64 a, .int .i64 s] w fun e w' => e = .returned (.int .i64 (idxI (Rw.isFor temp a s) xs 0)) ∧ Below w.heap.size w w' := by
  generalize hR : idxI (Rw.isFor temp a s) xs 0 = R
  have HX := Lib.hid hx
  have HN := Lib.hid hn
  have HR := Lib.hid hR
  clear hx hn hR
  go_enter Try.func21, Try.ntmps21
  go_wp2_with fail
  go_loopg [9] (n + 1) (fun g s9 wr => ∃ k : Nat, k ≤ n ∧ g + k = n + 1 ∧ s9 = .int .i64 k ∧ Aside (idxI (Rw.isFor temp a s) (xs.drop k) k = R) ∧ Below w.heap.size w wr)
  case atStart => exact ⟨0, by omega, by omega, rfl, HR.out, Below.refl _ _⟩
  case round =>
    obtain ⟨k, hk, hg, rfl, HB, hBr⟩ := hrel
    by_cases hlt : k < n
    · obtain ⟨r, hr⟩ : ∃ r, xs[k]? = some r := ⟨_, List.getElem?_eq_getElem (by rw [HN.out]; exact hlt)⟩
      have hd := (idxI_drop (Rw.isFor temp a s) xs k r hr).symm.trans HB.out
      obtain ⟨b, off, rfl, hc⟩ := HX.out (by rw [HN.out]; omega)
      obtain ⟨c0, c1, c2, c3, c4, c5⟩ := (hc k r hr).below hBr
      have hcall : Calls Try.prog 28 #[r.val, .int .i64 temp, .int .i64 a, .int .i64 s] wr fun e w' => e = .returned (.bool (r.isFor temp a s)) ∧ Below wr.heap.size wr w' := For_any r.lo r.hi r.age r.since r.part r.turn temp a s wr
      have hlt2 : (k : Int) < (n : Int) := by omega
      cases hq : r.isFor temp a s with
      | true =>
        rw [hq] at hcall hd
        have HC := Lib.hid hcall
        have HD := Lib.hid hd
        clear hcall hq hd hc hr
        go_wp2_with fail
        refine HC.out.mono ?_
        rintro e w1 ⟨rfl, hb1⟩
        have hB1 : Below w.heap.size w w1 := below_after hBr hb1
        clear hb1
        go_wp2_with fail
        go_ret
        exact ⟨ret_int (by have := HD.out; simpa using this), by go_grown⟩
      | false =>
        rw [hq] at hcall hd
        have HC := Lib.hid hcall
        have HD := Lib.hid hd
        clear hcall hq hd hc hr
        go_wp2_with fail
        refine HC.out.mono ?_
        rintro e w1 ⟨rfl, hb1⟩
        have hB1 : Below w.heap.size w w1 := below_after hBr hb1
        clear hb1
        go_wp2_with fail
        go_roundg (gk - 1)
        case measure => omega
        case rel => exact ⟨k + 1, by omega, by omega, by go_num, (by have h9 := HD.out; simp only [Bool.false_eq_true, if_false] at h9; exact h9), hB1⟩
    · have hd := (idxI_end (Rw.isFor temp a s) xs k (by rw [HN.out]; omega)).symm.trans HB.out
      have HD := Lib.hid hd
      have hnlt : ¬ ((k : Int) < (n : Int)) := by omega
      clear hd
      go_wp2_with fail
      go_ret
      exact ⟨ret_int HD.out, by go_grown⟩

end Go.Proofs.Ythkjejikhlcmfaa
