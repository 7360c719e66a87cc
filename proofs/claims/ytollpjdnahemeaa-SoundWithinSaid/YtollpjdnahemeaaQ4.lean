import Derived.Test.YtollpjdnahemeaaQ3
import Derived.Deep.LoopGhost
import Derived.BigRegion
import Derived.BigQuiet
import Derived.Deep.DeepCutAuto
import Derived.Deep.RegionHeld3
import Derived.Deep.DrawnRows
namespace Go.Proofs.Ytollpjdnahemeaa
open Go.RowKit Go.Shelf
set_option linter.unusedSimpArgs false
set_option linter.unusedVariables false
attribute [local go_sem ↓] Go.wp_at_zero Go.wp_at_succ
set_option maxHeartbeats 800000 in
set_option maxRecDepth 100000 in
theorem upTo_any (lo hi most : Int) (w : World) : Calls Try.prog 86 #[.agg #[.int .i64 lo, .int .i64 hi], .int .i64 most] w fun e w' => e = .returned (.bool (decide (0 ≤ lo) && decide (lo ≤ hi) && decide (hi ≤ most))) ∧ Below w.heap.size w w' := by
  go_enter Try.func86, Try.ntmps86
  go_wp2_with fail
  all_goals
    go_ret
    refine ⟨ret_bool ?_, by go_grown⟩
    simp [Bool.and_assoc, *] <;> try omega
set_option maxHeartbeats 800000 in
set_option maxRecDepth 100000 in
theorem RTimes17_any (lo hi : Int) (w : World) : Calls Try.prog 68 #[.agg #[.int .i64 lo, .int .i64 hi]] w fun e w' => e = .returned (.bool (timB lo hi)) ∧ Below w.heap.size w w' := by
  go_enter Try.func68, Try.ntmps68
  go_wp2_with fail
  all_goals
    go_ret
    refine ⟨ret_bool ?_, by go_grown⟩
    simp [timB, *] <;> try omega
set_option maxHeartbeats 800000 in
set_option maxRecDepth 100000 in
theorem RDepths17_any (lo hi : Int) (w : World) : Calls Try.prog 71 #[.agg #[.int .i64 lo, .int .i64 hi]] w fun e w' => e = .returned (.bool (depB lo hi)) ∧ Below w.heap.size w w' := by
  go_enter Try.func71, Try.ntmps71
  go_wp2_with fail
  all_goals
    go_ret
    refine ⟨ret_bool ?_, by go_grown⟩
    simp [depB, *] <;> try omega
set_option maxHeartbeats 800000 in
set_option maxRecDepth 100000 in
theorem Few_any (A : Option Addr) (n c : Nat) (w : World) : Calls Try.prog 58 #[.slice A n c] w fun e w' => e = .returned (.bool (decide (n ≤ 25))) ∧ w = w' := by
  go_enter Try.func58, Try.ntmps58
  go_wp2_with fail
  all_goals
    go_ret
    refine ⟨ret_bool ?_, rfl⟩
    simp [*] <;> try omega
set_option maxHeartbeats 800000 in
set_option maxRecDepth 100000 in
theorem Touches_zero (A : Option Addr) (n c : Nat) (xs : List Wt) (lo hi : Int) (x : Wt) (w : World) (hn : xs.length = n) (hbig : n ≤ 1000000) (hx : Wts? w.heap.size w A xs) (hi0 : xs[0]? = some x) :
    Calls Try.prog 67 #[.slice A n c, .int .i64 0, .agg #[.int .i64 lo, .int .i64 hi]] w fun e w' => e = .returned (.bool (tchP lo hi (frm xs 0, x))) ∧ Below w.heap.size w w' := by
  have h0 : 0 < n := by rw [← hn]; exact (List.getElem?_eq_some_iff.1 hi0).1
  obtain ⟨b, off, rfl, hlt, hcs⟩ := hx (by omega)
  obtain ⟨z0, _, _⟩ := hcs 0 x hi0
  simp only [Nat.zero_mul, Nat.add_zero] at z0
  have i1 : (0 : Int) < (n : Int) := by omega
  show Calls Try.prog 67 _ w fun e w' => e = .returned (.bool (tchP lo hi (0, x))) ∧ _
  clear hx hcs hi0
  have hr : ∀ a b, decide (lo ≤ x.til) = a → decide (0 ≤ hi) = b → tchP lo hi (0, x) = (a && b) := by rintro a b rfl rfl; rfl
  cases d1 : decide (lo ≤ x.til) with
  | false =>
    have e := hr _ _ d1 rfl
    rw [Bool.false_and] at e
    rw [e]
    clear e hr
    go_enter Try.func67, Try.ntmps67
    go_upto_region 4 with fail
    go_quiet (fail)
    go_wp2_with fail
    go_ret
    exact ⟨rfl, bdn (by go_grown) _⟩
  | true =>
    have e := hr _ _ d1 rfl
    rw [Bool.true_and] at e
    cases d2 : decide (0 ≤ hi) <;>
    (rw [d2] at e; rw [e]; clear e hr
     go_enter Try.func67, Try.ntmps67
     go_upto_region 4 with fail
     go_quiet (fail)
     go_wp2_with fail
     go_ret
     exact ⟨rfl, bdn (by go_grown) _⟩)
set_option maxHeartbeats 800000 in
set_option maxRecDepth 100000 in
theorem Touches_succ (A : Option Addr) (n c k : Nat) (xs : List Wt) (lo hi : Int) (x y : Wt) (w : World) (hn : xs.length = n) (hbig : n ≤ 1000000) (hx : Wts? w.heap.size w A xs) (hi0 : xs[k]? = some y) (hi1 : xs[k + 1]? = some x) :
    Calls Try.prog 67 #[.slice A n c, .int .i64 ((k : Int) + 1), .agg #[.int .i64 lo, .int .i64 hi]] w fun e w' => e = .returned (.bool (tchP lo hi (y.til, x))) ∧ Below w.heap.size w w' := by
  have h0 : k + 1 < n := by rw [← hn]; exact (List.getElem?_eq_some_iff.1 hi1).1
  obtain ⟨b, off, rfl, hlt, hcs⟩ := hx (by omega)
  obtain ⟨y0, _, _⟩ := hcs k y hi0
  obtain ⟨x0, _, _⟩ := hcs (k + 1) x hi1
  have i1 : (0 : Int) < (k : Int) + 1 := by omega
  have i2 : (k : Int) + 1 < (n : Int) := by omega
  have i3 : (k : Int) < (n : Int) := by omega
  have i4 : IntKind.i64.wrap (k : Int) = (k : Int) := IntWalk.i64_in _ (by omega)
  have i5 : ((k : Int) + 1).toNat = k + 1 := by omega
  have i6 : (0 : Int) ≤ (k : Int) + 1 := by omega
  have i7 : (0 : Int) ≤ (k : Int) := by omega
  clear hx hcs hi0 hi1
  have hr : ∀ a b, decide (lo ≤ x.til) = a → decide (y.til ≤ hi) = b → tchP lo hi (y.til, x) = (a && b) := by rintro a b rfl rfl; rfl
  cases d1 : decide (lo ≤ x.til) with
  | false =>
    have e := hr _ _ d1 rfl
    rw [Bool.false_and] at e
    rw [e]
    clear e hr
    go_enter Try.func67, Try.ntmps67
    go_upto_region 4 with fail
    go_quiet (fail)
    go_wp2_with fail
    go_ret
    exact ⟨rfl, bdn (by go_grown) _⟩
  | true =>
    have e := hr _ _ d1 rfl
    rw [Bool.true_and] at e
    cases d2 : decide (y.til ≤ hi) <;>
    (rw [d2] at e; rw [e]; clear e hr
     go_enter Try.func67, Try.ntmps67
     go_upto_region 4 with fail
     go_quiet (fail)
     go_wp2_with fail
     go_ret
     exact ⟨rfl, bdn (by go_grown) _⟩)
theorem Touches_any (A : Option Addr) (n c i : Nat) (xs : List Wt) (lo hi : Int) (x : Wt) (w : World) (hn : xs.length = n) (hbig : n ≤ 1000000) (hx : Wts? w.heap.size w A xs) (h : xs[i]? = some x) :
    Calls Try.prog 67 #[.slice A n c, .int .i64 i, .agg #[.int .i64 lo, .int .i64 hi]] w fun e w' => e = .returned (.bool (tchP lo hi (frm xs i, x))) ∧ Below w.heap.size w w' := by
  cases i with
  | zero => exact Touches_zero A n c xs lo hi x w hn hbig hx h
  | succ k =>
    have hk : k + 1 < xs.length := (List.getElem?_eq_some_iff.1 h).1
    obtain ⟨y, hy⟩ : ∃ y, xs[k]? = some y := ⟨_, List.getElem?_eq_getElem (by omega)⟩
    rw [frm_succ hy]
    exact Touches_succ A n c k xs lo hi x y w hn hbig hx hy h
end Go.Proofs.Ytollpjdnahemeaa
