import Derived.Test.YtollpjdnahemeaaS6
namespace Go.Proofs.Ytollpjdnahemeaa
open Go.RowKit
set_option linter.unusedSimpArgs false
set_option linter.unusedVariables false
attribute [local go_sem ↓] Go.wp_at_zero Go.wp_at_succ

def readB (n : Int) : Bool := decide (0 ≤ n) && decide (n ≤ 1000000000)
def clkB (t lo hi dr : Int) : Bool := readB t && decide (0 ≤ dr) && decide (dr ≤ 1000) && vld lo hi && decide (-1000000 ≤ lo) && decide (hi ≤ 1000000)
/-- how far a clock goes wrong -/
def wrongI (t dr r : Int) : Int := (dr * (max (r - t) (t - r)) + 999999) / 1000000
/-- the ends of the span of the true time -/
def atLo (t lo dr r : Int) : Int := r + lo - wrongI t dr r
def atHi (t hi dr r : Int) : Int := r + hi + wrongI t dr r
def trueS (t lo hi dr r : Int) : Int × Int × Int := if clkB t lo hi dr && readB r then (atLo t lo dr r, atHi t hi dr r, 0) else (0, 0, 1)

theorem readB_bounds {n : Int} (h : readB n = true) : 0 ≤ n ∧ n ≤ 1000000000 := by simp [readB] at h; omega
theorem clkB_bounds {t lo hi dr : Int} (h : clkB t lo hi dr = true) : 0 ≤ t ∧ t ≤ 1000000000 ∧ 0 ≤ dr ∧ dr ≤ 1000 ∧ lo ≤ hi ∧ -1000000 ≤ lo ∧ hi ≤ 1000000 := by
  simp [clkB, readB, vld] at h; omega
theorem prod_clk {d g : Int} (h1 : 0 ≤ d) (h2 : d ≤ 1000) (h3 : 0 ≤ g) (h4 : g ≤ 1000000000) : 0 ≤ d * g ∧ d * g ≤ 1000000000000 := by
  have a1 : 0 * g ≤ d * g := Int.mul_le_mul_of_nonneg_right h1 h3
  have a2 : d * g ≤ 1000 * g := Int.mul_le_mul_of_nonneg_right h2 h3
  omega

set_option maxHeartbeats 800000 in
set_option maxRecDepth 100000 in
theorem isReading_any (n : Int) (w : World) : Calls Try.prog 77 #[.int .i64 n] w fun e w' => e = .returned (.bool (readB n)) ∧ w = w' := by
  go_enter Try.func77, Try.ntmps77
  go_wp2_with fail
  all_goals
    go_ret
    refine ⟨ret_bool ?_, rfl⟩
    simp [readB, *] <;> try omega

set_option maxHeartbeats 800000 in
set_option maxRecDepth 100000 in
theorem isReading17_any (n : Int) (w : World) : Calls Try.prog 92 #[.int .i64 n] w fun e w' => e = .returned (.bool (readB n)) ∧ w = w' := by
  go_enter Try.func92, Try.ntmps92
  go_wp2_with fail
  all_goals
    go_ret
    refine ⟨ret_bool ?_, rfl⟩
    simp [readB, *] <;> try omega

set_option maxHeartbeats 800000 in
set_option maxRecDepth 100000 in
theorem RTime_any (n : Int) (w : World) : Calls Try.prog 55 #[.int .i64 n] w fun e w' => e = .returned (.bool (readB n)) ∧ w = w' := by
  go_enter Try.func55, Try.ntmps55
  go_wp2_with fail
  all_goals
    go_ret
    refine ⟨ret_bool ?_, rfl⟩
    simp [readB, *] <;> try omega

set_option maxHeartbeats 800000 in
set_option maxRecDepth 100000 in
theorem CValid_any (t lo hi dr : Int) (w : World) : Calls Try.prog 49 #[.agg #[.int .i64 t, .int .i64 lo, .int .i64 hi, .int .i64 dr]] w fun e w' => e = .returned (.bool (clkB t lo hi dr)) ∧ Below w.heap.size w w' := by
  have hr : ∀ a b, readB t = a → vld lo hi = b → clkB t lo hi dr = (a && decide (0 ≤ dr) && decide (dr ≤ 1000) && b && decide (-1000000 ≤ lo) && decide (hi ≤ 1000000)) := by rintro a b rfl rfl; rfl
  have v1 := fun w => isReading_any t w
  have v2 := fun w => Valid_any lo hi w
  cases h1 : readB t <;> cases h2 : vld lo hi
  all_goals
    rw [h1] at v1
    rw [h2] at v2
    have HR := Lib.hid (hr _ _ h1 h2)
    have HV1 := Lib.hid v1
    have HV2 := Lib.hid v2
    clear h1 h2 v1 v2 hr
    by_cases d1 : 0 ≤ dr <;> by_cases d2 : dr ≤ 1000
    all_goals first | (exfalso; omega) | skip
    all_goals
      go_enter Try.func49, Try.ntmps49
      go_wp2_with (first
        | (go_at_call 77; refine (HV1.out _).mono ?_; rintro e w9 ⟨rfl, rfl⟩)
        | (go_at_call 38; refine (HV2.out _).mono ?_; rintro e w1 ⟨rfl, hb1⟩
           have hB1 : Below w.heap.size w w1 := below_after (by go_grown) hb1
           have c_a1 : w1.cell? ⟨w.heap.size, 1, none⟩ = some (.int .i64 lo) := kp hb1 (by go_cell)
           have c_a2 : w1.cell? ⟨w.heap.size, 2, none⟩ = some (.int .i64 hi) := kp hb1 (by go_cell)
           clear hb1))
      all_goals
        go_ret
        refine ⟨ret_bool ?_, by go_grown⟩
        rw [HR.out]
        simp [*] <;> try omega

set_option maxHeartbeats 800000 in
set_option maxRecDepth 100000 in
theorem RCValid_any (t lo hi dr : Int) (w : World) : Calls Try.prog 50 #[.agg #[.int .i64 t, .int .i64 lo, .int .i64 hi, .int .i64 dr]] w fun e w' => e = .returned (.bool (clkB t lo hi dr)) ∧ Below w.heap.size w w' := by
  have hr : ∀ a b, readB t = a → vld lo hi = b → clkB t lo hi dr = (a && decide (0 ≤ dr) && decide (dr ≤ 1000) && b && decide (-1000000 ≤ lo) && decide (hi ≤ 1000000)) := by rintro a b rfl rfl; rfl
  have v1 := fun w => RTime_any t w
  have v2 := fun w => RValid_any lo hi w
  cases h1 : readB t <;> cases h2 : vld lo hi
  all_goals
    rw [h1] at v1
    rw [h2] at v2
    have HR := Lib.hid (hr _ _ h1 h2)
    have HV1 := Lib.hid v1
    have HV2 := Lib.hid v2
    clear h1 h2 v1 v2 hr
    go_enter Try.func50, Try.ntmps50
    go_wp2_with fail
    refine (HV2.out _).mono ?_
    rintro e w1 ⟨rfl, hb1⟩
    have hB1 : Below w.heap.size w w1 := below_after (by go_grown) hb1
    have c_a0 : w1.cell? ⟨w.heap.size, 0, none⟩ = some (.int .i64 t) := kp hb1 (by go_cell)
    have c_a1 : w1.cell? ⟨w.heap.size, 1, none⟩ = some (.int .i64 lo) := kp hb1 (by go_cell)
    have c_a2 : w1.cell? ⟨w.heap.size, 2, none⟩ = some (.int .i64 hi) := kp hb1 (by go_cell)
    have c_a3 : w1.cell? ⟨w.heap.size, 3, none⟩ = some (.int .i64 dr) := kp hb1 (by go_cell)
    clear hb1
    go_wp2_with (go_at_call 55; refine (HV1.out _).mono ?_; rintro e w9 ⟨rfl, rfl⟩)
    all_goals
      go_ret
      refine ⟨ret_bool ?_, by go_grown⟩
      rw [HR.out]
      simp [*] <;> try omega

set_option maxHeartbeats 800000 in
set_option maxRecDepth 100000 in
theorem at_any (t lo hi dr r : Int) (w : World) (h : clkB t lo hi dr = true) (h2 : readB r = true) : Calls Try.prog 78 #[.agg #[.int .i64 t, .int .i64 lo, .int .i64 hi, .int .i64 dr], .int .i64 r] w fun e w' => e = .returned (.agg #[.int .i64 (atLo t lo dr r), .int .i64 (atHi t hi dr r)]) ∧ Below w.heap.size w w' := by
  obtain ⟨t1, t2, r1, r2, o1, o2, o3⟩ := clkB_bounds h
  obtain ⟨q1, q2⟩ := readB_bounds h2
  clear h h2
  by_cases hs : r - t < 0
  · obtain ⟨p1, p2⟩ := prod_clk (d := dr) (g := -(r - t)) r1 r2 (by omega) (by omega)
    have e1 : wrongI t dr r = (dr * -(r - t) + 1000000 - 1) / 1000000 := by rw [wrongI, show max (r - t) (t - r) = -(r - t) by omega]; omega
    have el : atLo t lo dr r = r + lo - (dr * -(r - t) + 1000000 - 1) / 1000000 := by rw [atLo, e1]
    have eh : atHi t hi dr r = r + hi + (dr * -(r - t) + 1000000 - 1) / 1000000 := by rw [atHi, e1]
    have EL := Lib.hid el
    have EH := Lib.hid eh
    clear e1 el eh
    go_enter Try.func78, Try.ntmps78
    go_wp2_with fail
    rw [EL.out, EH.out]
    refine ret_span1 (B := w.heap.size + 1) rfl rfl rfl ⟨by go_cell, by go_cell⟩ ⟨rfl, by go_grown⟩
  · obtain ⟨p1, p2⟩ := prod_clk (d := dr) (g := (r - t)) r1 r2 (by omega) (by omega)
    have e1 : wrongI t dr r = (dr * (r - t) + 1000000 - 1) / 1000000 := by rw [wrongI, show max (r - t) (t - r) = (r - t) by omega]; omega
    have el : atLo t lo dr r = r + lo - (dr * (r - t) + 1000000 - 1) / 1000000 := by rw [atLo, e1]
    have eh : atHi t hi dr r = r + hi + (dr * (r - t) + 1000000 - 1) / 1000000 := by rw [atHi, e1]
    have EL := Lib.hid el
    have EH := Lib.hid eh
    clear e1 el eh
    go_enter Try.func78, Try.ntmps78
    go_wp2_with fail
    rw [EL.out, EH.out]
    refine ret_span1 (B := w.heap.size + 1) rfl rfl rfl ⟨by go_cell, by go_cell⟩ ⟨rfl, by go_grown⟩

set_option maxHeartbeats 800000 in
set_option maxRecDepth 100000 in
theorem Wrong_any (t lo hi dr r : Int) (w : World) (h : clkB t lo hi dr = true) (h2 : readB r = true) : Calls Try.prog 98 #[.agg #[.int .i64 t, .int .i64 lo, .int .i64 hi, .int .i64 dr], .int .i64 r] w fun e w' => e = .returned (.int .i64 (wrongI t dr r)) ∧ Below w.heap.size w w' := by
  obtain ⟨t1, t2, r1, r2, o1, o2, o3⟩ := clkB_bounds h
  obtain ⟨q1, q2⟩ := readB_bounds h2
  clear h h2
  by_cases hs : r - t < t - r
  · obtain ⟨p1, p2⟩ := prod_clk (d := dr) (g := (t - r)) r1 r2 (by omega) (by omega)
    have e1 : wrongI t dr r = -(-(dr * (t - r)) / 1000000) := by rw [wrongI, show max (r - t) (t - r) = (t - r) by omega]; omega
    have E1 := Lib.hid e1
    have c1 := fun w => Ceil_any (dr * (t - r)) 1000000 w (by omega) (by omega) (by omega) (by omega)
    have HC := Lib.hid c1
    clear e1 c1
    go_enter Try.func98, Try.ntmps98
    go_wp2_with fail
    refine (HC.out _).mono ?_
    rintro e w9 ⟨rfl, rfl⟩
    go_wp2_with fail
    go_ret
    exact ⟨ret_int E1.out.symm, by go_grown⟩
  · obtain ⟨p1, p2⟩ := prod_clk (d := dr) (g := (r - t)) r1 r2 (by omega) (by omega)
    have e1 : wrongI t dr r = -(-(dr * (r - t)) / 1000000) := by rw [wrongI, show max (r - t) (t - r) = (r - t) by omega]; omega
    have E1 := Lib.hid e1
    have c1 := fun w => Ceil_any (dr * (r - t)) 1000000 w (by omega) (by omega) (by omega) (by omega)
    have HC := Lib.hid c1
    clear e1 c1
    go_enter Try.func98, Try.ntmps98
    go_wp2_with fail
    refine (HC.out _).mono ?_
    rintro e w9 ⟨rfl, rfl⟩
    go_wp2_with fail
    go_ret
    exact ⟨ret_int E1.out.symm, by go_grown⟩

set_option maxHeartbeats 800000 in
set_option maxRecDepth 100000 in
theorem wrongI_bounds {t lo hi dr r : Int} (h : clkB t lo hi dr = true) (h2 : readB r = true) : 0 ≤ wrongI t dr r ∧ wrongI t dr r ≤ 1000000 := by
  obtain ⟨t1, t2, r1, r2, o1, o2, o3⟩ := clkB_bounds h
  obtain ⟨q1, q2⟩ := readB_bounds h2
  obtain ⟨p1, p2⟩ := prod_clk (d := dr) (g := max (r - t) (t - r)) r1 r2 (by omega) (by omega)
  unfold wrongI
  omega
set_option maxHeartbeats 800000 in
set_option maxRecDepth 100000 in
theorem Of_any (t lo hi dr r : Int) (w : World) (h : clkB t lo hi dr = true) (h2 : readB r = true) : Calls Try.prog 79 #[.agg #[.int .i64 t, .int .i64 lo, .int .i64 hi, .int .i64 dr], .int .i64 r] w fun e w' => e = .returned (.agg #[.int .i64 (atLo t lo dr r), .int .i64 (atHi t hi dr r)]) ∧ Below w.heap.size w w' := by
  have c1 := fun w => Wrong_any t lo hi dr r w h h2
  obtain ⟨p1, p2⟩ := wrongI_bounds h h2
  obtain ⟨t1, t2, r1, r2, o1, o2, o3⟩ := clkB_bounds h
  obtain ⟨q1, q2⟩ := readB_bounds h2
  have el : atLo t lo dr r = r + lo - wrongI t dr r := rfl
  have eh : atHi t hi dr r = r + hi + wrongI t dr r := rfl
  generalize wrongI t dr r = x at *
  have HC := Lib.hid c1
  have EL := Lib.hid el
  have EH := Lib.hid eh
  clear h h2 c1 el eh
  go_enter Try.func79, Try.ntmps79
  go_wp2_with fail
  refine (HC.out _).mono ?_
  rintro e w1 ⟨rfl, hb1⟩
  have hB1 : Below w.heap.size w w1 := below_after (by go_grown) hb1
  have hz1 := hb1.size
  try simp only [World.size_alloc, World.size_setCell, World.size_drew] at hz1
  have c_c0 : w1.cell? ⟨w.heap.size, 0, none⟩ = some (.int .i64 t) := kp hb1 (by go_cell)
  have c_c1 : w1.cell? ⟨w.heap.size, 1, none⟩ = some (.int .i64 lo) := kp hb1 (by go_cell)
  have c_c2 : w1.cell? ⟨w.heap.size, 2, none⟩ = some (.int .i64 hi) := kp hb1 (by go_cell)
  have c_c3 : w1.cell? ⟨w.heap.size, 3, none⟩ = some (.int .i64 dr) := kp hb1 (by go_cell)
  have f_r0 : w1.frozen? ⟨w.heap.size + 1, 0, none⟩ = false := kf hb1 (by go_simp) (by go_simp)
  have f_r1 : w1.frozen? ⟨w.heap.size + 1, 1, none⟩ = false := kf hb1 (by go_simp) (by go_simp)
  have c_r0 : w1.cell? ⟨w.heap.size + 1, 0, none⟩ = some (.int .i64 0) := kp hb1 (by go_cell)
  have c_r1 : w1.cell? ⟨w.heap.size + 1, 1, none⟩ = some (.int .i64 0) := kp hb1 (by go_cell)
  clear hb1
  go_wp2_with fail
  rw [EL.out, EH.out]
  refine ret_span1 (B := w.heap.size + 1) rfl rfl rfl (set2s _ _ (by go_simp) (by go_simp)) ⟨rfl, by go_grown⟩

set_option maxHeartbeats 800000 in
set_option maxRecDepth 100000 in
theorem True_any (t lo hi dr r : Int) (w : World) : Calls Try.prog 47 #[.agg #[.int .i64 t, .int .i64 lo, .int .i64 hi, .int .i64 dr], .int .i64 r] w fun e w' => e = .returned (.tuple #[.agg #[.int .i64 (trueS t lo hi dr r).1, .int .i64 (trueS t lo hi dr r).2.1], .int .i64 (trueS t lo hi dr r).2.2]) ∧ Below w.heap.size w w' := by
  have v1 := fun w => CValid_any t lo hi dr w
  have v2 := fun w => isReading_any r w
  cases h1 : clkB t lo hi dr <;> cases h2 : readB r
  · have hr : trueS t lo hi dr r = (0, 0, 1) := by simp [trueS, h1, h2]
    have HR := Lib.hid hr
    rw [h1] at v1
    rw [h2] at v2
    have HV1 := Lib.hid v1
    have HV2 := Lib.hid v2
    clear hr v1 v2 h1 h2
    go_enter Try.func47, Try.ntmps47
    go_wp2_with fail
    refine (HV1.out _).mono ?_
    rintro e w1 ⟨rfl, hb1⟩
    have hB1 : Below w.heap.size w w1 := below_after (by go_grown) hb1
    have hz1 := hb1.size
    try simp only [World.size_alloc, World.size_setCell, World.size_drew] at hz1
    have c_c0 : w1.cell? ⟨w.heap.size, 0, none⟩ = some (.int .i64 t) := kp hb1 (by go_cell)
    have c_c1 : w1.cell? ⟨w.heap.size, 1, none⟩ = some (.int .i64 lo) := kp hb1 (by go_cell)
    have c_c2 : w1.cell? ⟨w.heap.size, 2, none⟩ = some (.int .i64 hi) := kp hb1 (by go_cell)
    have c_c3 : w1.cell? ⟨w.heap.size, 3, none⟩ = some (.int .i64 dr) := kp hb1 (by go_cell)
    have f_r0 : w1.frozen? ⟨w.heap.size + 1, 0, none⟩ = false := kf hb1 (by go_simp) (by go_simp)
    have f_r1 : w1.frozen? ⟨w.heap.size + 1, 1, none⟩ = false := kf hb1 (by go_simp) (by go_simp)
    have c_r0 : w1.cell? ⟨w.heap.size + 1, 0, none⟩ = some (.int .i64 0) := kp hb1 (by go_cell)
    have c_r1 : w1.cell? ⟨w.heap.size + 1, 1, none⟩ = some (.int .i64 0) := kp hb1 (by go_cell)
    clear hb1
    go_wp2_with fail
    rw [HR.out]
    refine ret_span (B := w.heap.size + 1) rfl rfl rfl (set2s _ _ (by go_simp) (by go_simp)) ⟨rfl, by go_grown⟩
  · have hr : trueS t lo hi dr r = (0, 0, 1) := by simp [trueS, h1, h2]
    have HR := Lib.hid hr
    rw [h1] at v1
    rw [h2] at v2
    have HV1 := Lib.hid v1
    have HV2 := Lib.hid v2
    clear hr v1 v2 h1 h2
    go_enter Try.func47, Try.ntmps47
    go_wp2_with fail
    refine (HV1.out _).mono ?_
    rintro e w1 ⟨rfl, hb1⟩
    have hB1 : Below w.heap.size w w1 := below_after (by go_grown) hb1
    have hz1 := hb1.size
    try simp only [World.size_alloc, World.size_setCell, World.size_drew] at hz1
    have c_c0 : w1.cell? ⟨w.heap.size, 0, none⟩ = some (.int .i64 t) := kp hb1 (by go_cell)
    have c_c1 : w1.cell? ⟨w.heap.size, 1, none⟩ = some (.int .i64 lo) := kp hb1 (by go_cell)
    have c_c2 : w1.cell? ⟨w.heap.size, 2, none⟩ = some (.int .i64 hi) := kp hb1 (by go_cell)
    have c_c3 : w1.cell? ⟨w.heap.size, 3, none⟩ = some (.int .i64 dr) := kp hb1 (by go_cell)
    have f_r0 : w1.frozen? ⟨w.heap.size + 1, 0, none⟩ = false := kf hb1 (by go_simp) (by go_simp)
    have f_r1 : w1.frozen? ⟨w.heap.size + 1, 1, none⟩ = false := kf hb1 (by go_simp) (by go_simp)
    have c_r0 : w1.cell? ⟨w.heap.size + 1, 0, none⟩ = some (.int .i64 0) := kp hb1 (by go_cell)
    have c_r1 : w1.cell? ⟨w.heap.size + 1, 1, none⟩ = some (.int .i64 0) := kp hb1 (by go_cell)
    clear hb1
    go_wp2_with fail
    rw [HR.out]
    refine ret_span (B := w.heap.size + 1) rfl rfl rfl (set2s _ _ (by go_simp) (by go_simp)) ⟨rfl, by go_grown⟩
  · have hr : trueS t lo hi dr r = (0, 0, 1) := by simp [trueS, h1, h2]
    have HR := Lib.hid hr
    rw [h1] at v1
    rw [h2] at v2
    have HV1 := Lib.hid v1
    have HV2 := Lib.hid v2
    clear hr v1 v2 h1 h2
    go_enter Try.func47, Try.ntmps47
    go_wp2_with fail
    refine (HV1.out _).mono ?_
    rintro e w1 ⟨rfl, hb1⟩
    have hB1 : Below w.heap.size w w1 := below_after (by go_grown) hb1
    have hz1 := hb1.size
    try simp only [World.size_alloc, World.size_setCell, World.size_drew] at hz1
    have c_c0 : w1.cell? ⟨w.heap.size, 0, none⟩ = some (.int .i64 t) := kp hb1 (by go_cell)
    have c_c1 : w1.cell? ⟨w.heap.size, 1, none⟩ = some (.int .i64 lo) := kp hb1 (by go_cell)
    have c_c2 : w1.cell? ⟨w.heap.size, 2, none⟩ = some (.int .i64 hi) := kp hb1 (by go_cell)
    have c_c3 : w1.cell? ⟨w.heap.size, 3, none⟩ = some (.int .i64 dr) := kp hb1 (by go_cell)
    have f_r0 : w1.frozen? ⟨w.heap.size + 1, 0, none⟩ = false := kf hb1 (by go_simp) (by go_simp)
    have f_r1 : w1.frozen? ⟨w.heap.size + 1, 1, none⟩ = false := kf hb1 (by go_simp) (by go_simp)
    have c_r0 : w1.cell? ⟨w.heap.size + 1, 0, none⟩ = some (.int .i64 0) := kp hb1 (by go_cell)
    have c_r1 : w1.cell? ⟨w.heap.size + 1, 1, none⟩ = some (.int .i64 0) := kp hb1 (by go_cell)
    clear hb1
    go_wp2_with fail
    refine (HV2.out _).mono ?_
    rintro e w9 ⟨rfl, rfl⟩
    go_wp2_with fail
    rw [HR.out]
    refine ret_span (B := w.heap.size + 1) rfl rfl rfl (set2s _ _ (by go_simp) (by go_simp)) ⟨rfl, by go_grown⟩
  · have hr : trueS t lo hi dr r = (atLo t lo dr r, atHi t hi dr r, 0) := by simp [trueS, h1, h2]
    have HR := Lib.hid hr
    rw [h1] at v1
    rw [h2] at v2
    have HV1 := Lib.hid v1
    have HV2 := Lib.hid v2
    have v3 := fun w => at_any t lo hi dr r w h1 h2
    have HV3 := Lib.hid v3
    clear v3
    clear hr v1 v2 h1 h2
    go_enter Try.func47, Try.ntmps47
    go_wp2_with fail
    refine (HV1.out _).mono ?_
    rintro e w1 ⟨rfl, hb1⟩
    have hB1 : Below w.heap.size w w1 := below_after (by go_grown) hb1
    have hz1 := hb1.size
    try simp only [World.size_alloc, World.size_setCell, World.size_drew] at hz1
    have c_c0 : w1.cell? ⟨w.heap.size, 0, none⟩ = some (.int .i64 t) := kp hb1 (by go_cell)
    have c_c1 : w1.cell? ⟨w.heap.size, 1, none⟩ = some (.int .i64 lo) := kp hb1 (by go_cell)
    have c_c2 : w1.cell? ⟨w.heap.size, 2, none⟩ = some (.int .i64 hi) := kp hb1 (by go_cell)
    have c_c3 : w1.cell? ⟨w.heap.size, 3, none⟩ = some (.int .i64 dr) := kp hb1 (by go_cell)
    have f_r0 : w1.frozen? ⟨w.heap.size + 1, 0, none⟩ = false := kf hb1 (by go_simp) (by go_simp)
    have f_r1 : w1.frozen? ⟨w.heap.size + 1, 1, none⟩ = false := kf hb1 (by go_simp) (by go_simp)
    have c_r0 : w1.cell? ⟨w.heap.size + 1, 0, none⟩ = some (.int .i64 0) := kp hb1 (by go_cell)
    have c_r1 : w1.cell? ⟨w.heap.size + 1, 1, none⟩ = some (.int .i64 0) := kp hb1 (by go_cell)
    clear hb1
    go_wp2_with fail
    refine (HV2.out _).mono ?_
    rintro e w9 ⟨rfl, rfl⟩
    go_wp2_with fail
    refine (HV3.out _).mono ?_
    rintro e w2 ⟨rfl, hb2⟩
    have hB2 : Below w.heap.size w w2 := below_after (by go_grown) hb2
    have hz2 := hb2.size
    try simp only [World.size_alloc, World.size_setCell, World.size_drew] at hz2
    replace c_c0 : w2.cell? ⟨w.heap.size, 0, none⟩ = some (.int .i64 t) := kp hb2 (by go_cell)
    replace c_c1 : w2.cell? ⟨w.heap.size, 1, none⟩ = some (.int .i64 lo) := kp hb2 (by go_cell)
    replace c_c2 : w2.cell? ⟨w.heap.size, 2, none⟩ = some (.int .i64 hi) := kp hb2 (by go_cell)
    replace c_c3 : w2.cell? ⟨w.heap.size, 3, none⟩ = some (.int .i64 dr) := kp hb2 (by go_cell)
    replace f_r0 : w2.frozen? ⟨w.heap.size + 1, 0, none⟩ = false := kf hb2 (by go_simp) (by go_simp)
    replace f_r1 : w2.frozen? ⟨w.heap.size + 1, 1, none⟩ = false := kf hb2 (by go_simp) (by go_simp)
    replace c_r0 : w2.cell? ⟨w.heap.size + 1, 0, none⟩ = some (.int .i64 0) := kp hb2 (by go_cell)
    replace c_r1 : w2.cell? ⟨w.heap.size + 1, 1, none⟩ = some (.int .i64 0) := kp hb2 (by go_cell)
    clear hb2 hB1
    go_wp2_with fail
    rw [HR.out]
    refine ret_span (B := w.heap.size + 1) rfl rfl rfl (set2s _ _ (by go_simp) (by go_simp)) ⟨rfl, by go_grown⟩

set_option maxHeartbeats 800000 in
set_option maxRecDepth 100000 in
theorem RTrue_any (t lo hi dr r : Int) (w : World) : Calls Try.prog 48 #[.agg #[.int .i64 t, .int .i64 lo, .int .i64 hi, .int .i64 dr], .int .i64 r] w fun e w' => e = .returned (.tuple #[.agg #[.int .i64 (trueS t lo hi dr r).1, .int .i64 (trueS t lo hi dr r).2.1], .int .i64 (trueS t lo hi dr r).2.2]) ∧ Below w.heap.size w w' := by
  have v1 := fun w => RCValid_any t lo hi dr w
  have v2 := fun w => RTime_any r w
  cases h1 : clkB t lo hi dr <;> cases h2 : readB r
  · have hr : trueS t lo hi dr r = (0, 0, 1) := by simp [trueS, h1, h2]
    have HR := Lib.hid hr
    rw [h1] at v1
    rw [h2] at v2
    have HV1 := Lib.hid v1
    have HV2 := Lib.hid v2
    clear hr v1 v2 h1 h2
    go_enter Try.func48, Try.ntmps48
    go_wp2_with fail
    refine (HV1.out _).mono ?_
    rintro e w1 ⟨rfl, hb1⟩
    have hB1 : Below w.heap.size w w1 := below_after (by go_grown) hb1
    have hz1 := hb1.size
    try simp only [World.size_alloc, World.size_setCell, World.size_drew] at hz1
    have c_c0 : w1.cell? ⟨w.heap.size, 0, none⟩ = some (.int .i64 t) := kp hb1 (by go_cell)
    have c_c1 : w1.cell? ⟨w.heap.size, 1, none⟩ = some (.int .i64 lo) := kp hb1 (by go_cell)
    have c_c2 : w1.cell? ⟨w.heap.size, 2, none⟩ = some (.int .i64 hi) := kp hb1 (by go_cell)
    have c_c3 : w1.cell? ⟨w.heap.size, 3, none⟩ = some (.int .i64 dr) := kp hb1 (by go_cell)
    have f_r0 : w1.frozen? ⟨w.heap.size + 1, 0, none⟩ = false := kf hb1 (by go_simp) (by go_simp)
    have f_r1 : w1.frozen? ⟨w.heap.size + 1, 1, none⟩ = false := kf hb1 (by go_simp) (by go_simp)
    have c_r0 : w1.cell? ⟨w.heap.size + 1, 0, none⟩ = some (.int .i64 0) := kp hb1 (by go_cell)
    have c_r1 : w1.cell? ⟨w.heap.size + 1, 1, none⟩ = some (.int .i64 0) := kp hb1 (by go_cell)
    clear hb1
    go_wp2_with fail
    rw [HR.out]
    refine ret_span (B := w.heap.size + 1) rfl rfl rfl (set2s _ _ (by go_simp) (by go_simp)) ⟨rfl, by go_grown⟩
  · have hr : trueS t lo hi dr r = (0, 0, 1) := by simp [trueS, h1, h2]
    have HR := Lib.hid hr
    rw [h1] at v1
    rw [h2] at v2
    have HV1 := Lib.hid v1
    have HV2 := Lib.hid v2
    clear hr v1 v2 h1 h2
    go_enter Try.func48, Try.ntmps48
    go_wp2_with fail
    refine (HV1.out _).mono ?_
    rintro e w1 ⟨rfl, hb1⟩
    have hB1 : Below w.heap.size w w1 := below_after (by go_grown) hb1
    have hz1 := hb1.size
    try simp only [World.size_alloc, World.size_setCell, World.size_drew] at hz1
    have c_c0 : w1.cell? ⟨w.heap.size, 0, none⟩ = some (.int .i64 t) := kp hb1 (by go_cell)
    have c_c1 : w1.cell? ⟨w.heap.size, 1, none⟩ = some (.int .i64 lo) := kp hb1 (by go_cell)
    have c_c2 : w1.cell? ⟨w.heap.size, 2, none⟩ = some (.int .i64 hi) := kp hb1 (by go_cell)
    have c_c3 : w1.cell? ⟨w.heap.size, 3, none⟩ = some (.int .i64 dr) := kp hb1 (by go_cell)
    have f_r0 : w1.frozen? ⟨w.heap.size + 1, 0, none⟩ = false := kf hb1 (by go_simp) (by go_simp)
    have f_r1 : w1.frozen? ⟨w.heap.size + 1, 1, none⟩ = false := kf hb1 (by go_simp) (by go_simp)
    have c_r0 : w1.cell? ⟨w.heap.size + 1, 0, none⟩ = some (.int .i64 0) := kp hb1 (by go_cell)
    have c_r1 : w1.cell? ⟨w.heap.size + 1, 1, none⟩ = some (.int .i64 0) := kp hb1 (by go_cell)
    clear hb1
    go_wp2_with fail
    rw [HR.out]
    refine ret_span (B := w.heap.size + 1) rfl rfl rfl (set2s _ _ (by go_simp) (by go_simp)) ⟨rfl, by go_grown⟩
  · have hr : trueS t lo hi dr r = (0, 0, 1) := by simp [trueS, h1, h2]
    have HR := Lib.hid hr
    rw [h1] at v1
    rw [h2] at v2
    have HV1 := Lib.hid v1
    have HV2 := Lib.hid v2
    clear hr v1 v2 h1 h2
    go_enter Try.func48, Try.ntmps48
    go_wp2_with fail
    refine (HV1.out _).mono ?_
    rintro e w1 ⟨rfl, hb1⟩
    have hB1 : Below w.heap.size w w1 := below_after (by go_grown) hb1
    have hz1 := hb1.size
    try simp only [World.size_alloc, World.size_setCell, World.size_drew] at hz1
    have c_c0 : w1.cell? ⟨w.heap.size, 0, none⟩ = some (.int .i64 t) := kp hb1 (by go_cell)
    have c_c1 : w1.cell? ⟨w.heap.size, 1, none⟩ = some (.int .i64 lo) := kp hb1 (by go_cell)
    have c_c2 : w1.cell? ⟨w.heap.size, 2, none⟩ = some (.int .i64 hi) := kp hb1 (by go_cell)
    have c_c3 : w1.cell? ⟨w.heap.size, 3, none⟩ = some (.int .i64 dr) := kp hb1 (by go_cell)
    have f_r0 : w1.frozen? ⟨w.heap.size + 1, 0, none⟩ = false := kf hb1 (by go_simp) (by go_simp)
    have f_r1 : w1.frozen? ⟨w.heap.size + 1, 1, none⟩ = false := kf hb1 (by go_simp) (by go_simp)
    have c_r0 : w1.cell? ⟨w.heap.size + 1, 0, none⟩ = some (.int .i64 0) := kp hb1 (by go_cell)
    have c_r1 : w1.cell? ⟨w.heap.size + 1, 1, none⟩ = some (.int .i64 0) := kp hb1 (by go_cell)
    clear hb1
    go_wp2_with fail
    refine (HV2.out _).mono ?_
    rintro e w9 ⟨rfl, rfl⟩
    go_wp2_with fail
    rw [HR.out]
    refine ret_span (B := w.heap.size + 1) rfl rfl rfl (set2s _ _ (by go_simp) (by go_simp)) ⟨rfl, by go_grown⟩
  · have hr : trueS t lo hi dr r = (atLo t lo dr r, atHi t hi dr r, 0) := by simp [trueS, h1, h2]
    have HR := Lib.hid hr
    rw [h1] at v1
    rw [h2] at v2
    have HV1 := Lib.hid v1
    have HV2 := Lib.hid v2
    have v3 := fun w => Of_any t lo hi dr r w h1 h2
    have HV3 := Lib.hid v3
    clear v3
    clear hr v1 v2 h1 h2
    go_enter Try.func48, Try.ntmps48
    go_wp2_with fail
    refine (HV1.out _).mono ?_
    rintro e w1 ⟨rfl, hb1⟩
    have hB1 : Below w.heap.size w w1 := below_after (by go_grown) hb1
    have hz1 := hb1.size
    try simp only [World.size_alloc, World.size_setCell, World.size_drew] at hz1
    have c_c0 : w1.cell? ⟨w.heap.size, 0, none⟩ = some (.int .i64 t) := kp hb1 (by go_cell)
    have c_c1 : w1.cell? ⟨w.heap.size, 1, none⟩ = some (.int .i64 lo) := kp hb1 (by go_cell)
    have c_c2 : w1.cell? ⟨w.heap.size, 2, none⟩ = some (.int .i64 hi) := kp hb1 (by go_cell)
    have c_c3 : w1.cell? ⟨w.heap.size, 3, none⟩ = some (.int .i64 dr) := kp hb1 (by go_cell)
    have f_r0 : w1.frozen? ⟨w.heap.size + 1, 0, none⟩ = false := kf hb1 (by go_simp) (by go_simp)
    have f_r1 : w1.frozen? ⟨w.heap.size + 1, 1, none⟩ = false := kf hb1 (by go_simp) (by go_simp)
    have c_r0 : w1.cell? ⟨w.heap.size + 1, 0, none⟩ = some (.int .i64 0) := kp hb1 (by go_cell)
    have c_r1 : w1.cell? ⟨w.heap.size + 1, 1, none⟩ = some (.int .i64 0) := kp hb1 (by go_cell)
    clear hb1
    go_wp2_with fail
    refine (HV2.out _).mono ?_
    rintro e w9 ⟨rfl, rfl⟩
    go_wp2_with fail
    refine (HV3.out _).mono ?_
    rintro e w2 ⟨rfl, hb2⟩
    have hB2 : Below w.heap.size w w2 := below_after (by go_grown) hb2
    have hz2 := hb2.size
    try simp only [World.size_alloc, World.size_setCell, World.size_drew] at hz2
    replace c_c0 : w2.cell? ⟨w.heap.size, 0, none⟩ = some (.int .i64 t) := kp hb2 (by go_cell)
    replace c_c1 : w2.cell? ⟨w.heap.size, 1, none⟩ = some (.int .i64 lo) := kp hb2 (by go_cell)
    replace c_c2 : w2.cell? ⟨w.heap.size, 2, none⟩ = some (.int .i64 hi) := kp hb2 (by go_cell)
    replace c_c3 : w2.cell? ⟨w.heap.size, 3, none⟩ = some (.int .i64 dr) := kp hb2 (by go_cell)
    replace f_r0 : w2.frozen? ⟨w.heap.size + 1, 0, none⟩ = false := kf hb2 (by go_simp) (by go_simp)
    replace f_r1 : w2.frozen? ⟨w.heap.size + 1, 1, none⟩ = false := kf hb2 (by go_simp) (by go_simp)
    replace c_r0 : w2.cell? ⟨w.heap.size + 1, 0, none⟩ = some (.int .i64 0) := kp hb2 (by go_cell)
    replace c_r1 : w2.cell? ⟨w.heap.size + 1, 1, none⟩ = some (.int .i64 0) := kp hb2 (by go_cell)
    clear hb2 hB1
    go_wp2_with fail
    rw [HR.out]
    refine ret_span (B := w.heap.size + 1) rfl rfl rfl (set2s _ _ (by go_simp) (by go_simp)) ⟨rfl, by go_grown⟩

end Go.Proofs.Ytollpjdnahemeaa
