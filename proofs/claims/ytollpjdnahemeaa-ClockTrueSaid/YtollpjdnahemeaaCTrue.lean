import Derived.Test.YtollpjdnahemeaaCOrder
namespace Go.Proofs.Ytollpjdnahemeaa
open Go.RowKit
set_option linter.unusedSimpArgs false
set_option linter.unusedVariables false
attribute [local go_sem ↓] Go.wp_at_zero Go.wp_at_succ

set_option maxHeartbeats 1600000 in
set_option maxRecDepth 100000 in
theorem true_no0 (t lo hi dr r off n : Int) (w : World) (h1 : clkB t lo hi dr = false) :
    Calls Try.prog 11 #[.agg #[.int .i64 t, .int .i64 lo, .int .i64 hi, .int .i64 dr], .int .i64 r, .int .u64 off, .int .u64 n] w fun e w' => e = .returned (.bool true) ∧ Below w.heap.size w w' := by
  have v1 := fun w => True_any t lo hi dr r w
  rw [trueS_no (by rw [h1]; rfl)] at v1
  have v2 := fun w => RCValid_any t lo hi dr w
  rw [h1] at v2
  have v3 := fun w => RTime_any r w
  have H1 := Lib.hid v1
  have H2 := Lib.hid v2
  have H3 := Lib.hid v3
  clear v1 v2 v3 h1
  go_enter Try.func11, Try.ntmps11
  go_wp2_with fail
  refine (head14_any _).mono ?_
  rintro e w1 ⟨rfl, hb1⟩
  have hB1 : Below w.heap.size w w1 := below_after (by go_grown) hb1
  have hz1 := hb1.size
  try simp only [World.size_alloc, World.size_setCell, World.size_drew] at hz1
  have hw1 := hB1.size
  have c_c0 : w1.cell? ⟨w.heap.size, 0, none⟩ = some (.int .i64 t) := kp hb1 (by go_cell)
  have c_c1 : w1.cell? ⟨w.heap.size, 1, none⟩ = some (.int .i64 lo) := kp hb1 (by go_cell)
  have c_c2 : w1.cell? ⟨w.heap.size, 2, none⟩ = some (.int .i64 hi) := kp hb1 (by go_cell)
  have c_c3 : w1.cell? ⟨w.heap.size, 3, none⟩ = some (.int .i64 dr) := kp hb1 (by go_cell)
  clear hb1
  go_wp2_with fail
  refine (H1.out _).mono ?_
  rintro e w2 ⟨rfl, hb2⟩
  have hB2 : Below w.heap.size w w2 := below_after (by go_grown) hb2
  have hz2 := hb2.size
  try simp only [World.size_alloc, World.size_setCell, World.size_drew] at hz2
  have hw2 := hB2.size
  replace c_c0 : w2.cell? ⟨w.heap.size, 0, none⟩ = some (.int .i64 t) := kp hb2 (by go_cell)
  replace c_c1 : w2.cell? ⟨w.heap.size, 1, none⟩ = some (.int .i64 lo) := kp hb2 (by go_cell)
  replace c_c2 : w2.cell? ⟨w.heap.size, 2, none⟩ = some (.int .i64 hi) := kp hb2 (by go_cell)
  replace c_c3 : w2.cell? ⟨w.heap.size, 3, none⟩ = some (.int .i64 dr) := kp hb2 (by go_cell)
  clear hb2 hB1
  go_wp2_with fail
  refine (H2.out _).mono ?_
  rintro e w3 ⟨rfl, hb3⟩
  have hB3 : Below w.heap.size w w3 := below_after (by go_grown) hb3
  have hz3 := hb3.size
  try simp only [World.size_alloc, World.size_setCell, World.size_drew] at hz3
  have hw3 := hB3.size
  replace c_c0 : w3.cell? ⟨w.heap.size, 0, none⟩ = some (.int .i64 t) := kp hb3 (by go_cell)
  replace c_c1 : w3.cell? ⟨w.heap.size, 1, none⟩ = some (.int .i64 lo) := kp hb3 (by go_cell)
  replace c_c2 : w3.cell? ⟨w.heap.size, 2, none⟩ = some (.int .i64 hi) := kp hb3 (by go_cell)
  replace c_c3 : w3.cell? ⟨w.heap.size, 3, none⟩ = some (.int .i64 dr) := kp hb3 (by go_cell)
  have c_s0 : w3.cell? ⟨w2.heap.size, 0, none⟩ = some (.int .i64 0) := kp hb3 (by go_cell)
  have c_s1 : w3.cell? ⟨w2.heap.size, 1, none⟩ = some (.int .i64 0) := kp hb3 (by go_cell)
  clear hb3 hB2
  go_wp2_with fail
  go_ret
  exact ⟨rfl, by go_grown⟩

set_option maxHeartbeats 1600000 in
set_option maxRecDepth 100000 in
theorem true_no1 (t lo hi dr r off n : Int) (w : World) (h1 : clkB t lo hi dr = true) (h2 : readB r = false) :
    Calls Try.prog 11 #[.agg #[.int .i64 t, .int .i64 lo, .int .i64 hi, .int .i64 dr], .int .i64 r, .int .u64 off, .int .u64 n] w fun e w' => e = .returned (.bool true) ∧ Below w.heap.size w w' := by
  have v1 := fun w => True_any t lo hi dr r w
  rw [trueS_no (by rw [h1, h2]; rfl)] at v1
  have v2 := fun w => RCValid_any t lo hi dr w
  rw [h1] at v2
  have v3 := fun w => RTime_any r w
  rw [h2] at v3
  have H1 := Lib.hid v1
  have H2 := Lib.hid v2
  have H3 := Lib.hid v3
  clear v1 v2 v3 h1 h2
  go_enter Try.func11, Try.ntmps11
  go_wp2_with fail
  refine (head14_any _).mono ?_
  rintro e w1 ⟨rfl, hb1⟩
  have hB1 : Below w.heap.size w w1 := below_after (by go_grown) hb1
  have hz1 := hb1.size
  try simp only [World.size_alloc, World.size_setCell, World.size_drew] at hz1
  have hw1 := hB1.size
  have c_c0 : w1.cell? ⟨w.heap.size, 0, none⟩ = some (.int .i64 t) := kp hb1 (by go_cell)
  have c_c1 : w1.cell? ⟨w.heap.size, 1, none⟩ = some (.int .i64 lo) := kp hb1 (by go_cell)
  have c_c2 : w1.cell? ⟨w.heap.size, 2, none⟩ = some (.int .i64 hi) := kp hb1 (by go_cell)
  have c_c3 : w1.cell? ⟨w.heap.size, 3, none⟩ = some (.int .i64 dr) := kp hb1 (by go_cell)
  clear hb1
  go_wp2_with fail
  refine (H1.out _).mono ?_
  rintro e w2 ⟨rfl, hb2⟩
  have hB2 : Below w.heap.size w w2 := below_after (by go_grown) hb2
  have hz2 := hb2.size
  try simp only [World.size_alloc, World.size_setCell, World.size_drew] at hz2
  have hw2 := hB2.size
  replace c_c0 : w2.cell? ⟨w.heap.size, 0, none⟩ = some (.int .i64 t) := kp hb2 (by go_cell)
  replace c_c1 : w2.cell? ⟨w.heap.size, 1, none⟩ = some (.int .i64 lo) := kp hb2 (by go_cell)
  replace c_c2 : w2.cell? ⟨w.heap.size, 2, none⟩ = some (.int .i64 hi) := kp hb2 (by go_cell)
  replace c_c3 : w2.cell? ⟨w.heap.size, 3, none⟩ = some (.int .i64 dr) := kp hb2 (by go_cell)
  clear hb2 hB1
  go_wp2_with fail
  refine (H2.out _).mono ?_
  rintro e w3 ⟨rfl, hb3⟩
  have hB3 : Below w.heap.size w w3 := below_after (by go_grown) hb3
  have hz3 := hb3.size
  try simp only [World.size_alloc, World.size_setCell, World.size_drew] at hz3
  have hw3 := hB3.size
  replace c_c0 : w3.cell? ⟨w.heap.size, 0, none⟩ = some (.int .i64 t) := kp hb3 (by go_cell)
  replace c_c1 : w3.cell? ⟨w.heap.size, 1, none⟩ = some (.int .i64 lo) := kp hb3 (by go_cell)
  replace c_c2 : w3.cell? ⟨w.heap.size, 2, none⟩ = some (.int .i64 hi) := kp hb3 (by go_cell)
  replace c_c3 : w3.cell? ⟨w.heap.size, 3, none⟩ = some (.int .i64 dr) := kp hb3 (by go_cell)
  have c_s0 : w3.cell? ⟨w2.heap.size, 0, none⟩ = some (.int .i64 0) := kp hb3 (by go_cell)
  have c_s1 : w3.cell? ⟨w2.heap.size, 1, none⟩ = some (.int .i64 0) := kp hb3 (by go_cell)
  clear hb3 hB2
  go_wp2_with fail
  refine (H3.out _).mono ?_
  rintro e w9 ⟨rfl, rfl⟩
  go_wp2_with fail
  go_ret
  exact ⟨rfl, by go_grown⟩

set_option maxHeartbeats 1600000 in
set_option maxRecDepth 100000 in
theorem true_yes (t lo hi dr r off n : Int) (w : World) (hf0 : 0 ≤ off) (hf1 : off ≤ 18446744073709551615) (hn0 : 0 ≤ n) (hn1 : n ≤ 18446744073709551615) (h1 : clkB t lo hi dr = true) (h2 : readB r = true) :
    Calls Try.prog 11 #[.agg #[.int .i64 t, .int .i64 lo, .int .i64 hi, .int .i64 dr], .int .i64 r, .int .u64 off, .int .u64 n] w fun e w' => e = .returned (.bool true) ∧ Below w.heap.size w w' := by
  have v1 := fun w => True_any t lo hi dr r w
  rw [trueS_ok (by rw [h1, h2]; rfl)] at v1
  have v2 := fun w => RCValid_any t lo hi dr w
  rw [h1] at v2
  have v3 := fun w => RTime_any r w
  rw [h2] at v3
  obtain ⟨t1, t2, r1, r2, o1, o2, o3⟩ := clkB_bounds h1
  obtain ⟨q1, q2⟩ := readB_bounds h2
  have v4 := fun w => follows_any dr t r n w hn0 hn1 r1 r2 t1 t2 q1 q2
  obtain ⟨p1, p2⟩ := prod_clk (d := dr) (g := max (t - r) (r - t)) r1 r2 (by omega) (by omega)
  obtain ⟨a1, a2⟩ := wrongI_bounds h1 h2
  have a3 : dr * max (t - r) (r - t) / 1000000 ≤ wrongI t dr r := by
    rw [wrongI, show max (r - t) (t - r) = max (t - r) (r - t) by omega]; omega
  have a4 : 0 ≤ dr * max (t - r) (r - t) / 1000000 := by omega
  have el : atLo t lo dr r = r + lo - wrongI t dr r := rfl
  have eh : atHi t hi dr r = r + hi + wrongI t dr r := rfl
  generalize dr * max (t - r) (r - t) / 1000000 = d at *
  generalize wrongI t dr r = x at *
  have m1 : 0 ≤ n % (2 * d + 1) := Int.emod_nonneg _ (by omega)
  have m2 : n % (2 * d + 1) < 2 * d + 1 := Int.emod_lt_of_pos _ (by omega)
  have m3 : 0 ≤ off % (hi - lo + 1) := Int.emod_nonneg _ (by omega)
  have m4 : off % (hi - lo + 1) < hi - lo + 1 := Int.emod_lt_of_pos _ (by omega)
  have v5 := fun w => In_any (atLo t lo dr r) (atHi t hi dr r) (r + (lo + off % (hi - lo + 1)) + (n % (2 * d + 1) - d)) w
  rw [el, eh] at v5 v1
  rw [show (decide (r + lo - x ≤ r + (lo + off % (hi - lo + 1)) + (n % (2 * d + 1) - d)) && decide (r + (lo + off % (hi - lo + 1)) + (n % (2 * d + 1) - d) ≤ r + hi + x)) = true by simp; omega] at v5
  have f1 : -1000000 ≤ n % (2 * d + 1) - d := by omega
  have f2 : n % (2 * d + 1) - d ≤ 1000000 := by omega
  generalize n % (2 * d + 1) - d = fo at *
  have H1 := Lib.hid v1
  have H2 := Lib.hid v2
  have H3 := Lib.hid v3
  have H4 := Lib.hid v4
  have H5 := Lib.hid v5
  clear v1 v2 v3 v4 v5 h1 h2 el eh a3 a4 m1 m2
  go_enter Try.func11, Try.ntmps11
  go_wp2_with fail
  refine (head14_any _).mono ?_
  rintro e w1 ⟨rfl, hb1⟩
  have hB1 : Below w.heap.size w w1 := below_after (by go_grown) hb1
  have hz1 := hb1.size
  try simp only [World.size_alloc, World.size_setCell, World.size_drew] at hz1
  have hw1 := hB1.size
  have c_c0 : w1.cell? ⟨w.heap.size, 0, none⟩ = some (.int .i64 t) := kp hb1 (by go_cell)
  have c_c1 : w1.cell? ⟨w.heap.size, 1, none⟩ = some (.int .i64 lo) := kp hb1 (by go_cell)
  have c_c2 : w1.cell? ⟨w.heap.size, 2, none⟩ = some (.int .i64 hi) := kp hb1 (by go_cell)
  have c_c3 : w1.cell? ⟨w.heap.size, 3, none⟩ = some (.int .i64 dr) := kp hb1 (by go_cell)
  clear hb1
  go_wp2_with fail
  refine (H1.out _).mono ?_
  rintro e w2 ⟨rfl, hb2⟩
  have hB2 : Below w.heap.size w w2 := below_after (by go_grown) hb2
  have hz2 := hb2.size
  try simp only [World.size_alloc, World.size_setCell, World.size_drew] at hz2
  have hw2 := hB2.size
  replace c_c0 : w2.cell? ⟨w.heap.size, 0, none⟩ = some (.int .i64 t) := kp hb2 (by go_cell)
  replace c_c1 : w2.cell? ⟨w.heap.size, 1, none⟩ = some (.int .i64 lo) := kp hb2 (by go_cell)
  replace c_c2 : w2.cell? ⟨w.heap.size, 2, none⟩ = some (.int .i64 hi) := kp hb2 (by go_cell)
  replace c_c3 : w2.cell? ⟨w.heap.size, 3, none⟩ = some (.int .i64 dr) := kp hb2 (by go_cell)
  clear hb2 hB1
  go_wp2_with fail
  refine (H2.out _).mono ?_
  rintro e w3 ⟨rfl, hb3⟩
  have hB3 : Below w.heap.size w w3 := below_after (by go_grown) hb3
  have hz3 := hb3.size
  try simp only [World.size_alloc, World.size_setCell, World.size_drew] at hz3
  have hw3 := hB3.size
  replace c_c0 : w3.cell? ⟨w.heap.size, 0, none⟩ = some (.int .i64 t) := kp hb3 (by go_cell)
  replace c_c1 : w3.cell? ⟨w.heap.size, 1, none⟩ = some (.int .i64 lo) := kp hb3 (by go_cell)
  replace c_c2 : w3.cell? ⟨w.heap.size, 2, none⟩ = some (.int .i64 hi) := kp hb3 (by go_cell)
  replace c_c3 : w3.cell? ⟨w.heap.size, 3, none⟩ = some (.int .i64 dr) := kp hb3 (by go_cell)
  have c_s0 : w3.cell? ⟨w2.heap.size, 0, none⟩ = some (.int .i64 ((r + lo - x))) := kp hb3 (by go_cell)
  have c_s1 : w3.cell? ⟨w2.heap.size, 1, none⟩ = some (.int .i64 ((r + hi + x))) := kp hb3 (by go_cell)
  clear hb3 hB2
  go_wp2_with fail
  refine (H3.out _).mono ?_
  rintro e w9 ⟨rfl, rfl⟩
  go_wp2_with fail
  go_quiet (fail)
  go_wp2_with fail
  refine (H4.out _).mono ?_
  rintro e w9 ⟨rfl, rfl⟩
  go_wp2_with fail
  refine (H5.out _).mono ?_
  rintro e w4 ⟨rfl, hb4⟩
  have hB4 : Below w.heap.size w w4 := below_after (bdn hB3 _) hb4
  go_wp2_with fail
  go_ret
  exact ⟨rfl, by go_grown⟩

theorem true_walk (t lo hi dr r off n : Int) (w : World) (hf0 : 0 ≤ off) (hf1 : off ≤ 18446744073709551615) (hn0 : 0 ≤ n) (hn1 : n ≤ 18446744073709551615) :
    Calls Try.prog 11 #[.agg #[.int .i64 t, .int .i64 lo, .int .i64 hi, .int .i64 dr], .int .i64 r, .int .u64 off, .int .u64 n] w fun e w' => e = .returned (.bool true) ∧ Below w.heap.size w w' := by
  cases h1 : clkB t lo hi dr
  · exact true_no0 t lo hi dr r off n w h1
  · cases h2 : readB r
    · exact true_no1 t lo hi dr r off n w h1 h2
    · exact true_yes t lo hi dr r off n w hf0 hf1 hn0 hn1 h1 h2
end Go.Proofs.Ytollpjdnahemeaa
