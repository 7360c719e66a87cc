import Derived.Test.YtollpjdnahemeaaC5
namespace Go.Proofs.Ytollpjdnahemeaa
open Go.RowKit
set_option linter.unusedSimpArgs false
set_option linter.unusedVariables false
attribute [local go_sem ↓] Go.wp_at_zero Go.wp_at_succ

set_option maxHeartbeats 1600000 in
set_option maxRecDepth 100000 in
theorem head14_any (w : World) : Calls Try.prog 46 #[] w fun e w' => e = .returned (.bool true) ∧ Below w.heap.size w w' := by
  have h1 := fun w => True_any 1000 (-5) 5 100 21000 w
  rw [show trueS 1000 (-5) 5 100 21000 = (20993, 21007, 0) by decide +kernel] at h1
  have h2 := fun w => Set_any 1000 (-5) 5 100 21000 21006 21020 w
  rw [show setS 1000 (-5) 5 100 21000 21006 21020 = ((21000, 6, 7, 100), true, 0) by decide +kernel] at h2
  have h3 := fun w => Set_any 1000 (-5) 5 100 21000 21008 21020 w
  rw [show setS 1000 (-5) 5 100 21000 21008 21020 = ((0, 0, 0, 0), false, 0) by decide +kernel] at h3
  have h4 := fun w => Reading_any 1000 (-5) 5 100 1000 w
  rw [show readingS 1000 (-5) 5 100 1000 = (994, 1006, 0) by decide +kernel] at h4
  have h5 := fun w => Reading_any 1000 (-5) 5 100 (-100) w
  rw [show readingS 1000 (-5) 5 100 (-100) = (0, 0, 4) by decide +kernel] at h5
  have h6 := fun w => True_any 1000 (-5) 5 100 (-1) w
  rw [show trueS 1000 (-5) 5 100 (-1) = (0, 0, 1) by decide +kernel] at h6
  have H1 := Lib.hid h1
  have H2 := Lib.hid h2
  have H3 := Lib.hid h3
  have H4 := Lib.hid h4
  have H5 := Lib.hid h5
  have H6 := Lib.hid h6
  clear h1 h2 h3 h4 h5 h6
  go_enter Try.func46, Try.ntmps46
  go_wp2_with fail
  refine (H1.out _).mono ?_
  rintro e w1 ⟨rfl, hb1⟩
  have hB1 : Below w.heap.size w w1 := below_after (by go_grown) hb1
  have hz1 := hb1.size
  try simp only [World.size_alloc, World.size_setCell, World.size_drew] at hz1
  have hw1 := hB1.size
  have c_c0 : w1.cell? ⟨w.heap.size, 0, none⟩ = some (.int .i64 1000) := kp hb1 (by go_cell)
  have c_c1 : w1.cell? ⟨w.heap.size, 1, none⟩ = some (.int .i64 ((-5))) := kp hb1 (by go_cell)
  have c_c2 : w1.cell? ⟨w.heap.size, 2, none⟩ = some (.int .i64 5) := kp hb1 (by go_cell)
  have c_c3 : w1.cell? ⟨w.heap.size, 3, none⟩ = some (.int .i64 100) := kp hb1 (by go_cell)
  clear hb1
  go_wp2_with fail
  refine (H2.out _).mono ?_
  rintro e w2 ⟨rfl, hb2⟩
  have hB2 : Below w.heap.size w w2 := below_after (by go_grown) hb2
  have hz2 := hb2.size
  try simp only [World.size_alloc, World.size_setCell, World.size_drew] at hz2
  have hw2 := hB2.size
  replace c_c0 : w2.cell? ⟨w.heap.size, 0, none⟩ = some (.int .i64 1000) := kp hb2 (by go_cell)
  replace c_c1 : w2.cell? ⟨w.heap.size, 1, none⟩ = some (.int .i64 ((-5))) := kp hb2 (by go_cell)
  replace c_c2 : w2.cell? ⟨w.heap.size, 2, none⟩ = some (.int .i64 5) := kp hb2 (by go_cell)
  replace c_c3 : w2.cell? ⟨w.heap.size, 3, none⟩ = some (.int .i64 100) := kp hb2 (by go_cell)
  have c_a0 : w2.cell? ⟨w1.heap.size, 0, none⟩ = some (.int .i64 20993) := kp hb2 (by go_cell)
  have c_a1 : w2.cell? ⟨w1.heap.size, 1, none⟩ = some (.int .i64 21007) := kp hb2 (by go_cell)
  clear hb2 hB1
  go_wp2_with fail
  refine (H3.out _).mono ?_
  rintro e w3 ⟨rfl, hb3⟩
  have hB3 : Below w.heap.size w w3 := below_after (by go_grown) hb3
  have hz3 := hb3.size
  try simp only [World.size_alloc, World.size_setCell, World.size_drew] at hz3
  have hw3 := hB3.size
  replace c_c0 : w3.cell? ⟨w.heap.size, 0, none⟩ = some (.int .i64 1000) := kp hb3 (by go_cell)
  replace c_c1 : w3.cell? ⟨w.heap.size, 1, none⟩ = some (.int .i64 ((-5))) := kp hb3 (by go_cell)
  replace c_c2 : w3.cell? ⟨w.heap.size, 2, none⟩ = some (.int .i64 5) := kp hb3 (by go_cell)
  replace c_c3 : w3.cell? ⟨w.heap.size, 3, none⟩ = some (.int .i64 100) := kp hb3 (by go_cell)
  replace c_a0 : w3.cell? ⟨w1.heap.size, 0, none⟩ = some (.int .i64 20993) := kp hb3 (by go_cell)
  replace c_a1 : w3.cell? ⟨w1.heap.size, 1, none⟩ = some (.int .i64 21007) := kp hb3 (by go_cell)
  have c_b0 : w3.cell? ⟨w2.heap.size, 0, none⟩ = some (.int .i64 21000) := kp hb3 (by go_cell)
  have c_b1 : w3.cell? ⟨w2.heap.size, 1, none⟩ = some (.int .i64 6) := kp hb3 (by go_cell)
  have c_b2 : w3.cell? ⟨w2.heap.size, 2, none⟩ = some (.int .i64 7) := kp hb3 (by go_cell)
  have c_b3 : w3.cell? ⟨w2.heap.size, 3, none⟩ = some (.int .i64 100) := kp hb3 (by go_cell)
  clear hb3 hB2
  go_wp2_with fail
  refine (H4.out _).mono ?_
  rintro e w4 ⟨rfl, hb4⟩
  have hB4 : Below w.heap.size w w4 := below_after (by go_grown) hb4
  have hz4 := hb4.size
  try simp only [World.size_alloc, World.size_setCell, World.size_drew] at hz4
  have hw4 := hB4.size
  replace c_c0 : w4.cell? ⟨w.heap.size, 0, none⟩ = some (.int .i64 1000) := kp hb4 (by go_cell)
  replace c_c1 : w4.cell? ⟨w.heap.size, 1, none⟩ = some (.int .i64 ((-5))) := kp hb4 (by go_cell)
  replace c_c2 : w4.cell? ⟨w.heap.size, 2, none⟩ = some (.int .i64 5) := kp hb4 (by go_cell)
  replace c_c3 : w4.cell? ⟨w.heap.size, 3, none⟩ = some (.int .i64 100) := kp hb4 (by go_cell)
  replace c_a0 : w4.cell? ⟨w1.heap.size, 0, none⟩ = some (.int .i64 20993) := kp hb4 (by go_cell)
  replace c_a1 : w4.cell? ⟨w1.heap.size, 1, none⟩ = some (.int .i64 21007) := kp hb4 (by go_cell)
  replace c_b0 : w4.cell? ⟨w2.heap.size, 0, none⟩ = some (.int .i64 21000) := kp hb4 (by go_cell)
  replace c_b1 : w4.cell? ⟨w2.heap.size, 1, none⟩ = some (.int .i64 6) := kp hb4 (by go_cell)
  replace c_b2 : w4.cell? ⟨w2.heap.size, 2, none⟩ = some (.int .i64 7) := kp hb4 (by go_cell)
  replace c_b3 : w4.cell? ⟨w2.heap.size, 3, none⟩ = some (.int .i64 100) := kp hb4 (by go_cell)
  clear hb4 hB3
  go_wp2_with fail
  refine (H5.out _).mono ?_
  rintro e w5 ⟨rfl, hb5⟩
  have hB5 : Below w.heap.size w w5 := below_after (by go_grown) hb5
  have hz5 := hb5.size
  try simp only [World.size_alloc, World.size_setCell, World.size_drew] at hz5
  have hw5 := hB5.size
  replace c_c0 : w5.cell? ⟨w.heap.size, 0, none⟩ = some (.int .i64 1000) := kp hb5 (by go_cell)
  replace c_c1 : w5.cell? ⟨w.heap.size, 1, none⟩ = some (.int .i64 ((-5))) := kp hb5 (by go_cell)
  replace c_c2 : w5.cell? ⟨w.heap.size, 2, none⟩ = some (.int .i64 5) := kp hb5 (by go_cell)
  replace c_c3 : w5.cell? ⟨w.heap.size, 3, none⟩ = some (.int .i64 100) := kp hb5 (by go_cell)
  replace c_a0 : w5.cell? ⟨w1.heap.size, 0, none⟩ = some (.int .i64 20993) := kp hb5 (by go_cell)
  replace c_a1 : w5.cell? ⟨w1.heap.size, 1, none⟩ = some (.int .i64 21007) := kp hb5 (by go_cell)
  replace c_b0 : w5.cell? ⟨w2.heap.size, 0, none⟩ = some (.int .i64 21000) := kp hb5 (by go_cell)
  replace c_b1 : w5.cell? ⟨w2.heap.size, 1, none⟩ = some (.int .i64 6) := kp hb5 (by go_cell)
  replace c_b2 : w5.cell? ⟨w2.heap.size, 2, none⟩ = some (.int .i64 7) := kp hb5 (by go_cell)
  replace c_b3 : w5.cell? ⟨w2.heap.size, 3, none⟩ = some (.int .i64 100) := kp hb5 (by go_cell)
  have c_d0 : w5.cell? ⟨w4.heap.size, 0, none⟩ = some (.int .i64 994) := kp hb5 (by go_cell)
  have c_d1 : w5.cell? ⟨w4.heap.size, 1, none⟩ = some (.int .i64 1006) := kp hb5 (by go_cell)
  clear hb5 hB4
  go_wp2_with fail
  refine (H6.out _).mono ?_
  rintro e w6 ⟨rfl, hb6⟩
  have hB6 : Below w.heap.size w w6 := below_after (by go_grown) hb6
  have hz6 := hb6.size
  try simp only [World.size_alloc, World.size_setCell, World.size_drew] at hz6
  have hw6 := hB6.size
  replace c_c0 : w6.cell? ⟨w.heap.size, 0, none⟩ = some (.int .i64 1000) := kp hb6 (by go_cell)
  replace c_c1 : w6.cell? ⟨w.heap.size, 1, none⟩ = some (.int .i64 ((-5))) := kp hb6 (by go_cell)
  replace c_c2 : w6.cell? ⟨w.heap.size, 2, none⟩ = some (.int .i64 5) := kp hb6 (by go_cell)
  replace c_c3 : w6.cell? ⟨w.heap.size, 3, none⟩ = some (.int .i64 100) := kp hb6 (by go_cell)
  replace c_a0 : w6.cell? ⟨w1.heap.size, 0, none⟩ = some (.int .i64 20993) := kp hb6 (by go_cell)
  replace c_a1 : w6.cell? ⟨w1.heap.size, 1, none⟩ = some (.int .i64 21007) := kp hb6 (by go_cell)
  replace c_b0 : w6.cell? ⟨w2.heap.size, 0, none⟩ = some (.int .i64 21000) := kp hb6 (by go_cell)
  replace c_b1 : w6.cell? ⟨w2.heap.size, 1, none⟩ = some (.int .i64 6) := kp hb6 (by go_cell)
  replace c_b2 : w6.cell? ⟨w2.heap.size, 2, none⟩ = some (.int .i64 7) := kp hb6 (by go_cell)
  replace c_b3 : w6.cell? ⟨w2.heap.size, 3, none⟩ = some (.int .i64 100) := kp hb6 (by go_cell)
  replace c_d0 : w6.cell? ⟨w4.heap.size, 0, none⟩ = some (.int .i64 994) := kp hb6 (by go_cell)
  replace c_d1 : w6.cell? ⟨w4.heap.size, 1, none⟩ = some (.int .i64 1006) := kp hb6 (by go_cell)
  clear hb6 hB5
  go_wp2_with fail
  go_ret
  exact ⟨rfl, by go_grown⟩

set_option maxHeartbeats 1600000 in
set_option maxRecDepth 100000 in
theorem near_any (n m : Int) (w : World) (h1 : 0 ≤ n) (h2 : n ≤ 18446744073709551615) (h3 : 0 ≤ m) (h4 : m ≤ 1000000000000) :
    Calls Try.prog 85 #[.int .u64 n, .int .i64 m] w fun e w' => e = .returned (.int .i64 (n % (2 * m + 1) - m)) ∧ w = w' := by
  have m1 : 0 ≤ n % (2 * m + 1) := Int.emod_nonneg _ (by omega)
  have m2 : n % (2 * m + 1) < 2 * m + 1 := Int.emod_lt_of_pos _ (by omega)
  go_enter Try.func85, Try.ntmps85
  go_wp2_with fail
  go_ret
  exact ⟨rfl, rfl⟩

set_option maxHeartbeats 1600000 in
set_option maxRecDepth 100000 in
theorem follows_any (dr a b n : Int) (w : World) (h1 : 0 ≤ n) (h2 : n ≤ 18446744073709551615) (h3 : 0 ≤ dr) (h4 : dr ≤ 1000) (ha : 0 ≤ a) (ha2 : a ≤ 1000000000) (hb : 0 ≤ b) (hb2 : b ≤ 1000000000) :
    Calls Try.prog 56 #[.int .i64 dr, .int .i64 a, .int .i64 b, .int .u64 n] w fun e w' => e = .returned (.int .i64 (n % (2 * (dr * max (a - b) (b - a) / 1000000) + 1) - dr * max (a - b) (b - a) / 1000000)) ∧ w = w' := by
  obtain ⟨p1, p2⟩ := prod_clk (d := dr) (g := max (a - b) (b - a)) h3 h4 (by omega) (by omega)
  have c1 := fun w => near_any n (dr * max (a - b) (b - a) / 1000000) w h1 h2 (by omega) (by omega)
  by_cases hs : a - b < b - a
  · rw [show max (a - b) (b - a) = b - a by omega] at *
    have HC := Lib.hid c1
    clear c1
    go_enter Try.func56, Try.ntmps56
    go_wp2_with fail
    refine (HC.out _).mono ?_
    rintro e w9 ⟨rfl, rfl⟩
    go_wp2_with fail
    go_ret
    exact ⟨rfl, rfl⟩
  · rw [show max (a - b) (b - a) = a - b by omega] at *
    have HC := Lib.hid c1
    clear c1
    go_enter Try.func56, Try.ntmps56
    go_wp2_with fail
    refine (HC.out _).mono ?_
    rintro e w9 ⟨rfl, rfl⟩
    go_wp2_with fail
    go_ret
    exact ⟨rfl, rfl⟩

end Go.Proofs.Ytollpjdnahemeaa
