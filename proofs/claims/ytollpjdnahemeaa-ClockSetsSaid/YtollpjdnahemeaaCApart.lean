import Derived.Test.YtollpjdnahemeaaCOrder
namespace Go.Proofs.Ytollpjdnahemeaa
open Go.RowKit
set_option linter.unusedSimpArgs false
set_option linter.unusedVariables false
attribute [local go_sem ↓] Go.wp_at_zero Go.wp_at_succ

set_option maxHeartbeats 1600000 in
set_option maxRecDepth 100000 in
theorem apart_no (t lo hi dr r sl sh m : Int) (w : World) (h1 : (clkB t lo hi dr && readB r) = false) :
    Calls Try.prog 16 #[.agg #[.int .i64 t, .int .i64 lo, .int .i64 hi, .int .i64 dr], .int .i64 r, .agg #[.int .i64 sl, .int .i64 sh], .int .u16 m] w fun e w' => e = .returned (.bool true) ∧ Below w.heap.size w w' := by
  have v1 := fun w => True_any t lo hi dr r w
  rw [trueS_no h1] at v1
  have H1 := Lib.hid v1
  clear v1 h1
  go_enter Try.func16, Try.ntmps16
  go_wp2_with fail
  refine (head14_any _).mono ?_
  rintro e w1 ⟨rfl, hb1⟩
  have hB1 : Below w.heap.size w w1 := below_after (by go_grown) hb1
  have hz1 := hb1.size
  try simp only [World.size_alloc, World.size_setCell, World.size_drew] at hz1
  have hw1 := hB1.size
  have c_c0 : w1.cell? ⟨w.heap.size, 0, none⟩ = some (.int .i64 t) := kp hb1 (by go_cell)
  have c_c1 : w1.cell? ⟨w.heap.size, 1, none⟩ = some (.int .i64 lo) := kp hb1 (by go_cell)
  have c_c2 : w1.cell? ⟨w.heap.size, 2, none⟩ = some (.int .i64 hi) := kp hb1 (by go_cell)
  have c_c3 : w1.cell? ⟨w.heap.size, 3, none⟩ = some (.int .i64 dr) := kp hb1 (by go_cell)
  have c_n0 : w1.cell? ⟨w.heap.size + 1, 0, none⟩ = some (.int .i64 sl) := kp hb1 (by go_cell)
  have c_n1 : w1.cell? ⟨w.heap.size + 1, 1, none⟩ = some (.int .i64 sh) := kp hb1 (by go_cell)
  clear hb1
  go_wp2_with fail
  refine (H1.out _).mono ?_
  rintro e w2 ⟨rfl, hb2⟩
  have hB2 : Below w.heap.size w w2 := below_after (by go_grown) hb2
  have hz2 := hb2.size
  try simp only [World.size_alloc, World.size_setCell, World.size_drew] at hz2
  have hw2 := hB2.size
  replace c_c0 : w2.cell? ⟨w.heap.size, 0, none⟩ = some (.int .i64 t) := kp hb2 (by go_cell)
  replace c_c1 : w2.cell? ⟨w.heap.size, 1, none⟩ = some (.int .i64 lo) := kp hb2 (by go_cell)
  replace c_c2 : w2.cell? ⟨w.heap.size, 2, none⟩ = some (.int .i64 hi) := kp hb2 (by go_cell)
  replace c_c3 : w2.cell? ⟨w.heap.size, 3, none⟩ = some (.int .i64 dr) := kp hb2 (by go_cell)
  replace c_n0 : w2.cell? ⟨w.heap.size + 1, 0, none⟩ = some (.int .i64 sl) := kp hb2 (by go_cell)
  replace c_n1 : w2.cell? ⟨w.heap.size + 1, 1, none⟩ = some (.int .i64 sh) := kp hb2 (by go_cell)
  clear hb2 hB1
  go_wp2_with fail
  go_ret
  exact ⟨rfl, by go_grown⟩

set_option maxHeartbeats 1600000 in
set_option maxRecDepth 100000 in
theorem apart_inv (t lo hi dr r sl sh m : Int) (w : World) (h1 : (clkB t lo hi dr && readB r) = true) (h2 : vld sl sh = false) :
    Calls Try.prog 16 #[.agg #[.int .i64 t, .int .i64 lo, .int .i64 hi, .int .i64 dr], .int .i64 r, .agg #[.int .i64 sl, .int .i64 sh], .int .u16 m] w fun e w' => e = .returned (.bool true) ∧ Below w.heap.size w w' := by
  have v1 := fun w => True_any t lo hi dr r w
  rw [trueS_ok h1] at v1
  have v2 := fun w => Valid_any sl sh w
  rw [h2] at v2
  generalize atLo t lo dr r = x at *
  generalize atHi t hi dr r = y at *
  have H1 := Lib.hid v1
  have H2 := Lib.hid v2
  clear v1 v2 h1 h2
  go_enter Try.func16, Try.ntmps16
  go_wp2_with fail
  refine (head14_any _).mono ?_
  rintro e w1 ⟨rfl, hb1⟩
  have hB1 : Below w.heap.size w w1 := below_after (by go_grown) hb1
  have hz1 := hb1.size
  try simp only [World.size_alloc, World.size_setCell, World.size_drew] at hz1
  have hw1 := hB1.size
  have c_c0 : w1.cell? ⟨w.heap.size, 0, none⟩ = some (.int .i64 t) := kp hb1 (by go_cell)
  have c_c1 : w1.cell? ⟨w.heap.size, 1, none⟩ = some (.int .i64 lo) := kp hb1 (by go_cell)
  have c_c2 : w1.cell? ⟨w.heap.size, 2, none⟩ = some (.int .i64 hi) := kp hb1 (by go_cell)
  have c_c3 : w1.cell? ⟨w.heap.size, 3, none⟩ = some (.int .i64 dr) := kp hb1 (by go_cell)
  have c_n0 : w1.cell? ⟨w.heap.size + 1, 0, none⟩ = some (.int .i64 sl) := kp hb1 (by go_cell)
  have c_n1 : w1.cell? ⟨w.heap.size + 1, 1, none⟩ = some (.int .i64 sh) := kp hb1 (by go_cell)
  clear hb1
  go_wp2_with fail
  refine (H1.out _).mono ?_
  rintro e w2 ⟨rfl, hb2⟩
  have hB2 : Below w.heap.size w w2 := below_after (by go_grown) hb2
  have hz2 := hb2.size
  try simp only [World.size_alloc, World.size_setCell, World.size_drew] at hz2
  have hw2 := hB2.size
  replace c_c0 : w2.cell? ⟨w.heap.size, 0, none⟩ = some (.int .i64 t) := kp hb2 (by go_cell)
  replace c_c1 : w2.cell? ⟨w.heap.size, 1, none⟩ = some (.int .i64 lo) := kp hb2 (by go_cell)
  replace c_c2 : w2.cell? ⟨w.heap.size, 2, none⟩ = some (.int .i64 hi) := kp hb2 (by go_cell)
  replace c_c3 : w2.cell? ⟨w.heap.size, 3, none⟩ = some (.int .i64 dr) := kp hb2 (by go_cell)
  replace c_n0 : w2.cell? ⟨w.heap.size + 1, 0, none⟩ = some (.int .i64 sl) := kp hb2 (by go_cell)
  replace c_n1 : w2.cell? ⟨w.heap.size + 1, 1, none⟩ = some (.int .i64 sh) := kp hb2 (by go_cell)
  clear hb2 hB1
  go_wp2_with fail
  refine (H2.out _).mono ?_
  rintro e w3 ⟨rfl, hb3⟩
  have hB3 : Below w.heap.size w w3 := below_after (by go_grown) hb3
  have hz3 := hb3.size
  try simp only [World.size_alloc, World.size_setCell, World.size_drew] at hz3
  have hw3 := hB3.size
  replace c_c0 : w3.cell? ⟨w.heap.size, 0, none⟩ = some (.int .i64 t) := kp hb3 (by go_cell)
  replace c_c1 : w3.cell? ⟨w.heap.size, 1, none⟩ = some (.int .i64 lo) := kp hb3 (by go_cell)
  replace c_c2 : w3.cell? ⟨w.heap.size, 2, none⟩ = some (.int .i64 hi) := kp hb3 (by go_cell)
  replace c_c3 : w3.cell? ⟨w.heap.size, 3, none⟩ = some (.int .i64 dr) := kp hb3 (by go_cell)
  replace c_n0 : w3.cell? ⟨w.heap.size + 1, 0, none⟩ = some (.int .i64 sl) := kp hb3 (by go_cell)
  replace c_n1 : w3.cell? ⟨w.heap.size + 1, 1, none⟩ = some (.int .i64 sh) := kp hb3 (by go_cell)
  have c_s0 : w3.cell? ⟨w2.heap.size, 0, none⟩ = some (.int .i64 x) := kp hb3 (by go_cell)
  have c_s1 : w3.cell? ⟨w2.heap.size, 1, none⟩ = some (.int .i64 y) := kp hb3 (by go_cell)
  clear hb3 hB2
  go_wp2_with fail
  go_ret
  exact ⟨rfl, by go_grown⟩

theorem setS_own {t lo hi dr m : Int} (h : clkB t lo hi dr = true) (hm0 : 0 ≤ m) (hm1 : m ≤ 65535) : setS t lo hi dr t (t + lo - m) (t + hi + m) = ((t, lo, hi, dr), true, 0) := by
  obtain ⟨t1, t2, r1, r2, o1, o2, o3⟩ := clkB_bounds h
  have hw : wrongI t dr t = 0 := by
    rw [wrongI, show max (t - t) (t - t) = 0 by omega, Int.mul_zero]; rfl
  have el : atLo t lo dr t = t + lo := by rw [atLo, hw]; omega
  have eh : atHi t hi dr t = t + hi := by rw [atHi, hw]; omega
  have hr : readB t = true := by simp [readB]; omega
  have hv : vld (t + lo - m) (t + hi + m) = true := by simp [vld]; omega
  rw [setS, h, hr, hv, el, eh, show min (t + hi) (t + hi + m) = t + hi by omega, show max (t + lo) (t + lo - m) = t + lo by omega, if_pos (by rfl), if_neg (by omega), show t + lo - t = lo by omega, show t + hi - t = hi by omega, h, if_pos rfl]
theorem trueS_own {t lo hi dr : Int} (h : clkB t lo hi dr = true) : trueS t lo hi dr t = (t + lo, t + hi, 0) := by
  obtain ⟨t1, t2, r1, r2, o1, o2, o3⟩ := clkB_bounds h
  have hw : wrongI t dr t = 0 := by
    rw [wrongI, show max (t - t) (t - t) = 0 by omega, Int.mul_zero]; rfl
  have hr : readB t = true := by simp [readB]; omega
  rw [trueS_ok (by rw [h, hr]; rfl), atLo, atHi, hw]; simp

set_option maxHeartbeats 1600000 in
set_option maxRecDepth 100000 in
theorem apart_a1 (t lo hi dr r sl sh m : Int) (w : World) (hm0 : 0 ≤ m) (hm1 : m ≤ 65535) (h1 : (clkB t lo hi dr && readB r) = true) (h2 : vld sl sh = true) (hc : atHi t hi dr r < sl) :
    Calls Try.prog 16 #[.agg #[.int .i64 t, .int .i64 lo, .int .i64 hi, .int .i64 dr], .int .i64 r, .agg #[.int .i64 sl, .int .i64 sh], .int .u16 m] w fun e w' => e = .returned (.bool true) ∧ Below w.heap.size w w' := by
  have v1 := fun w => True_any t lo hi dr r w
  rw [trueS_ok h1] at v1
  have v2 := fun w => Valid_any sl sh w
  rw [h2] at v2
  have v3 := fun w => Set_any t lo hi dr r sl sh w
  have b := atLo_bounds (and_left h1) (and_right h1)
  have b2 := vld_bounds h2
  obtain ⟨t1, t2, r1, r2, o1, o2, o3⟩ := clkB_bounds (and_left h1)
  rw [show setS t lo hi dr r sl sh = ((0, 0, 0, 0), false, 0) by rw [setS, h1, h2, if_pos (by rfl), if_pos (by omega)]] at v3
  have v4 := fun w => True_any t lo hi dr t w
  rw [trueS_own (and_left h1)] at v4
  have v5 := fun w => Set_any t lo hi dr t (t + lo - m) (t + hi + m) w
  rw [setS_own (and_left h1) hm0 hm1] at v5
  generalize atLo t lo dr r = x at *
  generalize atHi t hi dr r = y at *
  obtain ⟨b1, b3, b4⟩ := b
  obtain ⟨b5, b6, b7⟩ := b2
  have H1 := Lib.hid v1
  have H2 := Lib.hid v2
  have H3 := Lib.hid v3
  have H4 := Lib.hid v4
  have H5 := Lib.hid v5
  clear v1 v2 v3 v4 v5 h1 h2
  go_enter Try.func16, Try.ntmps16
  go_wp2_with fail
  refine (head14_any _).mono ?_
  rintro e w1 ⟨rfl, hb1⟩
  have hB1 : Below w.heap.size w w1 := below_after (by go_grown) hb1
  have hz1 := hb1.size
  try simp only [World.size_alloc, World.size_setCell, World.size_drew] at hz1
  have hw1 := hB1.size
  have c_c0 : w1.cell? ⟨w.heap.size, 0, none⟩ = some (.int .i64 t) := kp hb1 (by go_cell)
  have c_c1 : w1.cell? ⟨w.heap.size, 1, none⟩ = some (.int .i64 lo) := kp hb1 (by go_cell)
  have c_c2 : w1.cell? ⟨w.heap.size, 2, none⟩ = some (.int .i64 hi) := kp hb1 (by go_cell)
  have c_c3 : w1.cell? ⟨w.heap.size, 3, none⟩ = some (.int .i64 dr) := kp hb1 (by go_cell)
  have c_n0 : w1.cell? ⟨w.heap.size + 1, 0, none⟩ = some (.int .i64 sl) := kp hb1 (by go_cell)
  have c_n1 : w1.cell? ⟨w.heap.size + 1, 1, none⟩ = some (.int .i64 sh) := kp hb1 (by go_cell)
  clear hb1
  go_wp2_with fail
  refine (H1.out _).mono ?_
  rintro e w2 ⟨rfl, hb2⟩
  have hB2 : Below w.heap.size w w2 := below_after (by go_grown) hb2
  have hz2 := hb2.size
  try simp only [World.size_alloc, World.size_setCell, World.size_drew] at hz2
  have hw2 := hB2.size
  replace c_c0 : w2.cell? ⟨w.heap.size, 0, none⟩ = some (.int .i64 t) := kp hb2 (by go_cell)
  replace c_c1 : w2.cell? ⟨w.heap.size, 1, none⟩ = some (.int .i64 lo) := kp hb2 (by go_cell)
  replace c_c2 : w2.cell? ⟨w.heap.size, 2, none⟩ = some (.int .i64 hi) := kp hb2 (by go_cell)
  replace c_c3 : w2.cell? ⟨w.heap.size, 3, none⟩ = some (.int .i64 dr) := kp hb2 (by go_cell)
  replace c_n0 : w2.cell? ⟨w.heap.size + 1, 0, none⟩ = some (.int .i64 sl) := kp hb2 (by go_cell)
  replace c_n1 : w2.cell? ⟨w.heap.size + 1, 1, none⟩ = some (.int .i64 sh) := kp hb2 (by go_cell)
  clear hb2 hB1
  go_wp2_with fail
  refine (H2.out _).mono ?_
  rintro e w3 ⟨rfl, hb3⟩
  have hB3 : Below w.heap.size w w3 := below_after (by go_grown) hb3
  have hz3 := hb3.size
  try simp only [World.size_alloc, World.size_setCell, World.size_drew] at hz3
  have hw3 := hB3.size
  replace c_c0 : w3.cell? ⟨w.heap.size, 0, none⟩ = some (.int .i64 t) := kp hb3 (by go_cell)
  replace c_c1 : w3.cell? ⟨w.heap.size, 1, none⟩ = some (.int .i64 lo) := kp hb3 (by go_cell)
  replace c_c2 : w3.cell? ⟨w.heap.size, 2, none⟩ = some (.int .i64 hi) := kp hb3 (by go_cell)
  replace c_c3 : w3.cell? ⟨w.heap.size, 3, none⟩ = some (.int .i64 dr) := kp hb3 (by go_cell)
  replace c_n0 : w3.cell? ⟨w.heap.size + 1, 0, none⟩ = some (.int .i64 sl) := kp hb3 (by go_cell)
  replace c_n1 : w3.cell? ⟨w.heap.size + 1, 1, none⟩ = some (.int .i64 sh) := kp hb3 (by go_cell)
  have c_s0 : w3.cell? ⟨w2.heap.size, 0, none⟩ = some (.int .i64 x) := kp hb3 (by go_cell)
  have c_s1 : w3.cell? ⟨w2.heap.size, 1, none⟩ = some (.int .i64 y) := kp hb3 (by go_cell)
  clear hb3 hB2
  go_wp2_with fail
  refine (H3.out _).mono ?_
  rintro e w4 ⟨rfl, hb4⟩
  have hB4 : Below w.heap.size w w4 := below_after (by go_grown) hb4
  have hz4 := hb4.size
  try simp only [World.size_alloc, World.size_setCell, World.size_drew] at hz4
  have hw4 := hB4.size
  replace c_c0 : w4.cell? ⟨w.heap.size, 0, none⟩ = some (.int .i64 t) := kp hb4 (by go_cell)
  replace c_c1 : w4.cell? ⟨w.heap.size, 1, none⟩ = some (.int .i64 lo) := kp hb4 (by go_cell)
  replace c_c2 : w4.cell? ⟨w.heap.size, 2, none⟩ = some (.int .i64 hi) := kp hb4 (by go_cell)
  replace c_c3 : w4.cell? ⟨w.heap.size, 3, none⟩ = some (.int .i64 dr) := kp hb4 (by go_cell)
  replace c_n0 : w4.cell? ⟨w.heap.size + 1, 0, none⟩ = some (.int .i64 sl) := kp hb4 (by go_cell)
  replace c_n1 : w4.cell? ⟨w.heap.size + 1, 1, none⟩ = some (.int .i64 sh) := kp hb4 (by go_cell)
  replace c_s0 : w4.cell? ⟨w2.heap.size, 0, none⟩ = some (.int .i64 x) := kp hb4 (by go_cell)
  replace c_s1 : w4.cell? ⟨w2.heap.size, 1, none⟩ = some (.int .i64 y) := kp hb4 (by go_cell)
  clear hb4 hB3
  go_wp2_with fail
  refine (H4.out _).mono ?_
  rintro e w5 ⟨rfl, hb5⟩
  have hB5 : Below w.heap.size w w5 := below_after (by go_grown) hb5
  have hz5 := hb5.size
  try simp only [World.size_alloc, World.size_setCell, World.size_drew] at hz5
  have hw5 := hB5.size
  replace c_c0 : w5.cell? ⟨w.heap.size, 0, none⟩ = some (.int .i64 t) := kp hb5 (by go_cell)
  replace c_c1 : w5.cell? ⟨w.heap.size, 1, none⟩ = some (.int .i64 lo) := kp hb5 (by go_cell)
  replace c_c2 : w5.cell? ⟨w.heap.size, 2, none⟩ = some (.int .i64 hi) := kp hb5 (by go_cell)
  replace c_c3 : w5.cell? ⟨w.heap.size, 3, none⟩ = some (.int .i64 dr) := kp hb5 (by go_cell)
  replace c_n0 : w5.cell? ⟨w.heap.size + 1, 0, none⟩ = some (.int .i64 sl) := kp hb5 (by go_cell)
  replace c_n1 : w5.cell? ⟨w.heap.size + 1, 1, none⟩ = some (.int .i64 sh) := kp hb5 (by go_cell)
  replace c_s0 : w5.cell? ⟨w2.heap.size, 0, none⟩ = some (.int .i64 x) := kp hb5 (by go_cell)
  replace c_s1 : w5.cell? ⟨w2.heap.size, 1, none⟩ = some (.int .i64 y) := kp hb5 (by go_cell)
  clear hb5 hB4
  go_wp2_with fail
  refine (H5.out _).mono ?_
  rintro e w6 ⟨rfl, hb6⟩
  have hB6 : Below w.heap.size w w6 := below_after (by go_grown) hb6
  have hz6 := hb6.size
  try simp only [World.size_alloc, World.size_setCell, World.size_drew] at hz6
  have hw6 := hB6.size
  replace c_c0 : w6.cell? ⟨w.heap.size, 0, none⟩ = some (.int .i64 t) := kp hb6 (by go_cell)
  replace c_c1 : w6.cell? ⟨w.heap.size, 1, none⟩ = some (.int .i64 lo) := kp hb6 (by go_cell)
  replace c_c2 : w6.cell? ⟨w.heap.size, 2, none⟩ = some (.int .i64 hi) := kp hb6 (by go_cell)
  replace c_c3 : w6.cell? ⟨w.heap.size, 3, none⟩ = some (.int .i64 dr) := kp hb6 (by go_cell)
  have c_o0 : w6.cell? ⟨w5.heap.size, 0, none⟩ = some (.int .i64 ((t + lo - m))) := kp hb6 (by go_cell)
  have c_o1 : w6.cell? ⟨w5.heap.size, 1, none⟩ = some (.int .i64 ((t + hi + m))) := kp hb6 (by go_cell)
  clear hb6 hB5
  go_wp2_with fail
  go_ret
  exact ⟨ret_bool (by simp), by go_grown⟩

set_option maxHeartbeats 1600000 in
set_option maxRecDepth 100000 in
theorem apart_a2 (t lo hi dr r sl sh m : Int) (w : World) (hm0 : 0 ≤ m) (hm1 : m ≤ 65535) (h1 : (clkB t lo hi dr && readB r) = true) (h2 : vld sl sh = true) (hd : ¬ atHi t hi dr r < sl) (hc : sh < atLo t lo dr r) :
    Calls Try.prog 16 #[.agg #[.int .i64 t, .int .i64 lo, .int .i64 hi, .int .i64 dr], .int .i64 r, .agg #[.int .i64 sl, .int .i64 sh], .int .u16 m] w fun e w' => e = .returned (.bool true) ∧ Below w.heap.size w w' := by
  have v1 := fun w => True_any t lo hi dr r w
  rw [trueS_ok h1] at v1
  have v2 := fun w => Valid_any sl sh w
  rw [h2] at v2
  have v3 := fun w => Set_any t lo hi dr r sl sh w
  have b := atLo_bounds (and_left h1) (and_right h1)
  have b2 := vld_bounds h2
  obtain ⟨t1, t2, r1, r2, o1, o2, o3⟩ := clkB_bounds (and_left h1)
  rw [show setS t lo hi dr r sl sh = ((0, 0, 0, 0), false, 0) by rw [setS, h1, h2, if_pos (by rfl), if_pos (by omega)]] at v3
  have v4 := fun w => True_any t lo hi dr t w
  rw [trueS_own (and_left h1)] at v4
  have v5 := fun w => Set_any t lo hi dr t (t + lo - m) (t + hi + m) w
  rw [setS_own (and_left h1) hm0 hm1] at v5
  generalize atLo t lo dr r = x at *
  generalize atHi t hi dr r = y at *
  obtain ⟨b1, b3, b4⟩ := b
  obtain ⟨b5, b6, b7⟩ := b2
  have H1 := Lib.hid v1
  have H2 := Lib.hid v2
  have H3 := Lib.hid v3
  have H4 := Lib.hid v4
  have H5 := Lib.hid v5
  clear v1 v2 v3 v4 v5 h1 h2
  go_enter Try.func16, Try.ntmps16
  go_wp2_with fail
  refine (head14_any _).mono ?_
  rintro e w1 ⟨rfl, hb1⟩
  have hB1 : Below w.heap.size w w1 := below_after (by go_grown) hb1
  have hz1 := hb1.size
  try simp only [World.size_alloc, World.size_setCell, World.size_drew] at hz1
  have hw1 := hB1.size
  have c_c0 : w1.cell? ⟨w.heap.size, 0, none⟩ = some (.int .i64 t) := kp hb1 (by go_cell)
  have c_c1 : w1.cell? ⟨w.heap.size, 1, none⟩ = some (.int .i64 lo) := kp hb1 (by go_cell)
  have c_c2 : w1.cell? ⟨w.heap.size, 2, none⟩ = some (.int .i64 hi) := kp hb1 (by go_cell)
  have c_c3 : w1.cell? ⟨w.heap.size, 3, none⟩ = some (.int .i64 dr) := kp hb1 (by go_cell)
  have c_n0 : w1.cell? ⟨w.heap.size + 1, 0, none⟩ = some (.int .i64 sl) := kp hb1 (by go_cell)
  have c_n1 : w1.cell? ⟨w.heap.size + 1, 1, none⟩ = some (.int .i64 sh) := kp hb1 (by go_cell)
  clear hb1
  go_wp2_with fail
  refine (H1.out _).mono ?_
  rintro e w2 ⟨rfl, hb2⟩
  have hB2 : Below w.heap.size w w2 := below_after (by go_grown) hb2
  have hz2 := hb2.size
  try simp only [World.size_alloc, World.size_setCell, World.size_drew] at hz2
  have hw2 := hB2.size
  replace c_c0 : w2.cell? ⟨w.heap.size, 0, none⟩ = some (.int .i64 t) := kp hb2 (by go_cell)
  replace c_c1 : w2.cell? ⟨w.heap.size, 1, none⟩ = some (.int .i64 lo) := kp hb2 (by go_cell)
  replace c_c2 : w2.cell? ⟨w.heap.size, 2, none⟩ = some (.int .i64 hi) := kp hb2 (by go_cell)
  replace c_c3 : w2.cell? ⟨w.heap.size, 3, none⟩ = some (.int .i64 dr) := kp hb2 (by go_cell)
  replace c_n0 : w2.cell? ⟨w.heap.size + 1, 0, none⟩ = some (.int .i64 sl) := kp hb2 (by go_cell)
  replace c_n1 : w2.cell? ⟨w.heap.size + 1, 1, none⟩ = some (.int .i64 sh) := kp hb2 (by go_cell)
  clear hb2 hB1
  go_wp2_with fail
  refine (H2.out _).mono ?_
  rintro e w3 ⟨rfl, hb3⟩
  have hB3 : Below w.heap.size w w3 := below_after (by go_grown) hb3
  have hz3 := hb3.size
  try simp only [World.size_alloc, World.size_setCell, World.size_drew] at hz3
  have hw3 := hB3.size
  replace c_c0 : w3.cell? ⟨w.heap.size, 0, none⟩ = some (.int .i64 t) := kp hb3 (by go_cell)
  replace c_c1 : w3.cell? ⟨w.heap.size, 1, none⟩ = some (.int .i64 lo) := kp hb3 (by go_cell)
  replace c_c2 : w3.cell? ⟨w.heap.size, 2, none⟩ = some (.int .i64 hi) := kp hb3 (by go_cell)
  replace c_c3 : w3.cell? ⟨w.heap.size, 3, none⟩ = some (.int .i64 dr) := kp hb3 (by go_cell)
  replace c_n0 : w3.cell? ⟨w.heap.size + 1, 0, none⟩ = some (.int .i64 sl) := kp hb3 (by go_cell)
  replace c_n1 : w3.cell? ⟨w.heap.size + 1, 1, none⟩ = some (.int .i64 sh) := kp hb3 (by go_cell)
  have c_s0 : w3.cell? ⟨w2.heap.size, 0, none⟩ = some (.int .i64 x) := kp hb3 (by go_cell)
  have c_s1 : w3.cell? ⟨w2.heap.size, 1, none⟩ = some (.int .i64 y) := kp hb3 (by go_cell)
  clear hb3 hB2
  go_wp2_with fail
  refine (H3.out _).mono ?_
  rintro e w4 ⟨rfl, hb4⟩
  have hB4 : Below w.heap.size w w4 := below_after (by go_grown) hb4
  have hz4 := hb4.size
  try simp only [World.size_alloc, World.size_setCell, World.size_drew] at hz4
  have hw4 := hB4.size
  replace c_c0 : w4.cell? ⟨w.heap.size, 0, none⟩ = some (.int .i64 t) := kp hb4 (by go_cell)
  replace c_c1 : w4.cell? ⟨w.heap.size, 1, none⟩ = some (.int .i64 lo) := kp hb4 (by go_cell)
  replace c_c2 : w4.cell? ⟨w.heap.size, 2, none⟩ = some (.int .i64 hi) := kp hb4 (by go_cell)
  replace c_c3 : w4.cell? ⟨w.heap.size, 3, none⟩ = some (.int .i64 dr) := kp hb4 (by go_cell)
  replace c_n0 : w4.cell? ⟨w.heap.size + 1, 0, none⟩ = some (.int .i64 sl) := kp hb4 (by go_cell)
  replace c_n1 : w4.cell? ⟨w.heap.size + 1, 1, none⟩ = some (.int .i64 sh) := kp hb4 (by go_cell)
  replace c_s0 : w4.cell? ⟨w2.heap.size, 0, none⟩ = some (.int .i64 x) := kp hb4 (by go_cell)
  replace c_s1 : w4.cell? ⟨w2.heap.size, 1, none⟩ = some (.int .i64 y) := kp hb4 (by go_cell)
  clear hb4 hB3
  go_wp2_with fail
  refine (H4.out _).mono ?_
  rintro e w5 ⟨rfl, hb5⟩
  have hB5 : Below w.heap.size w w5 := below_after (by go_grown) hb5
  have hz5 := hb5.size
  try simp only [World.size_alloc, World.size_setCell, World.size_drew] at hz5
  have hw5 := hB5.size
  replace c_c0 : w5.cell? ⟨w.heap.size, 0, none⟩ = some (.int .i64 t) := kp hb5 (by go_cell)
  replace c_c1 : w5.cell? ⟨w.heap.size, 1, none⟩ = some (.int .i64 lo) := kp hb5 (by go_cell)
  replace c_c2 : w5.cell? ⟨w.heap.size, 2, none⟩ = some (.int .i64 hi) := kp hb5 (by go_cell)
  replace c_c3 : w5.cell? ⟨w.heap.size, 3, none⟩ = some (.int .i64 dr) := kp hb5 (by go_cell)
  replace c_n0 : w5.cell? ⟨w.heap.size + 1, 0, none⟩ = some (.int .i64 sl) := kp hb5 (by go_cell)
  replace c_n1 : w5.cell? ⟨w.heap.size + 1, 1, none⟩ = some (.int .i64 sh) := kp hb5 (by go_cell)
  replace c_s0 : w5.cell? ⟨w2.heap.size, 0, none⟩ = some (.int .i64 x) := kp hb5 (by go_cell)
  replace c_s1 : w5.cell? ⟨w2.heap.size, 1, none⟩ = some (.int .i64 y) := kp hb5 (by go_cell)
  clear hb5 hB4
  go_wp2_with fail
  refine (H5.out _).mono ?_
  rintro e w6 ⟨rfl, hb6⟩
  have hB6 : Below w.heap.size w w6 := below_after (by go_grown) hb6
  have hz6 := hb6.size
  try simp only [World.size_alloc, World.size_setCell, World.size_drew] at hz6
  have hw6 := hB6.size
  replace c_c0 : w6.cell? ⟨w.heap.size, 0, none⟩ = some (.int .i64 t) := kp hb6 (by go_cell)
  replace c_c1 : w6.cell? ⟨w.heap.size, 1, none⟩ = some (.int .i64 lo) := kp hb6 (by go_cell)
  replace c_c2 : w6.cell? ⟨w.heap.size, 2, none⟩ = some (.int .i64 hi) := kp hb6 (by go_cell)
  replace c_c3 : w6.cell? ⟨w.heap.size, 3, none⟩ = some (.int .i64 dr) := kp hb6 (by go_cell)
  have c_o0 : w6.cell? ⟨w5.heap.size, 0, none⟩ = some (.int .i64 ((t + lo - m))) := kp hb6 (by go_cell)
  have c_o1 : w6.cell? ⟨w5.heap.size, 1, none⟩ = some (.int .i64 ((t + hi + m))) := kp hb6 (by go_cell)
  clear hb6 hB5
  go_wp2_with fail
  go_ret
  exact ⟨ret_bool (by simp), by go_grown⟩

set_option maxHeartbeats 1600000 in
set_option maxRecDepth 100000 in
theorem apart_new (t lo hi dr r sl sh m : Int) (w : World) (hm0 : 0 ≤ m) (hm1 : m ≤ 65535) (h1 : (clkB t lo hi dr && readB r) = true) (h2 : vld sl sh = true) (hd : ¬ atHi t hi dr r < sl) (hc : ¬ sh < atLo t lo dr r) (p q : Int) (hp : setS t lo hi dr r sl sh = ((r, p, q, dr), true, 0)) :
    Calls Try.prog 16 #[.agg #[.int .i64 t, .int .i64 lo, .int .i64 hi, .int .i64 dr], .int .i64 r, .agg #[.int .i64 sl, .int .i64 sh], .int .u16 m] w fun e w' => e = .returned (.bool true) ∧ Below w.heap.size w w' := by
  have v1 := fun w => True_any t lo hi dr r w
  rw [trueS_ok h1] at v1
  have v2 := fun w => Valid_any sl sh w
  rw [h2] at v2
  have v3 := fun w => Set_any t lo hi dr r sl sh w
  have b := atLo_bounds (and_left h1) (and_right h1)
  have b2 := vld_bounds h2
  obtain ⟨t1, t2, r1, r2, o1, o2, o3⟩ := clkB_bounds (and_left h1)
  rw [show setS t lo hi dr r sl sh = ((r, p, q, dr), true, 0) by exact hp] at v3
  have v4 := fun w => True_any t lo hi dr t w
  rw [trueS_own (and_left h1)] at v4
  have v5 := fun w => Set_any t lo hi dr t (t + lo - m) (t + hi + m) w
  rw [setS_own (and_left h1) hm0 hm1] at v5
  generalize atLo t lo dr r = x at *
  generalize atHi t hi dr r = y at *
  obtain ⟨b1, b3, b4⟩ := b
  obtain ⟨b5, b6, b7⟩ := b2
  have H1 := Lib.hid v1
  have H2 := Lib.hid v2
  have H3 := Lib.hid v3
  have H4 := Lib.hid v4
  have H5 := Lib.hid v5
  clear v1 v2 v3 v4 v5 h1 h2 hp
  go_enter Try.func16, Try.ntmps16
  go_wp2_with fail
  refine (head14_any _).mono ?_
  rintro e w1 ⟨rfl, hb1⟩
  have hB1 : Below w.heap.size w w1 := below_after (by go_grown) hb1
  have hz1 := hb1.size
  try simp only [World.size_alloc, World.size_setCell, World.size_drew] at hz1
  have hw1 := hB1.size
  have c_c0 : w1.cell? ⟨w.heap.size, 0, none⟩ = some (.int .i64 t) := kp hb1 (by go_cell)
  have c_c1 : w1.cell? ⟨w.heap.size, 1, none⟩ = some (.int .i64 lo) := kp hb1 (by go_cell)
  have c_c2 : w1.cell? ⟨w.heap.size, 2, none⟩ = some (.int .i64 hi) := kp hb1 (by go_cell)
  have c_c3 : w1.cell? ⟨w.heap.size, 3, none⟩ = some (.int .i64 dr) := kp hb1 (by go_cell)
  have c_n0 : w1.cell? ⟨w.heap.size + 1, 0, none⟩ = some (.int .i64 sl) := kp hb1 (by go_cell)
  have c_n1 : w1.cell? ⟨w.heap.size + 1, 1, none⟩ = some (.int .i64 sh) := kp hb1 (by go_cell)
  clear hb1
  go_wp2_with fail
  refine (H1.out _).mono ?_
  rintro e w2 ⟨rfl, hb2⟩
  have hB2 : Below w.heap.size w w2 := below_after (by go_grown) hb2
  have hz2 := hb2.size
  try simp only [World.size_alloc, World.size_setCell, World.size_drew] at hz2
  have hw2 := hB2.size
  replace c_c0 : w2.cell? ⟨w.heap.size, 0, none⟩ = some (.int .i64 t) := kp hb2 (by go_cell)
  replace c_c1 : w2.cell? ⟨w.heap.size, 1, none⟩ = some (.int .i64 lo) := kp hb2 (by go_cell)
  replace c_c2 : w2.cell? ⟨w.heap.size, 2, none⟩ = some (.int .i64 hi) := kp hb2 (by go_cell)
  replace c_c3 : w2.cell? ⟨w.heap.size, 3, none⟩ = some (.int .i64 dr) := kp hb2 (by go_cell)
  replace c_n0 : w2.cell? ⟨w.heap.size + 1, 0, none⟩ = some (.int .i64 sl) := kp hb2 (by go_cell)
  replace c_n1 : w2.cell? ⟨w.heap.size + 1, 1, none⟩ = some (.int .i64 sh) := kp hb2 (by go_cell)
  clear hb2 hB1
  go_wp2_with fail
  refine (H2.out _).mono ?_
  rintro e w3 ⟨rfl, hb3⟩
  have hB3 : Below w.heap.size w w3 := below_after (by go_grown) hb3
  have hz3 := hb3.size
  try simp only [World.size_alloc, World.size_setCell, World.size_drew] at hz3
  have hw3 := hB3.size
  replace c_c0 : w3.cell? ⟨w.heap.size, 0, none⟩ = some (.int .i64 t) := kp hb3 (by go_cell)
  replace c_c1 : w3.cell? ⟨w.heap.size, 1, none⟩ = some (.int .i64 lo) := kp hb3 (by go_cell)
  replace c_c2 : w3.cell? ⟨w.heap.size, 2, none⟩ = some (.int .i64 hi) := kp hb3 (by go_cell)
  replace c_c3 : w3.cell? ⟨w.heap.size, 3, none⟩ = some (.int .i64 dr) := kp hb3 (by go_cell)
  replace c_n0 : w3.cell? ⟨w.heap.size + 1, 0, none⟩ = some (.int .i64 sl) := kp hb3 (by go_cell)
  replace c_n1 : w3.cell? ⟨w.heap.size + 1, 1, none⟩ = some (.int .i64 sh) := kp hb3 (by go_cell)
  have c_s0 : w3.cell? ⟨w2.heap.size, 0, none⟩ = some (.int .i64 x) := kp hb3 (by go_cell)
  have c_s1 : w3.cell? ⟨w2.heap.size, 1, none⟩ = some (.int .i64 y) := kp hb3 (by go_cell)
  clear hb3 hB2
  go_wp2_with fail
  refine (H3.out _).mono ?_
  rintro e w4 ⟨rfl, hb4⟩
  have hB4 : Below w.heap.size w w4 := below_after (by go_grown) hb4
  have hz4 := hb4.size
  try simp only [World.size_alloc, World.size_setCell, World.size_drew] at hz4
  have hw4 := hB4.size
  replace c_c0 : w4.cell? ⟨w.heap.size, 0, none⟩ = some (.int .i64 t) := kp hb4 (by go_cell)
  replace c_c1 : w4.cell? ⟨w.heap.size, 1, none⟩ = some (.int .i64 lo) := kp hb4 (by go_cell)
  replace c_c2 : w4.cell? ⟨w.heap.size, 2, none⟩ = some (.int .i64 hi) := kp hb4 (by go_cell)
  replace c_c3 : w4.cell? ⟨w.heap.size, 3, none⟩ = some (.int .i64 dr) := kp hb4 (by go_cell)
  replace c_n0 : w4.cell? ⟨w.heap.size + 1, 0, none⟩ = some (.int .i64 sl) := kp hb4 (by go_cell)
  replace c_n1 : w4.cell? ⟨w.heap.size + 1, 1, none⟩ = some (.int .i64 sh) := kp hb4 (by go_cell)
  replace c_s0 : w4.cell? ⟨w2.heap.size, 0, none⟩ = some (.int .i64 x) := kp hb4 (by go_cell)
  replace c_s1 : w4.cell? ⟨w2.heap.size, 1, none⟩ = some (.int .i64 y) := kp hb4 (by go_cell)
  clear hb4 hB3
  go_wp2_with fail
  refine (H4.out _).mono ?_
  rintro e w5 ⟨rfl, hb5⟩
  have hB5 : Below w.heap.size w w5 := below_after (by go_grown) hb5
  have hz5 := hb5.size
  try simp only [World.size_alloc, World.size_setCell, World.size_drew] at hz5
  have hw5 := hB5.size
  replace c_c0 : w5.cell? ⟨w.heap.size, 0, none⟩ = some (.int .i64 t) := kp hb5 (by go_cell)
  replace c_c1 : w5.cell? ⟨w.heap.size, 1, none⟩ = some (.int .i64 lo) := kp hb5 (by go_cell)
  replace c_c2 : w5.cell? ⟨w.heap.size, 2, none⟩ = some (.int .i64 hi) := kp hb5 (by go_cell)
  replace c_c3 : w5.cell? ⟨w.heap.size, 3, none⟩ = some (.int .i64 dr) := kp hb5 (by go_cell)
  replace c_n0 : w5.cell? ⟨w.heap.size + 1, 0, none⟩ = some (.int .i64 sl) := kp hb5 (by go_cell)
  replace c_n1 : w5.cell? ⟨w.heap.size + 1, 1, none⟩ = some (.int .i64 sh) := kp hb5 (by go_cell)
  replace c_s0 : w5.cell? ⟨w2.heap.size, 0, none⟩ = some (.int .i64 x) := kp hb5 (by go_cell)
  replace c_s1 : w5.cell? ⟨w2.heap.size, 1, none⟩ = some (.int .i64 y) := kp hb5 (by go_cell)
  clear hb5 hB4
  go_wp2_with fail
  refine (H5.out _).mono ?_
  rintro e w6 ⟨rfl, hb6⟩
  have hB6 : Below w.heap.size w w6 := below_after (by go_grown) hb6
  have hz6 := hb6.size
  try simp only [World.size_alloc, World.size_setCell, World.size_drew] at hz6
  have hw6 := hB6.size
  replace c_c0 : w6.cell? ⟨w.heap.size, 0, none⟩ = some (.int .i64 t) := kp hb6 (by go_cell)
  replace c_c1 : w6.cell? ⟨w.heap.size, 1, none⟩ = some (.int .i64 lo) := kp hb6 (by go_cell)
  replace c_c2 : w6.cell? ⟨w.heap.size, 2, none⟩ = some (.int .i64 hi) := kp hb6 (by go_cell)
  replace c_c3 : w6.cell? ⟨w.heap.size, 3, none⟩ = some (.int .i64 dr) := kp hb6 (by go_cell)
  have c_o0 : w6.cell? ⟨w5.heap.size, 0, none⟩ = some (.int .i64 ((t + lo - m))) := kp hb6 (by go_cell)
  have c_o1 : w6.cell? ⟨w5.heap.size, 1, none⟩ = some (.int .i64 ((t + hi + m))) := kp hb6 (by go_cell)
  clear hb6 hB5
  go_wp2_with fail
  go_ret
  exact ⟨ret_bool (by simp), by go_grown⟩

set_option maxHeartbeats 1600000 in
set_option maxRecDepth 100000 in
theorem apart_out (t lo hi dr r sl sh m : Int) (w : World) (hm0 : 0 ≤ m) (hm1 : m ≤ 65535) (h1 : (clkB t lo hi dr && readB r) = true) (h2 : vld sl sh = true) (hp : setS t lo hi dr r sl sh = ((0, 0, 0, 0), false, 3)) :
    Calls Try.prog 16 #[.agg #[.int .i64 t, .int .i64 lo, .int .i64 hi, .int .i64 dr], .int .i64 r, .agg #[.int .i64 sl, .int .i64 sh], .int .u16 m] w fun e w' => e = .returned (.bool true) ∧ Below w.heap.size w w' := by
  have v1 := fun w => True_any t lo hi dr r w
  rw [trueS_ok h1] at v1
  have v2 := fun w => Valid_any sl sh w
  rw [h2] at v2
  have v3 := fun w => Set_any t lo hi dr r sl sh w
  have b := atLo_bounds (and_left h1) (and_right h1)
  have b2 := vld_bounds h2
  obtain ⟨t1, t2, r1, r2, o1, o2, o3⟩ := clkB_bounds (and_left h1)
  rw [show setS t lo hi dr r sl sh = ((0, 0, 0, 0), false, 3) by exact hp] at v3
  have v4 := fun w => True_any t lo hi dr t w
  rw [trueS_own (and_left h1)] at v4
  have v5 := fun w => Set_any t lo hi dr t (t + lo - m) (t + hi + m) w
  rw [setS_own (and_left h1) hm0 hm1] at v5
  generalize atLo t lo dr r = x at *
  generalize atHi t hi dr r = y at *
  obtain ⟨b1, b3, b4⟩ := b
  obtain ⟨b5, b6, b7⟩ := b2
  have H1 := Lib.hid v1
  have H2 := Lib.hid v2
  have H3 := Lib.hid v3
  have H4 := Lib.hid v4
  have H5 := Lib.hid v5
  clear v1 v2 v3 v4 v5 h1 h2 hp
  go_enter Try.func16, Try.ntmps16
  go_wp2_with fail
  refine (head14_any _).mono ?_
  rintro e w1 ⟨rfl, hb1⟩
  have hB1 : Below w.heap.size w w1 := below_after (by go_grown) hb1
  have hz1 := hb1.size
  try simp only [World.size_alloc, World.size_setCell, World.size_drew] at hz1
  have hw1 := hB1.size
  have c_c0 : w1.cell? ⟨w.heap.size, 0, none⟩ = some (.int .i64 t) := kp hb1 (by go_cell)
  have c_c1 : w1.cell? ⟨w.heap.size, 1, none⟩ = some (.int .i64 lo) := kp hb1 (by go_cell)
  have c_c2 : w1.cell? ⟨w.heap.size, 2, none⟩ = some (.int .i64 hi) := kp hb1 (by go_cell)
  have c_c3 : w1.cell? ⟨w.heap.size, 3, none⟩ = some (.int .i64 dr) := kp hb1 (by go_cell)
  have c_n0 : w1.cell? ⟨w.heap.size + 1, 0, none⟩ = some (.int .i64 sl) := kp hb1 (by go_cell)
  have c_n1 : w1.cell? ⟨w.heap.size + 1, 1, none⟩ = some (.int .i64 sh) := kp hb1 (by go_cell)
  clear hb1
  go_wp2_with fail
  refine (H1.out _).mono ?_
  rintro e w2 ⟨rfl, hb2⟩
  have hB2 : Below w.heap.size w w2 := below_after (by go_grown) hb2
  have hz2 := hb2.size
  try simp only [World.size_alloc, World.size_setCell, World.size_drew] at hz2
  have hw2 := hB2.size
  replace c_c0 : w2.cell? ⟨w.heap.size, 0, none⟩ = some (.int .i64 t) := kp hb2 (by go_cell)
  replace c_c1 : w2.cell? ⟨w.heap.size, 1, none⟩ = some (.int .i64 lo) := kp hb2 (by go_cell)
  replace c_c2 : w2.cell? ⟨w.heap.size, 2, none⟩ = some (.int .i64 hi) := kp hb2 (by go_cell)
  replace c_c3 : w2.cell? ⟨w.heap.size, 3, none⟩ = some (.int .i64 dr) := kp hb2 (by go_cell)
  replace c_n0 : w2.cell? ⟨w.heap.size + 1, 0, none⟩ = some (.int .i64 sl) := kp hb2 (by go_cell)
  replace c_n1 : w2.cell? ⟨w.heap.size + 1, 1, none⟩ = some (.int .i64 sh) := kp hb2 (by go_cell)
  clear hb2 hB1
  go_wp2_with fail
  refine (H2.out _).mono ?_
  rintro e w3 ⟨rfl, hb3⟩
  have hB3 : Below w.heap.size w w3 := below_after (by go_grown) hb3
  have hz3 := hb3.size
  try simp only [World.size_alloc, World.size_setCell, World.size_drew] at hz3
  have hw3 := hB3.size
  replace c_c0 : w3.cell? ⟨w.heap.size, 0, none⟩ = some (.int .i64 t) := kp hb3 (by go_cell)
  replace c_c1 : w3.cell? ⟨w.heap.size, 1, none⟩ = some (.int .i64 lo) := kp hb3 (by go_cell)
  replace c_c2 : w3.cell? ⟨w.heap.size, 2, none⟩ = some (.int .i64 hi) := kp hb3 (by go_cell)
  replace c_c3 : w3.cell? ⟨w.heap.size, 3, none⟩ = some (.int .i64 dr) := kp hb3 (by go_cell)
  replace c_n0 : w3.cell? ⟨w.heap.size + 1, 0, none⟩ = some (.int .i64 sl) := kp hb3 (by go_cell)
  replace c_n1 : w3.cell? ⟨w.heap.size + 1, 1, none⟩ = some (.int .i64 sh) := kp hb3 (by go_cell)
  have c_s0 : w3.cell? ⟨w2.heap.size, 0, none⟩ = some (.int .i64 x) := kp hb3 (by go_cell)
  have c_s1 : w3.cell? ⟨w2.heap.size, 1, none⟩ = some (.int .i64 y) := kp hb3 (by go_cell)
  clear hb3 hB2
  go_wp2_with fail
  refine (H3.out _).mono ?_
  rintro e w4 ⟨rfl, hb4⟩
  have hB4 : Below w.heap.size w w4 := below_after (by go_grown) hb4
  have hz4 := hb4.size
  try simp only [World.size_alloc, World.size_setCell, World.size_drew] at hz4
  have hw4 := hB4.size
  replace c_c0 : w4.cell? ⟨w.heap.size, 0, none⟩ = some (.int .i64 t) := kp hb4 (by go_cell)
  replace c_c1 : w4.cell? ⟨w.heap.size, 1, none⟩ = some (.int .i64 lo) := kp hb4 (by go_cell)
  replace c_c2 : w4.cell? ⟨w.heap.size, 2, none⟩ = some (.int .i64 hi) := kp hb4 (by go_cell)
  replace c_c3 : w4.cell? ⟨w.heap.size, 3, none⟩ = some (.int .i64 dr) := kp hb4 (by go_cell)
  replace c_n0 : w4.cell? ⟨w.heap.size + 1, 0, none⟩ = some (.int .i64 sl) := kp hb4 (by go_cell)
  replace c_n1 : w4.cell? ⟨w.heap.size + 1, 1, none⟩ = some (.int .i64 sh) := kp hb4 (by go_cell)
  replace c_s0 : w4.cell? ⟨w2.heap.size, 0, none⟩ = some (.int .i64 x) := kp hb4 (by go_cell)
  replace c_s1 : w4.cell? ⟨w2.heap.size, 1, none⟩ = some (.int .i64 y) := kp hb4 (by go_cell)
  clear hb4 hB3
  go_wp2_with fail
  refine (H4.out _).mono ?_
  rintro e w5 ⟨rfl, hb5⟩
  have hB5 : Below w.heap.size w w5 := below_after (by go_grown) hb5
  have hz5 := hb5.size
  try simp only [World.size_alloc, World.size_setCell, World.size_drew] at hz5
  have hw5 := hB5.size
  replace c_c0 : w5.cell? ⟨w.heap.size, 0, none⟩ = some (.int .i64 t) := kp hb5 (by go_cell)
  replace c_c1 : w5.cell? ⟨w.heap.size, 1, none⟩ = some (.int .i64 lo) := kp hb5 (by go_cell)
  replace c_c2 : w5.cell? ⟨w.heap.size, 2, none⟩ = some (.int .i64 hi) := kp hb5 (by go_cell)
  replace c_c3 : w5.cell? ⟨w.heap.size, 3, none⟩ = some (.int .i64 dr) := kp hb5 (by go_cell)
  replace c_n0 : w5.cell? ⟨w.heap.size + 1, 0, none⟩ = some (.int .i64 sl) := kp hb5 (by go_cell)
  replace c_n1 : w5.cell? ⟨w.heap.size + 1, 1, none⟩ = some (.int .i64 sh) := kp hb5 (by go_cell)
  replace c_s0 : w5.cell? ⟨w2.heap.size, 0, none⟩ = some (.int .i64 x) := kp hb5 (by go_cell)
  replace c_s1 : w5.cell? ⟨w2.heap.size, 1, none⟩ = some (.int .i64 y) := kp hb5 (by go_cell)
  clear hb5 hB4
  go_wp2_with fail
  refine (H5.out _).mono ?_
  rintro e w6 ⟨rfl, hb6⟩
  have hB6 : Below w.heap.size w w6 := below_after (by go_grown) hb6
  have hz6 := hb6.size
  try simp only [World.size_alloc, World.size_setCell, World.size_drew] at hz6
  have hw6 := hB6.size
  replace c_c0 : w6.cell? ⟨w.heap.size, 0, none⟩ = some (.int .i64 t) := kp hb6 (by go_cell)
  replace c_c1 : w6.cell? ⟨w.heap.size, 1, none⟩ = some (.int .i64 lo) := kp hb6 (by go_cell)
  replace c_c2 : w6.cell? ⟨w.heap.size, 2, none⟩ = some (.int .i64 hi) := kp hb6 (by go_cell)
  replace c_c3 : w6.cell? ⟨w.heap.size, 3, none⟩ = some (.int .i64 dr) := kp hb6 (by go_cell)
  have c_o0 : w6.cell? ⟨w5.heap.size, 0, none⟩ = some (.int .i64 ((t + lo - m))) := kp hb6 (by go_cell)
  have c_o1 : w6.cell? ⟨w5.heap.size, 1, none⟩ = some (.int .i64 ((t + hi + m))) := kp hb6 (by go_cell)
  clear hb6 hB5
  go_wp2_with fail
  go_ret
  exact ⟨ret_bool (by simp), by go_grown⟩

theorem apart_walk (t lo hi dr r sl sh m : Int) (w : World) (hm0 : 0 ≤ m) (hm1 : m ≤ 65535) :
    Calls Try.prog 16 #[.agg #[.int .i64 t, .int .i64 lo, .int .i64 hi, .int .i64 dr], .int .i64 r, .agg #[.int .i64 sl, .int .i64 sh], .int .u16 m] w fun e w' => e = .returned (.bool true) ∧ Below w.heap.size w w' := by
  cases h1 : (clkB t lo hi dr && readB r)
  · exact apart_no t lo hi dr r sl sh m w h1
  · cases h2 : vld sl sh
    · exact apart_inv t lo hi dr r sl sh m w h1 h2
    · by_cases hc : atHi t hi dr r < sl
      · exact apart_a1 t lo hi dr r sl sh m w hm0 hm1 h1 h2 hc
      · by_cases hd : sh < atLo t lo dr r
        · exact apart_a2 t lo hi dr r sl sh m w hm0 hm1 h1 h2 hc hd
        · have b := atLo_bounds (and_left h1) (and_right h1)
          have b2 := vld_bounds h2
          have e : setS t lo hi dr r sl sh = if clkB r (max (atLo t lo dr r) sl - r) (min (atHi t hi dr r) sh - r) dr then ((r, max (atLo t lo dr r) sl - r, min (atHi t hi dr r) sh - r, dr), true, 0) else ((0, 0, 0, 0), false, 3) := by
            rw [setS, h1, h2, if_pos (by rfl), if_neg (by omega)]
          cases hn : clkB r (max (atLo t lo dr r) sl - r) (min (atHi t hi dr r) sh - r) dr
          · exact apart_out t lo hi dr r sl sh m w hm0 hm1 h1 h2 (by rw [e, hn]; rfl)
          · exact apart_new t lo hi dr r sl sh m w hm0 hm1 h1 h2 hc hd _ _ (by rw [e, hn]; rfl)
end Go.Proofs.Ytollpjdnahemeaa
