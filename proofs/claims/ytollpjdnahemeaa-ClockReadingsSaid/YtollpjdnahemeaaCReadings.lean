import Derived.Test.YtollpjdnahemeaaCOrder
import Derived.Deep.RegionHeld3
namespace Go.Proofs.Ytollpjdnahemeaa
open Go.RowKit
set_option linter.unusedSimpArgs false
set_option linter.unusedVariables false
attribute [local go_sem ↓] Go.wp_at_zero Go.wp_at_succ

set_option maxHeartbeats 1600000 in
set_option maxRecDepth 100000 in
theorem readings_no (t lo hi dr r time : Int) (w : World) (h1 : (clkB t lo hi dr && readB r) = false) :
    Calls Try.prog 12 #[.agg #[.int .i64 t, .int .i64 lo, .int .i64 hi, .int .i64 dr], .int .i64 r, .int .i64 time] w fun e w' => e = .returned (.bool true) ∧ Below w.heap.size w w' := by
  have v1 := fun w => True_any t lo hi dr r w
  rw [trueS_no h1] at v1
  have H1 := Lib.hid v1
  clear v1 h1
  go_enter Try.func12, Try.ntmps12
  go_wp2_with fail
  refine (head14_any _).mono ?_
  rintro e w1 ⟨rfl, hb1⟩
  have hB1 : Below w.heap.size w w1 := below_after (by go_grown) hb1
  have hz1 := hb1.size
  try simp only [World.size_alloc, World.size_setCell, World.size_drew] at hz1
  have hw1 := hB1.size
  have c_c0 : w1.cell? ⟨w.heap.size, 0, none⟩ = some (.int .i64 t) := kp hb1 (by go_cell)
  have c_c1 : w1.cell? ⟨w.heap.size, 1, none⟩ = some (.int .i64 lo) := kp hb1 (by go_cell)
  have c_c2 : w1.cell? ⟨w.heap.size, 2, none⟩ = some (.int .i64 hi) := kp hb1 (by go_cell)
  have c_c3 : w1.cell? ⟨w.heap.size, 3, none⟩ = some (.int .i64 dr) := kp hb1 (by go_cell)
  clear hb1
  go_wp2_with fail
  refine (H1.out _).mono ?_
  rintro e w2 ⟨rfl, hb2⟩
  have hB2 : Below w.heap.size w w2 := below_after (by go_grown) hb2
  have hz2 := hb2.size
  try simp only [World.size_alloc, World.size_setCell, World.size_drew] at hz2
  have hw2 := hB2.size
  replace c_c0 : w2.cell? ⟨w.heap.size, 0, none⟩ = some (.int .i64 t) := kp hb2 (by go_cell)
  replace c_c1 : w2.cell? ⟨w.heap.size, 1, none⟩ = some (.int .i64 lo) := kp hb2 (by go_cell)
  replace c_c2 : w2.cell? ⟨w.heap.size, 2, none⟩ = some (.int .i64 hi) := kp hb2 (by go_cell)
  replace c_c3 : w2.cell? ⟨w.heap.size, 3, none⟩ = some (.int .i64 dr) := kp hb2 (by go_cell)
  clear hb2 hB1
  go_wp2_with fail
  go_ret
  exact ⟨rfl, by go_grown⟩

set_option maxHeartbeats 1600000 in
set_option maxRecDepth 100000 in
theorem readings_out1 (t lo hi dr r time : Int) (w : World) (h1 : (clkB t lo hi dr && readB r) = true) (h2 : time < -1000000000000) :
    Calls Try.prog 12 #[.agg #[.int .i64 t, .int .i64 lo, .int .i64 hi, .int .i64 dr], .int .i64 r, .int .i64 time] w fun e w' => e = .returned (.bool true) ∧ Below w.heap.size w w' := by
  have v1 := fun w => True_any t lo hi dr r w
  rw [trueS_ok h1] at v1
  generalize atLo t lo dr r = x at *
  generalize atHi t hi dr r = y at *
  have H1 := Lib.hid v1
  clear v1 h1
  go_enter Try.func12, Try.ntmps12
  go_wp2_with fail
  refine (head14_any _).mono ?_
  rintro e w1 ⟨rfl, hb1⟩
  have hB1 : Below w.heap.size w w1 := below_after (by go_grown) hb1
  have hz1 := hb1.size
  try simp only [World.size_alloc, World.size_setCell, World.size_drew] at hz1
  have hw1 := hB1.size
  have c_c0 : w1.cell? ⟨w.heap.size, 0, none⟩ = some (.int .i64 t) := kp hb1 (by go_cell)
  have c_c1 : w1.cell? ⟨w.heap.size, 1, none⟩ = some (.int .i64 lo) := kp hb1 (by go_cell)
  have c_c2 : w1.cell? ⟨w.heap.size, 2, none⟩ = some (.int .i64 hi) := kp hb1 (by go_cell)
  have c_c3 : w1.cell? ⟨w.heap.size, 3, none⟩ = some (.int .i64 dr) := kp hb1 (by go_cell)
  clear hb1
  go_wp2_with fail
  refine (H1.out _).mono ?_
  rintro e w2 ⟨rfl, hb2⟩
  have hB2 : Below w.heap.size w w2 := below_after (by go_grown) hb2
  have hz2 := hb2.size
  try simp only [World.size_alloc, World.size_setCell, World.size_drew] at hz2
  have hw2 := hB2.size
  replace c_c0 : w2.cell? ⟨w.heap.size, 0, none⟩ = some (.int .i64 t) := kp hb2 (by go_cell)
  replace c_c1 : w2.cell? ⟨w.heap.size, 1, none⟩ = some (.int .i64 lo) := kp hb2 (by go_cell)
  replace c_c2 : w2.cell? ⟨w.heap.size, 2, none⟩ = some (.int .i64 hi) := kp hb2 (by go_cell)
  replace c_c3 : w2.cell? ⟨w.heap.size, 3, none⟩ = some (.int .i64 dr) := kp hb2 (by go_cell)
  clear hb2 hB1
  go_wp2_with fail
  go_ret
  exact ⟨rfl, by go_grown⟩

set_option maxHeartbeats 1600000 in
set_option maxRecDepth 100000 in
theorem readings_out2 (t lo hi dr r time : Int) (w : World) (h1 : (clkB t lo hi dr && readB r) = true) (h2 : ¬ time < -1000000000000) (h3 : 1000000000000 < time) :
    Calls Try.prog 12 #[.agg #[.int .i64 t, .int .i64 lo, .int .i64 hi, .int .i64 dr], .int .i64 r, .int .i64 time] w fun e w' => e = .returned (.bool true) ∧ Below w.heap.size w w' := by
  have v1 := fun w => True_any t lo hi dr r w
  rw [trueS_ok h1] at v1
  generalize atLo t lo dr r = x at *
  generalize atHi t hi dr r = y at *
  have H1 := Lib.hid v1
  clear v1 h1
  go_enter Try.func12, Try.ntmps12
  go_wp2_with fail
  refine (head14_any _).mono ?_
  rintro e w1 ⟨rfl, hb1⟩
  have hB1 : Below w.heap.size w w1 := below_after (by go_grown) hb1
  have hz1 := hb1.size
  try simp only [World.size_alloc, World.size_setCell, World.size_drew] at hz1
  have hw1 := hB1.size
  have c_c0 : w1.cell? ⟨w.heap.size, 0, none⟩ = some (.int .i64 t) := kp hb1 (by go_cell)
  have c_c1 : w1.cell? ⟨w.heap.size, 1, none⟩ = some (.int .i64 lo) := kp hb1 (by go_cell)
  have c_c2 : w1.cell? ⟨w.heap.size, 2, none⟩ = some (.int .i64 hi) := kp hb1 (by go_cell)
  have c_c3 : w1.cell? ⟨w.heap.size, 3, none⟩ = some (.int .i64 dr) := kp hb1 (by go_cell)
  clear hb1
  go_wp2_with fail
  refine (H1.out _).mono ?_
  rintro e w2 ⟨rfl, hb2⟩
  have hB2 : Below w.heap.size w w2 := below_after (by go_grown) hb2
  have hz2 := hb2.size
  try simp only [World.size_alloc, World.size_setCell, World.size_drew] at hz2
  have hw2 := hB2.size
  replace c_c0 : w2.cell? ⟨w.heap.size, 0, none⟩ = some (.int .i64 t) := kp hb2 (by go_cell)
  replace c_c1 : w2.cell? ⟨w.heap.size, 1, none⟩ = some (.int .i64 lo) := kp hb2 (by go_cell)
  replace c_c2 : w2.cell? ⟨w.heap.size, 2, none⟩ = some (.int .i64 hi) := kp hb2 (by go_cell)
  replace c_c3 : w2.cell? ⟨w.heap.size, 3, none⟩ = some (.int .i64 dr) := kp hb2 (by go_cell)
  clear hb2 hB1
  go_wp2_with fail
  go_ret
  exact ⟨rfl, by go_grown⟩

set_option maxHeartbeats 1600000 in
set_option maxRecDepth 100000 in
theorem readings_none (t lo hi dr r time : Int) (w : World) (h1 : (clkB t lo hi dr && readB r) = true) (ht1 : -1000000000000 ≤ time) (ht2 : time ≤ 1000000000000) (hc : untilI t lo dr time ≤ firstI t hi dr time) :
    Calls Try.prog 12 #[.agg #[.int .i64 t, .int .i64 lo, .int .i64 hi, .int .i64 dr], .int .i64 r, .int .i64 time] w fun e w' => e = .returned (.bool true) ∧ Below w.heap.size w w' := by
  have h2 := and_left h1
  have h3 := and_right h1
  have v1 := fun w => True_any t lo hi dr r w
  rw [trueS_ok h1] at v1
  obtain ⟨_, _, r1, r2, _, _, _⟩ := clkB_bounds h2
  obtain ⟨q1, q2⟩ := readB_bounds h3
  obtain ⟨f1, f2, f3⟩ := firstI_spec (t := t) (hi := hi) (time := time) r1 r2
  obtain ⟨u1, u2, u3⟩ := untilI_spec (t := t) (lo := lo) (time := time) r1 r2
  have f4 := f3 r q1 q2
  have u4 := u3 r q1 q2
  have v2 := fun w => Reading_any t lo hi dr time w
  have v3 := fun w => In_any (atLo t lo dr r) (atHi t hi dr r) time w
  have hb : (clkB t lo hi dr && timeB time) = true := by rw [h2]; simp [timeB]; omega
  rw [show readingS t lo hi dr time = (0, 0, 4) by rw [readingS, hb, if_pos rfl, if_pos hc]] at v2
  rw [show (decide (atLo t lo dr r ≤ time) && decide (time ≤ atHi t hi dr r)) = false by rw [Bool.and_eq_false_iff]; simp; omega] at v3
  clear f3 f4 u3 u4
  generalize atLo t lo dr r = x at *
  generalize atHi t hi dr r = y at *
  generalize firstI t hi dr time = F at *
  generalize untilI t lo dr time = U at *
  have H1 := Lib.hid v1
  have H2 := Lib.hid v2
  have H3 := Lib.hid v3
  clear v1 v2 v3 h1 h2 h3 hb
  go_enter Try.func12, Try.ntmps12
  go_wp2_with fail
  refine (head14_any _).mono ?_
  rintro e w1 ⟨rfl, hb1⟩
  have hB1 : Below w.heap.size w w1 := below_after (by go_grown) hb1
  have hz1 := hb1.size
  try simp only [World.size_alloc, World.size_setCell, World.size_drew] at hz1
  have hw1 := hB1.size
  have c_c0 : w1.cell? ⟨w.heap.size, 0, none⟩ = some (.int .i64 t) := kp hb1 (by go_cell)
  have c_c1 : w1.cell? ⟨w.heap.size, 1, none⟩ = some (.int .i64 lo) := kp hb1 (by go_cell)
  have c_c2 : w1.cell? ⟨w.heap.size, 2, none⟩ = some (.int .i64 hi) := kp hb1 (by go_cell)
  have c_c3 : w1.cell? ⟨w.heap.size, 3, none⟩ = some (.int .i64 dr) := kp hb1 (by go_cell)
  clear hb1
  go_wp2_with fail
  refine (H1.out _).mono ?_
  rintro e w2 ⟨rfl, hb2⟩
  have hB2 : Below w.heap.size w w2 := below_after (by go_grown) hb2
  have hz2 := hb2.size
  try simp only [World.size_alloc, World.size_setCell, World.size_drew] at hz2
  have hw2 := hB2.size
  replace c_c0 : w2.cell? ⟨w.heap.size, 0, none⟩ = some (.int .i64 t) := kp hb2 (by go_cell)
  replace c_c1 : w2.cell? ⟨w.heap.size, 1, none⟩ = some (.int .i64 lo) := kp hb2 (by go_cell)
  replace c_c2 : w2.cell? ⟨w.heap.size, 2, none⟩ = some (.int .i64 hi) := kp hb2 (by go_cell)
  replace c_c3 : w2.cell? ⟨w.heap.size, 3, none⟩ = some (.int .i64 dr) := kp hb2 (by go_cell)
  clear hb2 hB1
  go_wp2_with fail
  refine (H2.out _).mono ?_
  rintro e w3 ⟨rfl, hb3⟩
  have hB3 : Below w.heap.size w w3 := below_after (by go_grown) hb3
  have hz3 := hb3.size
  try simp only [World.size_alloc, World.size_setCell, World.size_drew] at hz3
  have hw3 := hB3.size
  replace c_c0 : w3.cell? ⟨w.heap.size, 0, none⟩ = some (.int .i64 t) := kp hb3 (by go_cell)
  replace c_c1 : w3.cell? ⟨w.heap.size, 1, none⟩ = some (.int .i64 lo) := kp hb3 (by go_cell)
  replace c_c2 : w3.cell? ⟨w.heap.size, 2, none⟩ = some (.int .i64 hi) := kp hb3 (by go_cell)
  replace c_c3 : w3.cell? ⟨w.heap.size, 3, none⟩ = some (.int .i64 dr) := kp hb3 (by go_cell)
  have c_s0 : w3.cell? ⟨w2.heap.size, 0, none⟩ = some (.int .i64 x) := kp hb3 (by go_cell)
  have c_s1 : w3.cell? ⟨w2.heap.size, 1, none⟩ = some (.int .i64 y) := kp hb3 (by go_cell)
  clear hb3 hB2
  go_wp2_with fail
  refine (H3.out _).mono ?_
  rintro e w4 ⟨rfl, hb4⟩
  have hB4 : Below w.heap.size w w4 := below_after (by go_grown) hb4
  have hz4 := hb4.size
  try simp only [World.size_alloc, World.size_setCell, World.size_drew] at hz4
  have hw4 := hB4.size
  replace c_c0 : w4.cell? ⟨w.heap.size, 0, none⟩ = some (.int .i64 t) := kp hb4 (by go_cell)
  replace c_c1 : w4.cell? ⟨w.heap.size, 1, none⟩ = some (.int .i64 lo) := kp hb4 (by go_cell)
  replace c_c2 : w4.cell? ⟨w.heap.size, 2, none⟩ = some (.int .i64 hi) := kp hb4 (by go_cell)
  replace c_c3 : w4.cell? ⟨w.heap.size, 3, none⟩ = some (.int .i64 dr) := kp hb4 (by go_cell)
  replace c_s0 : w4.cell? ⟨w2.heap.size, 0, none⟩ = some (.int .i64 x) := kp hb4 (by go_cell)
  replace c_s1 : w4.cell? ⟨w2.heap.size, 1, none⟩ = some (.int .i64 y) := kp hb4 (by go_cell)
  clear hb4 hB3
  go_wp2_with fail
  go_ret
  exact ⟨rfl, by go_grown⟩

set_option maxHeartbeats 1600000 in
set_option maxRecDepth 100000 in
theorem readings_some (t lo hi dr r time : Int) (w : World) (h1 : (clkB t lo hi dr && readB r) = true) (ht1 : -1000000000000 ≤ time) (ht2 : time ≤ 1000000000000) (hc : ¬ untilI t lo dr time ≤ firstI t hi dr time) :
    Calls Try.prog 12 #[.agg #[.int .i64 t, .int .i64 lo, .int .i64 hi, .int .i64 dr], .int .i64 r, .int .i64 time] w fun e w' => e = .returned (.bool true) ∧ Below w.heap.size w w' := by
  have h2 := and_left h1
  have h3 := and_right h1
  have v1 := fun w => True_any t lo hi dr r w
  rw [trueS_ok h1] at v1
  obtain ⟨_, _, r1, r2, _, _, _⟩ := clkB_bounds h2
  obtain ⟨q1, q2⟩ := readB_bounds h3
  obtain ⟨f1, f2, f3⟩ := firstI_spec (t := t) (hi := hi) (time := time) r1 r2
  obtain ⟨u1, u2, u3⟩ := untilI_spec (t := t) (lo := lo) (time := time) r1 r2
  have f4 := f3 r q1 q2
  have u4 := u3 r q1 q2
  have v2 := fun w => Reading_any t lo hi dr time w
  have v3 := fun w => In_any (atLo t lo dr r) (atHi t hi dr r) time w
  have hb : (clkB t lo hi dr && timeB time) = true := by rw [h2]; simp [timeB]; omega
  rw [show readingS t lo hi dr time = (firstI t hi dr time, untilI t lo dr time - 1, 0) by rw [readingS, hb, if_pos rfl, if_neg hc]] at v2
  have v4 := fun w => In_any (firstI t hi dr time) (untilI t lo dr time - 1) r w
  rw [show (decide (firstI t hi dr time ≤ r) && decide (r ≤ untilI t lo dr time - 1)) = (decide (atLo t lo dr r ≤ time) && decide (time ≤ atHi t hi dr r)) by rw [Bool.eq_iff_iff]; simp; omega] at v4
  generalize (decide (atLo t lo dr r ≤ time) && decide (time ≤ atHi t hi dr r)) = b at *
  clear f3 f4 u3 u4
  generalize atLo t lo dr r = x at *
  generalize atHi t hi dr r = y at *
  generalize firstI t hi dr time = F at *
  generalize untilI t lo dr time = U at *
  have H1 := Lib.hid v1
  have H2 := Lib.hid v2
  have H3 := Lib.hid v3
  have H4 := Lib.hid v4
  clear v1 v2 v3 h1 h2 h3 hb v4
  go_enter Try.func12, Try.ntmps12
  go_wp2_with fail
  refine (head14_any _).mono ?_
  rintro e w1 ⟨rfl, hb1⟩
  have hB1 : Below w.heap.size w w1 := below_after (by go_grown) hb1
  have hz1 := hb1.size
  try simp only [World.size_alloc, World.size_setCell, World.size_drew] at hz1
  have hw1 := hB1.size
  have c_c0 : w1.cell? ⟨w.heap.size, 0, none⟩ = some (.int .i64 t) := kp hb1 (by go_cell)
  have c_c1 : w1.cell? ⟨w.heap.size, 1, none⟩ = some (.int .i64 lo) := kp hb1 (by go_cell)
  have c_c2 : w1.cell? ⟨w.heap.size, 2, none⟩ = some (.int .i64 hi) := kp hb1 (by go_cell)
  have c_c3 : w1.cell? ⟨w.heap.size, 3, none⟩ = some (.int .i64 dr) := kp hb1 (by go_cell)
  clear hb1
  go_wp2_with fail
  refine (H1.out _).mono ?_
  rintro e w2 ⟨rfl, hb2⟩
  have hB2 : Below w.heap.size w w2 := below_after (by go_grown) hb2
  have hz2 := hb2.size
  try simp only [World.size_alloc, World.size_setCell, World.size_drew] at hz2
  have hw2 := hB2.size
  replace c_c0 : w2.cell? ⟨w.heap.size, 0, none⟩ = some (.int .i64 t) := kp hb2 (by go_cell)
  replace c_c1 : w2.cell? ⟨w.heap.size, 1, none⟩ = some (.int .i64 lo) := kp hb2 (by go_cell)
  replace c_c2 : w2.cell? ⟨w.heap.size, 2, none⟩ = some (.int .i64 hi) := kp hb2 (by go_cell)
  replace c_c3 : w2.cell? ⟨w.heap.size, 3, none⟩ = some (.int .i64 dr) := kp hb2 (by go_cell)
  clear hb2 hB1
  go_wp2_with fail
  refine (H2.out _).mono ?_
  rintro e w3 ⟨rfl, hb3⟩
  have hB3 : Below w.heap.size w w3 := below_after (by go_grown) hb3
  have hz3 := hb3.size
  try simp only [World.size_alloc, World.size_setCell, World.size_drew] at hz3
  have hw3 := hB3.size
  replace c_c0 : w3.cell? ⟨w.heap.size, 0, none⟩ = some (.int .i64 t) := kp hb3 (by go_cell)
  replace c_c1 : w3.cell? ⟨w.heap.size, 1, none⟩ = some (.int .i64 lo) := kp hb3 (by go_cell)
  replace c_c2 : w3.cell? ⟨w.heap.size, 2, none⟩ = some (.int .i64 hi) := kp hb3 (by go_cell)
  replace c_c3 : w3.cell? ⟨w.heap.size, 3, none⟩ = some (.int .i64 dr) := kp hb3 (by go_cell)
  have c_s0 : w3.cell? ⟨w2.heap.size, 0, none⟩ = some (.int .i64 x) := kp hb3 (by go_cell)
  have c_s1 : w3.cell? ⟨w2.heap.size, 1, none⟩ = some (.int .i64 y) := kp hb3 (by go_cell)
  clear hb3 hB2
  go_wp2_with fail
  go_region_held3 (fun w' => Below w.heap.size w w' ∧ w'.cell? ⟨w2.heap.size, 0, none⟩ = some (.int .i64 x) ∧ w'.cell? ⟨w2.heap.size, 1, none⟩ = some (.int .i64 y) ∧ w'.cell? ⟨w3.heap.size, 0, none⟩ = some (.int .i64 F) ∧ w'.cell? ⟨w3.heap.size, 1, none⟩ = some (.int .i64 ((U - 1))))
    ((go_split_ands; refine ⟨?_, ?_, ?_, ?_, ?_⟩; (focus (first | (with_reducible assumption) | (go_grown; done) | (exact Below.drew (by go_grown)))); (focus (first | (with_reducible assumption) | go_cell | (go_simp; done))); (focus (first | (with_reducible assumption) | go_cell | (go_simp; done))); (focus (first | (with_reducible assumption) | go_cell | (go_simp; done))); (focus (first | (with_reducible assumption) | go_cell | (go_simp; done)))))
    (first | (go_at_call 31; (with_reducible refine (H4.out _).mono ?_); rintro e xa ⟨rfl, hba⟩; have hB_xa : Below w.heap.size w xa := below_after (by go_grown) hba; have hw_xa := hB_xa.size; have hz_xa := hba.size; (try simp only [World.size_alloc, World.size_setCell, World.size_drew] at hz_xa); have c_s0_xa : xa.cell? ⟨w2.heap.size, 0, none⟩ = some (.int .i64 x) := kp hba (by go_cell); have c_s1_xa : xa.cell? ⟨w2.heap.size, 1, none⟩ = some (.int .i64 y) := kp hba (by go_cell); have c_u0_xa : xa.cell? ⟨w3.heap.size, 0, none⟩ = some (.int .i64 F) := kp hba (by go_cell); have c_u1_xa : xa.cell? ⟨w3.heap.size, 1, none⟩ = some (.int .i64 ((U - 1))) := kp hba (by go_cell)) | (go_at_call 31; (with_reducible refine (H3.out _).mono ?_); rintro e xb ⟨rfl, hbb⟩; have hB_xb : Below w.heap.size w xb := below_after (by go_grown) hbb; have hw_xb := hB_xb.size; have hz_xb := hbb.size; (try simp only [World.size_alloc, World.size_setCell, World.size_drew] at hz_xb); have c_s0_xb : xb.cell? ⟨w2.heap.size, 0, none⟩ = some (.int .i64 x) := kp hbb (by go_cell); have c_s1_xb : xb.cell? ⟨w2.heap.size, 1, none⟩ = some (.int .i64 y) := kp hbb (by go_cell); have c_u0_xb : xb.cell? ⟨w3.heap.size, 0, none⟩ = some (.int .i64 F) := kp hbb (by go_cell); have c_u1_xb : xb.cell? ⟨w3.heap.size, 1, none⟩ = some (.int .i64 ((U - 1))) := kp hbb (by go_cell)))
  all_goals go_split_ands
  all_goals go_wp2_with fail
  all_goals go_ret
  all_goals exact ⟨ret_bool (by simp), by assumption⟩

theorem readings_walk (t lo hi dr r time : Int) (w : World) :
    Calls Try.prog 12 #[.agg #[.int .i64 t, .int .i64 lo, .int .i64 hi, .int .i64 dr], .int .i64 r, .int .i64 time] w fun e w' => e = .returned (.bool true) ∧ Below w.heap.size w w' := by
  cases h1 : (clkB t lo hi dr && readB r)
  · exact readings_no t lo hi dr r time w h1
  · by_cases h2 : time < -1000000000000
    · exact readings_out1 t lo hi dr r time w h1 h2
    · by_cases h3 : 1000000000000 < time
      · exact readings_out2 t lo hi dr r time w h1 h2 h3
      · by_cases hc : untilI t lo dr time ≤ firstI t hi dr time
        · exact readings_none t lo hi dr r time w h1 (by omega) (by omega) hc
        · exact readings_some t lo hi dr r time w h1 (by omega) (by omega) hc
end Go.Proofs.Ytollpjdnahemeaa
