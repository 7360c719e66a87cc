import Derived.Test.YtollpjdnahemeaaS7
namespace Go.Proofs.Ytollpjdnahemeaa
open Go.RowKit
set_option linter.unusedSimpArgs false
set_option linter.unusedVariables false


theorem joinS_comm (al ah bl bh : Int) : joinS bl bh al ah = joinS al ah bl bh := by
  unfold joinS
  rw [Bool.and_comm, Int.min_comm, Int.max_comm]

set_option maxHeartbeats 800000 in
set_option maxRecDepth 100000 in
theorem joins_no1 (al ah bl bh : Int) (w : World) (h : vld al ah = false) :
    Calls Try.prog 7 #[.agg #[.int .i64 al, .int .i64 ah], .agg #[.int .i64 bl, .int .i64 bh]] w fun e w' => e = .returned (.bool true) ∧ Below w.heap.size w w' := by
  have hj : joinS al ah bl bh = (0, 0, 1) := by simp [joinS, h]
  have j1 := fun w => Join_any al ah bl bh w
  have j2 := fun w => Join_any bl bh al ah w
  rw [joinS_comm al ah bl bh] at j2
  rw [hj] at j1 j2
  have v1 := fun w => Valid_any al ah w
  have v2 := fun w => Valid_any bl bh w
  rw [h] at v1
  have HJ1 := Lib.hid j1
  have HJ2 := Lib.hid j2
  have HV1 := Lib.hid v1
  have HV2 := Lib.hid v2
  clear j1 j2 hj v1 v2 h
  go_enter Try.func7, Try.ntmps7
  go_wp2_with fail
  refine (head_any _).mono ?_
  rintro e w1 ⟨rfl, hb1⟩
  have hB1 : Below w.heap.size w w1 := below_after (by go_grown) hb1
  have hz1 := hb1.size
  try simp only [World.size_alloc, World.size_setCell, World.size_drew] at hz1
  have c_a0 : w1.cell? ⟨w.heap.size, 0, none⟩ = some (.int .i64 al) := kp hb1 (by go_cell)
  have c_a1 : w1.cell? ⟨w.heap.size, 1, none⟩ = some (.int .i64 ah) := kp hb1 (by go_cell)
  have c_b0 : w1.cell? ⟨w.heap.size + 1, 0, none⟩ = some (.int .i64 bl) := kp hb1 (by go_cell)
  have c_b1 : w1.cell? ⟨w.heap.size + 1, 1, none⟩ = some (.int .i64 bh) := kp hb1 (by go_cell)
  clear hb1
  go_wp2_with fail
  refine (HJ1.out _).mono ?_
  rintro e w2 ⟨rfl, hb2⟩
  have hB2 : Below w.heap.size w w2 := below_after (by go_grown) hb2
  have hz2 := hb2.size
  try simp only [World.size_alloc, World.size_setCell, World.size_drew] at hz2
  replace c_a0 : w2.cell? ⟨w.heap.size, 0, none⟩ = some (.int .i64 al) := kp hb2 (by go_cell)
  replace c_a1 : w2.cell? ⟨w.heap.size, 1, none⟩ = some (.int .i64 ah) := kp hb2 (by go_cell)
  replace c_b0 : w2.cell? ⟨w.heap.size + 1, 0, none⟩ = some (.int .i64 bl) := kp hb2 (by go_cell)
  replace c_b1 : w2.cell? ⟨w.heap.size + 1, 1, none⟩ = some (.int .i64 bh) := kp hb2 (by go_cell)
  clear hb2 hB1
  go_wp2_with fail
  refine (HJ2.out _).mono ?_
  rintro e w3 ⟨rfl, hb3⟩
  have hB3 : Below w.heap.size w w3 := below_after (by go_grown) hb3
  have hz3 := hb3.size
  try simp only [World.size_alloc, World.size_setCell, World.size_drew] at hz3
  replace c_a0 : w3.cell? ⟨w.heap.size, 0, none⟩ = some (.int .i64 al) := kp hb3 (by go_cell)
  replace c_a1 : w3.cell? ⟨w.heap.size, 1, none⟩ = some (.int .i64 ah) := kp hb3 (by go_cell)
  replace c_b0 : w3.cell? ⟨w.heap.size + 1, 0, none⟩ = some (.int .i64 bl) := kp hb3 (by go_cell)
  replace c_b1 : w3.cell? ⟨w.heap.size + 1, 1, none⟩ = some (.int .i64 bh) := kp hb3 (by go_cell)
  have c_s0 : w3.cell? ⟨w2.heap.size, 0, none⟩ = some (.int .i64 0) := kp hb3 (by go_cell)
  have c_s1 : w3.cell? ⟨w2.heap.size, 1, none⟩ = some (.int .i64 0) := kp hb3 (by go_cell)
  clear hb3 hB2
  go_wp2_with fail
  refine (HV1.out _).mono ?_
  rintro e w4 ⟨rfl, hb4⟩
  have hB4 : Below w.heap.size w w4 := below_after (by go_grown) hb4
  have hz4 := hb4.size
  try simp only [World.size_alloc, World.size_setCell, World.size_drew] at hz4
  replace c_a0 : w4.cell? ⟨w.heap.size, 0, none⟩ = some (.int .i64 al) := kp hb4 (by go_cell)
  replace c_a1 : w4.cell? ⟨w.heap.size, 1, none⟩ = some (.int .i64 ah) := kp hb4 (by go_cell)
  replace c_b0 : w4.cell? ⟨w.heap.size + 1, 0, none⟩ = some (.int .i64 bl) := kp hb4 (by go_cell)
  replace c_b1 : w4.cell? ⟨w.heap.size + 1, 1, none⟩ = some (.int .i64 bh) := kp hb4 (by go_cell)
  replace c_s0 : w4.cell? ⟨w2.heap.size, 0, none⟩ = some (.int .i64 0) := kp hb4 (by go_cell)
  replace c_s1 : w4.cell? ⟨w2.heap.size, 1, none⟩ = some (.int .i64 0) := kp hb4 (by go_cell)
  have c_t0 : w4.cell? ⟨w3.heap.size, 0, none⟩ = some (.int .i64 0) := kp hb4 (by go_cell)
  have c_t1 : w4.cell? ⟨w3.heap.size, 1, none⟩ = some (.int .i64 0) := kp hb4 (by go_cell)
  clear hb4 hB3
  go_wp2_with fail
  go_ret
  exact ⟨rfl, by go_grown⟩

set_option maxHeartbeats 800000 in
set_option maxRecDepth 100000 in
theorem joins_no2 (al ah bl bh : Int) (w : World) (h : vld al ah = true ∧ vld bl bh = false) :
    Calls Try.prog 7 #[.agg #[.int .i64 al, .int .i64 ah], .agg #[.int .i64 bl, .int .i64 bh]] w fun e w' => e = .returned (.bool true) ∧ Below w.heap.size w w' := by
  have hj : joinS al ah bl bh = (0, 0, 1) := by simp [joinS, h]
  have j1 := fun w => Join_any al ah bl bh w
  have j2 := fun w => Join_any bl bh al ah w
  rw [joinS_comm al ah bl bh] at j2
  rw [hj] at j1 j2
  have v1 := fun w => Valid_any al ah w
  have v2 := fun w => Valid_any bl bh w
  rw [h.1] at v1
  rw [h.2] at v2
  have HJ1 := Lib.hid j1
  have HJ2 := Lib.hid j2
  have HV1 := Lib.hid v1
  have HV2 := Lib.hid v2
  clear j1 j2 hj v1 v2 h
  go_enter Try.func7, Try.ntmps7
  go_wp2_with fail
  refine (head_any _).mono ?_
  rintro e w1 ⟨rfl, hb1⟩
  have hB1 : Below w.heap.size w w1 := below_after (by go_grown) hb1
  have hz1 := hb1.size
  try simp only [World.size_alloc, World.size_setCell, World.size_drew] at hz1
  have c_a0 : w1.cell? ⟨w.heap.size, 0, none⟩ = some (.int .i64 al) := kp hb1 (by go_cell)
  have c_a1 : w1.cell? ⟨w.heap.size, 1, none⟩ = some (.int .i64 ah) := kp hb1 (by go_cell)
  have c_b0 : w1.cell? ⟨w.heap.size + 1, 0, none⟩ = some (.int .i64 bl) := kp hb1 (by go_cell)
  have c_b1 : w1.cell? ⟨w.heap.size + 1, 1, none⟩ = some (.int .i64 bh) := kp hb1 (by go_cell)
  clear hb1
  go_wp2_with fail
  refine (HJ1.out _).mono ?_
  rintro e w2 ⟨rfl, hb2⟩
  have hB2 : Below w.heap.size w w2 := below_after (by go_grown) hb2
  have hz2 := hb2.size
  try simp only [World.size_alloc, World.size_setCell, World.size_drew] at hz2
  replace c_a0 : w2.cell? ⟨w.heap.size, 0, none⟩ = some (.int .i64 al) := kp hb2 (by go_cell)
  replace c_a1 : w2.cell? ⟨w.heap.size, 1, none⟩ = some (.int .i64 ah) := kp hb2 (by go_cell)
  replace c_b0 : w2.cell? ⟨w.heap.size + 1, 0, none⟩ = some (.int .i64 bl) := kp hb2 (by go_cell)
  replace c_b1 : w2.cell? ⟨w.heap.size + 1, 1, none⟩ = some (.int .i64 bh) := kp hb2 (by go_cell)
  clear hb2 hB1
  go_wp2_with fail
  refine (HJ2.out _).mono ?_
  rintro e w3 ⟨rfl, hb3⟩
  have hB3 : Below w.heap.size w w3 := below_after (by go_grown) hb3
  have hz3 := hb3.size
  try simp only [World.size_alloc, World.size_setCell, World.size_drew] at hz3
  replace c_a0 : w3.cell? ⟨w.heap.size, 0, none⟩ = some (.int .i64 al) := kp hb3 (by go_cell)
  replace c_a1 : w3.cell? ⟨w.heap.size, 1, none⟩ = some (.int .i64 ah) := kp hb3 (by go_cell)
  replace c_b0 : w3.cell? ⟨w.heap.size + 1, 0, none⟩ = some (.int .i64 bl) := kp hb3 (by go_cell)
  replace c_b1 : w3.cell? ⟨w.heap.size + 1, 1, none⟩ = some (.int .i64 bh) := kp hb3 (by go_cell)
  have c_s0 : w3.cell? ⟨w2.heap.size, 0, none⟩ = some (.int .i64 0) := kp hb3 (by go_cell)
  have c_s1 : w3.cell? ⟨w2.heap.size, 1, none⟩ = some (.int .i64 0) := kp hb3 (by go_cell)
  clear hb3 hB2
  go_wp2_with fail
  refine (HV1.out _).mono ?_
  rintro e w4 ⟨rfl, hb4⟩
  have hB4 : Below w.heap.size w w4 := below_after (by go_grown) hb4
  have hz4 := hb4.size
  try simp only [World.size_alloc, World.size_setCell, World.size_drew] at hz4
  replace c_a0 : w4.cell? ⟨w.heap.size, 0, none⟩ = some (.int .i64 al) := kp hb4 (by go_cell)
  replace c_a1 : w4.cell? ⟨w.heap.size, 1, none⟩ = some (.int .i64 ah) := kp hb4 (by go_cell)
  replace c_b0 : w4.cell? ⟨w.heap.size + 1, 0, none⟩ = some (.int .i64 bl) := kp hb4 (by go_cell)
  replace c_b1 : w4.cell? ⟨w.heap.size + 1, 1, none⟩ = some (.int .i64 bh) := kp hb4 (by go_cell)
  replace c_s0 : w4.cell? ⟨w2.heap.size, 0, none⟩ = some (.int .i64 0) := kp hb4 (by go_cell)
  replace c_s1 : w4.cell? ⟨w2.heap.size, 1, none⟩ = some (.int .i64 0) := kp hb4 (by go_cell)
  have c_t0 : w4.cell? ⟨w3.heap.size, 0, none⟩ = some (.int .i64 0) := kp hb4 (by go_cell)
  have c_t1 : w4.cell? ⟨w3.heap.size, 1, none⟩ = some (.int .i64 0) := kp hb4 (by go_cell)
  clear hb4 hB3
  go_wp2_with fail
  refine (HV2.out _).mono ?_
  rintro e w5 ⟨rfl, hb5⟩
  have hB5 : Below w.heap.size w w5 := below_after (by go_grown) hb5
  have hz5 := hb5.size
  try simp only [World.size_alloc, World.size_setCell, World.size_drew] at hz5
  replace c_a0 : w5.cell? ⟨w.heap.size, 0, none⟩ = some (.int .i64 al) := kp hb5 (by go_cell)
  replace c_a1 : w5.cell? ⟨w.heap.size, 1, none⟩ = some (.int .i64 ah) := kp hb5 (by go_cell)
  replace c_b0 : w5.cell? ⟨w.heap.size + 1, 0, none⟩ = some (.int .i64 bl) := kp hb5 (by go_cell)
  replace c_b1 : w5.cell? ⟨w.heap.size + 1, 1, none⟩ = some (.int .i64 bh) := kp hb5 (by go_cell)
  replace c_s0 : w5.cell? ⟨w2.heap.size, 0, none⟩ = some (.int .i64 0) := kp hb5 (by go_cell)
  replace c_s1 : w5.cell? ⟨w2.heap.size, 1, none⟩ = some (.int .i64 0) := kp hb5 (by go_cell)
  replace c_t0 : w5.cell? ⟨w3.heap.size, 0, none⟩ = some (.int .i64 0) := kp hb5 (by go_cell)
  replace c_t1 : w5.cell? ⟨w3.heap.size, 1, none⟩ = some (.int .i64 0) := kp hb5 (by go_cell)
  clear hb5 hB4
  go_wp2_with fail
  go_ret
  exact ⟨rfl, by go_grown⟩

set_option maxHeartbeats 800000 in
set_option maxRecDepth 100000 in
theorem joins_yes1 (al ah bl bh : Int) (w : World) (h : (vld al ah && vld bl bh) = true) (hx : bl < al) (hy : ah < bh) :
    Calls Try.prog 7 #[.agg #[.int .i64 al, .int .i64 ah], .agg #[.int .i64 bl, .int .i64 bh]] w fun e w' => e = .returned (.bool true) ∧ Below w.heap.size w w' := by
  have hj : joinS al ah bl bh = (bl, bh, 0) := by
    rw [joinS, h, if_pos rfl, show min al bl = bl by omega, show max ah bh = bh by omega]
  have va := vld_bounds (and_left h)
  have vb := vld_bounds (and_right h)
  obtain ⟨va1, va2, va3⟩ := va
  obtain ⟨vb1, vb2, vb3⟩ := vb
  have hj2 : joinS bl bh al ah = (bl, bh, 0) := by
    have hv : (vld bl bh && vld al ah) = true := by rw [and_left h]; simp [vld] <;> omega
    rw [joinS, hv, if_pos rfl, show min bl al = bl by omega, show max bh ah = bh by omega]
  have j1 := fun w => Join_any al ah bl bh w
  have j2 := fun w => Join_any bl bh al ah w
  have j3 := fun w => Join_any bl bh al ah w
  rw [joinS_comm al ah bl bh] at j2
  rw [hj] at j1 j2
  rw [hj2] at j3
  have w1 := fun w => Within_any al ah bl bh w
  have w2 := fun w => Within_any bl bh bl bh w
  rw [show (decide (bl ≤ al) && decide (ah ≤ bh)) = true by simp <;> omega] at w1
  rw [show (decide (bl ≤ bl) && decide (bh ≤ bh)) = true by simp <;> omega] at w2
  have HJ1 := Lib.hid j1
  have HJ2 := Lib.hid j2
  have HJ3 := Lib.hid j3
  have HW1 := Lib.hid w1
  have HW2 := Lib.hid w2
  clear j1 j2 j3 hj hj2 w1 w2 h
  have nx : (bl == al) = false := by simp <;> omega
  have ny : (bh == ah) = false := by simp <;> omega
  go_enter Try.func7, Try.ntmps7
  go_wp2_with fail
  refine (head_any _).mono ?_
  rintro e w1 ⟨rfl, hb1⟩
  have hB1 : Below w.heap.size w w1 := below_after (by go_grown) hb1
  have hz1 := hb1.size
  try simp only [World.size_alloc, World.size_setCell, World.size_drew] at hz1
  have c_a0 : w1.cell? ⟨w.heap.size, 0, none⟩ = some (.int .i64 al) := kp hb1 (by go_cell)
  have c_a1 : w1.cell? ⟨w.heap.size, 1, none⟩ = some (.int .i64 ah) := kp hb1 (by go_cell)
  have c_b0 : w1.cell? ⟨w.heap.size + 1, 0, none⟩ = some (.int .i64 bl) := kp hb1 (by go_cell)
  have c_b1 : w1.cell? ⟨w.heap.size + 1, 1, none⟩ = some (.int .i64 bh) := kp hb1 (by go_cell)
  clear hb1
  go_wp2_with fail
  refine (HJ1.out _).mono ?_
  rintro e w2 ⟨rfl, hb2⟩
  have hB2 : Below w.heap.size w w2 := below_after (by go_grown) hb2
  have hz2 := hb2.size
  try simp only [World.size_alloc, World.size_setCell, World.size_drew] at hz2
  replace c_a0 : w2.cell? ⟨w.heap.size, 0, none⟩ = some (.int .i64 al) := kp hb2 (by go_cell)
  replace c_a1 : w2.cell? ⟨w.heap.size, 1, none⟩ = some (.int .i64 ah) := kp hb2 (by go_cell)
  replace c_b0 : w2.cell? ⟨w.heap.size + 1, 0, none⟩ = some (.int .i64 bl) := kp hb2 (by go_cell)
  replace c_b1 : w2.cell? ⟨w.heap.size + 1, 1, none⟩ = some (.int .i64 bh) := kp hb2 (by go_cell)
  clear hb2 hB1
  go_wp2_with fail
  refine (HJ2.out _).mono ?_
  rintro e w3 ⟨rfl, hb3⟩
  have hB3 : Below w.heap.size w w3 := below_after (by go_grown) hb3
  have hz3 := hb3.size
  try simp only [World.size_alloc, World.size_setCell, World.size_drew] at hz3
  replace c_a0 : w3.cell? ⟨w.heap.size, 0, none⟩ = some (.int .i64 al) := kp hb3 (by go_cell)
  replace c_a1 : w3.cell? ⟨w.heap.size, 1, none⟩ = some (.int .i64 ah) := kp hb3 (by go_cell)
  replace c_b0 : w3.cell? ⟨w.heap.size + 1, 0, none⟩ = some (.int .i64 bl) := kp hb3 (by go_cell)
  replace c_b1 : w3.cell? ⟨w.heap.size + 1, 1, none⟩ = some (.int .i64 bh) := kp hb3 (by go_cell)
  have c_s0 : w3.cell? ⟨w2.heap.size, 0, none⟩ = some (.int .i64 bl) := kp hb3 (by go_cell)
  have c_s1 : w3.cell? ⟨w2.heap.size, 1, none⟩ = some (.int .i64 bh) := kp hb3 (by go_cell)
  clear hb3 hB2
  go_wp2_with fail
  refine (HJ3.out _).mono ?_
  rintro e w4 ⟨rfl, hb4⟩
  have hB4 : Below w.heap.size w w4 := below_after (by go_grown) hb4
  have hz4 := hb4.size
  try simp only [World.size_alloc, World.size_setCell, World.size_drew] at hz4
  replace c_a0 : w4.cell? ⟨w.heap.size, 0, none⟩ = some (.int .i64 al) := kp hb4 (by go_cell)
  replace c_a1 : w4.cell? ⟨w.heap.size, 1, none⟩ = some (.int .i64 ah) := kp hb4 (by go_cell)
  replace c_b0 : w4.cell? ⟨w.heap.size + 1, 0, none⟩ = some (.int .i64 bl) := kp hb4 (by go_cell)
  replace c_b1 : w4.cell? ⟨w.heap.size + 1, 1, none⟩ = some (.int .i64 bh) := kp hb4 (by go_cell)
  replace c_s0 : w4.cell? ⟨w2.heap.size, 0, none⟩ = some (.int .i64 bl) := kp hb4 (by go_cell)
  replace c_s1 : w4.cell? ⟨w2.heap.size, 1, none⟩ = some (.int .i64 bh) := kp hb4 (by go_cell)
  clear hb4 hB3
  go_wp2_with fail
  refine (HW1.out _).mono ?_
  rintro e w5 ⟨rfl, hb5⟩
  have hB5 : Below w.heap.size w w5 := below_after (by go_grown) hb5
  have hz5 := hb5.size
  try simp only [World.size_alloc, World.size_setCell, World.size_drew] at hz5
  replace c_a0 : w5.cell? ⟨w.heap.size, 0, none⟩ = some (.int .i64 al) := kp hb5 (by go_cell)
  replace c_a1 : w5.cell? ⟨w.heap.size, 1, none⟩ = some (.int .i64 ah) := kp hb5 (by go_cell)
  replace c_b0 : w5.cell? ⟨w.heap.size + 1, 0, none⟩ = some (.int .i64 bl) := kp hb5 (by go_cell)
  replace c_b1 : w5.cell? ⟨w.heap.size + 1, 1, none⟩ = some (.int .i64 bh) := kp hb5 (by go_cell)
  replace c_s0 : w5.cell? ⟨w2.heap.size, 0, none⟩ = some (.int .i64 bl) := kp hb5 (by go_cell)
  replace c_s1 : w5.cell? ⟨w2.heap.size, 1, none⟩ = some (.int .i64 bh) := kp hb5 (by go_cell)
  have c_g0 : w5.cell? ⟨w4.heap.size, 0, none⟩ = some (.int .i64 bl) := kp hb5 (by go_cell)
  have c_g1 : w5.cell? ⟨w4.heap.size, 1, none⟩ = some (.int .i64 bh) := kp hb5 (by go_cell)
  clear hb5 hB4
  go_wp2_with fail
  refine (HW2.out _).mono ?_
  rintro e w6 ⟨rfl, hb6⟩
  have hB6 : Below w.heap.size w w6 := below_after (by go_grown) hb6
  have hz6 := hb6.size
  try simp only [World.size_alloc, World.size_setCell, World.size_drew] at hz6
  replace c_a0 : w6.cell? ⟨w.heap.size, 0, none⟩ = some (.int .i64 al) := kp hb6 (by go_cell)
  replace c_a1 : w6.cell? ⟨w.heap.size, 1, none⟩ = some (.int .i64 ah) := kp hb6 (by go_cell)
  replace c_b0 : w6.cell? ⟨w.heap.size + 1, 0, none⟩ = some (.int .i64 bl) := kp hb6 (by go_cell)
  replace c_b1 : w6.cell? ⟨w.heap.size + 1, 1, none⟩ = some (.int .i64 bh) := kp hb6 (by go_cell)
  replace c_s0 : w6.cell? ⟨w2.heap.size, 0, none⟩ = some (.int .i64 bl) := kp hb6 (by go_cell)
  replace c_s1 : w6.cell? ⟨w2.heap.size, 1, none⟩ = some (.int .i64 bh) := kp hb6 (by go_cell)
  replace c_g0 : w6.cell? ⟨w4.heap.size, 0, none⟩ = some (.int .i64 bl) := kp hb6 (by go_cell)
  replace c_g1 : w6.cell? ⟨w4.heap.size, 1, none⟩ = some (.int .i64 bh) := kp hb6 (by go_cell)
  clear hb6 hB5
  go_wp2_with fail
  go_ret
  exact ⟨rfl, by go_grown⟩

set_option maxHeartbeats 800000 in
set_option maxRecDepth 100000 in
theorem joins_yes2 (al ah bl bh : Int) (w : World) (h : (vld al ah && vld bl bh) = true) (hx : bl < al) (hy : ¬ ah < bh) :
    Calls Try.prog 7 #[.agg #[.int .i64 al, .int .i64 ah], .agg #[.int .i64 bl, .int .i64 bh]] w fun e w' => e = .returned (.bool true) ∧ Below w.heap.size w w' := by
  have hj : joinS al ah bl bh = (bl, ah, 0) := by
    rw [joinS, h, if_pos rfl, show min al bl = bl by omega, show max ah bh = ah by omega]
  have va := vld_bounds (and_left h)
  have vb := vld_bounds (and_right h)
  obtain ⟨va1, va2, va3⟩ := va
  obtain ⟨vb1, vb2, vb3⟩ := vb
  have hj2 : joinS bl ah al ah = (bl, ah, 0) := by
    have hv : (vld bl ah && vld al ah) = true := by rw [and_left h]; simp [vld] <;> omega
    rw [joinS, hv, if_pos rfl, show min bl al = bl by omega, show max ah ah = ah by omega]
  have j1 := fun w => Join_any al ah bl bh w
  have j2 := fun w => Join_any bl bh al ah w
  have j3 := fun w => Join_any bl ah al ah w
  rw [joinS_comm al ah bl bh] at j2
  rw [hj] at j1 j2
  rw [hj2] at j3
  have w1 := fun w => Within_any al ah bl ah w
  have w2 := fun w => Within_any bl bh bl ah w
  rw [show (decide (bl ≤ al) && decide (ah ≤ ah)) = true by simp <;> omega] at w1
  rw [show (decide (bl ≤ bl) && decide (bh ≤ ah)) = true by simp <;> omega] at w2
  have HJ1 := Lib.hid j1
  have HJ2 := Lib.hid j2
  have HJ3 := Lib.hid j3
  have HW1 := Lib.hid w1
  have HW2 := Lib.hid w2
  clear j1 j2 j3 hj hj2 w1 w2 h
  have nx : (bl == al) = false := by simp <;> omega
  go_enter Try.func7, Try.ntmps7
  go_wp2_with fail
  refine (head_any _).mono ?_
  rintro e w1 ⟨rfl, hb1⟩
  have hB1 : Below w.heap.size w w1 := below_after (by go_grown) hb1
  have hz1 := hb1.size
  try simp only [World.size_alloc, World.size_setCell, World.size_drew] at hz1
  have c_a0 : w1.cell? ⟨w.heap.size, 0, none⟩ = some (.int .i64 al) := kp hb1 (by go_cell)
  have c_a1 : w1.cell? ⟨w.heap.size, 1, none⟩ = some (.int .i64 ah) := kp hb1 (by go_cell)
  have c_b0 : w1.cell? ⟨w.heap.size + 1, 0, none⟩ = some (.int .i64 bl) := kp hb1 (by go_cell)
  have c_b1 : w1.cell? ⟨w.heap.size + 1, 1, none⟩ = some (.int .i64 bh) := kp hb1 (by go_cell)
  clear hb1
  go_wp2_with fail
  refine (HJ1.out _).mono ?_
  rintro e w2 ⟨rfl, hb2⟩
  have hB2 : Below w.heap.size w w2 := below_after (by go_grown) hb2
  have hz2 := hb2.size
  try simp only [World.size_alloc, World.size_setCell, World.size_drew] at hz2
  replace c_a0 : w2.cell? ⟨w.heap.size, 0, none⟩ = some (.int .i64 al) := kp hb2 (by go_cell)
  replace c_a1 : w2.cell? ⟨w.heap.size, 1, none⟩ = some (.int .i64 ah) := kp hb2 (by go_cell)
  replace c_b0 : w2.cell? ⟨w.heap.size + 1, 0, none⟩ = some (.int .i64 bl) := kp hb2 (by go_cell)
  replace c_b1 : w2.cell? ⟨w.heap.size + 1, 1, none⟩ = some (.int .i64 bh) := kp hb2 (by go_cell)
  clear hb2 hB1
  go_wp2_with fail
  refine (HJ2.out _).mono ?_
  rintro e w3 ⟨rfl, hb3⟩
  have hB3 : Below w.heap.size w w3 := below_after (by go_grown) hb3
  have hz3 := hb3.size
  try simp only [World.size_alloc, World.size_setCell, World.size_drew] at hz3
  replace c_a0 : w3.cell? ⟨w.heap.size, 0, none⟩ = some (.int .i64 al) := kp hb3 (by go_cell)
  replace c_a1 : w3.cell? ⟨w.heap.size, 1, none⟩ = some (.int .i64 ah) := kp hb3 (by go_cell)
  replace c_b0 : w3.cell? ⟨w.heap.size + 1, 0, none⟩ = some (.int .i64 bl) := kp hb3 (by go_cell)
  replace c_b1 : w3.cell? ⟨w.heap.size + 1, 1, none⟩ = some (.int .i64 bh) := kp hb3 (by go_cell)
  have c_s0 : w3.cell? ⟨w2.heap.size, 0, none⟩ = some (.int .i64 bl) := kp hb3 (by go_cell)
  have c_s1 : w3.cell? ⟨w2.heap.size, 1, none⟩ = some (.int .i64 ah) := kp hb3 (by go_cell)
  clear hb3 hB2
  go_wp2_with fail
  refine (HJ3.out _).mono ?_
  rintro e w4 ⟨rfl, hb4⟩
  have hB4 : Below w.heap.size w w4 := below_after (by go_grown) hb4
  have hz4 := hb4.size
  try simp only [World.size_alloc, World.size_setCell, World.size_drew] at hz4
  replace c_a0 : w4.cell? ⟨w.heap.size, 0, none⟩ = some (.int .i64 al) := kp hb4 (by go_cell)
  replace c_a1 : w4.cell? ⟨w.heap.size, 1, none⟩ = some (.int .i64 ah) := kp hb4 (by go_cell)
  replace c_b0 : w4.cell? ⟨w.heap.size + 1, 0, none⟩ = some (.int .i64 bl) := kp hb4 (by go_cell)
  replace c_b1 : w4.cell? ⟨w.heap.size + 1, 1, none⟩ = some (.int .i64 bh) := kp hb4 (by go_cell)
  replace c_s0 : w4.cell? ⟨w2.heap.size, 0, none⟩ = some (.int .i64 bl) := kp hb4 (by go_cell)
  replace c_s1 : w4.cell? ⟨w2.heap.size, 1, none⟩ = some (.int .i64 ah) := kp hb4 (by go_cell)
  clear hb4 hB3
  go_wp2_with fail
  refine (HW1.out _).mono ?_
  rintro e w5 ⟨rfl, hb5⟩
  have hB5 : Below w.heap.size w w5 := below_after (by go_grown) hb5
  have hz5 := hb5.size
  try simp only [World.size_alloc, World.size_setCell, World.size_drew] at hz5
  replace c_a0 : w5.cell? ⟨w.heap.size, 0, none⟩ = some (.int .i64 al) := kp hb5 (by go_cell)
  replace c_a1 : w5.cell? ⟨w.heap.size, 1, none⟩ = some (.int .i64 ah) := kp hb5 (by go_cell)
  replace c_b0 : w5.cell? ⟨w.heap.size + 1, 0, none⟩ = some (.int .i64 bl) := kp hb5 (by go_cell)
  replace c_b1 : w5.cell? ⟨w.heap.size + 1, 1, none⟩ = some (.int .i64 bh) := kp hb5 (by go_cell)
  replace c_s0 : w5.cell? ⟨w2.heap.size, 0, none⟩ = some (.int .i64 bl) := kp hb5 (by go_cell)
  replace c_s1 : w5.cell? ⟨w2.heap.size, 1, none⟩ = some (.int .i64 ah) := kp hb5 (by go_cell)
  have c_g0 : w5.cell? ⟨w4.heap.size, 0, none⟩ = some (.int .i64 bl) := kp hb5 (by go_cell)
  have c_g1 : w5.cell? ⟨w4.heap.size, 1, none⟩ = some (.int .i64 ah) := kp hb5 (by go_cell)
  clear hb5 hB4
  go_wp2_with fail
  refine (HW2.out _).mono ?_
  rintro e w6 ⟨rfl, hb6⟩
  have hB6 : Below w.heap.size w w6 := below_after (by go_grown) hb6
  have hz6 := hb6.size
  try simp only [World.size_alloc, World.size_setCell, World.size_drew] at hz6
  replace c_a0 : w6.cell? ⟨w.heap.size, 0, none⟩ = some (.int .i64 al) := kp hb6 (by go_cell)
  replace c_a1 : w6.cell? ⟨w.heap.size, 1, none⟩ = some (.int .i64 ah) := kp hb6 (by go_cell)
  replace c_b0 : w6.cell? ⟨w.heap.size + 1, 0, none⟩ = some (.int .i64 bl) := kp hb6 (by go_cell)
  replace c_b1 : w6.cell? ⟨w.heap.size + 1, 1, none⟩ = some (.int .i64 bh) := kp hb6 (by go_cell)
  replace c_s0 : w6.cell? ⟨w2.heap.size, 0, none⟩ = some (.int .i64 bl) := kp hb6 (by go_cell)
  replace c_s1 : w6.cell? ⟨w2.heap.size, 1, none⟩ = some (.int .i64 ah) := kp hb6 (by go_cell)
  replace c_g0 : w6.cell? ⟨w4.heap.size, 0, none⟩ = some (.int .i64 bl) := kp hb6 (by go_cell)
  replace c_g1 : w6.cell? ⟨w4.heap.size, 1, none⟩ = some (.int .i64 ah) := kp hb6 (by go_cell)
  clear hb6 hB5
  go_wp2_with fail
  go_ret
  exact ⟨rfl, by go_grown⟩

set_option maxHeartbeats 800000 in
set_option maxRecDepth 100000 in
theorem joins_yes3 (al ah bl bh : Int) (w : World) (h : (vld al ah && vld bl bh) = true) (hx : ¬ bl < al) (hy : ah < bh) :
    Calls Try.prog 7 #[.agg #[.int .i64 al, .int .i64 ah], .agg #[.int .i64 bl, .int .i64 bh]] w fun e w' => e = .returned (.bool true) ∧ Below w.heap.size w w' := by
  have hj : joinS al ah bl bh = (al, bh, 0) := by
    rw [joinS, h, if_pos rfl, show min al bl = al by omega, show max ah bh = bh by omega]
  have va := vld_bounds (and_left h)
  have vb := vld_bounds (and_right h)
  obtain ⟨va1, va2, va3⟩ := va
  obtain ⟨vb1, vb2, vb3⟩ := vb
  have hj2 : joinS al bh al ah = (al, bh, 0) := by
    have hv : (vld al bh && vld al ah) = true := by rw [and_left h]; simp [vld] <;> omega
    rw [joinS, hv, if_pos rfl, show min al al = al by omega, show max bh ah = bh by omega]
  have j1 := fun w => Join_any al ah bl bh w
  have j2 := fun w => Join_any bl bh al ah w
  have j3 := fun w => Join_any al bh al ah w
  rw [joinS_comm al ah bl bh] at j2
  rw [hj] at j1 j2
  rw [hj2] at j3
  have w1 := fun w => Within_any al ah al bh w
  have w2 := fun w => Within_any bl bh al bh w
  rw [show (decide (al ≤ al) && decide (ah ≤ bh)) = true by simp <;> omega] at w1
  rw [show (decide (al ≤ bl) && decide (bh ≤ bh)) = true by simp <;> omega] at w2
  have HJ1 := Lib.hid j1
  have HJ2 := Lib.hid j2
  have HJ3 := Lib.hid j3
  have HW1 := Lib.hid w1
  have HW2 := Lib.hid w2
  clear j1 j2 j3 hj hj2 w1 w2 h
  have ny : (bh == ah) = false := by simp <;> omega
  go_enter Try.func7, Try.ntmps7
  go_wp2_with fail
  refine (head_any _).mono ?_
  rintro e w1 ⟨rfl, hb1⟩
  have hB1 : Below w.heap.size w w1 := below_after (by go_grown) hb1
  have hz1 := hb1.size
  try simp only [World.size_alloc, World.size_setCell, World.size_drew] at hz1
  have c_a0 : w1.cell? ⟨w.heap.size, 0, none⟩ = some (.int .i64 al) := kp hb1 (by go_cell)
  have c_a1 : w1.cell? ⟨w.heap.size, 1, none⟩ = some (.int .i64 ah) := kp hb1 (by go_cell)
  have c_b0 : w1.cell? ⟨w.heap.size + 1, 0, none⟩ = some (.int .i64 bl) := kp hb1 (by go_cell)
  have c_b1 : w1.cell? ⟨w.heap.size + 1, 1, none⟩ = some (.int .i64 bh) := kp hb1 (by go_cell)
  clear hb1
  go_wp2_with fail
  refine (HJ1.out _).mono ?_
  rintro e w2 ⟨rfl, hb2⟩
  have hB2 : Below w.heap.size w w2 := below_after (by go_grown) hb2
  have hz2 := hb2.size
  try simp only [World.size_alloc, World.size_setCell, World.size_drew] at hz2
  replace c_a0 : w2.cell? ⟨w.heap.size, 0, none⟩ = some (.int .i64 al) := kp hb2 (by go_cell)
  replace c_a1 : w2.cell? ⟨w.heap.size, 1, none⟩ = some (.int .i64 ah) := kp hb2 (by go_cell)
  replace c_b0 : w2.cell? ⟨w.heap.size + 1, 0, none⟩ = some (.int .i64 bl) := kp hb2 (by go_cell)
  replace c_b1 : w2.cell? ⟨w.heap.size + 1, 1, none⟩ = some (.int .i64 bh) := kp hb2 (by go_cell)
  clear hb2 hB1
  go_wp2_with fail
  refine (HJ2.out _).mono ?_
  rintro e w3 ⟨rfl, hb3⟩
  have hB3 : Below w.heap.size w w3 := below_after (by go_grown) hb3
  have hz3 := hb3.size
  try simp only [World.size_alloc, World.size_setCell, World.size_drew] at hz3
  replace c_a0 : w3.cell? ⟨w.heap.size, 0, none⟩ = some (.int .i64 al) := kp hb3 (by go_cell)
  replace c_a1 : w3.cell? ⟨w.heap.size, 1, none⟩ = some (.int .i64 ah) := kp hb3 (by go_cell)
  replace c_b0 : w3.cell? ⟨w.heap.size + 1, 0, none⟩ = some (.int .i64 bl) := kp hb3 (by go_cell)
  replace c_b1 : w3.cell? ⟨w.heap.size + 1, 1, none⟩ = some (.int .i64 bh) := kp hb3 (by go_cell)
  have c_s0 : w3.cell? ⟨w2.heap.size, 0, none⟩ = some (.int .i64 al) := kp hb3 (by go_cell)
  have c_s1 : w3.cell? ⟨w2.heap.size, 1, none⟩ = some (.int .i64 bh) := kp hb3 (by go_cell)
  clear hb3 hB2
  go_wp2_with fail
  refine (HJ3.out _).mono ?_
  rintro e w4 ⟨rfl, hb4⟩
  have hB4 : Below w.heap.size w w4 := below_after (by go_grown) hb4
  have hz4 := hb4.size
  try simp only [World.size_alloc, World.size_setCell, World.size_drew] at hz4
  replace c_a0 : w4.cell? ⟨w.heap.size, 0, none⟩ = some (.int .i64 al) := kp hb4 (by go_cell)
  replace c_a1 : w4.cell? ⟨w.heap.size, 1, none⟩ = some (.int .i64 ah) := kp hb4 (by go_cell)
  replace c_b0 : w4.cell? ⟨w.heap.size + 1, 0, none⟩ = some (.int .i64 bl) := kp hb4 (by go_cell)
  replace c_b1 : w4.cell? ⟨w.heap.size + 1, 1, none⟩ = some (.int .i64 bh) := kp hb4 (by go_cell)
  replace c_s0 : w4.cell? ⟨w2.heap.size, 0, none⟩ = some (.int .i64 al) := kp hb4 (by go_cell)
  replace c_s1 : w4.cell? ⟨w2.heap.size, 1, none⟩ = some (.int .i64 bh) := kp hb4 (by go_cell)
  clear hb4 hB3
  go_wp2_with fail
  refine (HW1.out _).mono ?_
  rintro e w5 ⟨rfl, hb5⟩
  have hB5 : Below w.heap.size w w5 := below_after (by go_grown) hb5
  have hz5 := hb5.size
  try simp only [World.size_alloc, World.size_setCell, World.size_drew] at hz5
  replace c_a0 : w5.cell? ⟨w.heap.size, 0, none⟩ = some (.int .i64 al) := kp hb5 (by go_cell)
  replace c_a1 : w5.cell? ⟨w.heap.size, 1, none⟩ = some (.int .i64 ah) := kp hb5 (by go_cell)
  replace c_b0 : w5.cell? ⟨w.heap.size + 1, 0, none⟩ = some (.int .i64 bl) := kp hb5 (by go_cell)
  replace c_b1 : w5.cell? ⟨w.heap.size + 1, 1, none⟩ = some (.int .i64 bh) := kp hb5 (by go_cell)
  replace c_s0 : w5.cell? ⟨w2.heap.size, 0, none⟩ = some (.int .i64 al) := kp hb5 (by go_cell)
  replace c_s1 : w5.cell? ⟨w2.heap.size, 1, none⟩ = some (.int .i64 bh) := kp hb5 (by go_cell)
  have c_g0 : w5.cell? ⟨w4.heap.size, 0, none⟩ = some (.int .i64 al) := kp hb5 (by go_cell)
  have c_g1 : w5.cell? ⟨w4.heap.size, 1, none⟩ = some (.int .i64 bh) := kp hb5 (by go_cell)
  clear hb5 hB4
  go_wp2_with fail
  refine (HW2.out _).mono ?_
  rintro e w6 ⟨rfl, hb6⟩
  have hB6 : Below w.heap.size w w6 := below_after (by go_grown) hb6
  have hz6 := hb6.size
  try simp only [World.size_alloc, World.size_setCell, World.size_drew] at hz6
  replace c_a0 : w6.cell? ⟨w.heap.size, 0, none⟩ = some (.int .i64 al) := kp hb6 (by go_cell)
  replace c_a1 : w6.cell? ⟨w.heap.size, 1, none⟩ = some (.int .i64 ah) := kp hb6 (by go_cell)
  replace c_b0 : w6.cell? ⟨w.heap.size + 1, 0, none⟩ = some (.int .i64 bl) := kp hb6 (by go_cell)
  replace c_b1 : w6.cell? ⟨w.heap.size + 1, 1, none⟩ = some (.int .i64 bh) := kp hb6 (by go_cell)
  replace c_s0 : w6.cell? ⟨w2.heap.size, 0, none⟩ = some (.int .i64 al) := kp hb6 (by go_cell)
  replace c_s1 : w6.cell? ⟨w2.heap.size, 1, none⟩ = some (.int .i64 bh) := kp hb6 (by go_cell)
  replace c_g0 : w6.cell? ⟨w4.heap.size, 0, none⟩ = some (.int .i64 al) := kp hb6 (by go_cell)
  replace c_g1 : w6.cell? ⟨w4.heap.size, 1, none⟩ = some (.int .i64 bh) := kp hb6 (by go_cell)
  clear hb6 hB5
  go_wp2_with fail
  go_ret
  exact ⟨rfl, by go_grown⟩

set_option maxHeartbeats 800000 in
set_option maxRecDepth 100000 in
theorem joins_yes4 (al ah bl bh : Int) (w : World) (h : (vld al ah && vld bl bh) = true) (hx : ¬ bl < al) (hy : ¬ ah < bh) :
    Calls Try.prog 7 #[.agg #[.int .i64 al, .int .i64 ah], .agg #[.int .i64 bl, .int .i64 bh]] w fun e w' => e = .returned (.bool true) ∧ Below w.heap.size w w' := by
  have hj : joinS al ah bl bh = (al, ah, 0) := by
    rw [joinS, h, if_pos rfl, show min al bl = al by omega, show max ah bh = ah by omega]
  have va := vld_bounds (and_left h)
  have vb := vld_bounds (and_right h)
  obtain ⟨va1, va2, va3⟩ := va
  obtain ⟨vb1, vb2, vb3⟩ := vb
  have hj2 : joinS al ah al ah = (al, ah, 0) := by
    have hv : (vld al ah && vld al ah) = true := by rw [and_left h]; simp [vld] <;> omega
    rw [joinS, hv, if_pos rfl, show min al al = al by omega, show max ah ah = ah by omega]
  have j1 := fun w => Join_any al ah bl bh w
  have j2 := fun w => Join_any bl bh al ah w
  have j3 := fun w => Join_any al ah al ah w
  rw [joinS_comm al ah bl bh] at j2
  rw [hj] at j1 j2
  rw [hj2] at j3
  have w1 := fun w => Within_any al ah al ah w
  have w2 := fun w => Within_any bl bh al ah w
  rw [show (decide (al ≤ al) && decide (ah ≤ ah)) = true by simp <;> omega] at w1
  rw [show (decide (al ≤ bl) && decide (bh ≤ ah)) = true by simp <;> omega] at w2
  have HJ1 := Lib.hid j1
  have HJ2 := Lib.hid j2
  have HJ3 := Lib.hid j3
  have HW1 := Lib.hid w1
  have HW2 := Lib.hid w2
  clear j1 j2 j3 hj hj2 w1 w2 h
  go_enter Try.func7, Try.ntmps7
  go_wp2_with fail
  refine (head_any _).mono ?_
  rintro e w1 ⟨rfl, hb1⟩
  have hB1 : Below w.heap.size w w1 := below_after (by go_grown) hb1
  have hz1 := hb1.size
  try simp only [World.size_alloc, World.size_setCell, World.size_drew] at hz1
  have c_a0 : w1.cell? ⟨w.heap.size, 0, none⟩ = some (.int .i64 al) := kp hb1 (by go_cell)
  have c_a1 : w1.cell? ⟨w.heap.size, 1, none⟩ = some (.int .i64 ah) := kp hb1 (by go_cell)
  have c_b0 : w1.cell? ⟨w.heap.size + 1, 0, none⟩ = some (.int .i64 bl) := kp hb1 (by go_cell)
  have c_b1 : w1.cell? ⟨w.heap.size + 1, 1, none⟩ = some (.int .i64 bh) := kp hb1 (by go_cell)
  clear hb1
  go_wp2_with fail
  refine (HJ1.out _).mono ?_
  rintro e w2 ⟨rfl, hb2⟩
  have hB2 : Below w.heap.size w w2 := below_after (by go_grown) hb2
  have hz2 := hb2.size
  try simp only [World.size_alloc, World.size_setCell, World.size_drew] at hz2
  replace c_a0 : w2.cell? ⟨w.heap.size, 0, none⟩ = some (.int .i64 al) := kp hb2 (by go_cell)
  replace c_a1 : w2.cell? ⟨w.heap.size, 1, none⟩ = some (.int .i64 ah) := kp hb2 (by go_cell)
  replace c_b0 : w2.cell? ⟨w.heap.size + 1, 0, none⟩ = some (.int .i64 bl) := kp hb2 (by go_cell)
  replace c_b1 : w2.cell? ⟨w.heap.size + 1, 1, none⟩ = some (.int .i64 bh) := kp hb2 (by go_cell)
  clear hb2 hB1
  go_wp2_with fail
  refine (HJ2.out _).mono ?_
  rintro e w3 ⟨rfl, hb3⟩
  have hB3 : Below w.heap.size w w3 := below_after (by go_grown) hb3
  have hz3 := hb3.size
  try simp only [World.size_alloc, World.size_setCell, World.size_drew] at hz3
  replace c_a0 : w3.cell? ⟨w.heap.size, 0, none⟩ = some (.int .i64 al) := kp hb3 (by go_cell)
  replace c_a1 : w3.cell? ⟨w.heap.size, 1, none⟩ = some (.int .i64 ah) := kp hb3 (by go_cell)
  replace c_b0 : w3.cell? ⟨w.heap.size + 1, 0, none⟩ = some (.int .i64 bl) := kp hb3 (by go_cell)
  replace c_b1 : w3.cell? ⟨w.heap.size + 1, 1, none⟩ = some (.int .i64 bh) := kp hb3 (by go_cell)
  have c_s0 : w3.cell? ⟨w2.heap.size, 0, none⟩ = some (.int .i64 al) := kp hb3 (by go_cell)
  have c_s1 : w3.cell? ⟨w2.heap.size, 1, none⟩ = some (.int .i64 ah) := kp hb3 (by go_cell)
  clear hb3 hB2
  go_wp2_with fail
  refine (HJ3.out _).mono ?_
  rintro e w4 ⟨rfl, hb4⟩
  have hB4 : Below w.heap.size w w4 := below_after (by go_grown) hb4
  have hz4 := hb4.size
  try simp only [World.size_alloc, World.size_setCell, World.size_drew] at hz4
  replace c_a0 : w4.cell? ⟨w.heap.size, 0, none⟩ = some (.int .i64 al) := kp hb4 (by go_cell)
  replace c_a1 : w4.cell? ⟨w.heap.size, 1, none⟩ = some (.int .i64 ah) := kp hb4 (by go_cell)
  replace c_b0 : w4.cell? ⟨w.heap.size + 1, 0, none⟩ = some (.int .i64 bl) := kp hb4 (by go_cell)
  replace c_b1 : w4.cell? ⟨w.heap.size + 1, 1, none⟩ = some (.int .i64 bh) := kp hb4 (by go_cell)
  replace c_s0 : w4.cell? ⟨w2.heap.size, 0, none⟩ = some (.int .i64 al) := kp hb4 (by go_cell)
  replace c_s1 : w4.cell? ⟨w2.heap.size, 1, none⟩ = some (.int .i64 ah) := kp hb4 (by go_cell)
  clear hb4 hB3
  go_wp2_with fail
  refine (HW1.out _).mono ?_
  rintro e w5 ⟨rfl, hb5⟩
  have hB5 : Below w.heap.size w w5 := below_after (by go_grown) hb5
  have hz5 := hb5.size
  try simp only [World.size_alloc, World.size_setCell, World.size_drew] at hz5
  replace c_a0 : w5.cell? ⟨w.heap.size, 0, none⟩ = some (.int .i64 al) := kp hb5 (by go_cell)
  replace c_a1 : w5.cell? ⟨w.heap.size, 1, none⟩ = some (.int .i64 ah) := kp hb5 (by go_cell)
  replace c_b0 : w5.cell? ⟨w.heap.size + 1, 0, none⟩ = some (.int .i64 bl) := kp hb5 (by go_cell)
  replace c_b1 : w5.cell? ⟨w.heap.size + 1, 1, none⟩ = some (.int .i64 bh) := kp hb5 (by go_cell)
  replace c_s0 : w5.cell? ⟨w2.heap.size, 0, none⟩ = some (.int .i64 al) := kp hb5 (by go_cell)
  replace c_s1 : w5.cell? ⟨w2.heap.size, 1, none⟩ = some (.int .i64 ah) := kp hb5 (by go_cell)
  have c_g0 : w5.cell? ⟨w4.heap.size, 0, none⟩ = some (.int .i64 al) := kp hb5 (by go_cell)
  have c_g1 : w5.cell? ⟨w4.heap.size, 1, none⟩ = some (.int .i64 ah) := kp hb5 (by go_cell)
  clear hb5 hB4
  go_wp2_with fail
  refine (HW2.out _).mono ?_
  rintro e w6 ⟨rfl, hb6⟩
  have hB6 : Below w.heap.size w w6 := below_after (by go_grown) hb6
  have hz6 := hb6.size
  try simp only [World.size_alloc, World.size_setCell, World.size_drew] at hz6
  replace c_a0 : w6.cell? ⟨w.heap.size, 0, none⟩ = some (.int .i64 al) := kp hb6 (by go_cell)
  replace c_a1 : w6.cell? ⟨w.heap.size, 1, none⟩ = some (.int .i64 ah) := kp hb6 (by go_cell)
  replace c_b0 : w6.cell? ⟨w.heap.size + 1, 0, none⟩ = some (.int .i64 bl) := kp hb6 (by go_cell)
  replace c_b1 : w6.cell? ⟨w.heap.size + 1, 1, none⟩ = some (.int .i64 bh) := kp hb6 (by go_cell)
  replace c_s0 : w6.cell? ⟨w2.heap.size, 0, none⟩ = some (.int .i64 al) := kp hb6 (by go_cell)
  replace c_s1 : w6.cell? ⟨w2.heap.size, 1, none⟩ = some (.int .i64 ah) := kp hb6 (by go_cell)
  replace c_g0 : w6.cell? ⟨w4.heap.size, 0, none⟩ = some (.int .i64 al) := kp hb6 (by go_cell)
  replace c_g1 : w6.cell? ⟨w4.heap.size, 1, none⟩ = some (.int .i64 ah) := kp hb6 (by go_cell)
  clear hb6 hB5
  go_wp2_with fail
  go_ret
  exact ⟨rfl, by go_grown⟩

theorem joins_walk (al ah bl bh : Int) (w : World) :
    Calls Try.prog 7 #[.agg #[.int .i64 al, .int .i64 ah], .agg #[.int .i64 bl, .int .i64 bh]] w fun e w' => e = .returned (.bool true) ∧ Below w.heap.size w w'  := by
  cases h1 : vld al ah
  · exact joins_no1 al ah bl bh w h1
  · cases h2 : vld bl bh
    · exact joins_no2 al ah bl bh w ⟨h1, h2⟩
    · have h : (vld al ah && vld bl bh) = true := by rw [h1, h2]; rfl
      by_cases hx : bl < al <;> by_cases hy : ah < bh
      · exact joins_yes1 al ah bl bh w h hx hy
      · exact joins_yes2 al ah bl bh w h hx hy
      · exact joins_yes3 al ah bl bh w h hx hy
      · exact joins_yes4 al ah bl bh w h hx hy

end Go.Proofs.Ytollpjdnahemeaa
