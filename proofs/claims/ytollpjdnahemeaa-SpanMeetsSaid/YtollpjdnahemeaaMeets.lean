import Derived.Test.YtollpjdnahemeaaS7
namespace Go.Proofs.Ytollpjdnahemeaa
open Go.RowKit
set_option linter.unusedSimpArgs false
set_option linter.unusedVariables false


set_option maxHeartbeats 800000 in
set_option maxRecDepth 100000 in
theorem meets_no1 (al ah bl bh n : Int) (w : World) (h : vld al ah = false) :
    Calls Try.prog 6 #[.agg #[.int .i64 al, .int .i64 ah], .agg #[.int .i64 bl, .int .i64 bh], .int .i64 n] w fun e w' => e = .returned (.bool true) ∧ Below w.heap.size w w' := by
  have hj : meetS al ah bl bh = (0, 0, false, 1) := by simp [meetS, h]
  have j1 := fun w => Meet_any al ah bl bh w
  rw [hj] at j1
  have v1 := fun w => Valid_any al ah w
  have v2 := fun w => Valid_any bl bh w
  rw [h] at v1
  have HM := Lib.hid j1
  have HV1 := Lib.hid v1
  have HV2 := Lib.hid v2
  clear j1 hj v1 v2 h
  go_enter Try.func6, Try.ntmps6
  go_wp2_with fail
  refine (head_any _).mono ?_
  rintro e w1 ⟨rfl, hb1⟩
  have hB1 : Below w.heap.size w w1 := below_after (by go_grown) hb1
  have hz1 := hb1.size
  try simp only [World.size_alloc, World.size_setCell, World.size_drew] at hz1
  have c_a0 : w1.cell? ⟨w.heap.size, 0, none⟩ = some (.int .i64 al) := kp hb1 (by go_cell)
  have c_a1 : w1.cell? ⟨w.heap.size, 1, none⟩ = some (.int .i64 ah) := kp hb1 (by go_cell)
  have c_b0 : w1.cell? ⟨w.heap.size + 1, 0, none⟩ = some (.int .i64 bl) := kp hb1 (by go_cell)
  have c_b1 : w1.cell? ⟨w.heap.size + 1, 1, none⟩ = some (.int .i64 bh) := kp hb1 (by go_cell)
  clear hb1
  go_wp2_with fail
  refine (HM.out _).mono ?_
  rintro e w2 ⟨rfl, hb2⟩
  have hB2 : Below w.heap.size w w2 := below_after (by go_grown) hb2
  have hz2 := hb2.size
  try simp only [World.size_alloc, World.size_setCell, World.size_drew] at hz2
  replace c_a0 : w2.cell? ⟨w.heap.size, 0, none⟩ = some (.int .i64 al) := kp hb2 (by go_cell)
  replace c_a1 : w2.cell? ⟨w.heap.size, 1, none⟩ = some (.int .i64 ah) := kp hb2 (by go_cell)
  replace c_b0 : w2.cell? ⟨w.heap.size + 1, 0, none⟩ = some (.int .i64 bl) := kp hb2 (by go_cell)
  replace c_b1 : w2.cell? ⟨w.heap.size + 1, 1, none⟩ = some (.int .i64 bh) := kp hb2 (by go_cell)
  clear hb2 hB1
  go_wp2_with fail
  refine (HV1.out _).mono ?_
  rintro e w3 ⟨rfl, hb3⟩
  have hB3 : Below w.heap.size w w3 := below_after (by go_grown) hb3
  have hz3 := hb3.size
  try simp only [World.size_alloc, World.size_setCell, World.size_drew] at hz3
  replace c_a0 : w3.cell? ⟨w.heap.size, 0, none⟩ = some (.int .i64 al) := kp hb3 (by go_cell)
  replace c_a1 : w3.cell? ⟨w.heap.size, 1, none⟩ = some (.int .i64 ah) := kp hb3 (by go_cell)
  replace c_b0 : w3.cell? ⟨w.heap.size + 1, 0, none⟩ = some (.int .i64 bl) := kp hb3 (by go_cell)
  replace c_b1 : w3.cell? ⟨w.heap.size + 1, 1, none⟩ = some (.int .i64 bh) := kp hb3 (by go_cell)
  have c_s0 : w3.cell? ⟨w2.heap.size, 0, none⟩ = some (.int .i64 0) := kp hb3 (by go_cell)
  have c_s1 : w3.cell? ⟨w2.heap.size, 1, none⟩ = some (.int .i64 0) := kp hb3 (by go_cell)
  clear hb3 hB2
  go_wp2_with fail
  go_ret
  exact ⟨rfl, by go_grown⟩

set_option maxHeartbeats 800000 in
set_option maxRecDepth 100000 in
theorem meets_no2 (al ah bl bh n : Int) (w : World) (h : vld al ah = true ∧ vld bl bh = false) :
    Calls Try.prog 6 #[.agg #[.int .i64 al, .int .i64 ah], .agg #[.int .i64 bl, .int .i64 bh], .int .i64 n] w fun e w' => e = .returned (.bool true) ∧ Below w.heap.size w w' := by
  have hj : meetS al ah bl bh = (0, 0, false, 1) := by simp [meetS, h]
  have j1 := fun w => Meet_any al ah bl bh w
  rw [hj] at j1
  have v1 := fun w => Valid_any al ah w
  have v2 := fun w => Valid_any bl bh w
  rw [h.1] at v1
  rw [h.2] at v2
  have HM := Lib.hid j1
  have HV1 := Lib.hid v1
  have HV2 := Lib.hid v2
  clear j1 hj v1 v2 h
  go_enter Try.func6, Try.ntmps6
  go_wp2_with fail
  refine (head_any _).mono ?_
  rintro e w1 ⟨rfl, hb1⟩
  have hB1 : Below w.heap.size w w1 := below_after (by go_grown) hb1
  have hz1 := hb1.size
  try simp only [World.size_alloc, World.size_setCell, World.size_drew] at hz1
  have c_a0 : w1.cell? ⟨w.heap.size, 0, none⟩ = some (.int .i64 al) := kp hb1 (by go_cell)
  have c_a1 : w1.cell? ⟨w.heap.size, 1, none⟩ = some (.int .i64 ah) := kp hb1 (by go_cell)
  have c_b0 : w1.cell? ⟨w.heap.size + 1, 0, none⟩ = some (.int .i64 bl) := kp hb1 (by go_cell)
  have c_b1 : w1.cell? ⟨w.heap.size + 1, 1, none⟩ = some (.int .i64 bh) := kp hb1 (by go_cell)
  clear hb1
  go_wp2_with fail
  refine (HM.out _).mono ?_
  rintro e w2 ⟨rfl, hb2⟩
  have hB2 : Below w.heap.size w w2 := below_after (by go_grown) hb2
  have hz2 := hb2.size
  try simp only [World.size_alloc, World.size_setCell, World.size_drew] at hz2
  replace c_a0 : w2.cell? ⟨w.heap.size, 0, none⟩ = some (.int .i64 al) := kp hb2 (by go_cell)
  replace c_a1 : w2.cell? ⟨w.heap.size, 1, none⟩ = some (.int .i64 ah) := kp hb2 (by go_cell)
  replace c_b0 : w2.cell? ⟨w.heap.size + 1, 0, none⟩ = some (.int .i64 bl) := kp hb2 (by go_cell)
  replace c_b1 : w2.cell? ⟨w.heap.size + 1, 1, none⟩ = some (.int .i64 bh) := kp hb2 (by go_cell)
  clear hb2 hB1
  go_wp2_with fail
  refine (HV1.out _).mono ?_
  rintro e w3 ⟨rfl, hb3⟩
  have hB3 : Below w.heap.size w w3 := below_after (by go_grown) hb3
  have hz3 := hb3.size
  try simp only [World.size_alloc, World.size_setCell, World.size_drew] at hz3
  replace c_a0 : w3.cell? ⟨w.heap.size, 0, none⟩ = some (.int .i64 al) := kp hb3 (by go_cell)
  replace c_a1 : w3.cell? ⟨w.heap.size, 1, none⟩ = some (.int .i64 ah) := kp hb3 (by go_cell)
  replace c_b0 : w3.cell? ⟨w.heap.size + 1, 0, none⟩ = some (.int .i64 bl) := kp hb3 (by go_cell)
  replace c_b1 : w3.cell? ⟨w.heap.size + 1, 1, none⟩ = some (.int .i64 bh) := kp hb3 (by go_cell)
  have c_s0 : w3.cell? ⟨w2.heap.size, 0, none⟩ = some (.int .i64 0) := kp hb3 (by go_cell)
  have c_s1 : w3.cell? ⟨w2.heap.size, 1, none⟩ = some (.int .i64 0) := kp hb3 (by go_cell)
  clear hb3 hB2
  go_wp2_with fail
  refine (HV2.out _).mono ?_
  rintro e w4 ⟨rfl, hb4⟩
  have hB4 : Below w.heap.size w w4 := below_after (by go_grown) hb4
  have hz4 := hb4.size
  try simp only [World.size_alloc, World.size_setCell, World.size_drew] at hz4
  replace c_a0 : w4.cell? ⟨w.heap.size, 0, none⟩ = some (.int .i64 al) := kp hb4 (by go_cell)
  replace c_a1 : w4.cell? ⟨w.heap.size, 1, none⟩ = some (.int .i64 ah) := kp hb4 (by go_cell)
  replace c_b0 : w4.cell? ⟨w.heap.size + 1, 0, none⟩ = some (.int .i64 bl) := kp hb4 (by go_cell)
  replace c_b1 : w4.cell? ⟨w.heap.size + 1, 1, none⟩ = some (.int .i64 bh) := kp hb4 (by go_cell)
  replace c_s0 : w4.cell? ⟨w2.heap.size, 0, none⟩ = some (.int .i64 0) := kp hb4 (by go_cell)
  replace c_s1 : w4.cell? ⟨w2.heap.size, 1, none⟩ = some (.int .i64 0) := kp hb4 (by go_cell)
  clear hb4 hB3
  go_wp2_with fail
  go_ret
  exact ⟨rfl, by go_grown⟩

set_option maxHeartbeats 800000 in
set_option maxRecDepth 100000 in
theorem meets_apart1 (al ah bl bh n : Int) (w : World) (h : (vld al ah && vld bl bh) = true) (hc : ah < bl) (p q : Bool) (hp : (decide (al ≤ n) && decide (n ≤ ah)) = p) (hq : (decide (bl ≤ n) && decide (n ≤ bh)) = q) (hpq : (p && q) = false) :
    Calls Try.prog 6 #[.agg #[.int .i64 al, .int .i64 ah], .agg #[.int .i64 bl, .int .i64 bh], .int .i64 n] w fun e w' => e = .returned (.bool true) ∧ Below w.heap.size w w' := by
  have hj : meetS al ah bl bh = (0, 0, false, 0) := by
    rw [meetS, h, if_pos rfl]
    rw [if_pos]; have va := vld_bounds (and_left h); have vb := vld_bounds (and_right h); omega
  have va := vld_bounds (and_left h)
  have vb := vld_bounds (and_right h)
  obtain ⟨va1, va2, va3⟩ := va
  obtain ⟨vb1, vb2, vb3⟩ := vb
  have j1 := fun w => Meet_any al ah bl bh w
  rw [hj] at j1
  have x1 := fun w => Has_any al ah n w
  have x2 := fun w => Has_any bl bh n w
  rw [show hasS al ah n = (decide (al ≤ n) && decide (n ≤ ah), 0) by rw [hasS, and_left h, if_pos rfl]] at x1
  rw [show hasS bl bh n = (decide (bl ≤ n) && decide (n ≤ bh), 0) by rw [hasS, and_right h, if_pos rfl]] at x2
  rw [hp] at x1
  rw [hq] at x2
  have HM := Lib.hid j1
  have HX1 := Lib.hid x1
  have HX2 := Lib.hid x2
  have HP := Lib.hid hpq
  clear j1 hj x1 x2 h hp hq hpq
  cases p <;> cases q
  all_goals first | (exact absurd HP.out (by decide)) | skip
  all_goals
    go_enter Try.func6, Try.ntmps6
    go_wp2_with fail
    refine (head_any _).mono ?_
    rintro e w1 ⟨rfl, hb1⟩
    have hB1 : Below w.heap.size w w1 := below_after (by go_grown) hb1
    have hz1 := hb1.size
    try simp only [World.size_alloc, World.size_setCell, World.size_drew] at hz1
    have c_a0 : w1.cell? ⟨w.heap.size, 0, none⟩ = some (.int .i64 al) := kp hb1 (by go_cell)
    have c_a1 : w1.cell? ⟨w.heap.size, 1, none⟩ = some (.int .i64 ah) := kp hb1 (by go_cell)
    have c_b0 : w1.cell? ⟨w.heap.size + 1, 0, none⟩ = some (.int .i64 bl) := kp hb1 (by go_cell)
    have c_b1 : w1.cell? ⟨w.heap.size + 1, 1, none⟩ = some (.int .i64 bh) := kp hb1 (by go_cell)
    clear hb1
    go_wp2_with fail
    refine (HM.out _).mono ?_
    rintro e w2 ⟨rfl, hb2⟩
    have hB2 : Below w.heap.size w w2 := below_after (by go_grown) hb2
    have hz2 := hb2.size
    try simp only [World.size_alloc, World.size_setCell, World.size_drew] at hz2
    replace c_a0 : w2.cell? ⟨w.heap.size, 0, none⟩ = some (.int .i64 al) := kp hb2 (by go_cell)
    replace c_a1 : w2.cell? ⟨w.heap.size, 1, none⟩ = some (.int .i64 ah) := kp hb2 (by go_cell)
    replace c_b0 : w2.cell? ⟨w.heap.size + 1, 0, none⟩ = some (.int .i64 bl) := kp hb2 (by go_cell)
    replace c_b1 : w2.cell? ⟨w.heap.size + 1, 1, none⟩ = some (.int .i64 bh) := kp hb2 (by go_cell)
    clear hb2 hB1
    go_wp2_with fail
    refine (HX1.out _).mono ?_
    rintro e w3 ⟨rfl, hb3⟩
    have hB3 : Below w.heap.size w w3 := below_after (by go_grown) hb3
    have hz3 := hb3.size
    try simp only [World.size_alloc, World.size_setCell, World.size_drew] at hz3
    replace c_a0 : w3.cell? ⟨w.heap.size, 0, none⟩ = some (.int .i64 al) := kp hb3 (by go_cell)
    replace c_a1 : w3.cell? ⟨w.heap.size, 1, none⟩ = some (.int .i64 ah) := kp hb3 (by go_cell)
    replace c_b0 : w3.cell? ⟨w.heap.size + 1, 0, none⟩ = some (.int .i64 bl) := kp hb3 (by go_cell)
    replace c_b1 : w3.cell? ⟨w.heap.size + 1, 1, none⟩ = some (.int .i64 bh) := kp hb3 (by go_cell)
    clear hb3 hB2
    go_wp2_with fail
    refine (HX2.out _).mono ?_
    rintro e w4 ⟨rfl, hb4⟩
    have hB4 : Below w.heap.size w w4 := below_after (by go_grown) hb4
    have hz4 := hb4.size
    try simp only [World.size_alloc, World.size_setCell, World.size_drew] at hz4
    replace c_a0 : w4.cell? ⟨w.heap.size, 0, none⟩ = some (.int .i64 al) := kp hb4 (by go_cell)
    replace c_a1 : w4.cell? ⟨w.heap.size, 1, none⟩ = some (.int .i64 ah) := kp hb4 (by go_cell)
    replace c_b0 : w4.cell? ⟨w.heap.size + 1, 0, none⟩ = some (.int .i64 bl) := kp hb4 (by go_cell)
    replace c_b1 : w4.cell? ⟨w.heap.size + 1, 1, none⟩ = some (.int .i64 bh) := kp hb4 (by go_cell)
    clear hb4 hB3
    go_wp2_with fail
    go_ret
    exact ⟨rfl, by go_grown⟩

set_option maxHeartbeats 800000 in
set_option maxRecDepth 100000 in
theorem meets_apart2 (al ah bl bh n : Int) (w : World) (h : (vld al ah && vld bl bh) = true) (hc : ¬ ah < bl ∧ bh < al) (p q : Bool) (hp : (decide (al ≤ n) && decide (n ≤ ah)) = p) (hq : (decide (bl ≤ n) && decide (n ≤ bh)) = q) (hpq : (p && q) = false) :
    Calls Try.prog 6 #[.agg #[.int .i64 al, .int .i64 ah], .agg #[.int .i64 bl, .int .i64 bh], .int .i64 n] w fun e w' => e = .returned (.bool true) ∧ Below w.heap.size w w' := by
  have hj : meetS al ah bl bh = (0, 0, false, 0) := by
    rw [meetS, h, if_pos rfl]
    rw [if_pos]; have va := vld_bounds (and_left h); have vb := vld_bounds (and_right h); omega
  have va := vld_bounds (and_left h)
  have vb := vld_bounds (and_right h)
  obtain ⟨va1, va2, va3⟩ := va
  obtain ⟨vb1, vb2, vb3⟩ := vb
  have j1 := fun w => Meet_any al ah bl bh w
  rw [hj] at j1
  have x1 := fun w => Has_any al ah n w
  have x2 := fun w => Has_any bl bh n w
  rw [show hasS al ah n = (decide (al ≤ n) && decide (n ≤ ah), 0) by rw [hasS, and_left h, if_pos rfl]] at x1
  rw [show hasS bl bh n = (decide (bl ≤ n) && decide (n ≤ bh), 0) by rw [hasS, and_right h, if_pos rfl]] at x2
  rw [hp] at x1
  rw [hq] at x2
  obtain ⟨hc1, hc2⟩ := hc
  have HM := Lib.hid j1
  have HX1 := Lib.hid x1
  have HX2 := Lib.hid x2
  have HP := Lib.hid hpq
  clear j1 hj x1 x2 h hp hq hpq
  cases p <;> cases q
  all_goals first | (exact absurd HP.out (by decide)) | skip
  all_goals
    go_enter Try.func6, Try.ntmps6
    go_wp2_with fail
    refine (head_any _).mono ?_
    rintro e w1 ⟨rfl, hb1⟩
    have hB1 : Below w.heap.size w w1 := below_after (by go_grown) hb1
    have hz1 := hb1.size
    try simp only [World.size_alloc, World.size_setCell, World.size_drew] at hz1
    have c_a0 : w1.cell? ⟨w.heap.size, 0, none⟩ = some (.int .i64 al) := kp hb1 (by go_cell)
    have c_a1 : w1.cell? ⟨w.heap.size, 1, none⟩ = some (.int .i64 ah) := kp hb1 (by go_cell)
    have c_b0 : w1.cell? ⟨w.heap.size + 1, 0, none⟩ = some (.int .i64 bl) := kp hb1 (by go_cell)
    have c_b1 : w1.cell? ⟨w.heap.size + 1, 1, none⟩ = some (.int .i64 bh) := kp hb1 (by go_cell)
    clear hb1
    go_wp2_with fail
    refine (HM.out _).mono ?_
    rintro e w2 ⟨rfl, hb2⟩
    have hB2 : Below w.heap.size w w2 := below_after (by go_grown) hb2
    have hz2 := hb2.size
    try simp only [World.size_alloc, World.size_setCell, World.size_drew] at hz2
    replace c_a0 : w2.cell? ⟨w.heap.size, 0, none⟩ = some (.int .i64 al) := kp hb2 (by go_cell)
    replace c_a1 : w2.cell? ⟨w.heap.size, 1, none⟩ = some (.int .i64 ah) := kp hb2 (by go_cell)
    replace c_b0 : w2.cell? ⟨w.heap.size + 1, 0, none⟩ = some (.int .i64 bl) := kp hb2 (by go_cell)
    replace c_b1 : w2.cell? ⟨w.heap.size + 1, 1, none⟩ = some (.int .i64 bh) := kp hb2 (by go_cell)
    clear hb2 hB1
    go_wp2_with fail
    refine (HX1.out _).mono ?_
    rintro e w3 ⟨rfl, hb3⟩
    have hB3 : Below w.heap.size w w3 := below_after (by go_grown) hb3
    have hz3 := hb3.size
    try simp only [World.size_alloc, World.size_setCell, World.size_drew] at hz3
    replace c_a0 : w3.cell? ⟨w.heap.size, 0, none⟩ = some (.int .i64 al) := kp hb3 (by go_cell)
    replace c_a1 : w3.cell? ⟨w.heap.size, 1, none⟩ = some (.int .i64 ah) := kp hb3 (by go_cell)
    replace c_b0 : w3.cell? ⟨w.heap.size + 1, 0, none⟩ = some (.int .i64 bl) := kp hb3 (by go_cell)
    replace c_b1 : w3.cell? ⟨w.heap.size + 1, 1, none⟩ = some (.int .i64 bh) := kp hb3 (by go_cell)
    clear hb3 hB2
    go_wp2_with fail
    refine (HX2.out _).mono ?_
    rintro e w4 ⟨rfl, hb4⟩
    have hB4 : Below w.heap.size w w4 := below_after (by go_grown) hb4
    have hz4 := hb4.size
    try simp only [World.size_alloc, World.size_setCell, World.size_drew] at hz4
    replace c_a0 : w4.cell? ⟨w.heap.size, 0, none⟩ = some (.int .i64 al) := kp hb4 (by go_cell)
    replace c_a1 : w4.cell? ⟨w.heap.size, 1, none⟩ = some (.int .i64 ah) := kp hb4 (by go_cell)
    replace c_b0 : w4.cell? ⟨w.heap.size + 1, 0, none⟩ = some (.int .i64 bl) := kp hb4 (by go_cell)
    replace c_b1 : w4.cell? ⟨w.heap.size + 1, 1, none⟩ = some (.int .i64 bh) := kp hb4 (by go_cell)
    clear hb4 hB3
    go_wp2_with fail
    go_ret
    exact ⟨rfl, by go_grown⟩

set_option maxHeartbeats 800000 in
set_option maxRecDepth 100000 in
theorem meets_yes1 (al ah bl bh n : Int) (w : World) (h : (vld al ah && vld bl bh) = true) (hc1 : ¬ ah < bl) (hc2 : ¬ bh < al) (hx : al < bl) (hy : bh < ah) (p q : Bool) (hp : (decide (al ≤ n) && decide (n ≤ ah)) = p) (hq : (decide (bl ≤ n) && decide (n ≤ bh)) = q) :
    Calls Try.prog 6 #[.agg #[.int .i64 al, .int .i64 ah], .agg #[.int .i64 bl, .int .i64 bh], .int .i64 n] w fun e w' => e = .returned (.bool true) ∧ Below w.heap.size w w' := by
  have hj : meetS al ah bl bh = (bl, bh, true, 0) := by
    rw [meetS, h, if_pos rfl]
    have va := vld_bounds (and_left h); have vb := vld_bounds (and_right h); rw [if_neg (by omega), show max al bl = bl by omega, show min ah bh = bh by omega]
  have va := vld_bounds (and_left h)
  have vb := vld_bounds (and_right h)
  obtain ⟨va1, va2, va3⟩ := va
  obtain ⟨vb1, vb2, vb3⟩ := vb
  have j1 := fun w => Meet_any al ah bl bh w
  rw [hj] at j1
  have x1 := fun w => Has_any al ah n w
  have x2 := fun w => Has_any bl bh n w
  rw [show hasS al ah n = (decide (al ≤ n) && decide (n ≤ ah), 0) by rw [hasS, and_left h, if_pos rfl]] at x1
  rw [show hasS bl bh n = (decide (bl ≤ n) && decide (n ≤ bh), 0) by rw [hasS, and_right h, if_pos rfl]] at x2
  have x3 := fun w => Has_any bl bh n w
  rw [show hasS bl bh n = (p && q, 0) by
    have hv : vld bl bh = true := by simp [vld] <;> omega
    rw [hasS, hv, if_pos rfl, ← hp, ← hq]
    congr 1
    rw [Bool.eq_iff_iff]; simp; omega] at x3
  rw [hp] at x1
  rw [hq] at x2
  have HM := Lib.hid j1
  have HX1 := Lib.hid x1
  have HX2 := Lib.hid x2
  have HX3 := Lib.hid x3
  clear j1 hj x1 x2 x3 h hp hq
  cases p <;> cases q
  all_goals
    go_enter Try.func6, Try.ntmps6
    go_wp2_with fail
    refine (head_any _).mono ?_
    rintro e w1 ⟨rfl, hb1⟩
    have hB1 : Below w.heap.size w w1 := below_after (by go_grown) hb1
    have hz1 := hb1.size
    try simp only [World.size_alloc, World.size_setCell, World.size_drew] at hz1
    have c_a0 : w1.cell? ⟨w.heap.size, 0, none⟩ = some (.int .i64 al) := kp hb1 (by go_cell)
    have c_a1 : w1.cell? ⟨w.heap.size, 1, none⟩ = some (.int .i64 ah) := kp hb1 (by go_cell)
    have c_b0 : w1.cell? ⟨w.heap.size + 1, 0, none⟩ = some (.int .i64 bl) := kp hb1 (by go_cell)
    have c_b1 : w1.cell? ⟨w.heap.size + 1, 1, none⟩ = some (.int .i64 bh) := kp hb1 (by go_cell)
    clear hb1
    go_wp2_with fail
    refine (HM.out _).mono ?_
    rintro e w2 ⟨rfl, hb2⟩
    have hB2 : Below w.heap.size w w2 := below_after (by go_grown) hb2
    have hz2 := hb2.size
    try simp only [World.size_alloc, World.size_setCell, World.size_drew] at hz2
    replace c_a0 : w2.cell? ⟨w.heap.size, 0, none⟩ = some (.int .i64 al) := kp hb2 (by go_cell)
    replace c_a1 : w2.cell? ⟨w.heap.size, 1, none⟩ = some (.int .i64 ah) := kp hb2 (by go_cell)
    replace c_b0 : w2.cell? ⟨w.heap.size + 1, 0, none⟩ = some (.int .i64 bl) := kp hb2 (by go_cell)
    replace c_b1 : w2.cell? ⟨w.heap.size + 1, 1, none⟩ = some (.int .i64 bh) := kp hb2 (by go_cell)
    clear hb2 hB1
    go_wp2_with fail
    refine (HX1.out _).mono ?_
    rintro e w3 ⟨rfl, hb3⟩
    have hB3 : Below w.heap.size w w3 := below_after (by go_grown) hb3
    have hz3 := hb3.size
    try simp only [World.size_alloc, World.size_setCell, World.size_drew] at hz3
    replace c_a0 : w3.cell? ⟨w.heap.size, 0, none⟩ = some (.int .i64 al) := kp hb3 (by go_cell)
    replace c_a1 : w3.cell? ⟨w.heap.size, 1, none⟩ = some (.int .i64 ah) := kp hb3 (by go_cell)
    replace c_b0 : w3.cell? ⟨w.heap.size + 1, 0, none⟩ = some (.int .i64 bl) := kp hb3 (by go_cell)
    replace c_b1 : w3.cell? ⟨w.heap.size + 1, 1, none⟩ = some (.int .i64 bh) := kp hb3 (by go_cell)
    have c_s0 : w3.cell? ⟨w2.heap.size, 0, none⟩ = some (.int .i64 bl) := kp hb3 (by go_cell)
    have c_s1 : w3.cell? ⟨w2.heap.size, 1, none⟩ = some (.int .i64 bh) := kp hb3 (by go_cell)
    clear hb3 hB2
    go_wp2_with fail
    refine (HX2.out _).mono ?_
    rintro e w4 ⟨rfl, hb4⟩
    have hB4 : Below w.heap.size w w4 := below_after (by go_grown) hb4
    have hz4 := hb4.size
    try simp only [World.size_alloc, World.size_setCell, World.size_drew] at hz4
    replace c_a0 : w4.cell? ⟨w.heap.size, 0, none⟩ = some (.int .i64 al) := kp hb4 (by go_cell)
    replace c_a1 : w4.cell? ⟨w.heap.size, 1, none⟩ = some (.int .i64 ah) := kp hb4 (by go_cell)
    replace c_b0 : w4.cell? ⟨w.heap.size + 1, 0, none⟩ = some (.int .i64 bl) := kp hb4 (by go_cell)
    replace c_b1 : w4.cell? ⟨w.heap.size + 1, 1, none⟩ = some (.int .i64 bh) := kp hb4 (by go_cell)
    replace c_s0 : w4.cell? ⟨w2.heap.size, 0, none⟩ = some (.int .i64 bl) := kp hb4 (by go_cell)
    replace c_s1 : w4.cell? ⟨w2.heap.size, 1, none⟩ = some (.int .i64 bh) := kp hb4 (by go_cell)
    clear hb4 hB3
    go_wp2_with fail
    refine (HX3.out _).mono ?_
    rintro e w5 ⟨rfl, hb5⟩
    have hB5 : Below w.heap.size w w5 := below_after (by go_grown) hb5
    have hz5 := hb5.size
    try simp only [World.size_alloc, World.size_setCell, World.size_drew] at hz5
    replace c_a0 : w5.cell? ⟨w.heap.size, 0, none⟩ = some (.int .i64 al) := kp hb5 (by go_cell)
    replace c_a1 : w5.cell? ⟨w.heap.size, 1, none⟩ = some (.int .i64 ah) := kp hb5 (by go_cell)
    replace c_b0 : w5.cell? ⟨w.heap.size + 1, 0, none⟩ = some (.int .i64 bl) := kp hb5 (by go_cell)
    replace c_b1 : w5.cell? ⟨w.heap.size + 1, 1, none⟩ = some (.int .i64 bh) := kp hb5 (by go_cell)
    replace c_s0 : w5.cell? ⟨w2.heap.size, 0, none⟩ = some (.int .i64 bl) := kp hb5 (by go_cell)
    replace c_s1 : w5.cell? ⟨w2.heap.size, 1, none⟩ = some (.int .i64 bh) := kp hb5 (by go_cell)
    clear hb5 hB4
    go_wp2_with fail
    go_ret
    exact ⟨rfl, by go_grown⟩

set_option maxHeartbeats 800000 in
set_option maxRecDepth 100000 in
theorem meets_yes2 (al ah bl bh n : Int) (w : World) (h : (vld al ah && vld bl bh) = true) (hc1 : ¬ ah < bl) (hc2 : ¬ bh < al) (hx : al < bl) (hy : ¬ bh < ah) (p q : Bool) (hp : (decide (al ≤ n) && decide (n ≤ ah)) = p) (hq : (decide (bl ≤ n) && decide (n ≤ bh)) = q) :
    Calls Try.prog 6 #[.agg #[.int .i64 al, .int .i64 ah], .agg #[.int .i64 bl, .int .i64 bh], .int .i64 n] w fun e w' => e = .returned (.bool true) ∧ Below w.heap.size w w' := by
  have hj : meetS al ah bl bh = (bl, ah, true, 0) := by
    rw [meetS, h, if_pos rfl]
    have va := vld_bounds (and_left h); have vb := vld_bounds (and_right h); rw [if_neg (by omega), show max al bl = bl by omega, show min ah bh = ah by omega]
  have va := vld_bounds (and_left h)
  have vb := vld_bounds (and_right h)
  obtain ⟨va1, va2, va3⟩ := va
  obtain ⟨vb1, vb2, vb3⟩ := vb
  have j1 := fun w => Meet_any al ah bl bh w
  rw [hj] at j1
  have x1 := fun w => Has_any al ah n w
  have x2 := fun w => Has_any bl bh n w
  rw [show hasS al ah n = (decide (al ≤ n) && decide (n ≤ ah), 0) by rw [hasS, and_left h, if_pos rfl]] at x1
  rw [show hasS bl bh n = (decide (bl ≤ n) && decide (n ≤ bh), 0) by rw [hasS, and_right h, if_pos rfl]] at x2
  have x3 := fun w => Has_any bl ah n w
  rw [show hasS bl ah n = (p && q, 0) by
    have hv : vld bl ah = true := by simp [vld] <;> omega
    rw [hasS, hv, if_pos rfl, ← hp, ← hq]
    congr 1
    rw [Bool.eq_iff_iff]; simp; omega] at x3
  rw [hp] at x1
  rw [hq] at x2
  have HM := Lib.hid j1
  have HX1 := Lib.hid x1
  have HX2 := Lib.hid x2
  have HX3 := Lib.hid x3
  clear j1 hj x1 x2 x3 h hp hq
  cases p <;> cases q
  all_goals
    go_enter Try.func6, Try.ntmps6
    go_wp2_with fail
    refine (head_any _).mono ?_
    rintro e w1 ⟨rfl, hb1⟩
    have hB1 : Below w.heap.size w w1 := below_after (by go_grown) hb1
    have hz1 := hb1.size
    try simp only [World.size_alloc, World.size_setCell, World.size_drew] at hz1
    have c_a0 : w1.cell? ⟨w.heap.size, 0, none⟩ = some (.int .i64 al) := kp hb1 (by go_cell)
    have c_a1 : w1.cell? ⟨w.heap.size, 1, none⟩ = some (.int .i64 ah) := kp hb1 (by go_cell)
    have c_b0 : w1.cell? ⟨w.heap.size + 1, 0, none⟩ = some (.int .i64 bl) := kp hb1 (by go_cell)
    have c_b1 : w1.cell? ⟨w.heap.size + 1, 1, none⟩ = some (.int .i64 bh) := kp hb1 (by go_cell)
    clear hb1
    go_wp2_with fail
    refine (HM.out _).mono ?_
    rintro e w2 ⟨rfl, hb2⟩
    have hB2 : Below w.heap.size w w2 := below_after (by go_grown) hb2
    have hz2 := hb2.size
    try simp only [World.size_alloc, World.size_setCell, World.size_drew] at hz2
    replace c_a0 : w2.cell? ⟨w.heap.size, 0, none⟩ = some (.int .i64 al) := kp hb2 (by go_cell)
    replace c_a1 : w2.cell? ⟨w.heap.size, 1, none⟩ = some (.int .i64 ah) := kp hb2 (by go_cell)
    replace c_b0 : w2.cell? ⟨w.heap.size + 1, 0, none⟩ = some (.int .i64 bl) := kp hb2 (by go_cell)
    replace c_b1 : w2.cell? ⟨w.heap.size + 1, 1, none⟩ = some (.int .i64 bh) := kp hb2 (by go_cell)
    clear hb2 hB1
    go_wp2_with fail
    refine (HX1.out _).mono ?_
    rintro e w3 ⟨rfl, hb3⟩
    have hB3 : Below w.heap.size w w3 := below_after (by go_grown) hb3
    have hz3 := hb3.size
    try simp only [World.size_alloc, World.size_setCell, World.size_drew] at hz3
    replace c_a0 : w3.cell? ⟨w.heap.size, 0, none⟩ = some (.int .i64 al) := kp hb3 (by go_cell)
    replace c_a1 : w3.cell? ⟨w.heap.size, 1, none⟩ = some (.int .i64 ah) := kp hb3 (by go_cell)
    replace c_b0 : w3.cell? ⟨w.heap.size + 1, 0, none⟩ = some (.int .i64 bl) := kp hb3 (by go_cell)
    replace c_b1 : w3.cell? ⟨w.heap.size + 1, 1, none⟩ = some (.int .i64 bh) := kp hb3 (by go_cell)
    have c_s0 : w3.cell? ⟨w2.heap.size, 0, none⟩ = some (.int .i64 bl) := kp hb3 (by go_cell)
    have c_s1 : w3.cell? ⟨w2.heap.size, 1, none⟩ = some (.int .i64 ah) := kp hb3 (by go_cell)
    clear hb3 hB2
    go_wp2_with fail
    refine (HX2.out _).mono ?_
    rintro e w4 ⟨rfl, hb4⟩
    have hB4 : Below w.heap.size w w4 := below_after (by go_grown) hb4
    have hz4 := hb4.size
    try simp only [World.size_alloc, World.size_setCell, World.size_drew] at hz4
    replace c_a0 : w4.cell? ⟨w.heap.size, 0, none⟩ = some (.int .i64 al) := kp hb4 (by go_cell)
    replace c_a1 : w4.cell? ⟨w.heap.size, 1, none⟩ = some (.int .i64 ah) := kp hb4 (by go_cell)
    replace c_b0 : w4.cell? ⟨w.heap.size + 1, 0, none⟩ = some (.int .i64 bl) := kp hb4 (by go_cell)
    replace c_b1 : w4.cell? ⟨w.heap.size + 1, 1, none⟩ = some (.int .i64 bh) := kp hb4 (by go_cell)
    replace c_s0 : w4.cell? ⟨w2.heap.size, 0, none⟩ = some (.int .i64 bl) := kp hb4 (by go_cell)
    replace c_s1 : w4.cell? ⟨w2.heap.size, 1, none⟩ = some (.int .i64 ah) := kp hb4 (by go_cell)
    clear hb4 hB3
    go_wp2_with fail
    refine (HX3.out _).mono ?_
    rintro e w5 ⟨rfl, hb5⟩
    have hB5 : Below w.heap.size w w5 := below_after (by go_grown) hb5
    have hz5 := hb5.size
    try simp only [World.size_alloc, World.size_setCell, World.size_drew] at hz5
    replace c_a0 : w5.cell? ⟨w.heap.size, 0, none⟩ = some (.int .i64 al) := kp hb5 (by go_cell)
    replace c_a1 : w5.cell? ⟨w.heap.size, 1, none⟩ = some (.int .i64 ah) := kp hb5 (by go_cell)
    replace c_b0 : w5.cell? ⟨w.heap.size + 1, 0, none⟩ = some (.int .i64 bl) := kp hb5 (by go_cell)
    replace c_b1 : w5.cell? ⟨w.heap.size + 1, 1, none⟩ = some (.int .i64 bh) := kp hb5 (by go_cell)
    replace c_s0 : w5.cell? ⟨w2.heap.size, 0, none⟩ = some (.int .i64 bl) := kp hb5 (by go_cell)
    replace c_s1 : w5.cell? ⟨w2.heap.size, 1, none⟩ = some (.int .i64 ah) := kp hb5 (by go_cell)
    clear hb5 hB4
    go_wp2_with fail
    go_ret
    exact ⟨rfl, by go_grown⟩

set_option maxHeartbeats 800000 in
set_option maxRecDepth 100000 in
theorem meets_yes3 (al ah bl bh n : Int) (w : World) (h : (vld al ah && vld bl bh) = true) (hc1 : ¬ ah < bl) (hc2 : ¬ bh < al) (hx : ¬ al < bl) (hy : bh < ah) (p q : Bool) (hp : (decide (al ≤ n) && decide (n ≤ ah)) = p) (hq : (decide (bl ≤ n) && decide (n ≤ bh)) = q) :
    Calls Try.prog 6 #[.agg #[.int .i64 al, .int .i64 ah], .agg #[.int .i64 bl, .int .i64 bh], .int .i64 n] w fun e w' => e = .returned (.bool true) ∧ Below w.heap.size w w' := by
  have hj : meetS al ah bl bh = (al, bh, true, 0) := by
    rw [meetS, h, if_pos rfl]
    have va := vld_bounds (and_left h); have vb := vld_bounds (and_right h); rw [if_neg (by omega), show max al bl = al by omega, show min ah bh = bh by omega]
  have va := vld_bounds (and_left h)
  have vb := vld_bounds (and_right h)
  obtain ⟨va1, va2, va3⟩ := va
  obtain ⟨vb1, vb2, vb3⟩ := vb
  have j1 := fun w => Meet_any al ah bl bh w
  rw [hj] at j1
  have x1 := fun w => Has_any al ah n w
  have x2 := fun w => Has_any bl bh n w
  rw [show hasS al ah n = (decide (al ≤ n) && decide (n ≤ ah), 0) by rw [hasS, and_left h, if_pos rfl]] at x1
  rw [show hasS bl bh n = (decide (bl ≤ n) && decide (n ≤ bh), 0) by rw [hasS, and_right h, if_pos rfl]] at x2
  have x3 := fun w => Has_any al bh n w
  rw [show hasS al bh n = (p && q, 0) by
    have hv : vld al bh = true := by simp [vld] <;> omega
    rw [hasS, hv, if_pos rfl, ← hp, ← hq]
    congr 1
    rw [Bool.eq_iff_iff]; simp; omega] at x3
  rw [hp] at x1
  rw [hq] at x2
  have HM := Lib.hid j1
  have HX1 := Lib.hid x1
  have HX2 := Lib.hid x2
  have HX3 := Lib.hid x3
  clear j1 hj x1 x2 x3 h hp hq
  cases p <;> cases q
  all_goals
    go_enter Try.func6, Try.ntmps6
    go_wp2_with fail
    refine (head_any _).mono ?_
    rintro e w1 ⟨rfl, hb1⟩
    have hB1 : Below w.heap.size w w1 := below_after (by go_grown) hb1
    have hz1 := hb1.size
    try simp only [World.size_alloc, World.size_setCell, World.size_drew] at hz1
    have c_a0 : w1.cell? ⟨w.heap.size, 0, none⟩ = some (.int .i64 al) := kp hb1 (by go_cell)
    have c_a1 : w1.cell? ⟨w.heap.size, 1, none⟩ = some (.int .i64 ah) := kp hb1 (by go_cell)
    have c_b0 : w1.cell? ⟨w.heap.size + 1, 0, none⟩ = some (.int .i64 bl) := kp hb1 (by go_cell)
    have c_b1 : w1.cell? ⟨w.heap.size + 1, 1, none⟩ = some (.int .i64 bh) := kp hb1 (by go_cell)
    clear hb1
    go_wp2_with fail
    refine (HM.out _).mono ?_
    rintro e w2 ⟨rfl, hb2⟩
    have hB2 : Below w.heap.size w w2 := below_after (by go_grown) hb2
    have hz2 := hb2.size
    try simp only [World.size_alloc, World.size_setCell, World.size_drew] at hz2
    replace c_a0 : w2.cell? ⟨w.heap.size, 0, none⟩ = some (.int .i64 al) := kp hb2 (by go_cell)
    replace c_a1 : w2.cell? ⟨w.heap.size, 1, none⟩ = some (.int .i64 ah) := kp hb2 (by go_cell)
    replace c_b0 : w2.cell? ⟨w.heap.size + 1, 0, none⟩ = some (.int .i64 bl) := kp hb2 (by go_cell)
    replace c_b1 : w2.cell? ⟨w.heap.size + 1, 1, none⟩ = some (.int .i64 bh) := kp hb2 (by go_cell)
    clear hb2 hB1
    go_wp2_with fail
    refine (HX1.out _).mono ?_
    rintro e w3 ⟨rfl, hb3⟩
    have hB3 : Below w.heap.size w w3 := below_after (by go_grown) hb3
    have hz3 := hb3.size
    try simp only [World.size_alloc, World.size_setCell, World.size_drew] at hz3
    replace c_a0 : w3.cell? ⟨w.heap.size, 0, none⟩ = some (.int .i64 al) := kp hb3 (by go_cell)
    replace c_a1 : w3.cell? ⟨w.heap.size, 1, none⟩ = some (.int .i64 ah) := kp hb3 (by go_cell)
    replace c_b0 : w3.cell? ⟨w.heap.size + 1, 0, none⟩ = some (.int .i64 bl) := kp hb3 (by go_cell)
    replace c_b1 : w3.cell? ⟨w.heap.size + 1, 1, none⟩ = some (.int .i64 bh) := kp hb3 (by go_cell)
    have c_s0 : w3.cell? ⟨w2.heap.size, 0, none⟩ = some (.int .i64 al) := kp hb3 (by go_cell)
    have c_s1 : w3.cell? ⟨w2.heap.size, 1, none⟩ = some (.int .i64 bh) := kp hb3 (by go_cell)
    clear hb3 hB2
    go_wp2_with fail
    refine (HX2.out _).mono ?_
    rintro e w4 ⟨rfl, hb4⟩
    have hB4 : Below w.heap.size w w4 := below_after (by go_grown) hb4
    have hz4 := hb4.size
    try simp only [World.size_alloc, World.size_setCell, World.size_drew] at hz4
    replace c_a0 : w4.cell? ⟨w.heap.size, 0, none⟩ = some (.int .i64 al) := kp hb4 (by go_cell)
    replace c_a1 : w4.cell? ⟨w.heap.size, 1, none⟩ = some (.int .i64 ah) := kp hb4 (by go_cell)
    replace c_b0 : w4.cell? ⟨w.heap.size + 1, 0, none⟩ = some (.int .i64 bl) := kp hb4 (by go_cell)
    replace c_b1 : w4.cell? ⟨w.heap.size + 1, 1, none⟩ = some (.int .i64 bh) := kp hb4 (by go_cell)
    replace c_s0 : w4.cell? ⟨w2.heap.size, 0, none⟩ = some (.int .i64 al) := kp hb4 (by go_cell)
    replace c_s1 : w4.cell? ⟨w2.heap.size, 1, none⟩ = some (.int .i64 bh) := kp hb4 (by go_cell)
    clear hb4 hB3
    go_wp2_with fail
    refine (HX3.out _).mono ?_
    rintro e w5 ⟨rfl, hb5⟩
    have hB5 : Below w.heap.size w w5 := below_after (by go_grown) hb5
    have hz5 := hb5.size
    try simp only [World.size_alloc, World.size_setCell, World.size_drew] at hz5
    replace c_a0 : w5.cell? ⟨w.heap.size, 0, none⟩ = some (.int .i64 al) := kp hb5 (by go_cell)
    replace c_a1 : w5.cell? ⟨w.heap.size, 1, none⟩ = some (.int .i64 ah) := kp hb5 (by go_cell)
    replace c_b0 : w5.cell? ⟨w.heap.size + 1, 0, none⟩ = some (.int .i64 bl) := kp hb5 (by go_cell)
    replace c_b1 : w5.cell? ⟨w.heap.size + 1, 1, none⟩ = some (.int .i64 bh) := kp hb5 (by go_cell)
    replace c_s0 : w5.cell? ⟨w2.heap.size, 0, none⟩ = some (.int .i64 al) := kp hb5 (by go_cell)
    replace c_s1 : w5.cell? ⟨w2.heap.size, 1, none⟩ = some (.int .i64 bh) := kp hb5 (by go_cell)
    clear hb5 hB4
    go_wp2_with fail
    go_ret
    exact ⟨rfl, by go_grown⟩

set_option maxHeartbeats 800000 in
set_option maxRecDepth 100000 in
theorem meets_yes4 (al ah bl bh n : Int) (w : World) (h : (vld al ah && vld bl bh) = true) (hc1 : ¬ ah < bl) (hc2 : ¬ bh < al) (hx : ¬ al < bl) (hy : ¬ bh < ah) (p q : Bool) (hp : (decide (al ≤ n) && decide (n ≤ ah)) = p) (hq : (decide (bl ≤ n) && decide (n ≤ bh)) = q) :
    Calls Try.prog 6 #[.agg #[.int .i64 al, .int .i64 ah], .agg #[.int .i64 bl, .int .i64 bh], .int .i64 n] w fun e w' => e = .returned (.bool true) ∧ Below w.heap.size w w' := by
  have hj : meetS al ah bl bh = (al, ah, true, 0) := by
    rw [meetS, h, if_pos rfl]
    have va := vld_bounds (and_left h); have vb := vld_bounds (and_right h); rw [if_neg (by omega), show max al bl = al by omega, show min ah bh = ah by omega]
  have va := vld_bounds (and_left h)
  have vb := vld_bounds (and_right h)
  obtain ⟨va1, va2, va3⟩ := va
  obtain ⟨vb1, vb2, vb3⟩ := vb
  have j1 := fun w => Meet_any al ah bl bh w
  rw [hj] at j1
  have x1 := fun w => Has_any al ah n w
  have x2 := fun w => Has_any bl bh n w
  rw [show hasS al ah n = (decide (al ≤ n) && decide (n ≤ ah), 0) by rw [hasS, and_left h, if_pos rfl]] at x1
  rw [show hasS bl bh n = (decide (bl ≤ n) && decide (n ≤ bh), 0) by rw [hasS, and_right h, if_pos rfl]] at x2
  have x3 := fun w => Has_any al ah n w
  rw [show hasS al ah n = (p && q, 0) by
    have hv : vld al ah = true := by simp [vld] <;> omega
    rw [hasS, hv, if_pos rfl, ← hp, ← hq]
    congr 1
    rw [Bool.eq_iff_iff]; simp; omega] at x3
  rw [hp] at x1
  rw [hq] at x2
  have HM := Lib.hid j1
  have HX1 := Lib.hid x1
  have HX2 := Lib.hid x2
  have HX3 := Lib.hid x3
  clear j1 hj x1 x2 x3 h hp hq
  cases p <;> cases q
  all_goals
    go_enter Try.func6, Try.ntmps6
    go_wp2_with fail
    refine (head_any _).mono ?_
    rintro e w1 ⟨rfl, hb1⟩
    have hB1 : Below w.heap.size w w1 := below_after (by go_grown) hb1
    have hz1 := hb1.size
    try simp only [World.size_alloc, World.size_setCell, World.size_drew] at hz1
    have c_a0 : w1.cell? ⟨w.heap.size, 0, none⟩ = some (.int .i64 al) := kp hb1 (by go_cell)
    have c_a1 : w1.cell? ⟨w.heap.size, 1, none⟩ = some (.int .i64 ah) := kp hb1 (by go_cell)
    have c_b0 : w1.cell? ⟨w.heap.size + 1, 0, none⟩ = some (.int .i64 bl) := kp hb1 (by go_cell)
    have c_b1 : w1.cell? ⟨w.heap.size + 1, 1, none⟩ = some (.int .i64 bh) := kp hb1 (by go_cell)
    clear hb1
    go_wp2_with fail
    refine (HM.out _).mono ?_
    rintro e w2 ⟨rfl, hb2⟩
    have hB2 : Below w.heap.size w w2 := below_after (by go_grown) hb2
    have hz2 := hb2.size
    try simp only [World.size_alloc, World.size_setCell, World.size_drew] at hz2
    replace c_a0 : w2.cell? ⟨w.heap.size, 0, none⟩ = some (.int .i64 al) := kp hb2 (by go_cell)
    replace c_a1 : w2.cell? ⟨w.heap.size, 1, none⟩ = some (.int .i64 ah) := kp hb2 (by go_cell)
    replace c_b0 : w2.cell? ⟨w.heap.size + 1, 0, none⟩ = some (.int .i64 bl) := kp hb2 (by go_cell)
    replace c_b1 : w2.cell? ⟨w.heap.size + 1, 1, none⟩ = some (.int .i64 bh) := kp hb2 (by go_cell)
    clear hb2 hB1
    go_wp2_with fail
    refine (HX1.out _).mono ?_
    rintro e w3 ⟨rfl, hb3⟩
    have hB3 : Below w.heap.size w w3 := below_after (by go_grown) hb3
    have hz3 := hb3.size
    try simp only [World.size_alloc, World.size_setCell, World.size_drew] at hz3
    replace c_a0 : w3.cell? ⟨w.heap.size, 0, none⟩ = some (.int .i64 al) := kp hb3 (by go_cell)
    replace c_a1 : w3.cell? ⟨w.heap.size, 1, none⟩ = some (.int .i64 ah) := kp hb3 (by go_cell)
    replace c_b0 : w3.cell? ⟨w.heap.size + 1, 0, none⟩ = some (.int .i64 bl) := kp hb3 (by go_cell)
    replace c_b1 : w3.cell? ⟨w.heap.size + 1, 1, none⟩ = some (.int .i64 bh) := kp hb3 (by go_cell)
    have c_s0 : w3.cell? ⟨w2.heap.size, 0, none⟩ = some (.int .i64 al) := kp hb3 (by go_cell)
    have c_s1 : w3.cell? ⟨w2.heap.size, 1, none⟩ = some (.int .i64 ah) := kp hb3 (by go_cell)
    clear hb3 hB2
    go_wp2_with fail
    refine (HX2.out _).mono ?_
    rintro e w4 ⟨rfl, hb4⟩
    have hB4 : Below w.heap.size w w4 := below_after (by go_grown) hb4
    have hz4 := hb4.size
    try simp only [World.size_alloc, World.size_setCell, World.size_drew] at hz4
    replace c_a0 : w4.cell? ⟨w.heap.size, 0, none⟩ = some (.int .i64 al) := kp hb4 (by go_cell)
    replace c_a1 : w4.cell? ⟨w.heap.size, 1, none⟩ = some (.int .i64 ah) := kp hb4 (by go_cell)
    replace c_b0 : w4.cell? ⟨w.heap.size + 1, 0, none⟩ = some (.int .i64 bl) := kp hb4 (by go_cell)
    replace c_b1 : w4.cell? ⟨w.heap.size + 1, 1, none⟩ = some (.int .i64 bh) := kp hb4 (by go_cell)
    replace c_s0 : w4.cell? ⟨w2.heap.size, 0, none⟩ = some (.int .i64 al) := kp hb4 (by go_cell)
    replace c_s1 : w4.cell? ⟨w2.heap.size, 1, none⟩ = some (.int .i64 ah) := kp hb4 (by go_cell)
    clear hb4 hB3
    go_wp2_with fail
    refine (HX3.out _).mono ?_
    rintro e w5 ⟨rfl, hb5⟩
    have hB5 : Below w.heap.size w w5 := below_after (by go_grown) hb5
    have hz5 := hb5.size
    try simp only [World.size_alloc, World.size_setCell, World.size_drew] at hz5
    replace c_a0 : w5.cell? ⟨w.heap.size, 0, none⟩ = some (.int .i64 al) := kp hb5 (by go_cell)
    replace c_a1 : w5.cell? ⟨w.heap.size, 1, none⟩ = some (.int .i64 ah) := kp hb5 (by go_cell)
    replace c_b0 : w5.cell? ⟨w.heap.size + 1, 0, none⟩ = some (.int .i64 bl) := kp hb5 (by go_cell)
    replace c_b1 : w5.cell? ⟨w.heap.size + 1, 1, none⟩ = some (.int .i64 bh) := kp hb5 (by go_cell)
    replace c_s0 : w5.cell? ⟨w2.heap.size, 0, none⟩ = some (.int .i64 al) := kp hb5 (by go_cell)
    replace c_s1 : w5.cell? ⟨w2.heap.size, 1, none⟩ = some (.int .i64 ah) := kp hb5 (by go_cell)
    clear hb5 hB4
    go_wp2_with fail
    go_ret
    exact ⟨rfl, by go_grown⟩

theorem meets_walk (al ah bl bh n : Int) (w : World) :
    Calls Try.prog 6 #[.agg #[.int .i64 al, .int .i64 ah], .agg #[.int .i64 bl, .int .i64 bh], .int .i64 n] w fun e w' => e = .returned (.bool true) ∧ Below w.heap.size w w'  := by
  cases h1 : vld al ah
  · exact meets_no1 al ah bl bh n w h1
  · cases h2 : vld bl bh
    · exact meets_no2 al ah bl bh n w ⟨h1, h2⟩
    · have h : (vld al ah && vld bl bh) = true := by rw [h1, h2]; rfl
      by_cases c1 : ah < bl
      · exact meets_apart1 al ah bl bh n w h c1 _ _ rfl rfl (by rw [Bool.eq_false_iff]; simp; omega)
      · by_cases c2 : bh < al
        · exact meets_apart2 al ah bl bh n w h ⟨c1, c2⟩ _ _ rfl rfl (by rw [Bool.eq_false_iff]; simp; omega)
        · by_cases hx : al < bl <;> by_cases hy : bh < ah
          · exact meets_yes1 al ah bl bh n w h c1 c2 hx hy _ _ rfl rfl
          · exact meets_yes2 al ah bl bh n w h c1 c2 hx hy _ _ rfl rfl
          · exact meets_yes3 al ah bl bh n w h c1 c2 hx hy _ _ rfl rfl
          · exact meets_yes4 al ah bl bh n w h c1 c2 hx hy _ _ rfl rfl

end Go.Proofs.Ytollpjdnahemeaa
