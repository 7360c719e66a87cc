import Derived.Test.YtollpjdnahemeaaS7
namespace Go.Proofs.Ytollpjdnahemeaa
open Go.RowKit
set_option linter.unusedSimpArgs false
set_option linter.unusedVariables false
attribute [local go_sem ↓] Go.wp_at_zero Go.wp_at_succ

theorem modc3 {i d : Int} (h : 0 < d) : 0 ≤ i % d ∧ i % d < d := ⟨Int.emod_nonneg _ (by omega), Int.emod_lt_of_pos _ h⟩

/-- a product of what two spans have lies between the least and the greatest product of their ends -/
theorem prod_between {sl sh pl ph x p : Int} (h1 : sl ≤ x) (h2 : x ≤ sh) (h3 : pl ≤ p) (h4 : p ≤ ph) (h5 : 0 ≤ pl) :
    min (sl * pl) (sl * ph) ≤ x * p ∧ x * p ≤ max (sh * pl) (sh * ph) := by
  have hp : 0 ≤ p := by omega
  have a1 : sl * p ≤ x * p := Int.mul_le_mul_of_nonneg_right h1 hp
  have a2 : x * p ≤ sh * p := Int.mul_le_mul_of_nonneg_right h2 hp
  have a3 : min (sl * pl) (sl * ph) ≤ sl * p := by
    rcases Int.le_total 0 sl with h | h
    · have := Int.mul_le_mul_of_nonneg_left h3 h
      omega
    · have := Int.mul_le_mul_of_nonpos_left h h4
      omega
  have a4 : sh * p ≤ max (sh * pl) (sh * ph) := by
    rcases Int.le_total 0 sh with h | h
    · have := Int.mul_le_mul_of_nonneg_left h4 h
      omega
    · have := Int.mul_le_mul_of_nonpos_left h h3
      omega
  omega

set_option maxHeartbeats 1600000 in
set_option maxRecDepth 100000 in
theorem times_no1 (sl sh pl ph i k : Int) (w : World) (h : vld sl sh = false) :
    Calls Try.prog 3 #[.agg #[.int .i64 sl, .int .i64 sh], .agg #[.int .i64 pl, .int .i64 ph], .int .u64 i, .int .u64 k] w fun e w' => e = .returned (.bool true) ∧ Below w.heap.size w w' := by
  have hj : timesS sl sh pl ph = (0, 0, 1) := by simp [timesS, h]
  have j1 := fun w => Times_any sl sh pl ph w
  rw [hj] at j1
  have v1 := fun w => RValid_any sl sh w
  have v2 := fun w => Parts_any pl ph w
  rw [h] at v1
  have HA := Lib.hid j1
  have HV1 := Lib.hid v1
  have HV2 := Lib.hid v2
  clear j1 hj v1 v2 h
  go_enter Try.func3, Try.ntmps3
  go_wp2_with fail
  refine (head_any _).mono ?_
  rintro e w1 ⟨rfl, hb1⟩
  have hB1 : Below w.heap.size w w1 := below_after (by go_grown) hb1
  have hz1 := hb1.size
  try simp only [World.size_alloc, World.size_setCell, World.size_drew] at hz1
  have c_a0 : w1.cell? ⟨w.heap.size, 0, none⟩ = some (.int .i64 sl) := kp hb1 (by go_cell)
  have c_a1 : w1.cell? ⟨w.heap.size, 1, none⟩ = some (.int .i64 sh) := kp hb1 (by go_cell)
  have c_b0 : w1.cell? ⟨w.heap.size + 1, 0, none⟩ = some (.int .i64 pl) := kp hb1 (by go_cell)
  have c_b1 : w1.cell? ⟨w.heap.size + 1, 1, none⟩ = some (.int .i64 ph) := kp hb1 (by go_cell)
  clear hb1
  go_wp2_with fail
  refine (HA.out _).mono ?_
  rintro e w2 ⟨rfl, hb2⟩
  have hB2 : Below w.heap.size w w2 := below_after (by go_grown) hb2
  have hz2 := hb2.size
  try simp only [World.size_alloc, World.size_setCell, World.size_drew] at hz2
  replace c_a0 : w2.cell? ⟨w.heap.size, 0, none⟩ = some (.int .i64 sl) := kp hb2 (by go_cell)
  replace c_a1 : w2.cell? ⟨w.heap.size, 1, none⟩ = some (.int .i64 sh) := kp hb2 (by go_cell)
  replace c_b0 : w2.cell? ⟨w.heap.size + 1, 0, none⟩ = some (.int .i64 pl) := kp hb2 (by go_cell)
  replace c_b1 : w2.cell? ⟨w.heap.size + 1, 1, none⟩ = some (.int .i64 ph) := kp hb2 (by go_cell)
  clear hb2 hB1
  go_wp2_with fail
  refine (HV1.out _).mono ?_
  rintro e w3 ⟨rfl, hb3⟩
  have hB3 : Below w.heap.size w w3 := below_after (by go_grown) hb3
  have hz3 := hb3.size
  try simp only [World.size_alloc, World.size_setCell, World.size_drew] at hz3
  replace c_a0 : w3.cell? ⟨w.heap.size, 0, none⟩ = some (.int .i64 sl) := kp hb3 (by go_cell)
  replace c_a1 : w3.cell? ⟨w.heap.size, 1, none⟩ = some (.int .i64 sh) := kp hb3 (by go_cell)
  replace c_b0 : w3.cell? ⟨w.heap.size + 1, 0, none⟩ = some (.int .i64 pl) := kp hb3 (by go_cell)
  replace c_b1 : w3.cell? ⟨w.heap.size + 1, 1, none⟩ = some (.int .i64 ph) := kp hb3 (by go_cell)
  have c_s0 : w3.cell? ⟨w2.heap.size, 0, none⟩ = some (.int .i64 0) := kp hb3 (by go_cell)
  have c_s1 : w3.cell? ⟨w2.heap.size, 1, none⟩ = some (.int .i64 0) := kp hb3 (by go_cell)
  clear hb3 hB2
  go_wp2_with fail
  go_ret
  exact ⟨rfl, by go_grown⟩

set_option maxHeartbeats 1600000 in
set_option maxRecDepth 100000 in
theorem times_no2 (sl sh pl ph i k : Int) (w : World) (h : vld sl sh = true) (h2 : partsB pl ph = false) :
    Calls Try.prog 3 #[.agg #[.int .i64 sl, .int .i64 sh], .agg #[.int .i64 pl, .int .i64 ph], .int .u64 i, .int .u64 k] w fun e w' => e = .returned (.bool true) ∧ Below w.heap.size w w' := by
  have hj : timesS sl sh pl ph = (0, 0, 1) := by simp [timesS, h, h2]
  have j1 := fun w => Times_any sl sh pl ph w
  rw [hj] at j1
  have v1 := fun w => RValid_any sl sh w
  have v2 := fun w => Parts_any pl ph w
  rw [h] at v1
  rw [h2] at v2
  have HA := Lib.hid j1
  have HV1 := Lib.hid v1
  have HV2 := Lib.hid v2
  clear j1 hj v1 v2 h h2
  go_enter Try.func3, Try.ntmps3
  go_wp2_with fail
  refine (head_any _).mono ?_
  rintro e w1 ⟨rfl, hb1⟩
  have hB1 : Below w.heap.size w w1 := below_after (by go_grown) hb1
  have hz1 := hb1.size
  try simp only [World.size_alloc, World.size_setCell, World.size_drew] at hz1
  have c_a0 : w1.cell? ⟨w.heap.size, 0, none⟩ = some (.int .i64 sl) := kp hb1 (by go_cell)
  have c_a1 : w1.cell? ⟨w.heap.size, 1, none⟩ = some (.int .i64 sh) := kp hb1 (by go_cell)
  have c_b0 : w1.cell? ⟨w.heap.size + 1, 0, none⟩ = some (.int .i64 pl) := kp hb1 (by go_cell)
  have c_b1 : w1.cell? ⟨w.heap.size + 1, 1, none⟩ = some (.int .i64 ph) := kp hb1 (by go_cell)
  clear hb1
  go_wp2_with fail
  refine (HA.out _).mono ?_
  rintro e w2 ⟨rfl, hb2⟩
  have hB2 : Below w.heap.size w w2 := below_after (by go_grown) hb2
  have hz2 := hb2.size
  try simp only [World.size_alloc, World.size_setCell, World.size_drew] at hz2
  replace c_a0 : w2.cell? ⟨w.heap.size, 0, none⟩ = some (.int .i64 sl) := kp hb2 (by go_cell)
  replace c_a1 : w2.cell? ⟨w.heap.size, 1, none⟩ = some (.int .i64 sh) := kp hb2 (by go_cell)
  replace c_b0 : w2.cell? ⟨w.heap.size + 1, 0, none⟩ = some (.int .i64 pl) := kp hb2 (by go_cell)
  replace c_b1 : w2.cell? ⟨w.heap.size + 1, 1, none⟩ = some (.int .i64 ph) := kp hb2 (by go_cell)
  clear hb2 hB1
  go_wp2_with fail
  refine (HV1.out _).mono ?_
  rintro e w3 ⟨rfl, hb3⟩
  have hB3 : Below w.heap.size w w3 := below_after (by go_grown) hb3
  have hz3 := hb3.size
  try simp only [World.size_alloc, World.size_setCell, World.size_drew] at hz3
  replace c_a0 : w3.cell? ⟨w.heap.size, 0, none⟩ = some (.int .i64 sl) := kp hb3 (by go_cell)
  replace c_a1 : w3.cell? ⟨w.heap.size, 1, none⟩ = some (.int .i64 sh) := kp hb3 (by go_cell)
  replace c_b0 : w3.cell? ⟨w.heap.size + 1, 0, none⟩ = some (.int .i64 pl) := kp hb3 (by go_cell)
  replace c_b1 : w3.cell? ⟨w.heap.size + 1, 1, none⟩ = some (.int .i64 ph) := kp hb3 (by go_cell)
  have c_s0 : w3.cell? ⟨w2.heap.size, 0, none⟩ = some (.int .i64 0) := kp hb3 (by go_cell)
  have c_s1 : w3.cell? ⟨w2.heap.size, 1, none⟩ = some (.int .i64 0) := kp hb3 (by go_cell)
  clear hb3 hB2
  go_wp2_with fail
  refine (HV2.out _).mono ?_
  rintro e w4 ⟨rfl, hb4⟩
  have hB4 : Below w.heap.size w w4 := below_after (by go_grown) hb4
  have hz4 := hb4.size
  try simp only [World.size_alloc, World.size_setCell, World.size_drew] at hz4
  replace c_a0 : w4.cell? ⟨w.heap.size, 0, none⟩ = some (.int .i64 sl) := kp hb4 (by go_cell)
  replace c_a1 : w4.cell? ⟨w.heap.size, 1, none⟩ = some (.int .i64 sh) := kp hb4 (by go_cell)
  replace c_b0 : w4.cell? ⟨w.heap.size + 1, 0, none⟩ = some (.int .i64 pl) := kp hb4 (by go_cell)
  replace c_b1 : w4.cell? ⟨w.heap.size + 1, 1, none⟩ = some (.int .i64 ph) := kp hb4 (by go_cell)
  replace c_s0 : w4.cell? ⟨w2.heap.size, 0, none⟩ = some (.int .i64 0) := kp hb4 (by go_cell)
  replace c_s1 : w4.cell? ⟨w2.heap.size, 1, none⟩ = some (.int .i64 0) := kp hb4 (by go_cell)
  clear hb4 hB3
  go_wp2_with fail
  go_ret
  exact ⟨rfl, by go_grown⟩

set_option maxHeartbeats 1600000 in
set_option maxRecDepth 100000 in
theorem times_no3 (sl sh pl ph i k : Int) (w : World) (h : vld sl sh = true) (h2 : partsB pl ph = true) (h3 : vld (downI (min (sl * pl) (sl * ph))) (upI (max (sh * pl) (sh * ph))) = false) :
    Calls Try.prog 3 #[.agg #[.int .i64 sl, .int .i64 sh], .agg #[.int .i64 pl, .int .i64 ph], .int .u64 i, .int .u64 k] w fun e w' => e = .returned (.bool true) ∧ Below w.heap.size w w' := by
  have hj : timesS sl sh pl ph = (0, 0, 3) := by simp [timesS, h, h2, leastS, h3]
  have j1 := fun w => Times_any sl sh pl ph w
  rw [hj] at j1
  have v1 := fun w => RValid_any sl sh w
  have v2 := fun w => Parts_any pl ph w
  rw [h] at v1
  rw [h2] at v2
  have HA := Lib.hid j1
  have HV1 := Lib.hid v1
  have HV2 := Lib.hid v2
  clear j1 hj v1 v2 h h2 h3
  go_enter Try.func3, Try.ntmps3
  go_wp2_with fail
  refine (head_any _).mono ?_
  rintro e w1 ⟨rfl, hb1⟩
  have hB1 : Below w.heap.size w w1 := below_after (by go_grown) hb1
  have hz1 := hb1.size
  try simp only [World.size_alloc, World.size_setCell, World.size_drew] at hz1
  have c_a0 : w1.cell? ⟨w.heap.size, 0, none⟩ = some (.int .i64 sl) := kp hb1 (by go_cell)
  have c_a1 : w1.cell? ⟨w.heap.size, 1, none⟩ = some (.int .i64 sh) := kp hb1 (by go_cell)
  have c_b0 : w1.cell? ⟨w.heap.size + 1, 0, none⟩ = some (.int .i64 pl) := kp hb1 (by go_cell)
  have c_b1 : w1.cell? ⟨w.heap.size + 1, 1, none⟩ = some (.int .i64 ph) := kp hb1 (by go_cell)
  clear hb1
  go_wp2_with fail
  refine (HA.out _).mono ?_
  rintro e w2 ⟨rfl, hb2⟩
  have hB2 : Below w.heap.size w w2 := below_after (by go_grown) hb2
  have hz2 := hb2.size
  try simp only [World.size_alloc, World.size_setCell, World.size_drew] at hz2
  replace c_a0 : w2.cell? ⟨w.heap.size, 0, none⟩ = some (.int .i64 sl) := kp hb2 (by go_cell)
  replace c_a1 : w2.cell? ⟨w.heap.size, 1, none⟩ = some (.int .i64 sh) := kp hb2 (by go_cell)
  replace c_b0 : w2.cell? ⟨w.heap.size + 1, 0, none⟩ = some (.int .i64 pl) := kp hb2 (by go_cell)
  replace c_b1 : w2.cell? ⟨w.heap.size + 1, 1, none⟩ = some (.int .i64 ph) := kp hb2 (by go_cell)
  clear hb2 hB1
  go_wp2_with fail
  refine (HV1.out _).mono ?_
  rintro e w3 ⟨rfl, hb3⟩
  have hB3 : Below w.heap.size w w3 := below_after (by go_grown) hb3
  have hz3 := hb3.size
  try simp only [World.size_alloc, World.size_setCell, World.size_drew] at hz3
  replace c_a0 : w3.cell? ⟨w.heap.size, 0, none⟩ = some (.int .i64 sl) := kp hb3 (by go_cell)
  replace c_a1 : w3.cell? ⟨w.heap.size, 1, none⟩ = some (.int .i64 sh) := kp hb3 (by go_cell)
  replace c_b0 : w3.cell? ⟨w.heap.size + 1, 0, none⟩ = some (.int .i64 pl) := kp hb3 (by go_cell)
  replace c_b1 : w3.cell? ⟨w.heap.size + 1, 1, none⟩ = some (.int .i64 ph) := kp hb3 (by go_cell)
  have c_s0 : w3.cell? ⟨w2.heap.size, 0, none⟩ = some (.int .i64 0) := kp hb3 (by go_cell)
  have c_s1 : w3.cell? ⟨w2.heap.size, 1, none⟩ = some (.int .i64 0) := kp hb3 (by go_cell)
  clear hb3 hB2
  go_wp2_with fail
  refine (HV2.out _).mono ?_
  rintro e w4 ⟨rfl, hb4⟩
  have hB4 : Below w.heap.size w w4 := below_after (by go_grown) hb4
  have hz4 := hb4.size
  try simp only [World.size_alloc, World.size_setCell, World.size_drew] at hz4
  replace c_a0 : w4.cell? ⟨w.heap.size, 0, none⟩ = some (.int .i64 sl) := kp hb4 (by go_cell)
  replace c_a1 : w4.cell? ⟨w.heap.size, 1, none⟩ = some (.int .i64 sh) := kp hb4 (by go_cell)
  replace c_b0 : w4.cell? ⟨w.heap.size + 1, 0, none⟩ = some (.int .i64 pl) := kp hb4 (by go_cell)
  replace c_b1 : w4.cell? ⟨w.heap.size + 1, 1, none⟩ = some (.int .i64 ph) := kp hb4 (by go_cell)
  replace c_s0 : w4.cell? ⟨w2.heap.size, 0, none⟩ = some (.int .i64 0) := kp hb4 (by go_cell)
  replace c_s1 : w4.cell? ⟨w2.heap.size, 1, none⟩ = some (.int .i64 0) := kp hb4 (by go_cell)
  clear hb4 hB3
  go_wp2_with fail
  go_ret
  exact ⟨rfl, by go_grown⟩

set_option maxHeartbeats 1600000 in
set_option maxRecDepth 100000 in
theorem times_yes1 (sl sh pl ph i k : Int) (w : World) (hi0 : 0 ≤ i) (hi1 : i < 18446744073709551616) (hk0 : 0 ≤ k) (hk1 : k < 18446744073709551616) (h : vld sl sh = true) (h2 : partsB pl ph = true) (h3 : vld (downI (min (sl * pl) (sl * ph))) (upI (max (sh * pl) (sh * ph))) = true) (hc1 : sl * ph / 1000 < sl * pl / 1000) (hc2 : -(-(sh * pl) / 1000) < -(-(sh * ph) / 1000)) :
    Calls Try.prog 3 #[.agg #[.int .i64 sl, .int .i64 sh], .agg #[.int .i64 pl, .int .i64 ph], .int .u64 i, .int .u64 k] w fun e w' => e = .returned (.bool true) ∧ Below w.heap.size w w' := by
  have hj : timesS sl sh pl ph = (sl * ph / 1000, -(-(sh * ph) / 1000), 0) := by
    have e1 : downI (min (sl * pl) (sl * ph)) = sl * ph / 1000 := by unfold downI; omega
    have e2 : upI (max (sh * pl) (sh * ph)) = -(-(sh * ph) / 1000) := by unfold upI; omega
    rw [timesS, h, h2, Bool.and_true, if_pos rfl, leastS, h3, if_pos rfl, e1, e2]
  have j1 := fun w => Times_any sl sh pl ph w
  rw [hj] at j1
  have v1 := fun w => RValid_any sl sh w
  have v2 := fun w => Parts_any pl ph w
  rw [h] at v1
  rw [h2] at v2
  have h4 : vld pl ph = true ∧ 0 ≤ pl ∧ ph ≤ 1000000 := by simpa [partsB, and_assoc] using h2
  obtain ⟨h4, hp1, hp2⟩ := h4
  obtain ⟨va1, va2, va3⟩ := vld_bounds h
  obtain ⟨vb1, vb2, vb3⟩ := vld_bounds h4
  have n1 := fun w => in_any sl sh i w va1 va2 va3 hi0 hi1
  have n2 := fun w => in_any pl ph k w vb1 vb2 vb3 hk0 hk1
  have d1 := modc3 (i := i) (d := sh - sl + 1) (by omega)
  have d2 := modc3 (i := k) (d := ph - pl + 1) (by omega)
  generalize i % (sh - sl + 1) = ri at *
  generalize k % (ph - pl + 1) = rk at *
  obtain ⟨d11, d12⟩ := d1
  obtain ⟨d21, d22⟩ := d2
  obtain ⟨b11, b12⟩ := prod_bounds (x := sl) (p := pl) (by omega) (by omega) hp1 (by omega)
  obtain ⟨b21, b22⟩ := prod_bounds (x := sh) (p := pl) (by omega) (by omega) hp1 (by omega)
  obtain ⟨b31, b32⟩ := prod_bounds (x := sl) (p := ph) (by omega) (by omega) (by omega) hp2
  obtain ⟨b41, b42⟩ := prod_bounds (x := sh) (p := ph) (by omega) (by omega) (by omega) hp2
  obtain ⟨b51, b52⟩ := prod_bounds (x := sl + ri) (p := pl + rk) (by omega) (by omega) (by omega) (by omega)
  obtain ⟨pb1, pb2⟩ := prod_between (sl := sl) (sh := sh) (pl := pl) (ph := ph) (x := sl + ri) (p := pl + rk) (by omega) (by omega) (by omega) (by omega) hp1
  have i1 := fun w => In_any (sl * ph / 1000) (-(-(sh * ph) / 1000)) ((sl + ri) * (pl + rk) / 1000) w
  rw [show (decide (sl * ph / 1000 ≤ (sl + ri) * (pl + rk) / 1000) && decide ((sl + ri) * (pl + rk) / 1000 ≤ -(-(sh * ph) / 1000))) = true by simp <;> omega] at i1
  have i2 := fun w => In_any (sl * ph / 1000) (-(-(sh * ph) / 1000)) (-(-((sl + ri) * (pl + rk)) / 1000)) w
  rw [show (decide (sl * ph / 1000 ≤ -(-((sl + ri) * (pl + rk)) / 1000)) && decide (-(-((sl + ri) * (pl + rk)) / 1000) ≤ -(-(sh * ph) / 1000))) = true by simp <;> omega] at i2
  have f1 := fun w => Floor_any (sl * pl) 1000 w (by omega) (by omega) (by omega) (by omega)
  have f2 := fun w => Floor_any (sl * ph) 1000 w (by omega) (by omega) (by omega) (by omega)
  have f3 := fun w => Floor_any ((sl + ri) * (pl + rk)) 1000 w (by omega) (by omega) (by omega) (by omega)
  have g1 := fun w => Ceil_any (sh * pl) 1000 w (by omega) (by omega) (by omega) (by omega)
  have g2 := fun w => Ceil_any (sh * ph) 1000 w (by omega) (by omega) (by omega) (by omega)
  have g3 := fun w => Ceil_any ((sl + ri) * (pl + rk)) 1000 w (by omega) (by omega) (by omega) (by omega)
  have HA := Lib.hid j1
  have HV1 := Lib.hid v1
  have HV2 := Lib.hid v2
  have Hn1 := Lib.hid n1
  have Hn2 := Lib.hid n2
  have Hi1 := Lib.hid i1
  have Hi2 := Lib.hid i2
  have Hf1 := Lib.hid f1
  have Hf2 := Lib.hid f2
  have Hf3 := Lib.hid f3
  have Hg1 := Lib.hid g1
  have Hg2 := Lib.hid g2
  have Hg3 := Lib.hid g3
  clear j1 hj v1 v2 h h2 h3 h4 n1 n2 i1 i2 f1 f2 f3 g1 g2 g3
  go_enter Try.func3, Try.ntmps3
  go_wp2_with fail
  refine (head_any _).mono ?_
  rintro e w1 ⟨rfl, hb1⟩
  have hB1 : Below w.heap.size w w1 := below_after (by go_grown) hb1
  have hz1 := hb1.size
  try simp only [World.size_alloc, World.size_setCell, World.size_drew] at hz1
  have c_a0 : w1.cell? ⟨w.heap.size, 0, none⟩ = some (.int .i64 sl) := kp hb1 (by go_cell)
  have c_a1 : w1.cell? ⟨w.heap.size, 1, none⟩ = some (.int .i64 sh) := kp hb1 (by go_cell)
  have c_b0 : w1.cell? ⟨w.heap.size + 1, 0, none⟩ = some (.int .i64 pl) := kp hb1 (by go_cell)
  have c_b1 : w1.cell? ⟨w.heap.size + 1, 1, none⟩ = some (.int .i64 ph) := kp hb1 (by go_cell)
  clear hb1
  go_wp2_with fail
  refine (HA.out _).mono ?_
  rintro e w2 ⟨rfl, hb2⟩
  have hB2 : Below w.heap.size w w2 := below_after (by go_grown) hb2
  have hz2 := hb2.size
  try simp only [World.size_alloc, World.size_setCell, World.size_drew] at hz2
  replace c_a0 : w2.cell? ⟨w.heap.size, 0, none⟩ = some (.int .i64 sl) := kp hb2 (by go_cell)
  replace c_a1 : w2.cell? ⟨w.heap.size, 1, none⟩ = some (.int .i64 sh) := kp hb2 (by go_cell)
  replace c_b0 : w2.cell? ⟨w.heap.size + 1, 0, none⟩ = some (.int .i64 pl) := kp hb2 (by go_cell)
  replace c_b1 : w2.cell? ⟨w.heap.size + 1, 1, none⟩ = some (.int .i64 ph) := kp hb2 (by go_cell)
  clear hb2 hB1
  go_wp2_with fail
  refine (HV1.out _).mono ?_
  rintro e w3 ⟨rfl, hb3⟩
  have hB3 : Below w.heap.size w w3 := below_after (by go_grown) hb3
  have hz3 := hb3.size
  try simp only [World.size_alloc, World.size_setCell, World.size_drew] at hz3
  replace c_a0 : w3.cell? ⟨w.heap.size, 0, none⟩ = some (.int .i64 sl) := kp hb3 (by go_cell)
  replace c_a1 : w3.cell? ⟨w.heap.size, 1, none⟩ = some (.int .i64 sh) := kp hb3 (by go_cell)
  replace c_b0 : w3.cell? ⟨w.heap.size + 1, 0, none⟩ = some (.int .i64 pl) := kp hb3 (by go_cell)
  replace c_b1 : w3.cell? ⟨w.heap.size + 1, 1, none⟩ = some (.int .i64 ph) := kp hb3 (by go_cell)
  have c_s0 : w3.cell? ⟨w2.heap.size, 0, none⟩ = some (.int .i64 (sl * ph / 1000)) := kp hb3 (by go_cell)
  have c_s1 : w3.cell? ⟨w2.heap.size, 1, none⟩ = some (.int .i64 (-(-(sh * ph) / 1000))) := kp hb3 (by go_cell)
  clear hb3 hB2
  go_wp2_with fail
  refine (HV2.out _).mono ?_
  rintro e w4 ⟨rfl, hb4⟩
  have hB4 : Below w.heap.size w w4 := below_after (by go_grown) hb4
  have hz4 := hb4.size
  try simp only [World.size_alloc, World.size_setCell, World.size_drew] at hz4
  replace c_a0 : w4.cell? ⟨w.heap.size, 0, none⟩ = some (.int .i64 sl) := kp hb4 (by go_cell)
  replace c_a1 : w4.cell? ⟨w.heap.size, 1, none⟩ = some (.int .i64 sh) := kp hb4 (by go_cell)
  replace c_b0 : w4.cell? ⟨w.heap.size + 1, 0, none⟩ = some (.int .i64 pl) := kp hb4 (by go_cell)
  replace c_b1 : w4.cell? ⟨w.heap.size + 1, 1, none⟩ = some (.int .i64 ph) := kp hb4 (by go_cell)
  replace c_s0 : w4.cell? ⟨w2.heap.size, 0, none⟩ = some (.int .i64 (sl * ph / 1000)) := kp hb4 (by go_cell)
  replace c_s1 : w4.cell? ⟨w2.heap.size, 1, none⟩ = some (.int .i64 (-(-(sh * ph) / 1000))) := kp hb4 (by go_cell)
  clear hb4 hB3
  go_wp2_with fail
  have hwr0 : IntKind.i64.wrap ((sl + ri) * (pl + rk)) = (sl + ri) * (pl + rk) := IntWalk.i64_in _ (by omega)
  go_region_held3 (fun w' => Below w.heap.size w w' ∧ w'.cell? ⟨w.heap.size, 0, none⟩ = some (.int .i64 sl) ∧ w'.cell? ⟨w.heap.size, 1, none⟩ = some (.int .i64 sh) ∧ w'.cell? ⟨w.heap.size + 1, 0, none⟩ = some (.int .i64 pl) ∧ w'.cell? ⟨w.heap.size + 1, 1, none⟩ = some (.int .i64 ph) ∧ w'.cell? ⟨w2.heap.size, 0, none⟩ = some (.int .i64 (sl * ph / 1000)) ∧ w'.cell? ⟨w2.heap.size, 1, none⟩ = some (.int .i64 (-(-(sh * ph) / 1000))))
    ((go_split_ands; refine ⟨?_, ?_, ?_, ?_, ?_, ?_, ?_⟩ <;> first | (with_reducible assumption) | (exact below_after (by assumption) hb) | (exact kp hb (by assumption)) | (exact kf hb (by go_simp) (by assumption)) | (exact Below.drew (by go_grown)) | go_cell | go_simp))
    (first | (go_at_call 28; (with_reducible refine (Hn1.out _).mono ?_); rintro e x ⟨rfl, hb⟩) | (go_at_call 28; (with_reducible refine (Hn2.out _).mono ?_); rintro e x ⟨rfl, hb⟩))
  go_split_ands
  clear hwr0
  have hB5 : Below w.heap.size w x := by assumption
  replace c_a0 : x.cell? ⟨w.heap.size, 0, none⟩ = some (.int .i64 sl) := by assumption
  replace c_a1 : x.cell? ⟨w.heap.size, 1, none⟩ = some (.int .i64 sh) := by assumption
  replace c_b0 : x.cell? ⟨w.heap.size + 1, 0, none⟩ = some (.int .i64 pl) := by assumption
  replace c_b1 : x.cell? ⟨w.heap.size + 1, 1, none⟩ = some (.int .i64 ph) := by assumption
  replace c_s0 : x.cell? ⟨w2.heap.size, 0, none⟩ = some (.int .i64 (sl * ph / 1000)) := by assumption
  replace c_s1 : x.cell? ⟨w2.heap.size, 1, none⟩ = some (.int .i64 (-(-(sh * ph) / 1000))) := by assumption
  have hz5 := hB5.size
  have hs5_a := World.block_lt_of_cell? _ _ c_a0
  have hs5_b := World.block_lt_of_cell? _ _ c_b0
  have hs5_s := World.block_lt_of_cell? _ _ c_s0
  simp only at hs5_a hs5_b hs5_s
  go_wp2_with fail
  have hwr0 : IntKind.i64.wrap (sl * pl) = sl * pl := IntWalk.i64_in _ (by omega)
  have hwr1 : IntKind.i64.wrap (sl * ph) = sl * ph := IntWalk.i64_in _ (by omega)
  go_region_held3 (fun w' => w'.cell? ⟨w.heap.size, 0, none⟩ = some (.int .i64 sl) ∧ w'.cell? ⟨w.heap.size, 1, none⟩ = some (.int .i64 sh) ∧ w'.cell? ⟨w.heap.size + 1, 0, none⟩ = some (.int .i64 pl) ∧ w'.cell? ⟨w.heap.size + 1, 1, none⟩ = some (.int .i64 ph) ∧ w'.cell? ⟨w2.heap.size, 0, none⟩ = some (.int .i64 (sl * ph / 1000)) ∧ w'.cell? ⟨w2.heap.size, 1, none⟩ = some (.int .i64 (-(-(sh * ph) / 1000))))
    ((refine ⟨?_, ?_, ?_, ?_, ?_, ?_⟩ <;> first | go_cell | (go_split_ands; assumption)))
    (first | (go_at_call 29; (with_reducible refine (Hf1.out _).mono ?_); rintro e x0 ⟨rfl, rfl⟩) | (go_at_call 29; (with_reducible refine (Hf2.out _).mono ?_); rintro e x0 ⟨rfl, rfl⟩))
  clear hwr0 hwr1
  go_wp2_with fail
  have hwr0 : IntKind.i64.wrap (sh * pl) = sh * pl := IntWalk.i64_in _ (by omega)
  have hwr1 : IntKind.i64.wrap (sh * ph) = sh * ph := IntWalk.i64_in _ (by omega)
  go_region_held3 (fun w' => w'.cell? ⟨w.heap.size, 0, none⟩ = some (.int .i64 sl) ∧ w'.cell? ⟨w.heap.size, 1, none⟩ = some (.int .i64 sh) ∧ w'.cell? ⟨w.heap.size + 1, 0, none⟩ = some (.int .i64 pl) ∧ w'.cell? ⟨w.heap.size + 1, 1, none⟩ = some (.int .i64 ph) ∧ w'.cell? ⟨w2.heap.size, 0, none⟩ = some (.int .i64 (sl * ph / 1000)) ∧ w'.cell? ⟨w2.heap.size, 1, none⟩ = some (.int .i64 (-(-(sh * ph) / 1000))))
    ((refine ⟨?_, ?_, ?_, ?_, ?_, ?_⟩ <;> first | go_cell | (go_split_ands; assumption)))
    (first | (go_at_call 30; (with_reducible refine (Hg1.out _).mono ?_); rintro e x0 ⟨rfl, rfl⟩) | (go_at_call 30; (with_reducible refine (Hg2.out _).mono ?_); rintro e x0 ⟨rfl, rfl⟩))
  clear hwr0 hwr1
  go_wp2_with fail
  go_region_held3 (fun w' => Below w.heap.size w w' ∧ w'.cell? ⟨w.heap.size, 0, none⟩ = some (.int .i64 sl) ∧ w'.cell? ⟨w.heap.size, 1, none⟩ = some (.int .i64 sh) ∧ w'.cell? ⟨w.heap.size + 1, 0, none⟩ = some (.int .i64 pl) ∧ w'.cell? ⟨w.heap.size + 1, 1, none⟩ = some (.int .i64 ph) ∧ w'.cell? ⟨w2.heap.size, 0, none⟩ = some (.int .i64 (sl * ph / 1000)) ∧ w'.cell? ⟨w2.heap.size, 1, none⟩ = some (.int .i64 (-(-(sh * ph) / 1000))))
    ((go_split_ands; refine ⟨?_, ?_, ?_, ?_, ?_, ?_, ?_⟩ <;> first | (with_reducible assumption) | (exact below_after (by assumption) hb) | (exact kp hb (by assumption)) | (exact kf hb (by go_simp) (by assumption)) | (exact Below.drew (by go_grown)) | go_cell | go_simp))
    (first | (go_at_call 29; (with_reducible refine (Hf3.out _).mono ?_); rintro e x0 ⟨rfl, rfl⟩) | (go_at_call 30; (with_reducible refine (Hg3.out _).mono ?_); rintro e x0 ⟨rfl, rfl⟩) | (go_at_call 31; (with_reducible refine (Hi1.out _).mono ?_); rintro e y ⟨rfl, hb⟩) | (go_at_call 31; (with_reducible refine (Hi2.out _).mono ?_); rintro e y ⟨rfl, hb⟩) | (go_at_call 32; (with_reducible refine (of_any _ _ _).mono ?_); rintro e y ⟨rfl, hb⟩))
  go_split_ands
  have hB6 : Below w.heap.size w y := by assumption
  replace c_a0 : y.cell? ⟨w.heap.size, 0, none⟩ = some (.int .i64 sl) := by assumption
  replace c_a1 : y.cell? ⟨w.heap.size, 1, none⟩ = some (.int .i64 sh) := by assumption
  replace c_b0 : y.cell? ⟨w.heap.size + 1, 0, none⟩ = some (.int .i64 pl) := by assumption
  replace c_b1 : y.cell? ⟨w.heap.size + 1, 1, none⟩ = some (.int .i64 ph) := by assumption
  replace c_s0 : y.cell? ⟨w2.heap.size, 0, none⟩ = some (.int .i64 (sl * ph / 1000)) := by assumption
  replace c_s1 : y.cell? ⟨w2.heap.size, 1, none⟩ = some (.int .i64 (-(-(sh * ph) / 1000))) := by assumption
  have hz6 := hB6.size
  have hs6_a := World.block_lt_of_cell? _ _ c_a0
  have hs6_b := World.block_lt_of_cell? _ _ c_b0
  have hs6_s := World.block_lt_of_cell? _ _ c_s0
  simp only at hs6_a hs6_b hs6_s
  go_wp2_with fail
  go_ret
  exact ⟨rfl, by go_grown⟩

set_option maxHeartbeats 1600000 in
set_option maxRecDepth 100000 in
theorem times_yes2 (sl sh pl ph i k : Int) (w : World) (hi0 : 0 ≤ i) (hi1 : i < 18446744073709551616) (hk0 : 0 ≤ k) (hk1 : k < 18446744073709551616) (h : vld sl sh = true) (h2 : partsB pl ph = true) (h3 : vld (downI (min (sl * pl) (sl * ph))) (upI (max (sh * pl) (sh * ph))) = true) (hc1 : sl * ph / 1000 < sl * pl / 1000) (hc2 : ¬ -(-(sh * pl) / 1000) < -(-(sh * ph) / 1000)) :
    Calls Try.prog 3 #[.agg #[.int .i64 sl, .int .i64 sh], .agg #[.int .i64 pl, .int .i64 ph], .int .u64 i, .int .u64 k] w fun e w' => e = .returned (.bool true) ∧ Below w.heap.size w w' := by
  have hj : timesS sl sh pl ph = (sl * ph / 1000, -(-(sh * pl) / 1000), 0) := by
    have e1 : downI (min (sl * pl) (sl * ph)) = sl * ph / 1000 := by unfold downI; omega
    have e2 : upI (max (sh * pl) (sh * ph)) = -(-(sh * pl) / 1000) := by unfold upI; omega
    rw [timesS, h, h2, Bool.and_true, if_pos rfl, leastS, h3, if_pos rfl, e1, e2]
  have j1 := fun w => Times_any sl sh pl ph w
  rw [hj] at j1
  have v1 := fun w => RValid_any sl sh w
  have v2 := fun w => Parts_any pl ph w
  rw [h] at v1
  rw [h2] at v2
  have h4 : vld pl ph = true ∧ 0 ≤ pl ∧ ph ≤ 1000000 := by simpa [partsB, and_assoc] using h2
  obtain ⟨h4, hp1, hp2⟩ := h4
  obtain ⟨va1, va2, va3⟩ := vld_bounds h
  obtain ⟨vb1, vb2, vb3⟩ := vld_bounds h4
  have n1 := fun w => in_any sl sh i w va1 va2 va3 hi0 hi1
  have n2 := fun w => in_any pl ph k w vb1 vb2 vb3 hk0 hk1
  have d1 := modc3 (i := i) (d := sh - sl + 1) (by omega)
  have d2 := modc3 (i := k) (d := ph - pl + 1) (by omega)
  generalize i % (sh - sl + 1) = ri at *
  generalize k % (ph - pl + 1) = rk at *
  obtain ⟨d11, d12⟩ := d1
  obtain ⟨d21, d22⟩ := d2
  obtain ⟨b11, b12⟩ := prod_bounds (x := sl) (p := pl) (by omega) (by omega) hp1 (by omega)
  obtain ⟨b21, b22⟩ := prod_bounds (x := sh) (p := pl) (by omega) (by omega) hp1 (by omega)
  obtain ⟨b31, b32⟩ := prod_bounds (x := sl) (p := ph) (by omega) (by omega) (by omega) hp2
  obtain ⟨b41, b42⟩ := prod_bounds (x := sh) (p := ph) (by omega) (by omega) (by omega) hp2
  obtain ⟨b51, b52⟩ := prod_bounds (x := sl + ri) (p := pl + rk) (by omega) (by omega) (by omega) (by omega)
  obtain ⟨pb1, pb2⟩ := prod_between (sl := sl) (sh := sh) (pl := pl) (ph := ph) (x := sl + ri) (p := pl + rk) (by omega) (by omega) (by omega) (by omega) hp1
  have i1 := fun w => In_any (sl * ph / 1000) (-(-(sh * pl) / 1000)) ((sl + ri) * (pl + rk) / 1000) w
  rw [show (decide (sl * ph / 1000 ≤ (sl + ri) * (pl + rk) / 1000) && decide ((sl + ri) * (pl + rk) / 1000 ≤ -(-(sh * pl) / 1000))) = true by simp <;> omega] at i1
  have i2 := fun w => In_any (sl * ph / 1000) (-(-(sh * pl) / 1000)) (-(-((sl + ri) * (pl + rk)) / 1000)) w
  rw [show (decide (sl * ph / 1000 ≤ -(-((sl + ri) * (pl + rk)) / 1000)) && decide (-(-((sl + ri) * (pl + rk)) / 1000) ≤ -(-(sh * pl) / 1000))) = true by simp <;> omega] at i2
  have f1 := fun w => Floor_any (sl * pl) 1000 w (by omega) (by omega) (by omega) (by omega)
  have f2 := fun w => Floor_any (sl * ph) 1000 w (by omega) (by omega) (by omega) (by omega)
  have f3 := fun w => Floor_any ((sl + ri) * (pl + rk)) 1000 w (by omega) (by omega) (by omega) (by omega)
  have g1 := fun w => Ceil_any (sh * pl) 1000 w (by omega) (by omega) (by omega) (by omega)
  have g2 := fun w => Ceil_any (sh * ph) 1000 w (by omega) (by omega) (by omega) (by omega)
  have g3 := fun w => Ceil_any ((sl + ri) * (pl + rk)) 1000 w (by omega) (by omega) (by omega) (by omega)
  have HA := Lib.hid j1
  have HV1 := Lib.hid v1
  have HV2 := Lib.hid v2
  have Hn1 := Lib.hid n1
  have Hn2 := Lib.hid n2
  have Hi1 := Lib.hid i1
  have Hi2 := Lib.hid i2
  have Hf1 := Lib.hid f1
  have Hf2 := Lib.hid f2
  have Hf3 := Lib.hid f3
  have Hg1 := Lib.hid g1
  have Hg2 := Lib.hid g2
  have Hg3 := Lib.hid g3
  clear j1 hj v1 v2 h h2 h3 h4 n1 n2 i1 i2 f1 f2 f3 g1 g2 g3
  go_enter Try.func3, Try.ntmps3
  go_wp2_with fail
  refine (head_any _).mono ?_
  rintro e w1 ⟨rfl, hb1⟩
  have hB1 : Below w.heap.size w w1 := below_after (by go_grown) hb1
  have hz1 := hb1.size
  try simp only [World.size_alloc, World.size_setCell, World.size_drew] at hz1
  have c_a0 : w1.cell? ⟨w.heap.size, 0, none⟩ = some (.int .i64 sl) := kp hb1 (by go_cell)
  have c_a1 : w1.cell? ⟨w.heap.size, 1, none⟩ = some (.int .i64 sh) := kp hb1 (by go_cell)
  have c_b0 : w1.cell? ⟨w.heap.size + 1, 0, none⟩ = some (.int .i64 pl) := kp hb1 (by go_cell)
  have c_b1 : w1.cell? ⟨w.heap.size + 1, 1, none⟩ = some (.int .i64 ph) := kp hb1 (by go_cell)
  clear hb1
  go_wp2_with fail
  refine (HA.out _).mono ?_
  rintro e w2 ⟨rfl, hb2⟩
  have hB2 : Below w.heap.size w w2 := below_after (by go_grown) hb2
  have hz2 := hb2.size
  try simp only [World.size_alloc, World.size_setCell, World.size_drew] at hz2
  replace c_a0 : w2.cell? ⟨w.heap.size, 0, none⟩ = some (.int .i64 sl) := kp hb2 (by go_cell)
  replace c_a1 : w2.cell? ⟨w.heap.size, 1, none⟩ = some (.int .i64 sh) := kp hb2 (by go_cell)
  replace c_b0 : w2.cell? ⟨w.heap.size + 1, 0, none⟩ = some (.int .i64 pl) := kp hb2 (by go_cell)
  replace c_b1 : w2.cell? ⟨w.heap.size + 1, 1, none⟩ = some (.int .i64 ph) := kp hb2 (by go_cell)
  clear hb2 hB1
  go_wp2_with fail
  refine (HV1.out _).mono ?_
  rintro e w3 ⟨rfl, hb3⟩
  have hB3 : Below w.heap.size w w3 := below_after (by go_grown) hb3
  have hz3 := hb3.size
  try simp only [World.size_alloc, World.size_setCell, World.size_drew] at hz3
  replace c_a0 : w3.cell? ⟨w.heap.size, 0, none⟩ = some (.int .i64 sl) := kp hb3 (by go_cell)
  replace c_a1 : w3.cell? ⟨w.heap.size, 1, none⟩ = some (.int .i64 sh) := kp hb3 (by go_cell)
  replace c_b0 : w3.cell? ⟨w.heap.size + 1, 0, none⟩ = some (.int .i64 pl) := kp hb3 (by go_cell)
  replace c_b1 : w3.cell? ⟨w.heap.size + 1, 1, none⟩ = some (.int .i64 ph) := kp hb3 (by go_cell)
  have c_s0 : w3.cell? ⟨w2.heap.size, 0, none⟩ = some (.int .i64 (sl * ph / 1000)) := kp hb3 (by go_cell)
  have c_s1 : w3.cell? ⟨w2.heap.size, 1, none⟩ = some (.int .i64 (-(-(sh * pl) / 1000))) := kp hb3 (by go_cell)
  clear hb3 hB2
  go_wp2_with fail
  refine (HV2.out _).mono ?_
  rintro e w4 ⟨rfl, hb4⟩
  have hB4 : Below w.heap.size w w4 := below_after (by go_grown) hb4
  have hz4 := hb4.size
  try simp only [World.size_alloc, World.size_setCell, World.size_drew] at hz4
  replace c_a0 : w4.cell? ⟨w.heap.size, 0, none⟩ = some (.int .i64 sl) := kp hb4 (by go_cell)
  replace c_a1 : w4.cell? ⟨w.heap.size, 1, none⟩ = some (.int .i64 sh) := kp hb4 (by go_cell)
  replace c_b0 : w4.cell? ⟨w.heap.size + 1, 0, none⟩ = some (.int .i64 pl) := kp hb4 (by go_cell)
  replace c_b1 : w4.cell? ⟨w.heap.size + 1, 1, none⟩ = some (.int .i64 ph) := kp hb4 (by go_cell)
  replace c_s0 : w4.cell? ⟨w2.heap.size, 0, none⟩ = some (.int .i64 (sl * ph / 1000)) := kp hb4 (by go_cell)
  replace c_s1 : w4.cell? ⟨w2.heap.size, 1, none⟩ = some (.int .i64 (-(-(sh * pl) / 1000))) := kp hb4 (by go_cell)
  clear hb4 hB3
  go_wp2_with fail
  have hwr0 : IntKind.i64.wrap ((sl + ri) * (pl + rk)) = (sl + ri) * (pl + rk) := IntWalk.i64_in _ (by omega)
  go_region_held3 (fun w' => Below w.heap.size w w' ∧ w'.cell? ⟨w.heap.size, 0, none⟩ = some (.int .i64 sl) ∧ w'.cell? ⟨w.heap.size, 1, none⟩ = some (.int .i64 sh) ∧ w'.cell? ⟨w.heap.size + 1, 0, none⟩ = some (.int .i64 pl) ∧ w'.cell? ⟨w.heap.size + 1, 1, none⟩ = some (.int .i64 ph) ∧ w'.cell? ⟨w2.heap.size, 0, none⟩ = some (.int .i64 (sl * ph / 1000)) ∧ w'.cell? ⟨w2.heap.size, 1, none⟩ = some (.int .i64 (-(-(sh * pl) / 1000))))
    ((go_split_ands; refine ⟨?_, ?_, ?_, ?_, ?_, ?_, ?_⟩ <;> first | (with_reducible assumption) | (exact below_after (by assumption) hb) | (exact kp hb (by assumption)) | (exact kf hb (by go_simp) (by assumption)) | (exact Below.drew (by go_grown)) | go_cell | go_simp))
    (first | (go_at_call 28; (with_reducible refine (Hn1.out _).mono ?_); rintro e x ⟨rfl, hb⟩) | (go_at_call 28; (with_reducible refine (Hn2.out _).mono ?_); rintro e x ⟨rfl, hb⟩))
  go_split_ands
  clear hwr0
  have hB5 : Below w.heap.size w x := by assumption
  replace c_a0 : x.cell? ⟨w.heap.size, 0, none⟩ = some (.int .i64 sl) := by assumption
  replace c_a1 : x.cell? ⟨w.heap.size, 1, none⟩ = some (.int .i64 sh) := by assumption
  replace c_b0 : x.cell? ⟨w.heap.size + 1, 0, none⟩ = some (.int .i64 pl) := by assumption
  replace c_b1 : x.cell? ⟨w.heap.size + 1, 1, none⟩ = some (.int .i64 ph) := by assumption
  replace c_s0 : x.cell? ⟨w2.heap.size, 0, none⟩ = some (.int .i64 (sl * ph / 1000)) := by assumption
  replace c_s1 : x.cell? ⟨w2.heap.size, 1, none⟩ = some (.int .i64 (-(-(sh * pl) / 1000))) := by assumption
  have hz5 := hB5.size
  have hs5_a := World.block_lt_of_cell? _ _ c_a0
  have hs5_b := World.block_lt_of_cell? _ _ c_b0
  have hs5_s := World.block_lt_of_cell? _ _ c_s0
  simp only at hs5_a hs5_b hs5_s
  go_wp2_with fail
  have hwr0 : IntKind.i64.wrap (sl * pl) = sl * pl := IntWalk.i64_in _ (by omega)
  have hwr1 : IntKind.i64.wrap (sl * ph) = sl * ph := IntWalk.i64_in _ (by omega)
  go_region_held3 (fun w' => w'.cell? ⟨w.heap.size, 0, none⟩ = some (.int .i64 sl) ∧ w'.cell? ⟨w.heap.size, 1, none⟩ = some (.int .i64 sh) ∧ w'.cell? ⟨w.heap.size + 1, 0, none⟩ = some (.int .i64 pl) ∧ w'.cell? ⟨w.heap.size + 1, 1, none⟩ = some (.int .i64 ph) ∧ w'.cell? ⟨w2.heap.size, 0, none⟩ = some (.int .i64 (sl * ph / 1000)) ∧ w'.cell? ⟨w2.heap.size, 1, none⟩ = some (.int .i64 (-(-(sh * pl) / 1000))))
    ((refine ⟨?_, ?_, ?_, ?_, ?_, ?_⟩ <;> first | go_cell | (go_split_ands; assumption)))
    (first | (go_at_call 29; (with_reducible refine (Hf1.out _).mono ?_); rintro e x0 ⟨rfl, rfl⟩) | (go_at_call 29; (with_reducible refine (Hf2.out _).mono ?_); rintro e x0 ⟨rfl, rfl⟩))
  clear hwr0 hwr1
  go_wp2_with fail
  have hwr0 : IntKind.i64.wrap (sh * pl) = sh * pl := IntWalk.i64_in _ (by omega)
  have hwr1 : IntKind.i64.wrap (sh * ph) = sh * ph := IntWalk.i64_in _ (by omega)
  go_region_held3 (fun w' => w'.cell? ⟨w.heap.size, 0, none⟩ = some (.int .i64 sl) ∧ w'.cell? ⟨w.heap.size, 1, none⟩ = some (.int .i64 sh) ∧ w'.cell? ⟨w.heap.size + 1, 0, none⟩ = some (.int .i64 pl) ∧ w'.cell? ⟨w.heap.size + 1, 1, none⟩ = some (.int .i64 ph) ∧ w'.cell? ⟨w2.heap.size, 0, none⟩ = some (.int .i64 (sl * ph / 1000)) ∧ w'.cell? ⟨w2.heap.size, 1, none⟩ = some (.int .i64 (-(-(sh * pl) / 1000))))
    ((refine ⟨?_, ?_, ?_, ?_, ?_, ?_⟩ <;> first | go_cell | (go_split_ands; assumption)))
    (first | (go_at_call 30; (with_reducible refine (Hg1.out _).mono ?_); rintro e x0 ⟨rfl, rfl⟩) | (go_at_call 30; (with_reducible refine (Hg2.out _).mono ?_); rintro e x0 ⟨rfl, rfl⟩))
  clear hwr0 hwr1
  go_wp2_with fail
  go_region_held3 (fun w' => Below w.heap.size w w' ∧ w'.cell? ⟨w.heap.size, 0, none⟩ = some (.int .i64 sl) ∧ w'.cell? ⟨w.heap.size, 1, none⟩ = some (.int .i64 sh) ∧ w'.cell? ⟨w.heap.size + 1, 0, none⟩ = some (.int .i64 pl) ∧ w'.cell? ⟨w.heap.size + 1, 1, none⟩ = some (.int .i64 ph) ∧ w'.cell? ⟨w2.heap.size, 0, none⟩ = some (.int .i64 (sl * ph / 1000)) ∧ w'.cell? ⟨w2.heap.size, 1, none⟩ = some (.int .i64 (-(-(sh * pl) / 1000))))
    ((go_split_ands; refine ⟨?_, ?_, ?_, ?_, ?_, ?_, ?_⟩ <;> first | (with_reducible assumption) | (exact below_after (by assumption) hb) | (exact kp hb (by assumption)) | (exact kf hb (by go_simp) (by assumption)) | (exact Below.drew (by go_grown)) | go_cell | go_simp))
    (first | (go_at_call 29; (with_reducible refine (Hf3.out _).mono ?_); rintro e x0 ⟨rfl, rfl⟩) | (go_at_call 30; (with_reducible refine (Hg3.out _).mono ?_); rintro e x0 ⟨rfl, rfl⟩) | (go_at_call 31; (with_reducible refine (Hi1.out _).mono ?_); rintro e y ⟨rfl, hb⟩) | (go_at_call 31; (with_reducible refine (Hi2.out _).mono ?_); rintro e y ⟨rfl, hb⟩) | (go_at_call 32; (with_reducible refine (of_any _ _ _).mono ?_); rintro e y ⟨rfl, hb⟩))
  go_split_ands
  have hB6 : Below w.heap.size w y := by assumption
  replace c_a0 : y.cell? ⟨w.heap.size, 0, none⟩ = some (.int .i64 sl) := by assumption
  replace c_a1 : y.cell? ⟨w.heap.size, 1, none⟩ = some (.int .i64 sh) := by assumption
  replace c_b0 : y.cell? ⟨w.heap.size + 1, 0, none⟩ = some (.int .i64 pl) := by assumption
  replace c_b1 : y.cell? ⟨w.heap.size + 1, 1, none⟩ = some (.int .i64 ph) := by assumption
  replace c_s0 : y.cell? ⟨w2.heap.size, 0, none⟩ = some (.int .i64 (sl * ph / 1000)) := by assumption
  replace c_s1 : y.cell? ⟨w2.heap.size, 1, none⟩ = some (.int .i64 (-(-(sh * pl) / 1000))) := by assumption
  have hz6 := hB6.size
  have hs6_a := World.block_lt_of_cell? _ _ c_a0
  have hs6_b := World.block_lt_of_cell? _ _ c_b0
  have hs6_s := World.block_lt_of_cell? _ _ c_s0
  simp only at hs6_a hs6_b hs6_s
  go_wp2_with fail
  go_ret
  exact ⟨rfl, by go_grown⟩

set_option maxHeartbeats 1600000 in
set_option maxRecDepth 100000 in
theorem times_yes3 (sl sh pl ph i k : Int) (w : World) (hi0 : 0 ≤ i) (hi1 : i < 18446744073709551616) (hk0 : 0 ≤ k) (hk1 : k < 18446744073709551616) (h : vld sl sh = true) (h2 : partsB pl ph = true) (h3 : vld (downI (min (sl * pl) (sl * ph))) (upI (max (sh * pl) (sh * ph))) = true) (hc1 : ¬ sl * ph / 1000 < sl * pl / 1000) (hc2 : -(-(sh * pl) / 1000) < -(-(sh * ph) / 1000)) :
    Calls Try.prog 3 #[.agg #[.int .i64 sl, .int .i64 sh], .agg #[.int .i64 pl, .int .i64 ph], .int .u64 i, .int .u64 k] w fun e w' => e = .returned (.bool true) ∧ Below w.heap.size w w' := by
  have hj : timesS sl sh pl ph = (sl * pl / 1000, -(-(sh * ph) / 1000), 0) := by
    have e1 : downI (min (sl * pl) (sl * ph)) = sl * pl / 1000 := by unfold downI; omega
    have e2 : upI (max (sh * pl) (sh * ph)) = -(-(sh * ph) / 1000) := by unfold upI; omega
    rw [timesS, h, h2, Bool.and_true, if_pos rfl, leastS, h3, if_pos rfl, e1, e2]
  have j1 := fun w => Times_any sl sh pl ph w
  rw [hj] at j1
  have v1 := fun w => RValid_any sl sh w
  have v2 := fun w => Parts_any pl ph w
  rw [h] at v1
  rw [h2] at v2
  have h4 : vld pl ph = true ∧ 0 ≤ pl ∧ ph ≤ 1000000 := by simpa [partsB, and_assoc] using h2
  obtain ⟨h4, hp1, hp2⟩ := h4
  obtain ⟨va1, va2, va3⟩ := vld_bounds h
  obtain ⟨vb1, vb2, vb3⟩ := vld_bounds h4
  have n1 := fun w => in_any sl sh i w va1 va2 va3 hi0 hi1
  have n2 := fun w => in_any pl ph k w vb1 vb2 vb3 hk0 hk1
  have d1 := modc3 (i := i) (d := sh - sl + 1) (by omega)
  have d2 := modc3 (i := k) (d := ph - pl + 1) (by omega)
  generalize i % (sh - sl + 1) = ri at *
  generalize k % (ph - pl + 1) = rk at *
  obtain ⟨d11, d12⟩ := d1
  obtain ⟨d21, d22⟩ := d2
  obtain ⟨b11, b12⟩ := prod_bounds (x := sl) (p := pl) (by omega) (by omega) hp1 (by omega)
  obtain ⟨b21, b22⟩ := prod_bounds (x := sh) (p := pl) (by omega) (by omega) hp1 (by omega)
  obtain ⟨b31, b32⟩ := prod_bounds (x := sl) (p := ph) (by omega) (by omega) (by omega) hp2
  obtain ⟨b41, b42⟩ := prod_bounds (x := sh) (p := ph) (by omega) (by omega) (by omega) hp2
  obtain ⟨b51, b52⟩ := prod_bounds (x := sl + ri) (p := pl + rk) (by omega) (by omega) (by omega) (by omega)
  obtain ⟨pb1, pb2⟩ := prod_between (sl := sl) (sh := sh) (pl := pl) (ph := ph) (x := sl + ri) (p := pl + rk) (by omega) (by omega) (by omega) (by omega) hp1
  have i1 := fun w => In_any (sl * pl / 1000) (-(-(sh * ph) / 1000)) ((sl + ri) * (pl + rk) / 1000) w
  rw [show (decide (sl * pl / 1000 ≤ (sl + ri) * (pl + rk) / 1000) && decide ((sl + ri) * (pl + rk) / 1000 ≤ -(-(sh * ph) / 1000))) = true by simp <;> omega] at i1
  have i2 := fun w => In_any (sl * pl / 1000) (-(-(sh * ph) / 1000)) (-(-((sl + ri) * (pl + rk)) / 1000)) w
  rw [show (decide (sl * pl / 1000 ≤ -(-((sl + ri) * (pl + rk)) / 1000)) && decide (-(-((sl + ri) * (pl + rk)) / 1000) ≤ -(-(sh * ph) / 1000))) = true by simp <;> omega] at i2
  have f1 := fun w => Floor_any (sl * pl) 1000 w (by omega) (by omega) (by omega) (by omega)
  have f2 := fun w => Floor_any (sl * ph) 1000 w (by omega) (by omega) (by omega) (by omega)
  have f3 := fun w => Floor_any ((sl + ri) * (pl + rk)) 1000 w (by omega) (by omega) (by omega) (by omega)
  have g1 := fun w => Ceil_any (sh * pl) 1000 w (by omega) (by omega) (by omega) (by omega)
  have g2 := fun w => Ceil_any (sh * ph) 1000 w (by omega) (by omega) (by omega) (by omega)
  have g3 := fun w => Ceil_any ((sl + ri) * (pl + rk)) 1000 w (by omega) (by omega) (by omega) (by omega)
  have HA := Lib.hid j1
  have HV1 := Lib.hid v1
  have HV2 := Lib.hid v2
  have Hn1 := Lib.hid n1
  have Hn2 := Lib.hid n2
  have Hi1 := Lib.hid i1
  have Hi2 := Lib.hid i2
  have Hf1 := Lib.hid f1
  have Hf2 := Lib.hid f2
  have Hf3 := Lib.hid f3
  have Hg1 := Lib.hid g1
  have Hg2 := Lib.hid g2
  have Hg3 := Lib.hid g3
  clear j1 hj v1 v2 h h2 h3 h4 n1 n2 i1 i2 f1 f2 f3 g1 g2 g3
  go_enter Try.func3, Try.ntmps3
  go_wp2_with fail
  refine (head_any _).mono ?_
  rintro e w1 ⟨rfl, hb1⟩
  have hB1 : Below w.heap.size w w1 := below_after (by go_grown) hb1
  have hz1 := hb1.size
  try simp only [World.size_alloc, World.size_setCell, World.size_drew] at hz1
  have c_a0 : w1.cell? ⟨w.heap.size, 0, none⟩ = some (.int .i64 sl) := kp hb1 (by go_cell)
  have c_a1 : w1.cell? ⟨w.heap.size, 1, none⟩ = some (.int .i64 sh) := kp hb1 (by go_cell)
  have c_b0 : w1.cell? ⟨w.heap.size + 1, 0, none⟩ = some (.int .i64 pl) := kp hb1 (by go_cell)
  have c_b1 : w1.cell? ⟨w.heap.size + 1, 1, none⟩ = some (.int .i64 ph) := kp hb1 (by go_cell)
  clear hb1
  go_wp2_with fail
  refine (HA.out _).mono ?_
  rintro e w2 ⟨rfl, hb2⟩
  have hB2 : Below w.heap.size w w2 := below_after (by go_grown) hb2
  have hz2 := hb2.size
  try simp only [World.size_alloc, World.size_setCell, World.size_drew] at hz2
  replace c_a0 : w2.cell? ⟨w.heap.size, 0, none⟩ = some (.int .i64 sl) := kp hb2 (by go_cell)
  replace c_a1 : w2.cell? ⟨w.heap.size, 1, none⟩ = some (.int .i64 sh) := kp hb2 (by go_cell)
  replace c_b0 : w2.cell? ⟨w.heap.size + 1, 0, none⟩ = some (.int .i64 pl) := kp hb2 (by go_cell)
  replace c_b1 : w2.cell? ⟨w.heap.size + 1, 1, none⟩ = some (.int .i64 ph) := kp hb2 (by go_cell)
  clear hb2 hB1
  go_wp2_with fail
  refine (HV1.out _).mono ?_
  rintro e w3 ⟨rfl, hb3⟩
  have hB3 : Below w.heap.size w w3 := below_after (by go_grown) hb3
  have hz3 := hb3.size
  try simp only [World.size_alloc, World.size_setCell, World.size_drew] at hz3
  replace c_a0 : w3.cell? ⟨w.heap.size, 0, none⟩ = some (.int .i64 sl) := kp hb3 (by go_cell)
  replace c_a1 : w3.cell? ⟨w.heap.size, 1, none⟩ = some (.int .i64 sh) := kp hb3 (by go_cell)
  replace c_b0 : w3.cell? ⟨w.heap.size + 1, 0, none⟩ = some (.int .i64 pl) := kp hb3 (by go_cell)
  replace c_b1 : w3.cell? ⟨w.heap.size + 1, 1, none⟩ = some (.int .i64 ph) := kp hb3 (by go_cell)
  have c_s0 : w3.cell? ⟨w2.heap.size, 0, none⟩ = some (.int .i64 (sl * pl / 1000)) := kp hb3 (by go_cell)
  have c_s1 : w3.cell? ⟨w2.heap.size, 1, none⟩ = some (.int .i64 (-(-(sh * ph) / 1000))) := kp hb3 (by go_cell)
  clear hb3 hB2
  go_wp2_with fail
  refine (HV2.out _).mono ?_
  rintro e w4 ⟨rfl, hb4⟩
  have hB4 : Below w.heap.size w w4 := below_after (by go_grown) hb4
  have hz4 := hb4.size
  try simp only [World.size_alloc, World.size_setCell, World.size_drew] at hz4
  replace c_a0 : w4.cell? ⟨w.heap.size, 0, none⟩ = some (.int .i64 sl) := kp hb4 (by go_cell)
  replace c_a1 : w4.cell? ⟨w.heap.size, 1, none⟩ = some (.int .i64 sh) := kp hb4 (by go_cell)
  replace c_b0 : w4.cell? ⟨w.heap.size + 1, 0, none⟩ = some (.int .i64 pl) := kp hb4 (by go_cell)
  replace c_b1 : w4.cell? ⟨w.heap.size + 1, 1, none⟩ = some (.int .i64 ph) := kp hb4 (by go_cell)
  replace c_s0 : w4.cell? ⟨w2.heap.size, 0, none⟩ = some (.int .i64 (sl * pl / 1000)) := kp hb4 (by go_cell)
  replace c_s1 : w4.cell? ⟨w2.heap.size, 1, none⟩ = some (.int .i64 (-(-(sh * ph) / 1000))) := kp hb4 (by go_cell)
  clear hb4 hB3
  go_wp2_with fail
  have hwr0 : IntKind.i64.wrap ((sl + ri) * (pl + rk)) = (sl + ri) * (pl + rk) := IntWalk.i64_in _ (by omega)
  go_region_held3 (fun w' => Below w.heap.size w w' ∧ w'.cell? ⟨w.heap.size, 0, none⟩ = some (.int .i64 sl) ∧ w'.cell? ⟨w.heap.size, 1, none⟩ = some (.int .i64 sh) ∧ w'.cell? ⟨w.heap.size + 1, 0, none⟩ = some (.int .i64 pl) ∧ w'.cell? ⟨w.heap.size + 1, 1, none⟩ = some (.int .i64 ph) ∧ w'.cell? ⟨w2.heap.size, 0, none⟩ = some (.int .i64 (sl * pl / 1000)) ∧ w'.cell? ⟨w2.heap.size, 1, none⟩ = some (.int .i64 (-(-(sh * ph) / 1000))))
    ((go_split_ands; refine ⟨?_, ?_, ?_, ?_, ?_, ?_, ?_⟩ <;> first | (with_reducible assumption) | (exact below_after (by assumption) hb) | (exact kp hb (by assumption)) | (exact kf hb (by go_simp) (by assumption)) | (exact Below.drew (by go_grown)) | go_cell | go_simp))
    (first | (go_at_call 28; (with_reducible refine (Hn1.out _).mono ?_); rintro e x ⟨rfl, hb⟩) | (go_at_call 28; (with_reducible refine (Hn2.out _).mono ?_); rintro e x ⟨rfl, hb⟩))
  go_split_ands
  clear hwr0
  have hB5 : Below w.heap.size w x := by assumption
  replace c_a0 : x.cell? ⟨w.heap.size, 0, none⟩ = some (.int .i64 sl) := by assumption
  replace c_a1 : x.cell? ⟨w.heap.size, 1, none⟩ = some (.int .i64 sh) := by assumption
  replace c_b0 : x.cell? ⟨w.heap.size + 1, 0, none⟩ = some (.int .i64 pl) := by assumption
  replace c_b1 : x.cell? ⟨w.heap.size + 1, 1, none⟩ = some (.int .i64 ph) := by assumption
  replace c_s0 : x.cell? ⟨w2.heap.size, 0, none⟩ = some (.int .i64 (sl * pl / 1000)) := by assumption
  replace c_s1 : x.cell? ⟨w2.heap.size, 1, none⟩ = some (.int .i64 (-(-(sh * ph) / 1000))) := by assumption
  have hz5 := hB5.size
  have hs5_a := World.block_lt_of_cell? _ _ c_a0
  have hs5_b := World.block_lt_of_cell? _ _ c_b0
  have hs5_s := World.block_lt_of_cell? _ _ c_s0
  simp only at hs5_a hs5_b hs5_s
  go_wp2_with fail
  have hwr0 : IntKind.i64.wrap (sl * pl) = sl * pl := IntWalk.i64_in _ (by omega)
  have hwr1 : IntKind.i64.wrap (sl * ph) = sl * ph := IntWalk.i64_in _ (by omega)
  go_region_held3 (fun w' => w'.cell? ⟨w.heap.size, 0, none⟩ = some (.int .i64 sl) ∧ w'.cell? ⟨w.heap.size, 1, none⟩ = some (.int .i64 sh) ∧ w'.cell? ⟨w.heap.size + 1, 0, none⟩ = some (.int .i64 pl) ∧ w'.cell? ⟨w.heap.size + 1, 1, none⟩ = some (.int .i64 ph) ∧ w'.cell? ⟨w2.heap.size, 0, none⟩ = some (.int .i64 (sl * pl / 1000)) ∧ w'.cell? ⟨w2.heap.size, 1, none⟩ = some (.int .i64 (-(-(sh * ph) / 1000))))
    ((refine ⟨?_, ?_, ?_, ?_, ?_, ?_⟩ <;> first | go_cell | (go_split_ands; assumption)))
    (first | (go_at_call 29; (with_reducible refine (Hf1.out _).mono ?_); rintro e x0 ⟨rfl, rfl⟩) | (go_at_call 29; (with_reducible refine (Hf2.out _).mono ?_); rintro e x0 ⟨rfl, rfl⟩))
  clear hwr0 hwr1
  go_wp2_with fail
  have hwr0 : IntKind.i64.wrap (sh * pl) = sh * pl := IntWalk.i64_in _ (by omega)
  have hwr1 : IntKind.i64.wrap (sh * ph) = sh * ph := IntWalk.i64_in _ (by omega)
  go_region_held3 (fun w' => w'.cell? ⟨w.heap.size, 0, none⟩ = some (.int .i64 sl) ∧ w'.cell? ⟨w.heap.size, 1, none⟩ = some (.int .i64 sh) ∧ w'.cell? ⟨w.heap.size + 1, 0, none⟩ = some (.int .i64 pl) ∧ w'.cell? ⟨w.heap.size + 1, 1, none⟩ = some (.int .i64 ph) ∧ w'.cell? ⟨w2.heap.size, 0, none⟩ = some (.int .i64 (sl * pl / 1000)) ∧ w'.cell? ⟨w2.heap.size, 1, none⟩ = some (.int .i64 (-(-(sh * ph) / 1000))))
    ((refine ⟨?_, ?_, ?_, ?_, ?_, ?_⟩ <;> first | go_cell | (go_split_ands; assumption)))
    (first | (go_at_call 30; (with_reducible refine (Hg1.out _).mono ?_); rintro e x0 ⟨rfl, rfl⟩) | (go_at_call 30; (with_reducible refine (Hg2.out _).mono ?_); rintro e x0 ⟨rfl, rfl⟩))
  clear hwr0 hwr1
  go_wp2_with fail
  go_region_held3 (fun w' => Below w.heap.size w w' ∧ w'.cell? ⟨w.heap.size, 0, none⟩ = some (.int .i64 sl) ∧ w'.cell? ⟨w.heap.size, 1, none⟩ = some (.int .i64 sh) ∧ w'.cell? ⟨w.heap.size + 1, 0, none⟩ = some (.int .i64 pl) ∧ w'.cell? ⟨w.heap.size + 1, 1, none⟩ = some (.int .i64 ph) ∧ w'.cell? ⟨w2.heap.size, 0, none⟩ = some (.int .i64 (sl * pl / 1000)) ∧ w'.cell? ⟨w2.heap.size, 1, none⟩ = some (.int .i64 (-(-(sh * ph) / 1000))))
    ((go_split_ands; refine ⟨?_, ?_, ?_, ?_, ?_, ?_, ?_⟩ <;> first | (with_reducible assumption) | (exact below_after (by assumption) hb) | (exact kp hb (by assumption)) | (exact kf hb (by go_simp) (by assumption)) | (exact Below.drew (by go_grown)) | go_cell | go_simp))
    (first | (go_at_call 29; (with_reducible refine (Hf3.out _).mono ?_); rintro e x0 ⟨rfl, rfl⟩) | (go_at_call 30; (with_reducible refine (Hg3.out _).mono ?_); rintro e x0 ⟨rfl, rfl⟩) | (go_at_call 31; (with_reducible refine (Hi1.out _).mono ?_); rintro e y ⟨rfl, hb⟩) | (go_at_call 31; (with_reducible refine (Hi2.out _).mono ?_); rintro e y ⟨rfl, hb⟩) | (go_at_call 32; (with_reducible refine (of_any _ _ _).mono ?_); rintro e y ⟨rfl, hb⟩))
  go_split_ands
  have hB6 : Below w.heap.size w y := by assumption
  replace c_a0 : y.cell? ⟨w.heap.size, 0, none⟩ = some (.int .i64 sl) := by assumption
  replace c_a1 : y.cell? ⟨w.heap.size, 1, none⟩ = some (.int .i64 sh) := by assumption
  replace c_b0 : y.cell? ⟨w.heap.size + 1, 0, none⟩ = some (.int .i64 pl) := by assumption
  replace c_b1 : y.cell? ⟨w.heap.size + 1, 1, none⟩ = some (.int .i64 ph) := by assumption
  replace c_s0 : y.cell? ⟨w2.heap.size, 0, none⟩ = some (.int .i64 (sl * pl / 1000)) := by assumption
  replace c_s1 : y.cell? ⟨w2.heap.size, 1, none⟩ = some (.int .i64 (-(-(sh * ph) / 1000))) := by assumption
  have hz6 := hB6.size
  have hs6_a := World.block_lt_of_cell? _ _ c_a0
  have hs6_b := World.block_lt_of_cell? _ _ c_b0
  have hs6_s := World.block_lt_of_cell? _ _ c_s0
  simp only at hs6_a hs6_b hs6_s
  go_wp2_with fail
  go_ret
  exact ⟨rfl, by go_grown⟩

set_option maxHeartbeats 1600000 in
set_option maxRecDepth 100000 in
theorem times_yes4 (sl sh pl ph i k : Int) (w : World) (hi0 : 0 ≤ i) (hi1 : i < 18446744073709551616) (hk0 : 0 ≤ k) (hk1 : k < 18446744073709551616) (h : vld sl sh = true) (h2 : partsB pl ph = true) (h3 : vld (downI (min (sl * pl) (sl * ph))) (upI (max (sh * pl) (sh * ph))) = true) (hc1 : ¬ sl * ph / 1000 < sl * pl / 1000) (hc2 : ¬ -(-(sh * pl) / 1000) < -(-(sh * ph) / 1000)) :
    Calls Try.prog 3 #[.agg #[.int .i64 sl, .int .i64 sh], .agg #[.int .i64 pl, .int .i64 ph], .int .u64 i, .int .u64 k] w fun e w' => e = .returned (.bool true) ∧ Below w.heap.size w w' := by
  have hj : timesS sl sh pl ph = (sl * pl / 1000, -(-(sh * pl) / 1000), 0) := by
    have e1 : downI (min (sl * pl) (sl * ph)) = sl * pl / 1000 := by unfold downI; omega
    have e2 : upI (max (sh * pl) (sh * ph)) = -(-(sh * pl) / 1000) := by unfold upI; omega
    rw [timesS, h, h2, Bool.and_true, if_pos rfl, leastS, h3, if_pos rfl, e1, e2]
  have j1 := fun w => Times_any sl sh pl ph w
  rw [hj] at j1
  have v1 := fun w => RValid_any sl sh w
  have v2 := fun w => Parts_any pl ph w
  rw [h] at v1
  rw [h2] at v2
  have h4 : vld pl ph = true ∧ 0 ≤ pl ∧ ph ≤ 1000000 := by simpa [partsB, and_assoc] using h2
  obtain ⟨h4, hp1, hp2⟩ := h4
  obtain ⟨va1, va2, va3⟩ := vld_bounds h
  obtain ⟨vb1, vb2, vb3⟩ := vld_bounds h4
  have n1 := fun w => in_any sl sh i w va1 va2 va3 hi0 hi1
  have n2 := fun w => in_any pl ph k w vb1 vb2 vb3 hk0 hk1
  have d1 := modc3 (i := i) (d := sh - sl + 1) (by omega)
  have d2 := modc3 (i := k) (d := ph - pl + 1) (by omega)
  generalize i % (sh - sl + 1) = ri at *
  generalize k % (ph - pl + 1) = rk at *
  obtain ⟨d11, d12⟩ := d1
  obtain ⟨d21, d22⟩ := d2
  obtain ⟨b11, b12⟩ := prod_bounds (x := sl) (p := pl) (by omega) (by omega) hp1 (by omega)
  obtain ⟨b21, b22⟩ := prod_bounds (x := sh) (p := pl) (by omega) (by omega) hp1 (by omega)
  obtain ⟨b31, b32⟩ := prod_bounds (x := sl) (p := ph) (by omega) (by omega) (by omega) hp2
  obtain ⟨b41, b42⟩ := prod_bounds (x := sh) (p := ph) (by omega) (by omega) (by omega) hp2
  obtain ⟨b51, b52⟩ := prod_bounds (x := sl + ri) (p := pl + rk) (by omega) (by omega) (by omega) (by omega)
  obtain ⟨pb1, pb2⟩ := prod_between (sl := sl) (sh := sh) (pl := pl) (ph := ph) (x := sl + ri) (p := pl + rk) (by omega) (by omega) (by omega) (by omega) hp1
  have i1 := fun w => In_any (sl * pl / 1000) (-(-(sh * pl) / 1000)) ((sl + ri) * (pl + rk) / 1000) w
  rw [show (decide (sl * pl / 1000 ≤ (sl + ri) * (pl + rk) / 1000) && decide ((sl + ri) * (pl + rk) / 1000 ≤ -(-(sh * pl) / 1000))) = true by simp <;> omega] at i1
  have i2 := fun w => In_any (sl * pl / 1000) (-(-(sh * pl) / 1000)) (-(-((sl + ri) * (pl + rk)) / 1000)) w
  rw [show (decide (sl * pl / 1000 ≤ -(-((sl + ri) * (pl + rk)) / 1000)) && decide (-(-((sl + ri) * (pl + rk)) / 1000) ≤ -(-(sh * pl) / 1000))) = true by simp <;> omega] at i2
  have f1 := fun w => Floor_any (sl * pl) 1000 w (by omega) (by omega) (by omega) (by omega)
  have f2 := fun w => Floor_any (sl * ph) 1000 w (by omega) (by omega) (by omega) (by omega)
  have f3 := fun w => Floor_any ((sl + ri) * (pl + rk)) 1000 w (by omega) (by omega) (by omega) (by omega)
  have g1 := fun w => Ceil_any (sh * pl) 1000 w (by omega) (by omega) (by omega) (by omega)
  have g2 := fun w => Ceil_any (sh * ph) 1000 w (by omega) (by omega) (by omega) (by omega)
  have g3 := fun w => Ceil_any ((sl + ri) * (pl + rk)) 1000 w (by omega) (by omega) (by omega) (by omega)
  have HA := Lib.hid j1
  have HV1 := Lib.hid v1
  have HV2 := Lib.hid v2
  have Hn1 := Lib.hid n1
  have Hn2 := Lib.hid n2
  have Hi1 := Lib.hid i1
  have Hi2 := Lib.hid i2
  have Hf1 := Lib.hid f1
  have Hf2 := Lib.hid f2
  have Hf3 := Lib.hid f3
  have Hg1 := Lib.hid g1
  have Hg2 := Lib.hid g2
  have Hg3 := Lib.hid g3
  clear j1 hj v1 v2 h h2 h3 h4 n1 n2 i1 i2 f1 f2 f3 g1 g2 g3
  go_enter Try.func3, Try.ntmps3
  go_wp2_with fail
  refine (head_any _).mono ?_
  rintro e w1 ⟨rfl, hb1⟩
  have hB1 : Below w.heap.size w w1 := below_after (by go_grown) hb1
  have hz1 := hb1.size
  try simp only [World.size_alloc, World.size_setCell, World.size_drew] at hz1
  have c_a0 : w1.cell? ⟨w.heap.size, 0, none⟩ = some (.int .i64 sl) := kp hb1 (by go_cell)
  have c_a1 : w1.cell? ⟨w.heap.size, 1, none⟩ = some (.int .i64 sh) := kp hb1 (by go_cell)
  have c_b0 : w1.cell? ⟨w.heap.size + 1, 0, none⟩ = some (.int .i64 pl) := kp hb1 (by go_cell)
  have c_b1 : w1.cell? ⟨w.heap.size + 1, 1, none⟩ = some (.int .i64 ph) := kp hb1 (by go_cell)
  clear hb1
  go_wp2_with fail
  refine (HA.out _).mono ?_
  rintro e w2 ⟨rfl, hb2⟩
  have hB2 : Below w.heap.size w w2 := below_after (by go_grown) hb2
  have hz2 := hb2.size
  try simp only [World.size_alloc, World.size_setCell, World.size_drew] at hz2
  replace c_a0 : w2.cell? ⟨w.heap.size, 0, none⟩ = some (.int .i64 sl) := kp hb2 (by go_cell)
  replace c_a1 : w2.cell? ⟨w.heap.size, 1, none⟩ = some (.int .i64 sh) := kp hb2 (by go_cell)
  replace c_b0 : w2.cell? ⟨w.heap.size + 1, 0, none⟩ = some (.int .i64 pl) := kp hb2 (by go_cell)
  replace c_b1 : w2.cell? ⟨w.heap.size + 1, 1, none⟩ = some (.int .i64 ph) := kp hb2 (by go_cell)
  clear hb2 hB1
  go_wp2_with fail
  refine (HV1.out _).mono ?_
  rintro e w3 ⟨rfl, hb3⟩
  have hB3 : Below w.heap.size w w3 := below_after (by go_grown) hb3
  have hz3 := hb3.size
  try simp only [World.size_alloc, World.size_setCell, World.size_drew] at hz3
  replace c_a0 : w3.cell? ⟨w.heap.size, 0, none⟩ = some (.int .i64 sl) := kp hb3 (by go_cell)
  replace c_a1 : w3.cell? ⟨w.heap.size, 1, none⟩ = some (.int .i64 sh) := kp hb3 (by go_cell)
  replace c_b0 : w3.cell? ⟨w.heap.size + 1, 0, none⟩ = some (.int .i64 pl) := kp hb3 (by go_cell)
  replace c_b1 : w3.cell? ⟨w.heap.size + 1, 1, none⟩ = some (.int .i64 ph) := kp hb3 (by go_cell)
  have c_s0 : w3.cell? ⟨w2.heap.size, 0, none⟩ = some (.int .i64 (sl * pl / 1000)) := kp hb3 (by go_cell)
  have c_s1 : w3.cell? ⟨w2.heap.size, 1, none⟩ = some (.int .i64 (-(-(sh * pl) / 1000))) := kp hb3 (by go_cell)
  clear hb3 hB2
  go_wp2_with fail
  refine (HV2.out _).mono ?_
  rintro e w4 ⟨rfl, hb4⟩
  have hB4 : Below w.heap.size w w4 := below_after (by go_grown) hb4
  have hz4 := hb4.size
  try simp only [World.size_alloc, World.size_setCell, World.size_drew] at hz4
  replace c_a0 : w4.cell? ⟨w.heap.size, 0, none⟩ = some (.int .i64 sl) := kp hb4 (by go_cell)
  replace c_a1 : w4.cell? ⟨w.heap.size, 1, none⟩ = some (.int .i64 sh) := kp hb4 (by go_cell)
  replace c_b0 : w4.cell? ⟨w.heap.size + 1, 0, none⟩ = some (.int .i64 pl) := kp hb4 (by go_cell)
  replace c_b1 : w4.cell? ⟨w.heap.size + 1, 1, none⟩ = some (.int .i64 ph) := kp hb4 (by go_cell)
  replace c_s0 : w4.cell? ⟨w2.heap.size, 0, none⟩ = some (.int .i64 (sl * pl / 1000)) := kp hb4 (by go_cell)
  replace c_s1 : w4.cell? ⟨w2.heap.size, 1, none⟩ = some (.int .i64 (-(-(sh * pl) / 1000))) := kp hb4 (by go_cell)
  clear hb4 hB3
  go_wp2_with fail
  have hwr0 : IntKind.i64.wrap ((sl + ri) * (pl + rk)) = (sl + ri) * (pl + rk) := IntWalk.i64_in _ (by omega)
  go_region_held3 (fun w' => Below w.heap.size w w' ∧ w'.cell? ⟨w.heap.size, 0, none⟩ = some (.int .i64 sl) ∧ w'.cell? ⟨w.heap.size, 1, none⟩ = some (.int .i64 sh) ∧ w'.cell? ⟨w.heap.size + 1, 0, none⟩ = some (.int .i64 pl) ∧ w'.cell? ⟨w.heap.size + 1, 1, none⟩ = some (.int .i64 ph) ∧ w'.cell? ⟨w2.heap.size, 0, none⟩ = some (.int .i64 (sl * pl / 1000)) ∧ w'.cell? ⟨w2.heap.size, 1, none⟩ = some (.int .i64 (-(-(sh * pl) / 1000))))
    ((go_split_ands; refine ⟨?_, ?_, ?_, ?_, ?_, ?_, ?_⟩ <;> first | (with_reducible assumption) | (exact below_after (by assumption) hb) | (exact kp hb (by assumption)) | (exact kf hb (by go_simp) (by assumption)) | (exact Below.drew (by go_grown)) | go_cell | go_simp))
    (first | (go_at_call 28; (with_reducible refine (Hn1.out _).mono ?_); rintro e x ⟨rfl, hb⟩) | (go_at_call 28; (with_reducible refine (Hn2.out _).mono ?_); rintro e x ⟨rfl, hb⟩))
  go_split_ands
  clear hwr0
  have hB5 : Below w.heap.size w x := by assumption
  replace c_a0 : x.cell? ⟨w.heap.size, 0, none⟩ = some (.int .i64 sl) := by assumption
  replace c_a1 : x.cell? ⟨w.heap.size, 1, none⟩ = some (.int .i64 sh) := by assumption
  replace c_b0 : x.cell? ⟨w.heap.size + 1, 0, none⟩ = some (.int .i64 pl) := by assumption
  replace c_b1 : x.cell? ⟨w.heap.size + 1, 1, none⟩ = some (.int .i64 ph) := by assumption
  replace c_s0 : x.cell? ⟨w2.heap.size, 0, none⟩ = some (.int .i64 (sl * pl / 1000)) := by assumption
  replace c_s1 : x.cell? ⟨w2.heap.size, 1, none⟩ = some (.int .i64 (-(-(sh * pl) / 1000))) := by assumption
  have hz5 := hB5.size
  have hs5_a := World.block_lt_of_cell? _ _ c_a0
  have hs5_b := World.block_lt_of_cell? _ _ c_b0
  have hs5_s := World.block_lt_of_cell? _ _ c_s0
  simp only at hs5_a hs5_b hs5_s
  go_wp2_with fail
  have hwr0 : IntKind.i64.wrap (sl * pl) = sl * pl := IntWalk.i64_in _ (by omega)
  have hwr1 : IntKind.i64.wrap (sl * ph) = sl * ph := IntWalk.i64_in _ (by omega)
  go_region_held3 (fun w' => w'.cell? ⟨w.heap.size, 0, none⟩ = some (.int .i64 sl) ∧ w'.cell? ⟨w.heap.size, 1, none⟩ = some (.int .i64 sh) ∧ w'.cell? ⟨w.heap.size + 1, 0, none⟩ = some (.int .i64 pl) ∧ w'.cell? ⟨w.heap.size + 1, 1, none⟩ = some (.int .i64 ph) ∧ w'.cell? ⟨w2.heap.size, 0, none⟩ = some (.int .i64 (sl * pl / 1000)) ∧ w'.cell? ⟨w2.heap.size, 1, none⟩ = some (.int .i64 (-(-(sh * pl) / 1000))))
    ((refine ⟨?_, ?_, ?_, ?_, ?_, ?_⟩ <;> first | go_cell | (go_split_ands; assumption)))
    (first | (go_at_call 29; (with_reducible refine (Hf1.out _).mono ?_); rintro e x0 ⟨rfl, rfl⟩) | (go_at_call 29; (with_reducible refine (Hf2.out _).mono ?_); rintro e x0 ⟨rfl, rfl⟩))
  clear hwr0 hwr1
  go_wp2_with fail
  have hwr0 : IntKind.i64.wrap (sh * pl) = sh * pl := IntWalk.i64_in _ (by omega)
  have hwr1 : IntKind.i64.wrap (sh * ph) = sh * ph := IntWalk.i64_in _ (by omega)
  go_region_held3 (fun w' => w'.cell? ⟨w.heap.size, 0, none⟩ = some (.int .i64 sl) ∧ w'.cell? ⟨w.heap.size, 1, none⟩ = some (.int .i64 sh) ∧ w'.cell? ⟨w.heap.size + 1, 0, none⟩ = some (.int .i64 pl) ∧ w'.cell? ⟨w.heap.size + 1, 1, none⟩ = some (.int .i64 ph) ∧ w'.cell? ⟨w2.heap.size, 0, none⟩ = some (.int .i64 (sl * pl / 1000)) ∧ w'.cell? ⟨w2.heap.size, 1, none⟩ = some (.int .i64 (-(-(sh * pl) / 1000))))
    ((refine ⟨?_, ?_, ?_, ?_, ?_, ?_⟩ <;> first | go_cell | (go_split_ands; assumption)))
    (first | (go_at_call 30; (with_reducible refine (Hg1.out _).mono ?_); rintro e x0 ⟨rfl, rfl⟩) | (go_at_call 30; (with_reducible refine (Hg2.out _).mono ?_); rintro e x0 ⟨rfl, rfl⟩))
  clear hwr0 hwr1
  go_wp2_with fail
  go_region_held3 (fun w' => Below w.heap.size w w' ∧ w'.cell? ⟨w.heap.size, 0, none⟩ = some (.int .i64 sl) ∧ w'.cell? ⟨w.heap.size, 1, none⟩ = some (.int .i64 sh) ∧ w'.cell? ⟨w.heap.size + 1, 0, none⟩ = some (.int .i64 pl) ∧ w'.cell? ⟨w.heap.size + 1, 1, none⟩ = some (.int .i64 ph) ∧ w'.cell? ⟨w2.heap.size, 0, none⟩ = some (.int .i64 (sl * pl / 1000)) ∧ w'.cell? ⟨w2.heap.size, 1, none⟩ = some (.int .i64 (-(-(sh * pl) / 1000))))
    ((go_split_ands; refine ⟨?_, ?_, ?_, ?_, ?_, ?_, ?_⟩ <;> first | (with_reducible assumption) | (exact below_after (by assumption) hb) | (exact kp hb (by assumption)) | (exact kf hb (by go_simp) (by assumption)) | (exact Below.drew (by go_grown)) | go_cell | go_simp))
    (first | (go_at_call 29; (with_reducible refine (Hf3.out _).mono ?_); rintro e x0 ⟨rfl, rfl⟩) | (go_at_call 30; (with_reducible refine (Hg3.out _).mono ?_); rintro e x0 ⟨rfl, rfl⟩) | (go_at_call 31; (with_reducible refine (Hi1.out _).mono ?_); rintro e y ⟨rfl, hb⟩) | (go_at_call 31; (with_reducible refine (Hi2.out _).mono ?_); rintro e y ⟨rfl, hb⟩) | (go_at_call 32; (with_reducible refine (of_any _ _ _).mono ?_); rintro e y ⟨rfl, hb⟩))
  go_split_ands
  have hB6 : Below w.heap.size w y := by assumption
  replace c_a0 : y.cell? ⟨w.heap.size, 0, none⟩ = some (.int .i64 sl) := by assumption
  replace c_a1 : y.cell? ⟨w.heap.size, 1, none⟩ = some (.int .i64 sh) := by assumption
  replace c_b0 : y.cell? ⟨w.heap.size + 1, 0, none⟩ = some (.int .i64 pl) := by assumption
  replace c_b1 : y.cell? ⟨w.heap.size + 1, 1, none⟩ = some (.int .i64 ph) := by assumption
  replace c_s0 : y.cell? ⟨w2.heap.size, 0, none⟩ = some (.int .i64 (sl * pl / 1000)) := by assumption
  replace c_s1 : y.cell? ⟨w2.heap.size, 1, none⟩ = some (.int .i64 (-(-(sh * pl) / 1000))) := by assumption
  have hz6 := hB6.size
  have hs6_a := World.block_lt_of_cell? _ _ c_a0
  have hs6_b := World.block_lt_of_cell? _ _ c_b0
  have hs6_s := World.block_lt_of_cell? _ _ c_s0
  simp only at hs6_a hs6_b hs6_s
  go_wp2_with fail
  go_ret
  exact ⟨rfl, by go_grown⟩

theorem times_walk (sl sh pl ph i k : Int) (w : World) (_ : -9223372036854775808 ≤ sl) (_ : sl ≤ 9223372036854775807) (_ : -9223372036854775808 ≤ sh) (_ : sh ≤ 9223372036854775807) (_ : -9223372036854775808 ≤ pl) (_ : pl ≤ 9223372036854775807) (_ : -9223372036854775808 ≤ ph) (_ : ph ≤ 9223372036854775807)
    (hi0 : 0 ≤ i) (hi1 : i ≤ 18446744073709551615) (hk0 : 0 ≤ k) (hk1 : k ≤ 18446744073709551615) :
    Calls Try.prog 3 #[.agg #[.int .i64 sl, .int .i64 sh], .agg #[.int .i64 pl, .int .i64 ph], .int .u64 i, .int .u64 k] w fun e w' => e = .returned (.bool true) ∧ Below w.heap.size w w'  := by
  cases h1 : vld sl sh
  · exact times_no1 sl sh pl ph i k w h1
  · cases h2 : partsB pl ph
    · exact times_no2 sl sh pl ph i k w h1 h2
    · cases h3 : vld (downI (min (sl * pl) (sl * ph))) (upI (max (sh * pl) (sh * ph)))
      · exact times_no3 sl sh pl ph i k w h1 h2 h3
      · by_cases c1 : sl * ph / 1000 < sl * pl / 1000 <;> by_cases c2 : -(-(sh * pl) / 1000) < -(-(sh * ph) / 1000)
        · exact times_yes1 sl sh pl ph i k w hi0 (by omega) hk0 (by omega) h1 h2 h3 c1 c2
        · exact times_yes2 sl sh pl ph i k w hi0 (by omega) hk0 (by omega) h1 h2 h3 c1 c2
        · exact times_yes3 sl sh pl ph i k w hi0 (by omega) hk0 (by omega) h1 h2 h3 c1 c2
        · exact times_yes4 sl sh pl ph i k w hi0 (by omega) hk0 (by omega) h1 h2 h3 c1 c2

end Go.Proofs.Ytollpjdnahemeaa
