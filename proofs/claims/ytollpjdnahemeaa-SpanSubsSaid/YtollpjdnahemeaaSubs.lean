import Derived.Test.YtollpjdnahemeaaS7
namespace Go.Proofs.Ytollpjdnahemeaa
open Go.RowKit
set_option linter.unusedSimpArgs false
set_option linter.unusedVariables false
attribute [local go_sem ↓] Go.wp_at_zero Go.wp_at_succ

theorem modc2 {i d : Int} (h : 0 < d) : 0 ≤ i % d ∧ i % d < d := ⟨Int.emod_nonneg _ (by omega), Int.emod_lt_of_pos _ h⟩

set_option maxHeartbeats 1600000 in
set_option maxRecDepth 100000 in
theorem subs_no1 (al ah bl bh i k : Int) (w : World) (h : vld al ah = false) :
    Calls Try.prog 5 #[.agg #[.int .i64 al, .int .i64 ah], .agg #[.int .i64 bl, .int .i64 bh], .int .u64 i, .int .u64 k] w fun e w' => e = .returned (.bool true) ∧ Below w.heap.size w w' := by
  have hj : subS al ah bl bh = (0, 0, 1) := by simp [subS, h]
  have j1 := fun w => Sub_any al ah bl bh w
  rw [hj] at j1
  have v1 := fun w => RValid_any al ah w
  have v2 := fun w => RValid_any bl bh w
  rw [h] at v1
  have HA := Lib.hid j1
  have HV1 := Lib.hid v1
  have HV2 := Lib.hid v2
  clear j1 hj v1 v2 h
  go_enter Try.func5, Try.ntmps5
  go_wp2_with fail
  refine (head_any _).mono ?_
  rintro e w1 ⟨rfl, hb1⟩
  have hB1 : Below w.heap.size w w1 := below_after (by go_grown) hb1
  have hz1 := hb1.size
  try simp only [World.size_alloc, World.size_setCell, World.size_drew] at hz1
  have c_a0 : w1.cell? ⟨w.heap.size, 0, none⟩ = some (.int .i64 al) := kp hb1 (by go_cell)
  have c_a1 : w1.cell? ⟨w.heap.size, 1, none⟩ = some (.int .i64 ah) := kp hb1 (by go_cell)
  have c_b0 : w1.cell? ⟨w.heap.size + 1, 0, none⟩ = some (.int .i64 bl) := kp hb1 (by go_cell)
  have c_b1 : w1.cell? ⟨w.heap.size + 1, 1, none⟩ = some (.int .i64 bh) := kp hb1 (by go_cell)
  clear hb1
  go_wp2_with fail
  refine (HA.out _).mono ?_
  rintro e w2 ⟨rfl, hb2⟩
  have hB2 : Below w.heap.size w w2 := below_after (by go_grown) hb2
  have hz2 := hb2.size
  try simp only [World.size_alloc, World.size_setCell, World.size_drew] at hz2
  replace c_a0 : w2.cell? ⟨w.heap.size, 0, none⟩ = some (.int .i64 al) := kp hb2 (by go_cell)
  replace c_a1 : w2.cell? ⟨w.heap.size, 1, none⟩ = some (.int .i64 ah) := kp hb2 (by go_cell)
  replace c_b0 : w2.cell? ⟨w.heap.size + 1, 0, none⟩ = some (.int .i64 bl) := kp hb2 (by go_cell)
  replace c_b1 : w2.cell? ⟨w.heap.size + 1, 1, none⟩ = some (.int .i64 bh) := kp hb2 (by go_cell)
  clear hb2 hB1
  go_wp2_with fail
  refine (HV1.out _).mono ?_
  rintro e w3 ⟨rfl, hb3⟩
  have hB3 : Below w.heap.size w w3 := below_after (by go_grown) hb3
  have hz3 := hb3.size
  try simp only [World.size_alloc, World.size_setCell, World.size_drew] at hz3
  replace c_a0 : w3.cell? ⟨w.heap.size, 0, none⟩ = some (.int .i64 al) := kp hb3 (by go_cell)
  replace c_a1 : w3.cell? ⟨w.heap.size, 1, none⟩ = some (.int .i64 ah) := kp hb3 (by go_cell)
  replace c_b0 : w3.cell? ⟨w.heap.size + 1, 0, none⟩ = some (.int .i64 bl) := kp hb3 (by go_cell)
  replace c_b1 : w3.cell? ⟨w.heap.size + 1, 1, none⟩ = some (.int .i64 bh) := kp hb3 (by go_cell)
  have c_s0 : w3.cell? ⟨w2.heap.size, 0, none⟩ = some (.int .i64 0) := kp hb3 (by go_cell)
  have c_s1 : w3.cell? ⟨w2.heap.size, 1, none⟩ = some (.int .i64 0) := kp hb3 (by go_cell)
  clear hb3 hB2
  go_wp2_with fail
  go_ret
  exact ⟨rfl, by go_grown⟩

set_option maxHeartbeats 1600000 in
set_option maxRecDepth 100000 in
theorem subs_no2 (al ah bl bh i k : Int) (w : World) (h : vld al ah = true) (h2 : vld bl bh = false) :
    Calls Try.prog 5 #[.agg #[.int .i64 al, .int .i64 ah], .agg #[.int .i64 bl, .int .i64 bh], .int .u64 i, .int .u64 k] w fun e w' => e = .returned (.bool true) ∧ Below w.heap.size w w' := by
  have hj : subS al ah bl bh = (0, 0, 1) := by simp [subS, h, h2]
  have j1 := fun w => Sub_any al ah bl bh w
  rw [hj] at j1
  have v1 := fun w => RValid_any al ah w
  have v2 := fun w => RValid_any bl bh w
  rw [h] at v1
  rw [h2] at v2
  have HA := Lib.hid j1
  have HV1 := Lib.hid v1
  have HV2 := Lib.hid v2
  clear j1 hj v1 v2 h h2
  go_enter Try.func5, Try.ntmps5
  go_wp2_with fail
  refine (head_any _).mono ?_
  rintro e w1 ⟨rfl, hb1⟩
  have hB1 : Below w.heap.size w w1 := below_after (by go_grown) hb1
  have hz1 := hb1.size
  try simp only [World.size_alloc, World.size_setCell, World.size_drew] at hz1
  have c_a0 : w1.cell? ⟨w.heap.size, 0, none⟩ = some (.int .i64 al) := kp hb1 (by go_cell)
  have c_a1 : w1.cell? ⟨w.heap.size, 1, none⟩ = some (.int .i64 ah) := kp hb1 (by go_cell)
  have c_b0 : w1.cell? ⟨w.heap.size + 1, 0, none⟩ = some (.int .i64 bl) := kp hb1 (by go_cell)
  have c_b1 : w1.cell? ⟨w.heap.size + 1, 1, none⟩ = some (.int .i64 bh) := kp hb1 (by go_cell)
  clear hb1
  go_wp2_with fail
  refine (HA.out _).mono ?_
  rintro e w2 ⟨rfl, hb2⟩
  have hB2 : Below w.heap.size w w2 := below_after (by go_grown) hb2
  have hz2 := hb2.size
  try simp only [World.size_alloc, World.size_setCell, World.size_drew] at hz2
  replace c_a0 : w2.cell? ⟨w.heap.size, 0, none⟩ = some (.int .i64 al) := kp hb2 (by go_cell)
  replace c_a1 : w2.cell? ⟨w.heap.size, 1, none⟩ = some (.int .i64 ah) := kp hb2 (by go_cell)
  replace c_b0 : w2.cell? ⟨w.heap.size + 1, 0, none⟩ = some (.int .i64 bl) := kp hb2 (by go_cell)
  replace c_b1 : w2.cell? ⟨w.heap.size + 1, 1, none⟩ = some (.int .i64 bh) := kp hb2 (by go_cell)
  clear hb2 hB1
  go_wp2_with fail
  refine (HV1.out _).mono ?_
  rintro e w3 ⟨rfl, hb3⟩
  have hB3 : Below w.heap.size w w3 := below_after (by go_grown) hb3
  have hz3 := hb3.size
  try simp only [World.size_alloc, World.size_setCell, World.size_drew] at hz3
  replace c_a0 : w3.cell? ⟨w.heap.size, 0, none⟩ = some (.int .i64 al) := kp hb3 (by go_cell)
  replace c_a1 : w3.cell? ⟨w.heap.size, 1, none⟩ = some (.int .i64 ah) := kp hb3 (by go_cell)
  replace c_b0 : w3.cell? ⟨w.heap.size + 1, 0, none⟩ = some (.int .i64 bl) := kp hb3 (by go_cell)
  replace c_b1 : w3.cell? ⟨w.heap.size + 1, 1, none⟩ = some (.int .i64 bh) := kp hb3 (by go_cell)
  have c_s0 : w3.cell? ⟨w2.heap.size, 0, none⟩ = some (.int .i64 0) := kp hb3 (by go_cell)
  have c_s1 : w3.cell? ⟨w2.heap.size, 1, none⟩ = some (.int .i64 0) := kp hb3 (by go_cell)
  clear hb3 hB2
  go_wp2_with fail
  refine (HV2.out _).mono ?_
  rintro e w4 ⟨rfl, hb4⟩
  have hB4 : Below w.heap.size w w4 := below_after (by go_grown) hb4
  have hz4 := hb4.size
  try simp only [World.size_alloc, World.size_setCell, World.size_drew] at hz4
  replace c_a0 : w4.cell? ⟨w.heap.size, 0, none⟩ = some (.int .i64 al) := kp hb4 (by go_cell)
  replace c_a1 : w4.cell? ⟨w.heap.size, 1, none⟩ = some (.int .i64 ah) := kp hb4 (by go_cell)
  replace c_b0 : w4.cell? ⟨w.heap.size + 1, 0, none⟩ = some (.int .i64 bl) := kp hb4 (by go_cell)
  replace c_b1 : w4.cell? ⟨w.heap.size + 1, 1, none⟩ = some (.int .i64 bh) := kp hb4 (by go_cell)
  replace c_s0 : w4.cell? ⟨w2.heap.size, 0, none⟩ = some (.int .i64 0) := kp hb4 (by go_cell)
  replace c_s1 : w4.cell? ⟨w2.heap.size, 1, none⟩ = some (.int .i64 0) := kp hb4 (by go_cell)
  clear hb4 hB3
  go_wp2_with fail
  go_ret
  exact ⟨rfl, by go_grown⟩

set_option maxHeartbeats 1600000 in
set_option maxRecDepth 100000 in
theorem subs_no3 (al ah bl bh i k : Int) (w : World) (h : vld al ah = true) (h2 : vld bl bh = true) (h3 : vld (al - bh) (ah - bl) = false) :
    Calls Try.prog 5 #[.agg #[.int .i64 al, .int .i64 ah], .agg #[.int .i64 bl, .int .i64 bh], .int .u64 i, .int .u64 k] w fun e w' => e = .returned (.bool true) ∧ Below w.heap.size w w' := by
  have hj : subS al ah bl bh = (0, 0, 3) := by simp [subS, h, h2, leastS, h3]
  have j1 := fun w => Sub_any al ah bl bh w
  rw [hj] at j1
  have v1 := fun w => RValid_any al ah w
  have v2 := fun w => RValid_any bl bh w
  rw [h] at v1
  rw [h2] at v2
  have HA := Lib.hid j1
  have HV1 := Lib.hid v1
  have HV2 := Lib.hid v2
  clear j1 hj v1 v2 h h2 h3
  go_enter Try.func5, Try.ntmps5
  go_wp2_with fail
  refine (head_any _).mono ?_
  rintro e w1 ⟨rfl, hb1⟩
  have hB1 : Below w.heap.size w w1 := below_after (by go_grown) hb1
  have hz1 := hb1.size
  try simp only [World.size_alloc, World.size_setCell, World.size_drew] at hz1
  have c_a0 : w1.cell? ⟨w.heap.size, 0, none⟩ = some (.int .i64 al) := kp hb1 (by go_cell)
  have c_a1 : w1.cell? ⟨w.heap.size, 1, none⟩ = some (.int .i64 ah) := kp hb1 (by go_cell)
  have c_b0 : w1.cell? ⟨w.heap.size + 1, 0, none⟩ = some (.int .i64 bl) := kp hb1 (by go_cell)
  have c_b1 : w1.cell? ⟨w.heap.size + 1, 1, none⟩ = some (.int .i64 bh) := kp hb1 (by go_cell)
  clear hb1
  go_wp2_with fail
  refine (HA.out _).mono ?_
  rintro e w2 ⟨rfl, hb2⟩
  have hB2 : Below w.heap.size w w2 := below_after (by go_grown) hb2
  have hz2 := hb2.size
  try simp only [World.size_alloc, World.size_setCell, World.size_drew] at hz2
  replace c_a0 : w2.cell? ⟨w.heap.size, 0, none⟩ = some (.int .i64 al) := kp hb2 (by go_cell)
  replace c_a1 : w2.cell? ⟨w.heap.size, 1, none⟩ = some (.int .i64 ah) := kp hb2 (by go_cell)
  replace c_b0 : w2.cell? ⟨w.heap.size + 1, 0, none⟩ = some (.int .i64 bl) := kp hb2 (by go_cell)
  replace c_b1 : w2.cell? ⟨w.heap.size + 1, 1, none⟩ = some (.int .i64 bh) := kp hb2 (by go_cell)
  clear hb2 hB1
  go_wp2_with fail
  refine (HV1.out _).mono ?_
  rintro e w3 ⟨rfl, hb3⟩
  have hB3 : Below w.heap.size w w3 := below_after (by go_grown) hb3
  have hz3 := hb3.size
  try simp only [World.size_alloc, World.size_setCell, World.size_drew] at hz3
  replace c_a0 : w3.cell? ⟨w.heap.size, 0, none⟩ = some (.int .i64 al) := kp hb3 (by go_cell)
  replace c_a1 : w3.cell? ⟨w.heap.size, 1, none⟩ = some (.int .i64 ah) := kp hb3 (by go_cell)
  replace c_b0 : w3.cell? ⟨w.heap.size + 1, 0, none⟩ = some (.int .i64 bl) := kp hb3 (by go_cell)
  replace c_b1 : w3.cell? ⟨w.heap.size + 1, 1, none⟩ = some (.int .i64 bh) := kp hb3 (by go_cell)
  have c_s0 : w3.cell? ⟨w2.heap.size, 0, none⟩ = some (.int .i64 0) := kp hb3 (by go_cell)
  have c_s1 : w3.cell? ⟨w2.heap.size, 1, none⟩ = some (.int .i64 0) := kp hb3 (by go_cell)
  clear hb3 hB2
  go_wp2_with fail
  refine (HV2.out _).mono ?_
  rintro e w4 ⟨rfl, hb4⟩
  have hB4 : Below w.heap.size w w4 := below_after (by go_grown) hb4
  have hz4 := hb4.size
  try simp only [World.size_alloc, World.size_setCell, World.size_drew] at hz4
  replace c_a0 : w4.cell? ⟨w.heap.size, 0, none⟩ = some (.int .i64 al) := kp hb4 (by go_cell)
  replace c_a1 : w4.cell? ⟨w.heap.size, 1, none⟩ = some (.int .i64 ah) := kp hb4 (by go_cell)
  replace c_b0 : w4.cell? ⟨w.heap.size + 1, 0, none⟩ = some (.int .i64 bl) := kp hb4 (by go_cell)
  replace c_b1 : w4.cell? ⟨w.heap.size + 1, 1, none⟩ = some (.int .i64 bh) := kp hb4 (by go_cell)
  replace c_s0 : w4.cell? ⟨w2.heap.size, 0, none⟩ = some (.int .i64 0) := kp hb4 (by go_cell)
  replace c_s1 : w4.cell? ⟨w2.heap.size, 1, none⟩ = some (.int .i64 0) := kp hb4 (by go_cell)
  clear hb4 hB3
  go_wp2_with fail
  go_ret
  exact ⟨rfl, by go_grown⟩

set_option maxHeartbeats 1600000 in
set_option maxRecDepth 100000 in
theorem subs_yes1 (al ah bl bh i k : Int) (w : World) (hi0 : 0 ≤ i) (hi1 : i < 18446744073709551616) (hk0 : 0 ≤ k) (hk1 : k < 18446744073709551616) (h : vld al ah = true) (h2 : vld bl bh = true) (h3 : vld (al - bh) (ah - bl) = true) (h4 : vld (al - ah) (ah - al) = true) (h5 : vld (al - bh + bl) (ah - bl + bh) = true) :
    Calls Try.prog 5 #[.agg #[.int .i64 al, .int .i64 ah], .agg #[.int .i64 bl, .int .i64 bh], .int .u64 i, .int .u64 k] w fun e w' => e = .returned (.bool true) ∧ Below w.heap.size w w' := by
  have hj : subS al ah bl bh = (al - bh, ah - bl, 0) := by simp [subS, h, h2, leastS, h3]
  have j1 := fun w => Sub_any al ah bl bh w
  rw [hj] at j1
  have v1 := fun w => RValid_any al ah w
  have v2 := fun w => RValid_any bl bh w
  rw [h] at v1
  rw [h2] at v2
  obtain ⟨va1, va2, va3⟩ := vld_bounds h
  obtain ⟨vb1, vb2, vb3⟩ := vld_bounds h2
  obtain ⟨vc1, vc2, vc3⟩ := vld_bounds h3
  have n1 := fun w => in_any al ah i w va1 va2 va3 hi0 hi1
  have n2 := fun w => in_any bl bh k w vb1 vb2 vb3 hk0 hk1
  have d1 := modc2 (i := i) (d := ah - al + 1) (by omega)
  have d2 := modc2 (i := k) (d := bh - bl + 1) (by omega)
  generalize i % (ah - al + 1) = ri at *
  generalize k % (bh - bl + 1) = rk at *
  obtain ⟨d11, d12⟩ := d1
  obtain ⟨d21, d22⟩ := d2
  have x1 := fun w => Has_any (al - bh) (ah - bl) (al + ri - (bl + rk)) w
  rw [show hasS (al - bh) (ah - bl) (al + ri - (bl + rk)) = (true, 0) by rw [hasS, h3, if_pos rfl]; simp <;> omega] at x1
  have j2 := fun w => Sub_any al ah al ah w
  rw [show subS al ah al ah = (al - ah, ah - al, 0) by simp [subS, h, leastS, h4]] at j2
  have x2 := fun w => Has_any (al - ah) (ah - al) 0 w
  rw [show hasS (al - ah) (ah - al) 0 = (true, 0) by rw [hasS, h4, if_pos rfl]; simp <;> omega] at x2
  have j3 := fun w => Add_any (al - bh) (ah - bl) bl bh w
  rw [show addS (al - bh) (ah - bl) bl bh = (al - bh + bl, ah - bl + bh, 0) by simp [addS, h2, h3, leastS, h5]] at j3
  have y1 := fun w => Within_any al ah (al - bh + bl) (ah - bl + bh) w
  rw [show (decide (al - bh + bl ≤ al) && decide (ah ≤ ah - bl + bh)) = true by simp <;> omega] at y1
  have HA := Lib.hid j1
  have HV1 := Lib.hid v1
  have HV2 := Lib.hid v2
  have HN1 := Lib.hid n1
  have HN2 := Lib.hid n2
  have HX1 := Lib.hid x1
  have HX2 := Lib.hid x2
  have HJ2 := Lib.hid j2
  have HJ3 := Lib.hid j3
  have HY := Lib.hid y1
  clear j1 hj v1 v2 h h2 h3 h4 h5 n1 n2 x1 x2 j2 j3 y1
  go_enter Try.func5, Try.ntmps5
  go_wp2_with fail
  refine (head_any _).mono ?_
  rintro e w1 ⟨rfl, hb1⟩
  have hB1 : Below w.heap.size w w1 := below_after (by go_grown) hb1
  have hz1 := hb1.size
  try simp only [World.size_alloc, World.size_setCell, World.size_drew] at hz1
  have c_a0 : w1.cell? ⟨w.heap.size, 0, none⟩ = some (.int .i64 al) := kp hb1 (by go_cell)
  have c_a1 : w1.cell? ⟨w.heap.size, 1, none⟩ = some (.int .i64 ah) := kp hb1 (by go_cell)
  have c_b0 : w1.cell? ⟨w.heap.size + 1, 0, none⟩ = some (.int .i64 bl) := kp hb1 (by go_cell)
  have c_b1 : w1.cell? ⟨w.heap.size + 1, 1, none⟩ = some (.int .i64 bh) := kp hb1 (by go_cell)
  clear hb1
  go_wp2_with fail
  refine (HA.out _).mono ?_
  rintro e w2 ⟨rfl, hb2⟩
  have hB2 : Below w.heap.size w w2 := below_after (by go_grown) hb2
  have hz2 := hb2.size
  try simp only [World.size_alloc, World.size_setCell, World.size_drew] at hz2
  replace c_a0 : w2.cell? ⟨w.heap.size, 0, none⟩ = some (.int .i64 al) := kp hb2 (by go_cell)
  replace c_a1 : w2.cell? ⟨w.heap.size, 1, none⟩ = some (.int .i64 ah) := kp hb2 (by go_cell)
  replace c_b0 : w2.cell? ⟨w.heap.size + 1, 0, none⟩ = some (.int .i64 bl) := kp hb2 (by go_cell)
  replace c_b1 : w2.cell? ⟨w.heap.size + 1, 1, none⟩ = some (.int .i64 bh) := kp hb2 (by go_cell)
  clear hb2 hB1
  go_wp2_with fail
  refine (HV1.out _).mono ?_
  rintro e w3 ⟨rfl, hb3⟩
  have hB3 : Below w.heap.size w w3 := below_after (by go_grown) hb3
  have hz3 := hb3.size
  try simp only [World.size_alloc, World.size_setCell, World.size_drew] at hz3
  replace c_a0 : w3.cell? ⟨w.heap.size, 0, none⟩ = some (.int .i64 al) := kp hb3 (by go_cell)
  replace c_a1 : w3.cell? ⟨w.heap.size, 1, none⟩ = some (.int .i64 ah) := kp hb3 (by go_cell)
  replace c_b0 : w3.cell? ⟨w.heap.size + 1, 0, none⟩ = some (.int .i64 bl) := kp hb3 (by go_cell)
  replace c_b1 : w3.cell? ⟨w.heap.size + 1, 1, none⟩ = some (.int .i64 bh) := kp hb3 (by go_cell)
  have c_s0 : w3.cell? ⟨w2.heap.size, 0, none⟩ = some (.int .i64 (al - bh)) := kp hb3 (by go_cell)
  have c_s1 : w3.cell? ⟨w2.heap.size, 1, none⟩ = some (.int .i64 (ah - bl)) := kp hb3 (by go_cell)
  clear hb3 hB2
  go_wp2_with fail
  refine (HV2.out _).mono ?_
  rintro e w4 ⟨rfl, hb4⟩
  have hB4 : Below w.heap.size w w4 := below_after (by go_grown) hb4
  have hz4 := hb4.size
  try simp only [World.size_alloc, World.size_setCell, World.size_drew] at hz4
  replace c_a0 : w4.cell? ⟨w.heap.size, 0, none⟩ = some (.int .i64 al) := kp hb4 (by go_cell)
  replace c_a1 : w4.cell? ⟨w.heap.size, 1, none⟩ = some (.int .i64 ah) := kp hb4 (by go_cell)
  replace c_b0 : w4.cell? ⟨w.heap.size + 1, 0, none⟩ = some (.int .i64 bl) := kp hb4 (by go_cell)
  replace c_b1 : w4.cell? ⟨w.heap.size + 1, 1, none⟩ = some (.int .i64 bh) := kp hb4 (by go_cell)
  replace c_s0 : w4.cell? ⟨w2.heap.size, 0, none⟩ = some (.int .i64 (al - bh)) := kp hb4 (by go_cell)
  replace c_s1 : w4.cell? ⟨w2.heap.size, 1, none⟩ = some (.int .i64 (ah - bl)) := kp hb4 (by go_cell)
  clear hb4 hB3
  go_wp2_with fail
  have hwr0 : IntKind.i64.wrap (al + ri - (bl + rk)) = al + ri - (bl + rk) := IntWalk.i64_in _ (by omega)
  go_region_held3 (fun w' => Below w.heap.size w w' ∧ w'.cell? ⟨w.heap.size, 0, none⟩ = some (.int .i64 al) ∧ w'.cell? ⟨w.heap.size, 1, none⟩ = some (.int .i64 ah) ∧ w'.cell? ⟨w.heap.size + 1, 0, none⟩ = some (.int .i64 bl) ∧ w'.cell? ⟨w.heap.size + 1, 1, none⟩ = some (.int .i64 bh) ∧ w'.cell? ⟨w2.heap.size, 0, none⟩ = some (.int .i64 (al - bh)) ∧ w'.cell? ⟨w2.heap.size, 1, none⟩ = some (.int .i64 (ah - bl)))
    ((go_split_ands; refine ⟨?_, ?_, ?_, ?_, ?_, ?_, ?_⟩ <;> first | (with_reducible assumption) | (exact below_after (by assumption) hb) | (exact kp hb (by assumption)) | (exact kf hb (by go_simp) (by assumption)) | (exact Below.drew (by go_grown)) | go_cell | go_simp))
    (first | (go_at_call 34; (with_reducible refine (HX1.out _).mono ?_); rintro e x ⟨rfl, hb⟩) | (go_at_call 28; (with_reducible refine (HN1.out _).mono ?_); rintro e x ⟨rfl, hb⟩) | (go_at_call 28; (with_reducible refine (HN2.out _).mono ?_); rintro e x ⟨rfl, hb⟩))
  go_split_ands
  clear hwr0
  have hB5 : Below w.heap.size w x := by assumption
  replace c_a0 : x.cell? ⟨w.heap.size, 0, none⟩ = some (.int .i64 al) := by assumption
  replace c_a1 : x.cell? ⟨w.heap.size, 1, none⟩ = some (.int .i64 ah) := by assumption
  replace c_b0 : x.cell? ⟨w.heap.size + 1, 0, none⟩ = some (.int .i64 bl) := by assumption
  replace c_b1 : x.cell? ⟨w.heap.size + 1, 1, none⟩ = some (.int .i64 bh) := by assumption
  replace c_s0 : x.cell? ⟨w2.heap.size, 0, none⟩ = some (.int .i64 (al - bh)) := by assumption
  replace c_s1 : x.cell? ⟨w2.heap.size, 1, none⟩ = some (.int .i64 (ah - bl)) := by assumption
  have hz5 := hB5.size
  have hs5_a := World.block_lt_of_cell? _ _ c_a0
  have hs5_b := World.block_lt_of_cell? _ _ c_b0
  have hs5_s := World.block_lt_of_cell? _ _ c_s0
  simp only at hs5_a hs5_b hs5_s
  go_wp2_with fail
  refine (HJ2.out _).mono ?_
  rintro e w6 ⟨rfl, hb6⟩
  have hB6 : Below w.heap.size w w6 := below_after (by go_grown) hb6
  have hz6 := hb6.size
  try simp only [World.size_alloc, World.size_setCell, World.size_drew] at hz6
  replace c_a0 : w6.cell? ⟨w.heap.size, 0, none⟩ = some (.int .i64 al) := kp hb6 (by go_cell)
  replace c_a1 : w6.cell? ⟨w.heap.size, 1, none⟩ = some (.int .i64 ah) := kp hb6 (by go_cell)
  replace c_b0 : w6.cell? ⟨w.heap.size + 1, 0, none⟩ = some (.int .i64 bl) := kp hb6 (by go_cell)
  replace c_b1 : w6.cell? ⟨w.heap.size + 1, 1, none⟩ = some (.int .i64 bh) := kp hb6 (by go_cell)
  replace c_s0 : w6.cell? ⟨w2.heap.size, 0, none⟩ = some (.int .i64 (al - bh)) := kp hb6 (by go_cell)
  replace c_s1 : w6.cell? ⟨w2.heap.size, 1, none⟩ = some (.int .i64 (ah - bl)) := kp hb6 (by go_cell)
  clear hb6 hB5
  go_wp2_with fail
  refine (HX2.out _).mono ?_
  rintro e w7 ⟨rfl, hb7⟩
  have hB7 : Below w.heap.size w w7 := below_after (by go_grown) hb7
  have hz7 := hb7.size
  try simp only [World.size_alloc, World.size_setCell, World.size_drew] at hz7
  replace c_a0 : w7.cell? ⟨w.heap.size, 0, none⟩ = some (.int .i64 al) := kp hb7 (by go_cell)
  replace c_a1 : w7.cell? ⟨w.heap.size, 1, none⟩ = some (.int .i64 ah) := kp hb7 (by go_cell)
  replace c_b0 : w7.cell? ⟨w.heap.size + 1, 0, none⟩ = some (.int .i64 bl) := kp hb7 (by go_cell)
  replace c_b1 : w7.cell? ⟨w.heap.size + 1, 1, none⟩ = some (.int .i64 bh) := kp hb7 (by go_cell)
  replace c_s0 : w7.cell? ⟨w2.heap.size, 0, none⟩ = some (.int .i64 (al - bh)) := kp hb7 (by go_cell)
  replace c_s1 : w7.cell? ⟨w2.heap.size, 1, none⟩ = some (.int .i64 (ah - bl)) := kp hb7 (by go_cell)
  have c_o0 : w7.cell? ⟨w6.heap.size, 0, none⟩ = some (.int .i64 (al - ah)) := kp hb7 (by go_cell)
  have c_o1 : w7.cell? ⟨w6.heap.size, 1, none⟩ = some (.int .i64 (ah - al)) := kp hb7 (by go_cell)
  clear hb7 hB6
  clear c_o0 c_o1
  go_wp2_with fail
  refine (HJ3.out _).mono ?_
  rintro e w8 ⟨rfl, hb8⟩
  have hB8 : Below w.heap.size w w8 := below_after (by go_grown) hb8
  have hz8 := hb8.size
  try simp only [World.size_alloc, World.size_setCell, World.size_drew] at hz8
  replace c_a0 : w8.cell? ⟨w.heap.size, 0, none⟩ = some (.int .i64 al) := kp hb8 (by go_cell)
  replace c_a1 : w8.cell? ⟨w.heap.size, 1, none⟩ = some (.int .i64 ah) := kp hb8 (by go_cell)
  replace c_b0 : w8.cell? ⟨w.heap.size + 1, 0, none⟩ = some (.int .i64 bl) := kp hb8 (by go_cell)
  replace c_b1 : w8.cell? ⟨w.heap.size + 1, 1, none⟩ = some (.int .i64 bh) := kp hb8 (by go_cell)
  replace c_s0 : w8.cell? ⟨w2.heap.size, 0, none⟩ = some (.int .i64 (al - bh)) := kp hb8 (by go_cell)
  replace c_s1 : w8.cell? ⟨w2.heap.size, 1, none⟩ = some (.int .i64 (ah - bl)) := kp hb8 (by go_cell)
  clear hb8 hB7
  go_wp2_with fail
  refine (HY.out _).mono ?_
  rintro e w9 ⟨rfl, hb9⟩
  have hB9 : Below w.heap.size w w9 := below_after (by go_grown) hb9
  have hz9 := hb9.size
  try simp only [World.size_alloc, World.size_setCell, World.size_drew] at hz9
  replace c_a0 : w9.cell? ⟨w.heap.size, 0, none⟩ = some (.int .i64 al) := kp hb9 (by go_cell)
  replace c_a1 : w9.cell? ⟨w.heap.size, 1, none⟩ = some (.int .i64 ah) := kp hb9 (by go_cell)
  replace c_b0 : w9.cell? ⟨w.heap.size + 1, 0, none⟩ = some (.int .i64 bl) := kp hb9 (by go_cell)
  replace c_b1 : w9.cell? ⟨w.heap.size + 1, 1, none⟩ = some (.int .i64 bh) := kp hb9 (by go_cell)
  replace c_s0 : w9.cell? ⟨w2.heap.size, 0, none⟩ = some (.int .i64 (al - bh)) := kp hb9 (by go_cell)
  replace c_s1 : w9.cell? ⟨w2.heap.size, 1, none⟩ = some (.int .i64 (ah - bl)) := kp hb9 (by go_cell)
  have c_k0 : w9.cell? ⟨w8.heap.size, 0, none⟩ = some (.int .i64 (al - bh + bl)) := kp hb9 (by go_cell)
  have c_k1 : w9.cell? ⟨w8.heap.size, 1, none⟩ = some (.int .i64 (ah - bl + bh)) := kp hb9 (by go_cell)
  clear hb9 hB8
  go_wp2_with fail
  go_ret
  exact ⟨rfl, by go_grown⟩

set_option maxHeartbeats 1600000 in
set_option maxRecDepth 100000 in
theorem subs_yes2 (al ah bl bh i k : Int) (w : World) (hi0 : 0 ≤ i) (hi1 : i < 18446744073709551616) (hk0 : 0 ≤ k) (hk1 : k < 18446744073709551616) (h : vld al ah = true) (h2 : vld bl bh = true) (h3 : vld (al - bh) (ah - bl) = true) (h4 : vld (al - ah) (ah - al) = true) (h5 : vld (al - bh + bl) (ah - bl + bh) = false) :
    Calls Try.prog 5 #[.agg #[.int .i64 al, .int .i64 ah], .agg #[.int .i64 bl, .int .i64 bh], .int .u64 i, .int .u64 k] w fun e w' => e = .returned (.bool true) ∧ Below w.heap.size w w' := by
  have hj : subS al ah bl bh = (al - bh, ah - bl, 0) := by simp [subS, h, h2, leastS, h3]
  have j1 := fun w => Sub_any al ah bl bh w
  rw [hj] at j1
  have v1 := fun w => RValid_any al ah w
  have v2 := fun w => RValid_any bl bh w
  rw [h] at v1
  rw [h2] at v2
  obtain ⟨va1, va2, va3⟩ := vld_bounds h
  obtain ⟨vb1, vb2, vb3⟩ := vld_bounds h2
  obtain ⟨vc1, vc2, vc3⟩ := vld_bounds h3
  have n1 := fun w => in_any al ah i w va1 va2 va3 hi0 hi1
  have n2 := fun w => in_any bl bh k w vb1 vb2 vb3 hk0 hk1
  have d1 := modc2 (i := i) (d := ah - al + 1) (by omega)
  have d2 := modc2 (i := k) (d := bh - bl + 1) (by omega)
  generalize i % (ah - al + 1) = ri at *
  generalize k % (bh - bl + 1) = rk at *
  obtain ⟨d11, d12⟩ := d1
  obtain ⟨d21, d22⟩ := d2
  have x1 := fun w => Has_any (al - bh) (ah - bl) (al + ri - (bl + rk)) w
  rw [show hasS (al - bh) (ah - bl) (al + ri - (bl + rk)) = (true, 0) by rw [hasS, h3, if_pos rfl]; simp <;> omega] at x1
  have j2 := fun w => Sub_any al ah al ah w
  rw [show subS al ah al ah = (al - ah, ah - al, 0) by simp [subS, h, leastS, h4]] at j2
  have x2 := fun w => Has_any (al - ah) (ah - al) 0 w
  rw [show hasS (al - ah) (ah - al) 0 = (true, 0) by rw [hasS, h4, if_pos rfl]; simp <;> omega] at x2
  have j3 := fun w => Add_any (al - bh) (ah - bl) bl bh w
  rw [show addS (al - bh) (ah - bl) bl bh = (0, 0, 3) by simp [addS, h2, h3, leastS, h5]] at j3
  have y1 := fun w => Within_any al ah (0) (0) w
  have HA := Lib.hid j1
  have HV1 := Lib.hid v1
  have HV2 := Lib.hid v2
  have HN1 := Lib.hid n1
  have HN2 := Lib.hid n2
  have HX1 := Lib.hid x1
  have HX2 := Lib.hid x2
  have HJ2 := Lib.hid j2
  have HJ3 := Lib.hid j3
  have HY := Lib.hid y1
  clear j1 hj v1 v2 h h2 h3 h4 h5 n1 n2 x1 x2 j2 j3 y1
  go_enter Try.func5, Try.ntmps5
  go_wp2_with fail
  refine (head_any _).mono ?_
  rintro e w1 ⟨rfl, hb1⟩
  have hB1 : Below w.heap.size w w1 := below_after (by go_grown) hb1
  have hz1 := hb1.size
  try simp only [World.size_alloc, World.size_setCell, World.size_drew] at hz1
  have c_a0 : w1.cell? ⟨w.heap.size, 0, none⟩ = some (.int .i64 al) := kp hb1 (by go_cell)
  have c_a1 : w1.cell? ⟨w.heap.size, 1, none⟩ = some (.int .i64 ah) := kp hb1 (by go_cell)
  have c_b0 : w1.cell? ⟨w.heap.size + 1, 0, none⟩ = some (.int .i64 bl) := kp hb1 (by go_cell)
  have c_b1 : w1.cell? ⟨w.heap.size + 1, 1, none⟩ = some (.int .i64 bh) := kp hb1 (by go_cell)
  clear hb1
  go_wp2_with fail
  refine (HA.out _).mono ?_
  rintro e w2 ⟨rfl, hb2⟩
  have hB2 : Below w.heap.size w w2 := below_after (by go_grown) hb2
  have hz2 := hb2.size
  try simp only [World.size_alloc, World.size_setCell, World.size_drew] at hz2
  replace c_a0 : w2.cell? ⟨w.heap.size, 0, none⟩ = some (.int .i64 al) := kp hb2 (by go_cell)
  replace c_a1 : w2.cell? ⟨w.heap.size, 1, none⟩ = some (.int .i64 ah) := kp hb2 (by go_cell)
  replace c_b0 : w2.cell? ⟨w.heap.size + 1, 0, none⟩ = some (.int .i64 bl) := kp hb2 (by go_cell)
  replace c_b1 : w2.cell? ⟨w.heap.size + 1, 1, none⟩ = some (.int .i64 bh) := kp hb2 (by go_cell)
  clear hb2 hB1
  go_wp2_with fail
  refine (HV1.out _).mono ?_
  rintro e w3 ⟨rfl, hb3⟩
  have hB3 : Below w.heap.size w w3 := below_after (by go_grown) hb3
  have hz3 := hb3.size
  try simp only [World.size_alloc, World.size_setCell, World.size_drew] at hz3
  replace c_a0 : w3.cell? ⟨w.heap.size, 0, none⟩ = some (.int .i64 al) := kp hb3 (by go_cell)
  replace c_a1 : w3.cell? ⟨w.heap.size, 1, none⟩ = some (.int .i64 ah) := kp hb3 (by go_cell)
  replace c_b0 : w3.cell? ⟨w.heap.size + 1, 0, none⟩ = some (.int .i64 bl) := kp hb3 (by go_cell)
  replace c_b1 : w3.cell? ⟨w.heap.size + 1, 1, none⟩ = some (.int .i64 bh) := kp hb3 (by go_cell)
  have c_s0 : w3.cell? ⟨w2.heap.size, 0, none⟩ = some (.int .i64 (al - bh)) := kp hb3 (by go_cell)
  have c_s1 : w3.cell? ⟨w2.heap.size, 1, none⟩ = some (.int .i64 (ah - bl)) := kp hb3 (by go_cell)
  clear hb3 hB2
  go_wp2_with fail
  refine (HV2.out _).mono ?_
  rintro e w4 ⟨rfl, hb4⟩
  have hB4 : Below w.heap.size w w4 := below_after (by go_grown) hb4
  have hz4 := hb4.size
  try simp only [World.size_alloc, World.size_setCell, World.size_drew] at hz4
  replace c_a0 : w4.cell? ⟨w.heap.size, 0, none⟩ = some (.int .i64 al) := kp hb4 (by go_cell)
  replace c_a1 : w4.cell? ⟨w.heap.size, 1, none⟩ = some (.int .i64 ah) := kp hb4 (by go_cell)
  replace c_b0 : w4.cell? ⟨w.heap.size + 1, 0, none⟩ = some (.int .i64 bl) := kp hb4 (by go_cell)
  replace c_b1 : w4.cell? ⟨w.heap.size + 1, 1, none⟩ = some (.int .i64 bh) := kp hb4 (by go_cell)
  replace c_s0 : w4.cell? ⟨w2.heap.size, 0, none⟩ = some (.int .i64 (al - bh)) := kp hb4 (by go_cell)
  replace c_s1 : w4.cell? ⟨w2.heap.size, 1, none⟩ = some (.int .i64 (ah - bl)) := kp hb4 (by go_cell)
  clear hb4 hB3
  go_wp2_with fail
  have hwr0 : IntKind.i64.wrap (al + ri - (bl + rk)) = al + ri - (bl + rk) := IntWalk.i64_in _ (by omega)
  go_region_held3 (fun w' => Below w.heap.size w w' ∧ w'.cell? ⟨w.heap.size, 0, none⟩ = some (.int .i64 al) ∧ w'.cell? ⟨w.heap.size, 1, none⟩ = some (.int .i64 ah) ∧ w'.cell? ⟨w.heap.size + 1, 0, none⟩ = some (.int .i64 bl) ∧ w'.cell? ⟨w.heap.size + 1, 1, none⟩ = some (.int .i64 bh) ∧ w'.cell? ⟨w2.heap.size, 0, none⟩ = some (.int .i64 (al - bh)) ∧ w'.cell? ⟨w2.heap.size, 1, none⟩ = some (.int .i64 (ah - bl)))
    ((go_split_ands; refine ⟨?_, ?_, ?_, ?_, ?_, ?_, ?_⟩ <;> first | (with_reducible assumption) | (exact below_after (by assumption) hb) | (exact kp hb (by assumption)) | (exact kf hb (by go_simp) (by assumption)) | (exact Below.drew (by go_grown)) | go_cell | go_simp))
    (first | (go_at_call 34; (with_reducible refine (HX1.out _).mono ?_); rintro e x ⟨rfl, hb⟩) | (go_at_call 28; (with_reducible refine (HN1.out _).mono ?_); rintro e x ⟨rfl, hb⟩) | (go_at_call 28; (with_reducible refine (HN2.out _).mono ?_); rintro e x ⟨rfl, hb⟩))
  go_split_ands
  clear hwr0
  have hB5 : Below w.heap.size w x := by assumption
  replace c_a0 : x.cell? ⟨w.heap.size, 0, none⟩ = some (.int .i64 al) := by assumption
  replace c_a1 : x.cell? ⟨w.heap.size, 1, none⟩ = some (.int .i64 ah) := by assumption
  replace c_b0 : x.cell? ⟨w.heap.size + 1, 0, none⟩ = some (.int .i64 bl) := by assumption
  replace c_b1 : x.cell? ⟨w.heap.size + 1, 1, none⟩ = some (.int .i64 bh) := by assumption
  replace c_s0 : x.cell? ⟨w2.heap.size, 0, none⟩ = some (.int .i64 (al - bh)) := by assumption
  replace c_s1 : x.cell? ⟨w2.heap.size, 1, none⟩ = some (.int .i64 (ah - bl)) := by assumption
  have hz5 := hB5.size
  have hs5_a := World.block_lt_of_cell? _ _ c_a0
  have hs5_b := World.block_lt_of_cell? _ _ c_b0
  have hs5_s := World.block_lt_of_cell? _ _ c_s0
  simp only at hs5_a hs5_b hs5_s
  go_wp2_with fail
  refine (HJ2.out _).mono ?_
  rintro e w6 ⟨rfl, hb6⟩
  have hB6 : Below w.heap.size w w6 := below_after (by go_grown) hb6
  have hz6 := hb6.size
  try simp only [World.size_alloc, World.size_setCell, World.size_drew] at hz6
  replace c_a0 : w6.cell? ⟨w.heap.size, 0, none⟩ = some (.int .i64 al) := kp hb6 (by go_cell)
  replace c_a1 : w6.cell? ⟨w.heap.size, 1, none⟩ = some (.int .i64 ah) := kp hb6 (by go_cell)
  replace c_b0 : w6.cell? ⟨w.heap.size + 1, 0, none⟩ = some (.int .i64 bl) := kp hb6 (by go_cell)
  replace c_b1 : w6.cell? ⟨w.heap.size + 1, 1, none⟩ = some (.int .i64 bh) := kp hb6 (by go_cell)
  replace c_s0 : w6.cell? ⟨w2.heap.size, 0, none⟩ = some (.int .i64 (al - bh)) := kp hb6 (by go_cell)
  replace c_s1 : w6.cell? ⟨w2.heap.size, 1, none⟩ = some (.int .i64 (ah - bl)) := kp hb6 (by go_cell)
  clear hb6 hB5
  go_wp2_with fail
  refine (HX2.out _).mono ?_
  rintro e w7 ⟨rfl, hb7⟩
  have hB7 : Below w.heap.size w w7 := below_after (by go_grown) hb7
  have hz7 := hb7.size
  try simp only [World.size_alloc, World.size_setCell, World.size_drew] at hz7
  replace c_a0 : w7.cell? ⟨w.heap.size, 0, none⟩ = some (.int .i64 al) := kp hb7 (by go_cell)
  replace c_a1 : w7.cell? ⟨w.heap.size, 1, none⟩ = some (.int .i64 ah) := kp hb7 (by go_cell)
  replace c_b0 : w7.cell? ⟨w.heap.size + 1, 0, none⟩ = some (.int .i64 bl) := kp hb7 (by go_cell)
  replace c_b1 : w7.cell? ⟨w.heap.size + 1, 1, none⟩ = some (.int .i64 bh) := kp hb7 (by go_cell)
  replace c_s0 : w7.cell? ⟨w2.heap.size, 0, none⟩ = some (.int .i64 (al - bh)) := kp hb7 (by go_cell)
  replace c_s1 : w7.cell? ⟨w2.heap.size, 1, none⟩ = some (.int .i64 (ah - bl)) := kp hb7 (by go_cell)
  have c_o0 : w7.cell? ⟨w6.heap.size, 0, none⟩ = some (.int .i64 (al - ah)) := kp hb7 (by go_cell)
  have c_o1 : w7.cell? ⟨w6.heap.size, 1, none⟩ = some (.int .i64 (ah - al)) := kp hb7 (by go_cell)
  clear hb7 hB6
  clear c_o0 c_o1
  go_wp2_with fail
  refine (HJ3.out _).mono ?_
  rintro e w8 ⟨rfl, hb8⟩
  have hB8 : Below w.heap.size w w8 := below_after (by go_grown) hb8
  have hz8 := hb8.size
  try simp only [World.size_alloc, World.size_setCell, World.size_drew] at hz8
  replace c_a0 : w8.cell? ⟨w.heap.size, 0, none⟩ = some (.int .i64 al) := kp hb8 (by go_cell)
  replace c_a1 : w8.cell? ⟨w.heap.size, 1, none⟩ = some (.int .i64 ah) := kp hb8 (by go_cell)
  replace c_b0 : w8.cell? ⟨w.heap.size + 1, 0, none⟩ = some (.int .i64 bl) := kp hb8 (by go_cell)
  replace c_b1 : w8.cell? ⟨w.heap.size + 1, 1, none⟩ = some (.int .i64 bh) := kp hb8 (by go_cell)
  replace c_s0 : w8.cell? ⟨w2.heap.size, 0, none⟩ = some (.int .i64 (al - bh)) := kp hb8 (by go_cell)
  replace c_s1 : w8.cell? ⟨w2.heap.size, 1, none⟩ = some (.int .i64 (ah - bl)) := kp hb8 (by go_cell)
  clear hb8 hB7
  go_wp2_with fail
  go_ret
  exact ⟨rfl, by go_grown⟩

set_option maxHeartbeats 1600000 in
set_option maxRecDepth 100000 in
theorem subs_yes3 (al ah bl bh i k : Int) (w : World) (hi0 : 0 ≤ i) (hi1 : i < 18446744073709551616) (hk0 : 0 ≤ k) (hk1 : k < 18446744073709551616) (h : vld al ah = true) (h2 : vld bl bh = true) (h3 : vld (al - bh) (ah - bl) = true) (h4 : vld (al - ah) (ah - al) = false) (h5 : vld (al - bh + bl) (ah - bl + bh) = true) :
    Calls Try.prog 5 #[.agg #[.int .i64 al, .int .i64 ah], .agg #[.int .i64 bl, .int .i64 bh], .int .u64 i, .int .u64 k] w fun e w' => e = .returned (.bool true) ∧ Below w.heap.size w w' := by
  have hj : subS al ah bl bh = (al - bh, ah - bl, 0) := by simp [subS, h, h2, leastS, h3]
  have j1 := fun w => Sub_any al ah bl bh w
  rw [hj] at j1
  have v1 := fun w => RValid_any al ah w
  have v2 := fun w => RValid_any bl bh w
  rw [h] at v1
  rw [h2] at v2
  obtain ⟨va1, va2, va3⟩ := vld_bounds h
  obtain ⟨vb1, vb2, vb3⟩ := vld_bounds h2
  obtain ⟨vc1, vc2, vc3⟩ := vld_bounds h3
  have n1 := fun w => in_any al ah i w va1 va2 va3 hi0 hi1
  have n2 := fun w => in_any bl bh k w vb1 vb2 vb3 hk0 hk1
  have d1 := modc2 (i := i) (d := ah - al + 1) (by omega)
  have d2 := modc2 (i := k) (d := bh - bl + 1) (by omega)
  generalize i % (ah - al + 1) = ri at *
  generalize k % (bh - bl + 1) = rk at *
  obtain ⟨d11, d12⟩ := d1
  obtain ⟨d21, d22⟩ := d2
  have x1 := fun w => Has_any (al - bh) (ah - bl) (al + ri - (bl + rk)) w
  rw [show hasS (al - bh) (ah - bl) (al + ri - (bl + rk)) = (true, 0) by rw [hasS, h3, if_pos rfl]; simp <;> omega] at x1
  have j2 := fun w => Sub_any al ah al ah w
  rw [show subS al ah al ah = (0, 0, 3) by simp [subS, h, leastS, h4]] at j2
  have x2 := fun w => Has_any (0) (0) 0 w
  rw [show hasS (0) (0) 0 = (true, 0) by decide] at x2
  have j3 := fun w => Add_any (al - bh) (ah - bl) bl bh w
  rw [show addS (al - bh) (ah - bl) bl bh = (al - bh + bl, ah - bl + bh, 0) by simp [addS, h2, h3, leastS, h5]] at j3
  have y1 := fun w => Within_any al ah (al - bh + bl) (ah - bl + bh) w
  rw [show (decide (al - bh + bl ≤ al) && decide (ah ≤ ah - bl + bh)) = true by simp <;> omega] at y1
  have HA := Lib.hid j1
  have HV1 := Lib.hid v1
  have HV2 := Lib.hid v2
  have HN1 := Lib.hid n1
  have HN2 := Lib.hid n2
  have HX1 := Lib.hid x1
  have HX2 := Lib.hid x2
  have HJ2 := Lib.hid j2
  have HJ3 := Lib.hid j3
  have HY := Lib.hid y1
  clear j1 hj v1 v2 h h2 h3 h4 h5 n1 n2 x1 x2 j2 j3 y1
  go_enter Try.func5, Try.ntmps5
  go_wp2_with fail
  refine (head_any _).mono ?_
  rintro e w1 ⟨rfl, hb1⟩
  have hB1 : Below w.heap.size w w1 := below_after (by go_grown) hb1
  have hz1 := hb1.size
  try simp only [World.size_alloc, World.size_setCell, World.size_drew] at hz1
  have c_a0 : w1.cell? ⟨w.heap.size, 0, none⟩ = some (.int .i64 al) := kp hb1 (by go_cell)
  have c_a1 : w1.cell? ⟨w.heap.size, 1, none⟩ = some (.int .i64 ah) := kp hb1 (by go_cell)
  have c_b0 : w1.cell? ⟨w.heap.size + 1, 0, none⟩ = some (.int .i64 bl) := kp hb1 (by go_cell)
  have c_b1 : w1.cell? ⟨w.heap.size + 1, 1, none⟩ = some (.int .i64 bh) := kp hb1 (by go_cell)
  clear hb1
  go_wp2_with fail
  refine (HA.out _).mono ?_
  rintro e w2 ⟨rfl, hb2⟩
  have hB2 : Below w.heap.size w w2 := below_after (by go_grown) hb2
  have hz2 := hb2.size
  try simp only [World.size_alloc, World.size_setCell, World.size_drew] at hz2
  replace c_a0 : w2.cell? ⟨w.heap.size, 0, none⟩ = some (.int .i64 al) := kp hb2 (by go_cell)
  replace c_a1 : w2.cell? ⟨w.heap.size, 1, none⟩ = some (.int .i64 ah) := kp hb2 (by go_cell)
  replace c_b0 : w2.cell? ⟨w.heap.size + 1, 0, none⟩ = some (.int .i64 bl) := kp hb2 (by go_cell)
  replace c_b1 : w2.cell? ⟨w.heap.size + 1, 1, none⟩ = some (.int .i64 bh) := kp hb2 (by go_cell)
  clear hb2 hB1
  go_wp2_with fail
  refine (HV1.out _).mono ?_
  rintro e w3 ⟨rfl, hb3⟩
  have hB3 : Below w.heap.size w w3 := below_after (by go_grown) hb3
  have hz3 := hb3.size
  try simp only [World.size_alloc, World.size_setCell, World.size_drew] at hz3
  replace c_a0 : w3.cell? ⟨w.heap.size, 0, none⟩ = some (.int .i64 al) := kp hb3 (by go_cell)
  replace c_a1 : w3.cell? ⟨w.heap.size, 1, none⟩ = some (.int .i64 ah) := kp hb3 (by go_cell)
  replace c_b0 : w3.cell? ⟨w.heap.size + 1, 0, none⟩ = some (.int .i64 bl) := kp hb3 (by go_cell)
  replace c_b1 : w3.cell? ⟨w.heap.size + 1, 1, none⟩ = some (.int .i64 bh) := kp hb3 (by go_cell)
  have c_s0 : w3.cell? ⟨w2.heap.size, 0, none⟩ = some (.int .i64 (al - bh)) := kp hb3 (by go_cell)
  have c_s1 : w3.cell? ⟨w2.heap.size, 1, none⟩ = some (.int .i64 (ah - bl)) := kp hb3 (by go_cell)
  clear hb3 hB2
  go_wp2_with fail
  refine (HV2.out _).mono ?_
  rintro e w4 ⟨rfl, hb4⟩
  have hB4 : Below w.heap.size w w4 := below_after (by go_grown) hb4
  have hz4 := hb4.size
  try simp only [World.size_alloc, World.size_setCell, World.size_drew] at hz4
  replace c_a0 : w4.cell? ⟨w.heap.size, 0, none⟩ = some (.int .i64 al) := kp hb4 (by go_cell)
  replace c_a1 : w4.cell? ⟨w.heap.size, 1, none⟩ = some (.int .i64 ah) := kp hb4 (by go_cell)
  replace c_b0 : w4.cell? ⟨w.heap.size + 1, 0, none⟩ = some (.int .i64 bl) := kp hb4 (by go_cell)
  replace c_b1 : w4.cell? ⟨w.heap.size + 1, 1, none⟩ = some (.int .i64 bh) := kp hb4 (by go_cell)
  replace c_s0 : w4.cell? ⟨w2.heap.size, 0, none⟩ = some (.int .i64 (al - bh)) := kp hb4 (by go_cell)
  replace c_s1 : w4.cell? ⟨w2.heap.size, 1, none⟩ = some (.int .i64 (ah - bl)) := kp hb4 (by go_cell)
  clear hb4 hB3
  go_wp2_with fail
  have hwr0 : IntKind.i64.wrap (al + ri - (bl + rk)) = al + ri - (bl + rk) := IntWalk.i64_in _ (by omega)
  go_region_held3 (fun w' => Below w.heap.size w w' ∧ w'.cell? ⟨w.heap.size, 0, none⟩ = some (.int .i64 al) ∧ w'.cell? ⟨w.heap.size, 1, none⟩ = some (.int .i64 ah) ∧ w'.cell? ⟨w.heap.size + 1, 0, none⟩ = some (.int .i64 bl) ∧ w'.cell? ⟨w.heap.size + 1, 1, none⟩ = some (.int .i64 bh) ∧ w'.cell? ⟨w2.heap.size, 0, none⟩ = some (.int .i64 (al - bh)) ∧ w'.cell? ⟨w2.heap.size, 1, none⟩ = some (.int .i64 (ah - bl)))
    ((go_split_ands; refine ⟨?_, ?_, ?_, ?_, ?_, ?_, ?_⟩ <;> first | (with_reducible assumption) | (exact below_after (by assumption) hb) | (exact kp hb (by assumption)) | (exact kf hb (by go_simp) (by assumption)) | (exact Below.drew (by go_grown)) | go_cell | go_simp))
    (first | (go_at_call 34; (with_reducible refine (HX1.out _).mono ?_); rintro e x ⟨rfl, hb⟩) | (go_at_call 28; (with_reducible refine (HN1.out _).mono ?_); rintro e x ⟨rfl, hb⟩) | (go_at_call 28; (with_reducible refine (HN2.out _).mono ?_); rintro e x ⟨rfl, hb⟩))
  go_split_ands
  clear hwr0
  have hB5 : Below w.heap.size w x := by assumption
  replace c_a0 : x.cell? ⟨w.heap.size, 0, none⟩ = some (.int .i64 al) := by assumption
  replace c_a1 : x.cell? ⟨w.heap.size, 1, none⟩ = some (.int .i64 ah) := by assumption
  replace c_b0 : x.cell? ⟨w.heap.size + 1, 0, none⟩ = some (.int .i64 bl) := by assumption
  replace c_b1 : x.cell? ⟨w.heap.size + 1, 1, none⟩ = some (.int .i64 bh) := by assumption
  replace c_s0 : x.cell? ⟨w2.heap.size, 0, none⟩ = some (.int .i64 (al - bh)) := by assumption
  replace c_s1 : x.cell? ⟨w2.heap.size, 1, none⟩ = some (.int .i64 (ah - bl)) := by assumption
  have hz5 := hB5.size
  have hs5_a := World.block_lt_of_cell? _ _ c_a0
  have hs5_b := World.block_lt_of_cell? _ _ c_b0
  have hs5_s := World.block_lt_of_cell? _ _ c_s0
  simp only at hs5_a hs5_b hs5_s
  go_wp2_with fail
  refine (HJ2.out _).mono ?_
  rintro e w6 ⟨rfl, hb6⟩
  have hB6 : Below w.heap.size w w6 := below_after (by go_grown) hb6
  have hz6 := hb6.size
  try simp only [World.size_alloc, World.size_setCell, World.size_drew] at hz6
  replace c_a0 : w6.cell? ⟨w.heap.size, 0, none⟩ = some (.int .i64 al) := kp hb6 (by go_cell)
  replace c_a1 : w6.cell? ⟨w.heap.size, 1, none⟩ = some (.int .i64 ah) := kp hb6 (by go_cell)
  replace c_b0 : w6.cell? ⟨w.heap.size + 1, 0, none⟩ = some (.int .i64 bl) := kp hb6 (by go_cell)
  replace c_b1 : w6.cell? ⟨w.heap.size + 1, 1, none⟩ = some (.int .i64 bh) := kp hb6 (by go_cell)
  replace c_s0 : w6.cell? ⟨w2.heap.size, 0, none⟩ = some (.int .i64 (al - bh)) := kp hb6 (by go_cell)
  replace c_s1 : w6.cell? ⟨w2.heap.size, 1, none⟩ = some (.int .i64 (ah - bl)) := kp hb6 (by go_cell)
  clear hb6 hB5
  go_wp2_with fail
  refine (HX2.out _).mono ?_
  rintro e w7 ⟨rfl, hb7⟩
  have hB7 : Below w.heap.size w w7 := below_after (by go_grown) hb7
  have hz7 := hb7.size
  try simp only [World.size_alloc, World.size_setCell, World.size_drew] at hz7
  replace c_a0 : w7.cell? ⟨w.heap.size, 0, none⟩ = some (.int .i64 al) := kp hb7 (by go_cell)
  replace c_a1 : w7.cell? ⟨w.heap.size, 1, none⟩ = some (.int .i64 ah) := kp hb7 (by go_cell)
  replace c_b0 : w7.cell? ⟨w.heap.size + 1, 0, none⟩ = some (.int .i64 bl) := kp hb7 (by go_cell)
  replace c_b1 : w7.cell? ⟨w.heap.size + 1, 1, none⟩ = some (.int .i64 bh) := kp hb7 (by go_cell)
  replace c_s0 : w7.cell? ⟨w2.heap.size, 0, none⟩ = some (.int .i64 (al - bh)) := kp hb7 (by go_cell)
  replace c_s1 : w7.cell? ⟨w2.heap.size, 1, none⟩ = some (.int .i64 (ah - bl)) := kp hb7 (by go_cell)
  have c_o0 : w7.cell? ⟨w6.heap.size, 0, none⟩ = some (.int .i64 0) := kp hb7 (by go_cell)
  have c_o1 : w7.cell? ⟨w6.heap.size, 1, none⟩ = some (.int .i64 0) := kp hb7 (by go_cell)
  clear hb7 hB6
  clear c_o0 c_o1
  go_wp2_with fail
  refine (HJ3.out _).mono ?_
  rintro e w8 ⟨rfl, hb8⟩
  have hB8 : Below w.heap.size w w8 := below_after (by go_grown) hb8
  have hz8 := hb8.size
  try simp only [World.size_alloc, World.size_setCell, World.size_drew] at hz8
  replace c_a0 : w8.cell? ⟨w.heap.size, 0, none⟩ = some (.int .i64 al) := kp hb8 (by go_cell)
  replace c_a1 : w8.cell? ⟨w.heap.size, 1, none⟩ = some (.int .i64 ah) := kp hb8 (by go_cell)
  replace c_b0 : w8.cell? ⟨w.heap.size + 1, 0, none⟩ = some (.int .i64 bl) := kp hb8 (by go_cell)
  replace c_b1 : w8.cell? ⟨w.heap.size + 1, 1, none⟩ = some (.int .i64 bh) := kp hb8 (by go_cell)
  replace c_s0 : w8.cell? ⟨w2.heap.size, 0, none⟩ = some (.int .i64 (al - bh)) := kp hb8 (by go_cell)
  replace c_s1 : w8.cell? ⟨w2.heap.size, 1, none⟩ = some (.int .i64 (ah - bl)) := kp hb8 (by go_cell)
  clear hb8 hB7
  go_wp2_with fail
  refine (HY.out _).mono ?_
  rintro e w9 ⟨rfl, hb9⟩
  have hB9 : Below w.heap.size w w9 := below_after (by go_grown) hb9
  have hz9 := hb9.size
  try simp only [World.size_alloc, World.size_setCell, World.size_drew] at hz9
  replace c_a0 : w9.cell? ⟨w.heap.size, 0, none⟩ = some (.int .i64 al) := kp hb9 (by go_cell)
  replace c_a1 : w9.cell? ⟨w.heap.size, 1, none⟩ = some (.int .i64 ah) := kp hb9 (by go_cell)
  replace c_b0 : w9.cell? ⟨w.heap.size + 1, 0, none⟩ = some (.int .i64 bl) := kp hb9 (by go_cell)
  replace c_b1 : w9.cell? ⟨w.heap.size + 1, 1, none⟩ = some (.int .i64 bh) := kp hb9 (by go_cell)
  replace c_s0 : w9.cell? ⟨w2.heap.size, 0, none⟩ = some (.int .i64 (al - bh)) := kp hb9 (by go_cell)
  replace c_s1 : w9.cell? ⟨w2.heap.size, 1, none⟩ = some (.int .i64 (ah - bl)) := kp hb9 (by go_cell)
  have c_k0 : w9.cell? ⟨w8.heap.size, 0, none⟩ = some (.int .i64 (al - bh + bl)) := kp hb9 (by go_cell)
  have c_k1 : w9.cell? ⟨w8.heap.size, 1, none⟩ = some (.int .i64 (ah - bl + bh)) := kp hb9 (by go_cell)
  clear hb9 hB8
  go_wp2_with fail
  go_ret
  exact ⟨rfl, by go_grown⟩

set_option maxHeartbeats 1600000 in
set_option maxRecDepth 100000 in
theorem subs_yes4 (al ah bl bh i k : Int) (w : World) (hi0 : 0 ≤ i) (hi1 : i < 18446744073709551616) (hk0 : 0 ≤ k) (hk1 : k < 18446744073709551616) (h : vld al ah = true) (h2 : vld bl bh = true) (h3 : vld (al - bh) (ah - bl) = true) (h4 : vld (al - ah) (ah - al) = false) (h5 : vld (al - bh + bl) (ah - bl + bh) = false) :
    Calls Try.prog 5 #[.agg #[.int .i64 al, .int .i64 ah], .agg #[.int .i64 bl, .int .i64 bh], .int .u64 i, .int .u64 k] w fun e w' => e = .returned (.bool true) ∧ Below w.heap.size w w' := by
  have hj : subS al ah bl bh = (al - bh, ah - bl, 0) := by simp [subS, h, h2, leastS, h3]
  have j1 := fun w => Sub_any al ah bl bh w
  rw [hj] at j1
  have v1 := fun w => RValid_any al ah w
  have v2 := fun w => RValid_any bl bh w
  rw [h] at v1
  rw [h2] at v2
  obtain ⟨va1, va2, va3⟩ := vld_bounds h
  obtain ⟨vb1, vb2, vb3⟩ := vld_bounds h2
  obtain ⟨vc1, vc2, vc3⟩ := vld_bounds h3
  have n1 := fun w => in_any al ah i w va1 va2 va3 hi0 hi1
  have n2 := fun w => in_any bl bh k w vb1 vb2 vb3 hk0 hk1
  have d1 := modc2 (i := i) (d := ah - al + 1) (by omega)
  have d2 := modc2 (i := k) (d := bh - bl + 1) (by omega)
  generalize i % (ah - al + 1) = ri at *
  generalize k % (bh - bl + 1) = rk at *
  obtain ⟨d11, d12⟩ := d1
  obtain ⟨d21, d22⟩ := d2
  have x1 := fun w => Has_any (al - bh) (ah - bl) (al + ri - (bl + rk)) w
  rw [show hasS (al - bh) (ah - bl) (al + ri - (bl + rk)) = (true, 0) by rw [hasS, h3, if_pos rfl]; simp <;> omega] at x1
  have j2 := fun w => Sub_any al ah al ah w
  rw [show subS al ah al ah = (0, 0, 3) by simp [subS, h, leastS, h4]] at j2
  have x2 := fun w => Has_any (0) (0) 0 w
  rw [show hasS (0) (0) 0 = (true, 0) by decide] at x2
  have j3 := fun w => Add_any (al - bh) (ah - bl) bl bh w
  rw [show addS (al - bh) (ah - bl) bl bh = (0, 0, 3) by simp [addS, h2, h3, leastS, h5]] at j3
  have y1 := fun w => Within_any al ah (0) (0) w
  have HA := Lib.hid j1
  have HV1 := Lib.hid v1
  have HV2 := Lib.hid v2
  have HN1 := Lib.hid n1
  have HN2 := Lib.hid n2
  have HX1 := Lib.hid x1
  have HX2 := Lib.hid x2
  have HJ2 := Lib.hid j2
  have HJ3 := Lib.hid j3
  have HY := Lib.hid y1
  clear j1 hj v1 v2 h h2 h3 h4 h5 n1 n2 x1 x2 j2 j3 y1
  go_enter Try.func5, Try.ntmps5
  go_wp2_with fail
  refine (head_any _).mono ?_
  rintro e w1 ⟨rfl, hb1⟩
  have hB1 : Below w.heap.size w w1 := below_after (by go_grown) hb1
  have hz1 := hb1.size
  try simp only [World.size_alloc, World.size_setCell, World.size_drew] at hz1
  have c_a0 : w1.cell? ⟨w.heap.size, 0, none⟩ = some (.int .i64 al) := kp hb1 (by go_cell)
  have c_a1 : w1.cell? ⟨w.heap.size, 1, none⟩ = some (.int .i64 ah) := kp hb1 (by go_cell)
  have c_b0 : w1.cell? ⟨w.heap.size + 1, 0, none⟩ = some (.int .i64 bl) := kp hb1 (by go_cell)
  have c_b1 : w1.cell? ⟨w.heap.size + 1, 1, none⟩ = some (.int .i64 bh) := kp hb1 (by go_cell)
  clear hb1
  go_wp2_with fail
  refine (HA.out _).mono ?_
  rintro e w2 ⟨rfl, hb2⟩
  have hB2 : Below w.heap.size w w2 := below_after (by go_grown) hb2
  have hz2 := hb2.size
  try simp only [World.size_alloc, World.size_setCell, World.size_drew] at hz2
  replace c_a0 : w2.cell? ⟨w.heap.size, 0, none⟩ = some (.int .i64 al) := kp hb2 (by go_cell)
  replace c_a1 : w2.cell? ⟨w.heap.size, 1, none⟩ = some (.int .i64 ah) := kp hb2 (by go_cell)
  replace c_b0 : w2.cell? ⟨w.heap.size + 1, 0, none⟩ = some (.int .i64 bl) := kp hb2 (by go_cell)
  replace c_b1 : w2.cell? ⟨w.heap.size + 1, 1, none⟩ = some (.int .i64 bh) := kp hb2 (by go_cell)
  clear hb2 hB1
  go_wp2_with fail
  refine (HV1.out _).mono ?_
  rintro e w3 ⟨rfl, hb3⟩
  have hB3 : Below w.heap.size w w3 := below_after (by go_grown) hb3
  have hz3 := hb3.size
  try simp only [World.size_alloc, World.size_setCell, World.size_drew] at hz3
  replace c_a0 : w3.cell? ⟨w.heap.size, 0, none⟩ = some (.int .i64 al) := kp hb3 (by go_cell)
  replace c_a1 : w3.cell? ⟨w.heap.size, 1, none⟩ = some (.int .i64 ah) := kp hb3 (by go_cell)
  replace c_b0 : w3.cell? ⟨w.heap.size + 1, 0, none⟩ = some (.int .i64 bl) := kp hb3 (by go_cell)
  replace c_b1 : w3.cell? ⟨w.heap.size + 1, 1, none⟩ = some (.int .i64 bh) := kp hb3 (by go_cell)
  have c_s0 : w3.cell? ⟨w2.heap.size, 0, none⟩ = some (.int .i64 (al - bh)) := kp hb3 (by go_cell)
  have c_s1 : w3.cell? ⟨w2.heap.size, 1, none⟩ = some (.int .i64 (ah - bl)) := kp hb3 (by go_cell)
  clear hb3 hB2
  go_wp2_with fail
  refine (HV2.out _).mono ?_
  rintro e w4 ⟨rfl, hb4⟩
  have hB4 : Below w.heap.size w w4 := below_after (by go_grown) hb4
  have hz4 := hb4.size
  try simp only [World.size_alloc, World.size_setCell, World.size_drew] at hz4
  replace c_a0 : w4.cell? ⟨w.heap.size, 0, none⟩ = some (.int .i64 al) := kp hb4 (by go_cell)
  replace c_a1 : w4.cell? ⟨w.heap.size, 1, none⟩ = some (.int .i64 ah) := kp hb4 (by go_cell)
  replace c_b0 : w4.cell? ⟨w.heap.size + 1, 0, none⟩ = some (.int .i64 bl) := kp hb4 (by go_cell)
  replace c_b1 : w4.cell? ⟨w.heap.size + 1, 1, none⟩ = some (.int .i64 bh) := kp hb4 (by go_cell)
  replace c_s0 : w4.cell? ⟨w2.heap.size, 0, none⟩ = some (.int .i64 (al - bh)) := kp hb4 (by go_cell)
  replace c_s1 : w4.cell? ⟨w2.heap.size, 1, none⟩ = some (.int .i64 (ah - bl)) := kp hb4 (by go_cell)
  clear hb4 hB3
  go_wp2_with fail
  have hwr0 : IntKind.i64.wrap (al + ri - (bl + rk)) = al + ri - (bl + rk) := IntWalk.i64_in _ (by omega)
  go_region_held3 (fun w' => Below w.heap.size w w' ∧ w'.cell? ⟨w.heap.size, 0, none⟩ = some (.int .i64 al) ∧ w'.cell? ⟨w.heap.size, 1, none⟩ = some (.int .i64 ah) ∧ w'.cell? ⟨w.heap.size + 1, 0, none⟩ = some (.int .i64 bl) ∧ w'.cell? ⟨w.heap.size + 1, 1, none⟩ = some (.int .i64 bh) ∧ w'.cell? ⟨w2.heap.size, 0, none⟩ = some (.int .i64 (al - bh)) ∧ w'.cell? ⟨w2.heap.size, 1, none⟩ = some (.int .i64 (ah - bl)))
    ((go_split_ands; refine ⟨?_, ?_, ?_, ?_, ?_, ?_, ?_⟩ <;> first | (with_reducible assumption) | (exact below_after (by assumption) hb) | (exact kp hb (by assumption)) | (exact kf hb (by go_simp) (by assumption)) | (exact Below.drew (by go_grown)) | go_cell | go_simp))
    (first | (go_at_call 34; (with_reducible refine (HX1.out _).mono ?_); rintro e x ⟨rfl, hb⟩) | (go_at_call 28; (with_reducible refine (HN1.out _).mono ?_); rintro e x ⟨rfl, hb⟩) | (go_at_call 28; (with_reducible refine (HN2.out _).mono ?_); rintro e x ⟨rfl, hb⟩))
  go_split_ands
  clear hwr0
  have hB5 : Below w.heap.size w x := by assumption
  replace c_a0 : x.cell? ⟨w.heap.size, 0, none⟩ = some (.int .i64 al) := by assumption
  replace c_a1 : x.cell? ⟨w.heap.size, 1, none⟩ = some (.int .i64 ah) := by assumption
  replace c_b0 : x.cell? ⟨w.heap.size + 1, 0, none⟩ = some (.int .i64 bl) := by assumption
  replace c_b1 : x.cell? ⟨w.heap.size + 1, 1, none⟩ = some (.int .i64 bh) := by assumption
  replace c_s0 : x.cell? ⟨w2.heap.size, 0, none⟩ = some (.int .i64 (al - bh)) := by assumption
  replace c_s1 : x.cell? ⟨w2.heap.size, 1, none⟩ = some (.int .i64 (ah - bl)) := by assumption
  have hz5 := hB5.size
  have hs5_a := World.block_lt_of_cell? _ _ c_a0
  have hs5_b := World.block_lt_of_cell? _ _ c_b0
  have hs5_s := World.block_lt_of_cell? _ _ c_s0
  simp only at hs5_a hs5_b hs5_s
  go_wp2_with fail
  refine (HJ2.out _).mono ?_
  rintro e w6 ⟨rfl, hb6⟩
  have hB6 : Below w.heap.size w w6 := below_after (by go_grown) hb6
  have hz6 := hb6.size
  try simp only [World.size_alloc, World.size_setCell, World.size_drew] at hz6
  replace c_a0 : w6.cell? ⟨w.heap.size, 0, none⟩ = some (.int .i64 al) := kp hb6 (by go_cell)
  replace c_a1 : w6.cell? ⟨w.heap.size, 1, none⟩ = some (.int .i64 ah) := kp hb6 (by go_cell)
  replace c_b0 : w6.cell? ⟨w.heap.size + 1, 0, none⟩ = some (.int .i64 bl) := kp hb6 (by go_cell)
  replace c_b1 : w6.cell? ⟨w.heap.size + 1, 1, none⟩ = some (.int .i64 bh) := kp hb6 (by go_cell)
  replace c_s0 : w6.cell? ⟨w2.heap.size, 0, none⟩ = some (.int .i64 (al - bh)) := kp hb6 (by go_cell)
  replace c_s1 : w6.cell? ⟨w2.heap.size, 1, none⟩ = some (.int .i64 (ah - bl)) := kp hb6 (by go_cell)
  clear hb6 hB5
  go_wp2_with fail
  refine (HX2.out _).mono ?_
  rintro e w7 ⟨rfl, hb7⟩
  have hB7 : Below w.heap.size w w7 := below_after (by go_grown) hb7
  have hz7 := hb7.size
  try simp only [World.size_alloc, World.size_setCell, World.size_drew] at hz7
  replace c_a0 : w7.cell? ⟨w.heap.size, 0, none⟩ = some (.int .i64 al) := kp hb7 (by go_cell)
  replace c_a1 : w7.cell? ⟨w.heap.size, 1, none⟩ = some (.int .i64 ah) := kp hb7 (by go_cell)
  replace c_b0 : w7.cell? ⟨w.heap.size + 1, 0, none⟩ = some (.int .i64 bl) := kp hb7 (by go_cell)
  replace c_b1 : w7.cell? ⟨w.heap.size + 1, 1, none⟩ = some (.int .i64 bh) := kp hb7 (by go_cell)
  replace c_s0 : w7.cell? ⟨w2.heap.size, 0, none⟩ = some (.int .i64 (al - bh)) := kp hb7 (by go_cell)
  replace c_s1 : w7.cell? ⟨w2.heap.size, 1, none⟩ = some (.int .i64 (ah - bl)) := kp hb7 (by go_cell)
  have c_o0 : w7.cell? ⟨w6.heap.size, 0, none⟩ = some (.int .i64 0) := kp hb7 (by go_cell)
  have c_o1 : w7.cell? ⟨w6.heap.size, 1, none⟩ = some (.int .i64 0) := kp hb7 (by go_cell)
  clear hb7 hB6
  clear c_o0 c_o1
  go_wp2_with fail
  refine (HJ3.out _).mono ?_
  rintro e w8 ⟨rfl, hb8⟩
  have hB8 : Below w.heap.size w w8 := below_after (by go_grown) hb8
  have hz8 := hb8.size
  try simp only [World.size_alloc, World.size_setCell, World.size_drew] at hz8
  replace c_a0 : w8.cell? ⟨w.heap.size, 0, none⟩ = some (.int .i64 al) := kp hb8 (by go_cell)
  replace c_a1 : w8.cell? ⟨w.heap.size, 1, none⟩ = some (.int .i64 ah) := kp hb8 (by go_cell)
  replace c_b0 : w8.cell? ⟨w.heap.size + 1, 0, none⟩ = some (.int .i64 bl) := kp hb8 (by go_cell)
  replace c_b1 : w8.cell? ⟨w.heap.size + 1, 1, none⟩ = some (.int .i64 bh) := kp hb8 (by go_cell)
  replace c_s0 : w8.cell? ⟨w2.heap.size, 0, none⟩ = some (.int .i64 (al - bh)) := kp hb8 (by go_cell)
  replace c_s1 : w8.cell? ⟨w2.heap.size, 1, none⟩ = some (.int .i64 (ah - bl)) := kp hb8 (by go_cell)
  clear hb8 hB7
  go_wp2_with fail
  go_ret
  exact ⟨rfl, by go_grown⟩

theorem subs_walk (al ah bl bh i k : Int) (w : World) (_ : -9223372036854775808 ≤ al) (_ : al ≤ 9223372036854775807) (_ : -9223372036854775808 ≤ ah) (_ : ah ≤ 9223372036854775807) (_ : -9223372036854775808 ≤ bl) (_ : bl ≤ 9223372036854775807) (_ : -9223372036854775808 ≤ bh) (_ : bh ≤ 9223372036854775807)
    (hi0 : 0 ≤ i) (hi1 : i ≤ 18446744073709551615) (hk0 : 0 ≤ k) (hk1 : k ≤ 18446744073709551615) :
    Calls Try.prog 5 #[.agg #[.int .i64 al, .int .i64 ah], .agg #[.int .i64 bl, .int .i64 bh], .int .u64 i, .int .u64 k] w fun e w' => e = .returned (.bool true) ∧ Below w.heap.size w w'  := by
  cases h1 : vld al ah
  · exact subs_no1 al ah bl bh i k w h1
  · cases h2 : vld bl bh
    · exact subs_no2 al ah bl bh i k w h1 h2
    · cases h3 : vld (al - bh) (ah - bl)
      · exact subs_no3 al ah bl bh i k w h1 h2 h3
      · cases h4 : vld (al - ah) (ah - al) <;> cases h5 : vld (al - bh + bl) (ah - bl + bh)
        · exact subs_yes4 al ah bl bh i k w hi0 (by omega) hk0 (by omega) h1 h2 h3 h4 h5
        · exact subs_yes3 al ah bl bh i k w hi0 (by omega) hk0 (by omega) h1 h2 h3 h4 h5
        · exact subs_yes2 al ah bl bh i k w hi0 (by omega) hk0 (by omega) h1 h2 h3 h4 h5
        · exact subs_yes1 al ah bl bh i k w hi0 (by omega) hk0 (by omega) h1 h2 h3 h4 h5

end Go.Proofs.Ytollpjdnahemeaa
