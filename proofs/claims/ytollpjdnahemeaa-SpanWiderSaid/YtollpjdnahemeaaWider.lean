import Derived.Test.YtollpjdnahemeaaS7
import Derived.Deep.LoopGhost
namespace Go.Proofs.Ytollpjdnahemeaa
open Go.RowKit
set_option linter.unusedSimpArgs false
set_option linter.unusedVariables false
attribute [local go_sem ↓] Go.wp_at_zero Go.wp_at_succ

/-- what a wider span gives, if it gives something, is given by a lesser one, and is wider -/
def Mono (x y : Int × Int × Int) : Prop := y.2.2 = 0 → x.2.2 = 0 ∧ y.1 ≤ x.1 ∧ x.2.1 ≤ y.2.1

theorem leastS_ok {lo hi : Int} (h : (leastS lo hi).2.2 = 0) : vld lo hi = true ∧ leastS lo hi = (lo, hi, 0) := by
  unfold leastS at *
  cases hv : vld lo hi
  · simp [hv] at h
  · simp
theorem leastS_of {lo hi : Int} (h : vld lo hi = true) : leastS lo hi = (lo, hi, 0) := by simp [leastS, h]
theorem vld_of {lo hi : Int} (h1 : lo ≤ hi) (h2 : -1000000000000 ≤ lo) (h3 : hi ≤ 1000000000000) : vld lo hi = true := by simp [vld]; omega

theorem mono_add (al ah cl ch bl bh : Int) (ha : vld al ah = true) (h1 : cl ≤ al) (h2 : ah ≤ ch) : Mono (addS al ah bl bh) (addS cl ch bl bh) := by
  intro h
  unfold addS at *
  cases hv : (vld cl ch && vld bl bh)
  · rw [hv] at h; simp at h
  · rw [hv, if_pos rfl] at h
    obtain ⟨h3, h4⟩ := leastS_ok h
    have b1 := vld_bounds h3
    have b2 := vld_bounds ha
    have b3 := vld_bounds (and_right hv)
    have h5 : vld (al + bl) (ah + bh) = true := vld_of (by omega) (by omega) (by omega)
    rw [if_pos rfl, h4, ha, and_right hv, Bool.and_true, if_pos rfl, leastS_of h5]
    exact ⟨rfl, by simp; omega, by simp; omega⟩
theorem mono_sub (al ah cl ch bl bh : Int) (ha : vld al ah = true) (h1 : cl ≤ al) (h2 : ah ≤ ch) : Mono (subS al ah bl bh) (subS cl ch bl bh) := by
  intro h
  unfold subS at *
  cases hv : (vld cl ch && vld bl bh)
  · rw [hv] at h; simp at h
  · rw [hv, if_pos rfl] at h
    obtain ⟨h3, h4⟩ := leastS_ok h
    have b1 := vld_bounds h3
    have b2 := vld_bounds ha
    have b3 := vld_bounds (and_right hv)
    have h5 : vld (al - bh) (ah - bl) = true := vld_of (by omega) (by omega) (by omega)
    rw [if_pos rfl, h4, ha, and_right hv, Bool.and_true, if_pos rfl, leastS_of h5]
    exact ⟨rfl, by simp; omega, by simp; omega⟩
theorem mono_join (al ah cl ch bl bh : Int) (ha : vld al ah = true) (h1 : cl ≤ al) (h2 : ah ≤ ch) : Mono (joinS al ah bl bh) (joinS cl ch bl bh) := by
  intro h
  unfold joinS at *
  cases hv : (vld cl ch && vld bl bh)
  · rw [hv] at h; simp at h
  · rw [if_pos rfl, ha, and_right hv, Bool.and_true, if_pos rfl]
    exact ⟨rfl, by simp; omega, by simp; omega⟩
theorem mono_times (al ah cl ch bl bh : Int) (ha : vld al ah = true) (h1 : cl ≤ al) (h2 : ah ≤ ch) : Mono (timesS al ah bl bh) (timesS cl ch bl bh) := by
  intro h
  unfold timesS at *
  cases hv : (vld cl ch && partsB bl bh)
  · rw [hv] at h; simp at h
  · rw [hv, if_pos rfl] at h
    obtain ⟨h3, h4⟩ := leastS_ok h
    have hp := and_right hv
    have h6 : vld bl bh = true ∧ 0 ≤ bl ∧ bh ≤ 1000000 := by simpa [partsB, and_assoc] using hp
    have b1 := vld_bounds h3
    have b2 := vld_bounds ha
    have b3 := vld_bounds h6.1
    have m1 : cl * bl ≤ al * bl := Int.mul_le_mul_of_nonneg_right h1 h6.2.1
    have m2 : cl * bh ≤ al * bh := Int.mul_le_mul_of_nonneg_right h1 (by omega)
    have m3 : ah * bl ≤ ch * bl := Int.mul_le_mul_of_nonneg_right h2 h6.2.1
    have m4 : ah * bh ≤ ch * bh := Int.mul_le_mul_of_nonneg_right h2 (by omega)
    have m5 : al * bl ≤ ah * bl := Int.mul_le_mul_of_nonneg_right b2.1 h6.2.1
    unfold downI upI at *
    have h5 : vld (min (al * bl) (al * bh) / 1000) (-(-(max (ah * bl) (ah * bh)) / 1000)) = true := vld_of (by omega) (by omega) (by omega)
    rw [if_pos rfl, h4, ha, hp, Bool.and_true, if_pos rfl, leastS_of h5]
    exact ⟨rfl, by simp; omega, by simp; omega⟩

set_option maxHeartbeats 1600000 in
set_option maxRecDepth 100000 in
theorem wider_no1 (al ah bl bh yl yh : Int) (w : World) (h : vld al ah = false) :
    Calls Try.prog 8 #[.agg #[.int .i64 al, .int .i64 ah], .agg #[.int .i64 bl, .int .i64 bh], .agg #[.int .i64 yl, .int .i64 yh]] w fun e w' => e = .returned (.bool true) ∧ Below w.heap.size w w' := by
  have v1 := fun w => Valid_any al ah w
  have v2 := fun w => Valid_any yl yh w
  rw [h] at v1
  have HV1 := Lib.hid v1
  have HV2 := Lib.hid v2
  clear v1 v2 h
  go_enter Try.func8, Try.ntmps8
  go_wp2_with fail
  refine (head_any _).mono ?_
  rintro e w1 ⟨rfl, hb1⟩
  have hB1 : Below w.heap.size w w1 := below_after (by go_grown) hb1
  have hz1 := hb1.size
  try simp only [World.size_alloc, World.size_setCell, World.size_drew] at hz1
  have c_a0 : w1.cell? ⟨w.heap.size, 0, none⟩ = some (.int .i64 al) := kp hb1 (by go_cell)
  have c_a1 : w1.cell? ⟨w.heap.size, 1, none⟩ = some (.int .i64 ah) := kp hb1 (by go_cell)
  have c_b0 : w1.cell? ⟨w.heap.size + 1, 0, none⟩ = some (.int .i64 bl) := kp hb1 (by go_cell)
  have c_b1 : w1.cell? ⟨w.heap.size + 1, 1, none⟩ = some (.int .i64 bh) := kp hb1 (by go_cell)
  have c_y0 : w1.cell? ⟨w.heap.size + 1 + 1, 0, none⟩ = some (.int .i64 yl) := kp hb1 (by go_cell)
  have c_y1 : w1.cell? ⟨w.heap.size + 1 + 1, 1, none⟩ = some (.int .i64 yh) := kp hb1 (by go_cell)
  clear hb1
  go_wp2_with fail
  refine (HV1.out _).mono ?_
  rintro e w2 ⟨rfl, hb2⟩
  have hB2 : Below w.heap.size w w2 := below_after (by go_grown) hb2
  have hz2 := hb2.size
  try simp only [World.size_alloc, World.size_setCell, World.size_drew] at hz2
  replace c_a0 : w2.cell? ⟨w.heap.size, 0, none⟩ = some (.int .i64 al) := kp hb2 (by go_cell)
  replace c_a1 : w2.cell? ⟨w.heap.size, 1, none⟩ = some (.int .i64 ah) := kp hb2 (by go_cell)
  replace c_b0 : w2.cell? ⟨w.heap.size + 1, 0, none⟩ = some (.int .i64 bl) := kp hb2 (by go_cell)
  replace c_b1 : w2.cell? ⟨w.heap.size + 1, 1, none⟩ = some (.int .i64 bh) := kp hb2 (by go_cell)
  replace c_y0 : w2.cell? ⟨w.heap.size + 1 + 1, 0, none⟩ = some (.int .i64 yl) := kp hb2 (by go_cell)
  replace c_y1 : w2.cell? ⟨w.heap.size + 1 + 1, 1, none⟩ = some (.int .i64 yh) := kp hb2 (by go_cell)
  clear hb2 hB1
  go_wp2_with fail
  go_ret
  exact ⟨rfl, by go_grown⟩

set_option maxHeartbeats 1600000 in
set_option maxRecDepth 100000 in
theorem wider_no2 (al ah bl bh yl yh : Int) (w : World) (h : vld al ah = true) (h2 : vld yl yh = false) :
    Calls Try.prog 8 #[.agg #[.int .i64 al, .int .i64 ah], .agg #[.int .i64 bl, .int .i64 bh], .agg #[.int .i64 yl, .int .i64 yh]] w fun e w' => e = .returned (.bool true) ∧ Below w.heap.size w w' := by
  have v1 := fun w => Valid_any al ah w
  have v2 := fun w => Valid_any yl yh w
  rw [h] at v1
  rw [h2] at v2
  have HV1 := Lib.hid v1
  have HV2 := Lib.hid v2
  clear v1 v2 h h2
  go_enter Try.func8, Try.ntmps8
  go_wp2_with fail
  refine (head_any _).mono ?_
  rintro e w1 ⟨rfl, hb1⟩
  have hB1 : Below w.heap.size w w1 := below_after (by go_grown) hb1
  have hz1 := hb1.size
  try simp only [World.size_alloc, World.size_setCell, World.size_drew] at hz1
  have c_a0 : w1.cell? ⟨w.heap.size, 0, none⟩ = some (.int .i64 al) := kp hb1 (by go_cell)
  have c_a1 : w1.cell? ⟨w.heap.size, 1, none⟩ = some (.int .i64 ah) := kp hb1 (by go_cell)
  have c_b0 : w1.cell? ⟨w.heap.size + 1, 0, none⟩ = some (.int .i64 bl) := kp hb1 (by go_cell)
  have c_b1 : w1.cell? ⟨w.heap.size + 1, 1, none⟩ = some (.int .i64 bh) := kp hb1 (by go_cell)
  have c_y0 : w1.cell? ⟨w.heap.size + 1 + 1, 0, none⟩ = some (.int .i64 yl) := kp hb1 (by go_cell)
  have c_y1 : w1.cell? ⟨w.heap.size + 1 + 1, 1, none⟩ = some (.int .i64 yh) := kp hb1 (by go_cell)
  clear hb1
  go_wp2_with fail
  refine (HV1.out _).mono ?_
  rintro e w2 ⟨rfl, hb2⟩
  have hB2 : Below w.heap.size w w2 := below_after (by go_grown) hb2
  have hz2 := hb2.size
  try simp only [World.size_alloc, World.size_setCell, World.size_drew] at hz2
  replace c_a0 : w2.cell? ⟨w.heap.size, 0, none⟩ = some (.int .i64 al) := kp hb2 (by go_cell)
  replace c_a1 : w2.cell? ⟨w.heap.size, 1, none⟩ = some (.int .i64 ah) := kp hb2 (by go_cell)
  replace c_b0 : w2.cell? ⟨w.heap.size + 1, 0, none⟩ = some (.int .i64 bl) := kp hb2 (by go_cell)
  replace c_b1 : w2.cell? ⟨w.heap.size + 1, 1, none⟩ = some (.int .i64 bh) := kp hb2 (by go_cell)
  replace c_y0 : w2.cell? ⟨w.heap.size + 1 + 1, 0, none⟩ = some (.int .i64 yl) := kp hb2 (by go_cell)
  replace c_y1 : w2.cell? ⟨w.heap.size + 1 + 1, 1, none⟩ = some (.int .i64 yh) := kp hb2 (by go_cell)
  clear hb2 hB1
  go_wp2_with fail
  refine (HV2.out _).mono ?_
  rintro e w3 ⟨rfl, hb3⟩
  have hB3 : Below w.heap.size w w3 := below_after (by go_grown) hb3
  have hz3 := hb3.size
  try simp only [World.size_alloc, World.size_setCell, World.size_drew] at hz3
  replace c_a0 : w3.cell? ⟨w.heap.size, 0, none⟩ = some (.int .i64 al) := kp hb3 (by go_cell)
  replace c_a1 : w3.cell? ⟨w.heap.size, 1, none⟩ = some (.int .i64 ah) := kp hb3 (by go_cell)
  replace c_b0 : w3.cell? ⟨w.heap.size + 1, 0, none⟩ = some (.int .i64 bl) := kp hb3 (by go_cell)
  replace c_b1 : w3.cell? ⟨w.heap.size + 1, 1, none⟩ = some (.int .i64 bh) := kp hb3 (by go_cell)
  replace c_y0 : w3.cell? ⟨w.heap.size + 1 + 1, 0, none⟩ = some (.int .i64 yl) := kp hb3 (by go_cell)
  replace c_y1 : w3.cell? ⟨w.heap.size + 1 + 1, 1, none⟩ = some (.int .i64 yh) := kp hb3 (by go_cell)
  clear hb3 hB2
  go_wp2_with fail
  go_ret
  exact ⟨rfl, by go_grown⟩

set_option maxHeartbeats 1600000 in
set_option maxRecDepth 100000 in
theorem wider_yes (al ah bl bh yl yh : Int) (w : World) (h : vld al ah = true) (h2 : vld yl yh = true) :
    Calls Try.prog 8 #[.agg #[.int .i64 al, .int .i64 ah], .agg #[.int .i64 bl, .int .i64 bh], .agg #[.int .i64 yl, .int .i64 yh]] w fun e w' => e = .returned (.bool true) ∧ Below w.heap.size w w' := by
  have v1 := fun w => Valid_any al ah w
  have v2 := fun w => Valid_any yl yh w
  rw [h] at v1
  rw [h2] at v2
  have j1 := fun w => Join_any al ah yl yh w
  rw [show joinS al ah yl yh = (min al yl, max ah yh, 0) by simp [joinS, h, h2]] at j1
  have hl : min al yl ≤ al := Int.min_le_left _ _
  have hh : ah ≤ max ah yh := Int.le_max_left _ _
  generalize min al yl = cl at *
  generalize max ah yh = ch at *
  have HJ := Lib.hid j1
  have HV1 := Lib.hid v1
  have HV2 := Lib.hid v2
  have x_add := fun w => Add_any al ah bl bh w
  have y_add := fun w => Add_any cl ch bl bh w
  have m_add := mono_add al ah cl ch bl bh h hl hh
  generalize addS al ah bl bh = X_add at *
  generalize addS cl ch bl bh = Y_add at *
  obtain ⟨xl_add, xh_add, xe_add⟩ := X_add
  obtain ⟨yl_add, yh_add, ye_add⟩ := Y_add
  have HX_add := Lib.hid x_add
  have HY_add := Lib.hid y_add
  have HM_add := Lib.hid m_add
  clear x_add y_add m_add
  have x_sub := fun w => Sub_any al ah bl bh w
  have y_sub := fun w => Sub_any cl ch bl bh w
  have m_sub := mono_sub al ah cl ch bl bh h hl hh
  generalize subS al ah bl bh = X_sub at *
  generalize subS cl ch bl bh = Y_sub at *
  obtain ⟨xl_sub, xh_sub, xe_sub⟩ := X_sub
  obtain ⟨yl_sub, yh_sub, ye_sub⟩ := Y_sub
  have HX_sub := Lib.hid x_sub
  have HY_sub := Lib.hid y_sub
  have HM_sub := Lib.hid m_sub
  clear x_sub y_sub m_sub
  have x_join := fun w => Join_any al ah bl bh w
  have y_join := fun w => Join_any cl ch bl bh w
  have m_join := mono_join al ah cl ch bl bh h hl hh
  generalize joinS al ah bl bh = X_join at *
  generalize joinS cl ch bl bh = Y_join at *
  obtain ⟨xl_join, xh_join, xe_join⟩ := X_join
  obtain ⟨yl_join, yh_join, ye_join⟩ := Y_join
  have HX_join := Lib.hid x_join
  have HY_join := Lib.hid y_join
  have HM_join := Lib.hid m_join
  clear x_join y_join m_join
  have x_times := fun w => Times_any al ah bl bh w
  have y_times := fun w => Times_any cl ch bl bh w
  have m_times := mono_times al ah cl ch bl bh h hl hh
  generalize timesS al ah bl bh = X_times at *
  generalize timesS cl ch bl bh = Y_times at *
  obtain ⟨xl_times, xh_times, xe_times⟩ := X_times
  obtain ⟨yl_times, yh_times, ye_times⟩ := Y_times
  have HX_times := Lib.hid x_times
  have HY_times := Lib.hid y_times
  have HM_times := Lib.hid m_times
  clear x_times y_times m_times
  clear j1 v1 v2 h h2 hl hh
  go_enter Try.func8, Try.ntmps8
  go_wp2_with fail
  refine (head_any _).mono ?_
  rintro e w1 ⟨rfl, hb1⟩
  have hB1 : Below w.heap.size w w1 := below_after (by go_grown) hb1
  have hz1 := hb1.size
  try simp only [World.size_alloc, World.size_setCell, World.size_drew] at hz1
  have c_a0 : w1.cell? ⟨w.heap.size, 0, none⟩ = some (.int .i64 al) := kp hb1 (by go_cell)
  have c_a1 : w1.cell? ⟨w.heap.size, 1, none⟩ = some (.int .i64 ah) := kp hb1 (by go_cell)
  have c_b0 : w1.cell? ⟨w.heap.size + 1, 0, none⟩ = some (.int .i64 bl) := kp hb1 (by go_cell)
  have c_b1 : w1.cell? ⟨w.heap.size + 1, 1, none⟩ = some (.int .i64 bh) := kp hb1 (by go_cell)
  have c_y0 : w1.cell? ⟨w.heap.size + 1 + 1, 0, none⟩ = some (.int .i64 yl) := kp hb1 (by go_cell)
  have c_y1 : w1.cell? ⟨w.heap.size + 1 + 1, 1, none⟩ = some (.int .i64 yh) := kp hb1 (by go_cell)
  clear hb1
  go_wp2_with fail
  refine (HV1.out _).mono ?_
  rintro e w2 ⟨rfl, hb2⟩
  have hB2 : Below w.heap.size w w2 := below_after (by go_grown) hb2
  have hz2 := hb2.size
  try simp only [World.size_alloc, World.size_setCell, World.size_drew] at hz2
  replace c_a0 : w2.cell? ⟨w.heap.size, 0, none⟩ = some (.int .i64 al) := kp hb2 (by go_cell)
  replace c_a1 : w2.cell? ⟨w.heap.size, 1, none⟩ = some (.int .i64 ah) := kp hb2 (by go_cell)
  replace c_b0 : w2.cell? ⟨w.heap.size + 1, 0, none⟩ = some (.int .i64 bl) := kp hb2 (by go_cell)
  replace c_b1 : w2.cell? ⟨w.heap.size + 1, 1, none⟩ = some (.int .i64 bh) := kp hb2 (by go_cell)
  replace c_y0 : w2.cell? ⟨w.heap.size + 1 + 1, 0, none⟩ = some (.int .i64 yl) := kp hb2 (by go_cell)
  replace c_y1 : w2.cell? ⟨w.heap.size + 1 + 1, 1, none⟩ = some (.int .i64 yh) := kp hb2 (by go_cell)
  clear hb2 hB1
  go_wp2_with fail
  refine (HV2.out _).mono ?_
  rintro e w3 ⟨rfl, hb3⟩
  have hB3 : Below w.heap.size w w3 := below_after (by go_grown) hb3
  have hz3 := hb3.size
  try simp only [World.size_alloc, World.size_setCell, World.size_drew] at hz3
  replace c_a0 : w3.cell? ⟨w.heap.size, 0, none⟩ = some (.int .i64 al) := kp hb3 (by go_cell)
  replace c_a1 : w3.cell? ⟨w.heap.size, 1, none⟩ = some (.int .i64 ah) := kp hb3 (by go_cell)
  replace c_b0 : w3.cell? ⟨w.heap.size + 1, 0, none⟩ = some (.int .i64 bl) := kp hb3 (by go_cell)
  replace c_b1 : w3.cell? ⟨w.heap.size + 1, 1, none⟩ = some (.int .i64 bh) := kp hb3 (by go_cell)
  replace c_y0 : w3.cell? ⟨w.heap.size + 1 + 1, 0, none⟩ = some (.int .i64 yl) := kp hb3 (by go_cell)
  replace c_y1 : w3.cell? ⟨w.heap.size + 1 + 1, 1, none⟩ = some (.int .i64 yh) := kp hb3 (by go_cell)
  clear hb3 hB2
  go_wp2_with fail
  refine (HJ.out _).mono ?_
  rintro e w4 ⟨rfl, hb4⟩
  have hB4 : Below w.heap.size w w4 := below_after (by go_grown) hb4
  have hz4 := hb4.size
  try simp only [World.size_alloc, World.size_setCell, World.size_drew] at hz4
  replace c_a0 : w4.cell? ⟨w.heap.size, 0, none⟩ = some (.int .i64 al) := kp hb4 (by go_cell)
  replace c_a1 : w4.cell? ⟨w.heap.size, 1, none⟩ = some (.int .i64 ah) := kp hb4 (by go_cell)
  replace c_b0 : w4.cell? ⟨w.heap.size + 1, 0, none⟩ = some (.int .i64 bl) := kp hb4 (by go_cell)
  replace c_b1 : w4.cell? ⟨w.heap.size + 1, 1, none⟩ = some (.int .i64 bh) := kp hb4 (by go_cell)
  replace c_y0 : w4.cell? ⟨w.heap.size + 1 + 1, 0, none⟩ = some (.int .i64 yl) := kp hb4 (by go_cell)
  replace c_y1 : w4.cell? ⟨w.heap.size + 1 + 1, 1, none⟩ = some (.int .i64 yh) := kp hb4 (by go_cell)
  clear hb4 hB3
  clear c_y0 c_y1
  go_wp2_with fail
  go_loopw [7, 34] (fun up i wr => ∃ k : Int, 0 ≤ k ∧ k ≤ 4 ∧ i = .int .i64 k ∧ up = .bool true ∧ Below w.heap.size w wr ∧ wr.cell? ⟨w.heap.size, 0, none⟩ = some (.int .i64 al) ∧ wr.cell? ⟨w.heap.size, 1, none⟩ = some (.int .i64 ah) ∧ wr.cell? ⟨w.heap.size + 1, 0, none⟩ = some (.int .i64 bl) ∧ wr.cell? ⟨w.heap.size + 1, 1, none⟩ = some (.int .i64 bh) ∧ wr.cell? ⟨w4.heap.size, 0, none⟩ = some (.int .i64 cl) ∧ wr.cell? ⟨w4.heap.size, 1, none⟩ = some (.int .i64 ch))
      (fun _ i _ => (4 - intOf i).toNat)
  case atStart => exact ⟨0, by omega, by omega, rfl, rfl, by go_grown, by go_cell, by go_cell, by go_cell, by go_cell, by go_cell, by go_cell⟩
  case round =>
    obtain ⟨k, hk0, hk4, rfl, rfl, hBr, c_a0, c_a1, c_b0, c_b1, c_c0, c_c1⟩ := hrel
    have hzr := hBr.size
    obtain rfl | rfl | rfl | rfl | rfl : k = 0 ∨ k = 1 ∨ k = 2 ∨ k = 3 ∨ k = 4 := by omega
    · by_cases he : ye_add = 0
      · subst he
        obtain ⟨m1, m2, m3⟩ := HM_add.out rfl
        simp only at m1 m2 m3
        subst m1
        have wi := fun w => Within_any xl_add xh_add yl_add yh_add w
        rw [show (decide (yl_add ≤ xl_add) && decide (xh_add ≤ yh_add)) = true by simp <;> omega] at wi
        have HW := Lib.hid wi
        clear wi m2 m3
        go_wp2_with fail
        refine (HX_add.out _).mono ?_
        rintro e z1 ⟨rfl, hb1⟩
        have hB1 : Below w.heap.size w z1 := below_after (by go_grown) hb1
        have hz1 := hb1.size
        try simp only [World.size_alloc, World.size_setCell, World.size_drew] at hz1
        replace c_a0 : z1.cell? ⟨w.heap.size, 0, none⟩ = some (.int .i64 al) := kp hb1 (by go_cell)
        replace c_a1 : z1.cell? ⟨w.heap.size, 1, none⟩ = some (.int .i64 ah) := kp hb1 (by go_cell)
        replace c_b0 : z1.cell? ⟨w.heap.size + 1, 0, none⟩ = some (.int .i64 bl) := kp hb1 (by go_cell)
        replace c_b1 : z1.cell? ⟨w.heap.size + 1, 1, none⟩ = some (.int .i64 bh) := kp hb1 (by go_cell)
        replace c_c0 : z1.cell? ⟨w4.heap.size, 0, none⟩ = some (.int .i64 cl) := kp hb1 (by go_cell)
        replace c_c1 : z1.cell? ⟨w4.heap.size, 1, none⟩ = some (.int .i64 ch) := kp hb1 (by go_cell)
        clear hb1
        go_wp2_with fail
        refine (HY_add.out _).mono ?_
        rintro e z2 ⟨rfl, hb2⟩
        have hB2 : Below w.heap.size w z2 := below_after (by go_grown) hb2
        have hz2 := hb2.size
        try simp only [World.size_alloc, World.size_setCell, World.size_drew] at hz2
        replace c_a0 : z2.cell? ⟨w.heap.size, 0, none⟩ = some (.int .i64 al) := kp hb2 (by go_cell)
        replace c_a1 : z2.cell? ⟨w.heap.size, 1, none⟩ = some (.int .i64 ah) := kp hb2 (by go_cell)
        replace c_b0 : z2.cell? ⟨w.heap.size + 1, 0, none⟩ = some (.int .i64 bl) := kp hb2 (by go_cell)
        replace c_b1 : z2.cell? ⟨w.heap.size + 1, 1, none⟩ = some (.int .i64 bh) := kp hb2 (by go_cell)
        replace c_c0 : z2.cell? ⟨w4.heap.size, 0, none⟩ = some (.int .i64 cl) := kp hb2 (by go_cell)
        replace c_c1 : z2.cell? ⟨w4.heap.size, 1, none⟩ = some (.int .i64 ch) := kp hb2 (by go_cell)
        have c_x0 : z2.cell? ⟨z1.heap.size, 0, none⟩ = some (.int .i64 xl_add) := kp hb2 (by go_cell)
        have c_x1 : z2.cell? ⟨z1.heap.size, 1, none⟩ = some (.int .i64 xh_add) := kp hb2 (by go_cell)
        clear hb2 hB1
        go_wp2_with fail
        refine (HW.out _).mono ?_
        rintro e z3 ⟨rfl, hb3⟩
        have hB3 : Below w.heap.size w z3 := below_after (by go_grown) hb3
        have hz3 := hb3.size
        try simp only [World.size_alloc, World.size_setCell, World.size_drew] at hz3
        replace c_a0 : z3.cell? ⟨w.heap.size, 0, none⟩ = some (.int .i64 al) := kp hb3 (by go_cell)
        replace c_a1 : z3.cell? ⟨w.heap.size, 1, none⟩ = some (.int .i64 ah) := kp hb3 (by go_cell)
        replace c_b0 : z3.cell? ⟨w.heap.size + 1, 0, none⟩ = some (.int .i64 bl) := kp hb3 (by go_cell)
        replace c_b1 : z3.cell? ⟨w.heap.size + 1, 1, none⟩ = some (.int .i64 bh) := kp hb3 (by go_cell)
        replace c_c0 : z3.cell? ⟨w4.heap.size, 0, none⟩ = some (.int .i64 cl) := kp hb3 (by go_cell)
        replace c_c1 : z3.cell? ⟨w4.heap.size, 1, none⟩ = some (.int .i64 ch) := kp hb3 (by go_cell)
        replace c_x0 : z3.cell? ⟨z1.heap.size, 0, none⟩ = some (.int .i64 xl_add) := kp hb3 (by go_cell)
        replace c_x1 : z3.cell? ⟨z1.heap.size, 1, none⟩ = some (.int .i64 xh_add) := kp hb3 (by go_cell)
        have c_z0 : z3.cell? ⟨z2.heap.size, 0, none⟩ = some (.int .i64 yl_add) := kp hb3 (by go_cell)
        have c_z1 : z3.cell? ⟨z2.heap.size, 1, none⟩ = some (.int .i64 yh_add) := kp hb3 (by go_cell)
        clear hb3 hB2
        go_wp2_with fail
        go_roundw
        case rel => exact ⟨1, by omega, by omega, rfl, rfl, by go_grown, by go_cell, by go_cell, by go_cell, by go_cell, by go_cell, by go_cell⟩
        case measure => simp [intOf]
      · have he2 : (ye_add != 0) = true := by simpa using he
        clear he
        go_wp2_with fail
        refine (HX_add.out _).mono ?_
        rintro e z1 ⟨rfl, hb1⟩
        have hB1 : Below w.heap.size w z1 := below_after (by go_grown) hb1
        have hz1 := hb1.size
        try simp only [World.size_alloc, World.size_setCell, World.size_drew] at hz1
        replace c_a0 : z1.cell? ⟨w.heap.size, 0, none⟩ = some (.int .i64 al) := kp hb1 (by go_cell)
        replace c_a1 : z1.cell? ⟨w.heap.size, 1, none⟩ = some (.int .i64 ah) := kp hb1 (by go_cell)
        replace c_b0 : z1.cell? ⟨w.heap.size + 1, 0, none⟩ = some (.int .i64 bl) := kp hb1 (by go_cell)
        replace c_b1 : z1.cell? ⟨w.heap.size + 1, 1, none⟩ = some (.int .i64 bh) := kp hb1 (by go_cell)
        replace c_c0 : z1.cell? ⟨w4.heap.size, 0, none⟩ = some (.int .i64 cl) := kp hb1 (by go_cell)
        replace c_c1 : z1.cell? ⟨w4.heap.size, 1, none⟩ = some (.int .i64 ch) := kp hb1 (by go_cell)
        clear hb1
        go_wp2_with fail
        refine (HY_add.out _).mono ?_
        rintro e z2 ⟨rfl, hb2⟩
        have hB2 : Below w.heap.size w z2 := below_after (by go_grown) hb2
        have hz2 := hb2.size
        try simp only [World.size_alloc, World.size_setCell, World.size_drew] at hz2
        replace c_a0 : z2.cell? ⟨w.heap.size, 0, none⟩ = some (.int .i64 al) := kp hb2 (by go_cell)
        replace c_a1 : z2.cell? ⟨w.heap.size, 1, none⟩ = some (.int .i64 ah) := kp hb2 (by go_cell)
        replace c_b0 : z2.cell? ⟨w.heap.size + 1, 0, none⟩ = some (.int .i64 bl) := kp hb2 (by go_cell)
        replace c_b1 : z2.cell? ⟨w.heap.size + 1, 1, none⟩ = some (.int .i64 bh) := kp hb2 (by go_cell)
        replace c_c0 : z2.cell? ⟨w4.heap.size, 0, none⟩ = some (.int .i64 cl) := kp hb2 (by go_cell)
        replace c_c1 : z2.cell? ⟨w4.heap.size, 1, none⟩ = some (.int .i64 ch) := kp hb2 (by go_cell)
        have c_x0 : z2.cell? ⟨z1.heap.size, 0, none⟩ = some (.int .i64 xl_add) := kp hb2 (by go_cell)
        have c_x1 : z2.cell? ⟨z1.heap.size, 1, none⟩ = some (.int .i64 xh_add) := kp hb2 (by go_cell)
        clear hb2 hB1
        go_wp2_with fail
        go_roundw
        case rel => exact ⟨1, by omega, by omega, rfl, rfl, by go_grown, by go_cell, by go_cell, by go_cell, by go_cell, by go_cell, by go_cell⟩
        case measure => simp [intOf]
    · by_cases he : ye_sub = 0
      · subst he
        obtain ⟨m1, m2, m3⟩ := HM_sub.out rfl
        simp only at m1 m2 m3
        subst m1
        have wi := fun w => Within_any xl_sub xh_sub yl_sub yh_sub w
        rw [show (decide (yl_sub ≤ xl_sub) && decide (xh_sub ≤ yh_sub)) = true by simp <;> omega] at wi
        have HW := Lib.hid wi
        clear wi m2 m3
        go_wp2_with fail
        refine (HX_sub.out _).mono ?_
        rintro e z1 ⟨rfl, hb1⟩
        have hB1 : Below w.heap.size w z1 := below_after (by go_grown) hb1
        have hz1 := hb1.size
        try simp only [World.size_alloc, World.size_setCell, World.size_drew] at hz1
        replace c_a0 : z1.cell? ⟨w.heap.size, 0, none⟩ = some (.int .i64 al) := kp hb1 (by go_cell)
        replace c_a1 : z1.cell? ⟨w.heap.size, 1, none⟩ = some (.int .i64 ah) := kp hb1 (by go_cell)
        replace c_b0 : z1.cell? ⟨w.heap.size + 1, 0, none⟩ = some (.int .i64 bl) := kp hb1 (by go_cell)
        replace c_b1 : z1.cell? ⟨w.heap.size + 1, 1, none⟩ = some (.int .i64 bh) := kp hb1 (by go_cell)
        replace c_c0 : z1.cell? ⟨w4.heap.size, 0, none⟩ = some (.int .i64 cl) := kp hb1 (by go_cell)
        replace c_c1 : z1.cell? ⟨w4.heap.size, 1, none⟩ = some (.int .i64 ch) := kp hb1 (by go_cell)
        clear hb1
        go_wp2_with fail
        refine (HY_sub.out _).mono ?_
        rintro e z2 ⟨rfl, hb2⟩
        have hB2 : Below w.heap.size w z2 := below_after (by go_grown) hb2
        have hz2 := hb2.size
        try simp only [World.size_alloc, World.size_setCell, World.size_drew] at hz2
        replace c_a0 : z2.cell? ⟨w.heap.size, 0, none⟩ = some (.int .i64 al) := kp hb2 (by go_cell)
        replace c_a1 : z2.cell? ⟨w.heap.size, 1, none⟩ = some (.int .i64 ah) := kp hb2 (by go_cell)
        replace c_b0 : z2.cell? ⟨w.heap.size + 1, 0, none⟩ = some (.int .i64 bl) := kp hb2 (by go_cell)
        replace c_b1 : z2.cell? ⟨w.heap.size + 1, 1, none⟩ = some (.int .i64 bh) := kp hb2 (by go_cell)
        replace c_c0 : z2.cell? ⟨w4.heap.size, 0, none⟩ = some (.int .i64 cl) := kp hb2 (by go_cell)
        replace c_c1 : z2.cell? ⟨w4.heap.size, 1, none⟩ = some (.int .i64 ch) := kp hb2 (by go_cell)
        have c_x0 : z2.cell? ⟨z1.heap.size, 0, none⟩ = some (.int .i64 xl_sub) := kp hb2 (by go_cell)
        have c_x1 : z2.cell? ⟨z1.heap.size, 1, none⟩ = some (.int .i64 xh_sub) := kp hb2 (by go_cell)
        clear hb2 hB1
        go_wp2_with fail
        refine (HW.out _).mono ?_
        rintro e z3 ⟨rfl, hb3⟩
        have hB3 : Below w.heap.size w z3 := below_after (by go_grown) hb3
        have hz3 := hb3.size
        try simp only [World.size_alloc, World.size_setCell, World.size_drew] at hz3
        replace c_a0 : z3.cell? ⟨w.heap.size, 0, none⟩ = some (.int .i64 al) := kp hb3 (by go_cell)
        replace c_a1 : z3.cell? ⟨w.heap.size, 1, none⟩ = some (.int .i64 ah) := kp hb3 (by go_cell)
        replace c_b0 : z3.cell? ⟨w.heap.size + 1, 0, none⟩ = some (.int .i64 bl) := kp hb3 (by go_cell)
        replace c_b1 : z3.cell? ⟨w.heap.size + 1, 1, none⟩ = some (.int .i64 bh) := kp hb3 (by go_cell)
        replace c_c0 : z3.cell? ⟨w4.heap.size, 0, none⟩ = some (.int .i64 cl) := kp hb3 (by go_cell)
        replace c_c1 : z3.cell? ⟨w4.heap.size, 1, none⟩ = some (.int .i64 ch) := kp hb3 (by go_cell)
        replace c_x0 : z3.cell? ⟨z1.heap.size, 0, none⟩ = some (.int .i64 xl_sub) := kp hb3 (by go_cell)
        replace c_x1 : z3.cell? ⟨z1.heap.size, 1, none⟩ = some (.int .i64 xh_sub) := kp hb3 (by go_cell)
        have c_z0 : z3.cell? ⟨z2.heap.size, 0, none⟩ = some (.int .i64 yl_sub) := kp hb3 (by go_cell)
        have c_z1 : z3.cell? ⟨z2.heap.size, 1, none⟩ = some (.int .i64 yh_sub) := kp hb3 (by go_cell)
        clear hb3 hB2
        go_wp2_with fail
        go_roundw
        case rel => exact ⟨2, by omega, by omega, rfl, rfl, by go_grown, by go_cell, by go_cell, by go_cell, by go_cell, by go_cell, by go_cell⟩
        case measure => simp [intOf]
      · have he2 : (ye_sub != 0) = true := by simpa using he
        clear he
        go_wp2_with fail
        refine (HX_sub.out _).mono ?_
        rintro e z1 ⟨rfl, hb1⟩
        have hB1 : Below w.heap.size w z1 := below_after (by go_grown) hb1
        have hz1 := hb1.size
        try simp only [World.size_alloc, World.size_setCell, World.size_drew] at hz1
        replace c_a0 : z1.cell? ⟨w.heap.size, 0, none⟩ = some (.int .i64 al) := kp hb1 (by go_cell)
        replace c_a1 : z1.cell? ⟨w.heap.size, 1, none⟩ = some (.int .i64 ah) := kp hb1 (by go_cell)
        replace c_b0 : z1.cell? ⟨w.heap.size + 1, 0, none⟩ = some (.int .i64 bl) := kp hb1 (by go_cell)
        replace c_b1 : z1.cell? ⟨w.heap.size + 1, 1, none⟩ = some (.int .i64 bh) := kp hb1 (by go_cell)
        replace c_c0 : z1.cell? ⟨w4.heap.size, 0, none⟩ = some (.int .i64 cl) := kp hb1 (by go_cell)
        replace c_c1 : z1.cell? ⟨w4.heap.size, 1, none⟩ = some (.int .i64 ch) := kp hb1 (by go_cell)
        clear hb1
        go_wp2_with fail
        refine (HY_sub.out _).mono ?_
        rintro e z2 ⟨rfl, hb2⟩
        have hB2 : Below w.heap.size w z2 := below_after (by go_grown) hb2
        have hz2 := hb2.size
        try simp only [World.size_alloc, World.size_setCell, World.size_drew] at hz2
        replace c_a0 : z2.cell? ⟨w.heap.size, 0, none⟩ = some (.int .i64 al) := kp hb2 (by go_cell)
        replace c_a1 : z2.cell? ⟨w.heap.size, 1, none⟩ = some (.int .i64 ah) := kp hb2 (by go_cell)
        replace c_b0 : z2.cell? ⟨w.heap.size + 1, 0, none⟩ = some (.int .i64 bl) := kp hb2 (by go_cell)
        replace c_b1 : z2.cell? ⟨w.heap.size + 1, 1, none⟩ = some (.int .i64 bh) := kp hb2 (by go_cell)
        replace c_c0 : z2.cell? ⟨w4.heap.size, 0, none⟩ = some (.int .i64 cl) := kp hb2 (by go_cell)
        replace c_c1 : z2.cell? ⟨w4.heap.size, 1, none⟩ = some (.int .i64 ch) := kp hb2 (by go_cell)
        have c_x0 : z2.cell? ⟨z1.heap.size, 0, none⟩ = some (.int .i64 xl_sub) := kp hb2 (by go_cell)
        have c_x1 : z2.cell? ⟨z1.heap.size, 1, none⟩ = some (.int .i64 xh_sub) := kp hb2 (by go_cell)
        clear hb2 hB1
        go_wp2_with fail
        go_roundw
        case rel => exact ⟨2, by omega, by omega, rfl, rfl, by go_grown, by go_cell, by go_cell, by go_cell, by go_cell, by go_cell, by go_cell⟩
        case measure => simp [intOf]
    · by_cases he : ye_join = 0
      · subst he
        obtain ⟨m1, m2, m3⟩ := HM_join.out rfl
        simp only at m1 m2 m3
        subst m1
        have wi := fun w => Within_any xl_join xh_join yl_join yh_join w
        rw [show (decide (yl_join ≤ xl_join) && decide (xh_join ≤ yh_join)) = true by simp <;> omega] at wi
        have HW := Lib.hid wi
        clear wi m2 m3
        go_wp2_with fail
        refine (HX_join.out _).mono ?_
        rintro e z1 ⟨rfl, hb1⟩
        have hB1 : Below w.heap.size w z1 := below_after (by go_grown) hb1
        have hz1 := hb1.size
        try simp only [World.size_alloc, World.size_setCell, World.size_drew] at hz1
        replace c_a0 : z1.cell? ⟨w.heap.size, 0, none⟩ = some (.int .i64 al) := kp hb1 (by go_cell)
        replace c_a1 : z1.cell? ⟨w.heap.size, 1, none⟩ = some (.int .i64 ah) := kp hb1 (by go_cell)
        replace c_b0 : z1.cell? ⟨w.heap.size + 1, 0, none⟩ = some (.int .i64 bl) := kp hb1 (by go_cell)
        replace c_b1 : z1.cell? ⟨w.heap.size + 1, 1, none⟩ = some (.int .i64 bh) := kp hb1 (by go_cell)
        replace c_c0 : z1.cell? ⟨w4.heap.size, 0, none⟩ = some (.int .i64 cl) := kp hb1 (by go_cell)
        replace c_c1 : z1.cell? ⟨w4.heap.size, 1, none⟩ = some (.int .i64 ch) := kp hb1 (by go_cell)
        clear hb1
        go_wp2_with fail
        refine (HY_join.out _).mono ?_
        rintro e z2 ⟨rfl, hb2⟩
        have hB2 : Below w.heap.size w z2 := below_after (by go_grown) hb2
        have hz2 := hb2.size
        try simp only [World.size_alloc, World.size_setCell, World.size_drew] at hz2
        replace c_a0 : z2.cell? ⟨w.heap.size, 0, none⟩ = some (.int .i64 al) := kp hb2 (by go_cell)
        replace c_a1 : z2.cell? ⟨w.heap.size, 1, none⟩ = some (.int .i64 ah) := kp hb2 (by go_cell)
        replace c_b0 : z2.cell? ⟨w.heap.size + 1, 0, none⟩ = some (.int .i64 bl) := kp hb2 (by go_cell)
        replace c_b1 : z2.cell? ⟨w.heap.size + 1, 1, none⟩ = some (.int .i64 bh) := kp hb2 (by go_cell)
        replace c_c0 : z2.cell? ⟨w4.heap.size, 0, none⟩ = some (.int .i64 cl) := kp hb2 (by go_cell)
        replace c_c1 : z2.cell? ⟨w4.heap.size, 1, none⟩ = some (.int .i64 ch) := kp hb2 (by go_cell)
        have c_x0 : z2.cell? ⟨z1.heap.size, 0, none⟩ = some (.int .i64 xl_join) := kp hb2 (by go_cell)
        have c_x1 : z2.cell? ⟨z1.heap.size, 1, none⟩ = some (.int .i64 xh_join) := kp hb2 (by go_cell)
        clear hb2 hB1
        go_wp2_with fail
        refine (HW.out _).mono ?_
        rintro e z3 ⟨rfl, hb3⟩
        have hB3 : Below w.heap.size w z3 := below_after (by go_grown) hb3
        have hz3 := hb3.size
        try simp only [World.size_alloc, World.size_setCell, World.size_drew] at hz3
        replace c_a0 : z3.cell? ⟨w.heap.size, 0, none⟩ = some (.int .i64 al) := kp hb3 (by go_cell)
        replace c_a1 : z3.cell? ⟨w.heap.size, 1, none⟩ = some (.int .i64 ah) := kp hb3 (by go_cell)
        replace c_b0 : z3.cell? ⟨w.heap.size + 1, 0, none⟩ = some (.int .i64 bl) := kp hb3 (by go_cell)
        replace c_b1 : z3.cell? ⟨w.heap.size + 1, 1, none⟩ = some (.int .i64 bh) := kp hb3 (by go_cell)
        replace c_c0 : z3.cell? ⟨w4.heap.size, 0, none⟩ = some (.int .i64 cl) := kp hb3 (by go_cell)
        replace c_c1 : z3.cell? ⟨w4.heap.size, 1, none⟩ = some (.int .i64 ch) := kp hb3 (by go_cell)
        replace c_x0 : z3.cell? ⟨z1.heap.size, 0, none⟩ = some (.int .i64 xl_join) := kp hb3 (by go_cell)
        replace c_x1 : z3.cell? ⟨z1.heap.size, 1, none⟩ = some (.int .i64 xh_join) := kp hb3 (by go_cell)
        have c_z0 : z3.cell? ⟨z2.heap.size, 0, none⟩ = some (.int .i64 yl_join) := kp hb3 (by go_cell)
        have c_z1 : z3.cell? ⟨z2.heap.size, 1, none⟩ = some (.int .i64 yh_join) := kp hb3 (by go_cell)
        clear hb3 hB2
        go_wp2_with fail
        go_roundw
        case rel => exact ⟨3, by omega, by omega, rfl, rfl, by go_grown, by go_cell, by go_cell, by go_cell, by go_cell, by go_cell, by go_cell⟩
        case measure => simp [intOf]
      · have he2 : (ye_join != 0) = true := by simpa using he
        clear he
        go_wp2_with fail
        refine (HX_join.out _).mono ?_
        rintro e z1 ⟨rfl, hb1⟩
        have hB1 : Below w.heap.size w z1 := below_after (by go_grown) hb1
        have hz1 := hb1.size
        try simp only [World.size_alloc, World.size_setCell, World.size_drew] at hz1
        replace c_a0 : z1.cell? ⟨w.heap.size, 0, none⟩ = some (.int .i64 al) := kp hb1 (by go_cell)
        replace c_a1 : z1.cell? ⟨w.heap.size, 1, none⟩ = some (.int .i64 ah) := kp hb1 (by go_cell)
        replace c_b0 : z1.cell? ⟨w.heap.size + 1, 0, none⟩ = some (.int .i64 bl) := kp hb1 (by go_cell)
        replace c_b1 : z1.cell? ⟨w.heap.size + 1, 1, none⟩ = some (.int .i64 bh) := kp hb1 (by go_cell)
        replace c_c0 : z1.cell? ⟨w4.heap.size, 0, none⟩ = some (.int .i64 cl) := kp hb1 (by go_cell)
        replace c_c1 : z1.cell? ⟨w4.heap.size, 1, none⟩ = some (.int .i64 ch) := kp hb1 (by go_cell)
        clear hb1
        go_wp2_with fail
        refine (HY_join.out _).mono ?_
        rintro e z2 ⟨rfl, hb2⟩
        have hB2 : Below w.heap.size w z2 := below_after (by go_grown) hb2
        have hz2 := hb2.size
        try simp only [World.size_alloc, World.size_setCell, World.size_drew] at hz2
        replace c_a0 : z2.cell? ⟨w.heap.size, 0, none⟩ = some (.int .i64 al) := kp hb2 (by go_cell)
        replace c_a1 : z2.cell? ⟨w.heap.size, 1, none⟩ = some (.int .i64 ah) := kp hb2 (by go_cell)
        replace c_b0 : z2.cell? ⟨w.heap.size + 1, 0, none⟩ = some (.int .i64 bl) := kp hb2 (by go_cell)
        replace c_b1 : z2.cell? ⟨w.heap.size + 1, 1, none⟩ = some (.int .i64 bh) := kp hb2 (by go_cell)
        replace c_c0 : z2.cell? ⟨w4.heap.size, 0, none⟩ = some (.int .i64 cl) := kp hb2 (by go_cell)
        replace c_c1 : z2.cell? ⟨w4.heap.size, 1, none⟩ = some (.int .i64 ch) := kp hb2 (by go_cell)
        have c_x0 : z2.cell? ⟨z1.heap.size, 0, none⟩ = some (.int .i64 xl_join) := kp hb2 (by go_cell)
        have c_x1 : z2.cell? ⟨z1.heap.size, 1, none⟩ = some (.int .i64 xh_join) := kp hb2 (by go_cell)
        clear hb2 hB1
        go_wp2_with fail
        go_roundw
        case rel => exact ⟨3, by omega, by omega, rfl, rfl, by go_grown, by go_cell, by go_cell, by go_cell, by go_cell, by go_cell, by go_cell⟩
        case measure => simp [intOf]
    · by_cases he : ye_times = 0
      · subst he
        obtain ⟨m1, m2, m3⟩ := HM_times.out rfl
        simp only at m1 m2 m3
        subst m1
        have wi := fun w => Within_any xl_times xh_times yl_times yh_times w
        rw [show (decide (yl_times ≤ xl_times) && decide (xh_times ≤ yh_times)) = true by simp <;> omega] at wi
        have HW := Lib.hid wi
        clear wi m2 m3
        go_wp2_with fail
        refine (HX_times.out _).mono ?_
        rintro e z1 ⟨rfl, hb1⟩
        have hB1 : Below w.heap.size w z1 := below_after (by go_grown) hb1
        have hz1 := hb1.size
        try simp only [World.size_alloc, World.size_setCell, World.size_drew] at hz1
        replace c_a0 : z1.cell? ⟨w.heap.size, 0, none⟩ = some (.int .i64 al) := kp hb1 (by go_cell)
        replace c_a1 : z1.cell? ⟨w.heap.size, 1, none⟩ = some (.int .i64 ah) := kp hb1 (by go_cell)
        replace c_b0 : z1.cell? ⟨w.heap.size + 1, 0, none⟩ = some (.int .i64 bl) := kp hb1 (by go_cell)
        replace c_b1 : z1.cell? ⟨w.heap.size + 1, 1, none⟩ = some (.int .i64 bh) := kp hb1 (by go_cell)
        replace c_c0 : z1.cell? ⟨w4.heap.size, 0, none⟩ = some (.int .i64 cl) := kp hb1 (by go_cell)
        replace c_c1 : z1.cell? ⟨w4.heap.size, 1, none⟩ = some (.int .i64 ch) := kp hb1 (by go_cell)
        clear hb1
        go_wp2_with fail
        refine (HY_times.out _).mono ?_
        rintro e z2 ⟨rfl, hb2⟩
        have hB2 : Below w.heap.size w z2 := below_after (by go_grown) hb2
        have hz2 := hb2.size
        try simp only [World.size_alloc, World.size_setCell, World.size_drew] at hz2
        replace c_a0 : z2.cell? ⟨w.heap.size, 0, none⟩ = some (.int .i64 al) := kp hb2 (by go_cell)
        replace c_a1 : z2.cell? ⟨w.heap.size, 1, none⟩ = some (.int .i64 ah) := kp hb2 (by go_cell)
        replace c_b0 : z2.cell? ⟨w.heap.size + 1, 0, none⟩ = some (.int .i64 bl) := kp hb2 (by go_cell)
        replace c_b1 : z2.cell? ⟨w.heap.size + 1, 1, none⟩ = some (.int .i64 bh) := kp hb2 (by go_cell)
        replace c_c0 : z2.cell? ⟨w4.heap.size, 0, none⟩ = some (.int .i64 cl) := kp hb2 (by go_cell)
        replace c_c1 : z2.cell? ⟨w4.heap.size, 1, none⟩ = some (.int .i64 ch) := kp hb2 (by go_cell)
        have c_x0 : z2.cell? ⟨z1.heap.size, 0, none⟩ = some (.int .i64 xl_times) := kp hb2 (by go_cell)
        have c_x1 : z2.cell? ⟨z1.heap.size, 1, none⟩ = some (.int .i64 xh_times) := kp hb2 (by go_cell)
        clear hb2 hB1
        go_wp2_with fail
        refine (HW.out _).mono ?_
        rintro e z3 ⟨rfl, hb3⟩
        have hB3 : Below w.heap.size w z3 := below_after (by go_grown) hb3
        have hz3 := hb3.size
        try simp only [World.size_alloc, World.size_setCell, World.size_drew] at hz3
        replace c_a0 : z3.cell? ⟨w.heap.size, 0, none⟩ = some (.int .i64 al) := kp hb3 (by go_cell)
        replace c_a1 : z3.cell? ⟨w.heap.size, 1, none⟩ = some (.int .i64 ah) := kp hb3 (by go_cell)
        replace c_b0 : z3.cell? ⟨w.heap.size + 1, 0, none⟩ = some (.int .i64 bl) := kp hb3 (by go_cell)
        replace c_b1 : z3.cell? ⟨w.heap.size + 1, 1, none⟩ = some (.int .i64 bh) := kp hb3 (by go_cell)
        replace c_c0 : z3.cell? ⟨w4.heap.size, 0, none⟩ = some (.int .i64 cl) := kp hb3 (by go_cell)
        replace c_c1 : z3.cell? ⟨w4.heap.size, 1, none⟩ = some (.int .i64 ch) := kp hb3 (by go_cell)
        replace c_x0 : z3.cell? ⟨z1.heap.size, 0, none⟩ = some (.int .i64 xl_times) := kp hb3 (by go_cell)
        replace c_x1 : z3.cell? ⟨z1.heap.size, 1, none⟩ = some (.int .i64 xh_times) := kp hb3 (by go_cell)
        have c_z0 : z3.cell? ⟨z2.heap.size, 0, none⟩ = some (.int .i64 yl_times) := kp hb3 (by go_cell)
        have c_z1 : z3.cell? ⟨z2.heap.size, 1, none⟩ = some (.int .i64 yh_times) := kp hb3 (by go_cell)
        clear hb3 hB2
        go_wp2_with fail
        go_roundw
        case rel => exact ⟨4, by omega, by omega, rfl, rfl, by go_grown, by go_cell, by go_cell, by go_cell, by go_cell, by go_cell, by go_cell⟩
        case measure => simp [intOf]
      · have he2 : (ye_times != 0) = true := by simpa using he
        clear he
        go_wp2_with fail
        refine (HX_times.out _).mono ?_
        rintro e z1 ⟨rfl, hb1⟩
        have hB1 : Below w.heap.size w z1 := below_after (by go_grown) hb1
        have hz1 := hb1.size
        try simp only [World.size_alloc, World.size_setCell, World.size_drew] at hz1
        replace c_a0 : z1.cell? ⟨w.heap.size, 0, none⟩ = some (.int .i64 al) := kp hb1 (by go_cell)
        replace c_a1 : z1.cell? ⟨w.heap.size, 1, none⟩ = some (.int .i64 ah) := kp hb1 (by go_cell)
        replace c_b0 : z1.cell? ⟨w.heap.size + 1, 0, none⟩ = some (.int .i64 bl) := kp hb1 (by go_cell)
        replace c_b1 : z1.cell? ⟨w.heap.size + 1, 1, none⟩ = some (.int .i64 bh) := kp hb1 (by go_cell)
        replace c_c0 : z1.cell? ⟨w4.heap.size, 0, none⟩ = some (.int .i64 cl) := kp hb1 (by go_cell)
        replace c_c1 : z1.cell? ⟨w4.heap.size, 1, none⟩ = some (.int .i64 ch) := kp hb1 (by go_cell)
        clear hb1
        go_wp2_with fail
        refine (HY_times.out _).mono ?_
        rintro e z2 ⟨rfl, hb2⟩
        have hB2 : Below w.heap.size w z2 := below_after (by go_grown) hb2
        have hz2 := hb2.size
        try simp only [World.size_alloc, World.size_setCell, World.size_drew] at hz2
        replace c_a0 : z2.cell? ⟨w.heap.size, 0, none⟩ = some (.int .i64 al) := kp hb2 (by go_cell)
        replace c_a1 : z2.cell? ⟨w.heap.size, 1, none⟩ = some (.int .i64 ah) := kp hb2 (by go_cell)
        replace c_b0 : z2.cell? ⟨w.heap.size + 1, 0, none⟩ = some (.int .i64 bl) := kp hb2 (by go_cell)
        replace c_b1 : z2.cell? ⟨w.heap.size + 1, 1, none⟩ = some (.int .i64 bh) := kp hb2 (by go_cell)
        replace c_c0 : z2.cell? ⟨w4.heap.size, 0, none⟩ = some (.int .i64 cl) := kp hb2 (by go_cell)
        replace c_c1 : z2.cell? ⟨w4.heap.size, 1, none⟩ = some (.int .i64 ch) := kp hb2 (by go_cell)
        have c_x0 : z2.cell? ⟨z1.heap.size, 0, none⟩ = some (.int .i64 xl_times) := kp hb2 (by go_cell)
        have c_x1 : z2.cell? ⟨z1.heap.size, 1, none⟩ = some (.int .i64 xh_times) := kp hb2 (by go_cell)
        clear hb2 hB1
        go_wp2_with fail
        go_roundw
        case rel => exact ⟨4, by omega, by omega, rfl, rfl, by go_grown, by go_cell, by go_cell, by go_cell, by go_cell, by go_cell, by go_cell⟩
        case measure => simp [intOf]
    · go_wp2_with fail
      go_ret
      exact ⟨rfl, by go_grown⟩

theorem wider_walk (al ah bl bh yl yh : Int) (w : World) :
    Calls Try.prog 8 #[.agg #[.int .i64 al, .int .i64 ah], .agg #[.int .i64 bl, .int .i64 bh], .agg #[.int .i64 yl, .int .i64 yh]] w fun e w' => e = .returned (.bool true) ∧ Below w.heap.size w w'  := by
  cases h1 : vld al ah
  · exact wider_no1 al ah bl bh yl yh w h1
  · cases h2 : vld yl yh
    · exact wider_no2 al ah bl bh yl yh w h1 h2
    · exact wider_yes al ah bl bh yl yh w h1 h2

end Go.Proofs.Ytollpjdnahemeaa
