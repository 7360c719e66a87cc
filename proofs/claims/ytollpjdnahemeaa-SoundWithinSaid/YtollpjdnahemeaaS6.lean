import Derived.Test.YtollpjdnahemeaaS5
import Derived.Deep.RegionHeld3
import Derived.Deep.DrawnRows
namespace Go.Proofs.Ytollpjdnahemeaa
open Go.RowKit
set_option linter.unusedSimpArgs false
set_option linter.unusedVariables false
attribute [local go_sem ↓] Go.wp_at_zero Go.wp_at_succ

set_option maxHeartbeats 400000 in
theorem RTimes_no (sl sh pl ph : Int) (w : World) (h : (vld sl sh && partsB pl ph) = false) :
    Calls Try.prog 45 #[.agg #[.int .i64 sl, .int .i64 sh], .agg #[.int .i64 pl, .int .i64 ph]] w fun e w' => e = .returned (.tuple #[.agg #[.int .i64 (timesS sl sh pl ph).1, .int .i64 (timesS sl sh pl ph).2.1], .int .i64 (timesS sl sh pl ph).2.2]) ∧ Below w.heap.size w w' := by
  have hr : timesS sl sh pl ph = (0, 0, 1) := by simp [timesS, h]
  have HR := Lib.hid hr
  have H1 := fun w => RValid_any sl sh w
  have H2 := fun w => Parts_any pl ph w
  generalize vld sl sh = x at *
  generalize partsB pl ph = y at *
  have HV1 := Lib.hid H1
  have HV2 := Lib.hid H2
  have HH := Lib.hid h
  clear hr H1 H2 h
  cases x <;> cases y
  all_goals first | (exact absurd HH.out (by decide)) | skip
  all_goals
    clear HH
    go_enter Try.func45, Try.ntmps45
    go_wp2_with fail
    refine (HV1.out _).mono ?_
    rintro e w1 ⟨rfl, hb1⟩
    have hB1 : Below w.heap.size w w1 := below_after (by go_grown) hb1
    have hz1 := hb1.size
    try simp only [World.size_alloc, World.size_setCell, World.size_drew] at hz1
    have c_a0 : w1.cell? ⟨w.heap.size, 0, none⟩ = some (.int .i64 sl) := kp hb1 (by go_cell)
    have c_a1 : w1.cell? ⟨w.heap.size, 1, none⟩ = some (.int .i64 sh) := kp hb1 (by go_cell)
    have c_b0 : w1.cell? ⟨w.heap.size + 1, 0, none⟩ = some (.int .i64 pl) := kp hb1 (by go_cell)
    have c_b1 : w1.cell? ⟨w.heap.size + 1, 1, none⟩ = some (.int .i64 ph) := kp hb1 (by go_cell)
    have f_r0 : w1.frozen? ⟨w.heap.size + 1 + 1, 0, none⟩ = false := kf hb1 (by go_simp) (by go_simp)
    have f_r1 : w1.frozen? ⟨w.heap.size + 1 + 1, 1, none⟩ = false := kf hb1 (by go_simp) (by go_simp)
    have c_r0 : w1.cell? ⟨w.heap.size + 1 + 1, 0, none⟩ = some (.int .i64 0) := kp hb1 (by go_cell)
    have c_r1 : w1.cell? ⟨w.heap.size + 1 + 1, 1, none⟩ = some (.int .i64 0) := kp hb1 (by go_cell)
    clear hb1
    go_wp2_with fail
    refine (HV2.out _).mono ?_
    rintro e w2 ⟨rfl, hb2⟩
    have hB2 : Below w.heap.size w w2 := below_after (by go_grown) hb2
    have hz2 := hb2.size
    try simp only [World.size_alloc, World.size_setCell, World.size_drew] at hz2
    replace c_a0 : w2.cell? ⟨w.heap.size, 0, none⟩ = some (.int .i64 sl) := kp hb2 (by go_cell)
    replace c_a1 : w2.cell? ⟨w.heap.size, 1, none⟩ = some (.int .i64 sh) := kp hb2 (by go_cell)
    replace c_b0 : w2.cell? ⟨w.heap.size + 1, 0, none⟩ = some (.int .i64 pl) := kp hb2 (by go_cell)
    replace c_b1 : w2.cell? ⟨w.heap.size + 1, 1, none⟩ = some (.int .i64 ph) := kp hb2 (by go_cell)
    replace f_r0 : w2.frozen? ⟨w.heap.size + 1 + 1, 0, none⟩ = false := kf hb2 (by go_simp) (by go_simp)
    replace f_r1 : w2.frozen? ⟨w.heap.size + 1 + 1, 1, none⟩ = false := kf hb2 (by go_simp) (by go_simp)
    replace c_r0 : w2.cell? ⟨w.heap.size + 1 + 1, 0, none⟩ = some (.int .i64 0) := kp hb2 (by go_cell)
    replace c_r1 : w2.cell? ⟨w.heap.size + 1 + 1, 1, none⟩ = some (.int .i64 0) := kp hb2 (by go_cell)
    clear hb2 hB1
    go_wp2_with fail
    rw [HR.out]
    refine ret_span (B := w.heap.size + 1 + 1) rfl rfl rfl (set2s _ _ (by go_simp) (by go_simp)) ⟨rfl, ?_⟩
    go_grown

set_option maxHeartbeats 400000 in
theorem RTimes_yes (sl sh pl ph : Int) (w : World) (h : (vld sl sh && partsB pl ph) = true) :
    Calls Try.prog 45 #[.agg #[.int .i64 sl, .int .i64 sh], .agg #[.int .i64 pl, .int .i64 ph]] w fun e w' => e = .returned (.tuple #[.agg #[.int .i64 (timesS sl sh pl ph).1, .int .i64 (timesS sl sh pl ph).2.1], .int .i64 (timesS sl sh pl ph).2.2]) ∧ Below w.heap.size w w' := by
  have hr : timesS sl sh pl ph = leastS (downI (min (sl * pl) (sl * ph))) (upI (max (sh * pl) (sh * ph))) := by simp [timesS, h]
  have H1 := fun w => RValid_any sl sh w
  have H2 := fun w => Parts_any pl ph w
  have h1 := and_left h
  have h2 := and_right h
  have h3 : vld pl ph = true ∧ 0 ≤ pl ∧ ph ≤ 1000000 := by simpa [partsB, and_assoc] using h2
  rw [h1] at H1
  rw [h2] at H2
  have HV1 := Lib.hid H1
  have HV2 := Lib.hid H2
  obtain ⟨h4, hp1, hp2⟩ := h3
  have hs := vld_bounds h1
  have hp := vld_bounds h4
  obtain ⟨s1, s2, s3⟩ := hs
  obtain ⟨p1, p2, p3⟩ := hp
  clear H1 H2 h h1 h2 h4
  have b1 := prod_bounds (x := sl) (p := pl) (by omega) (by omega) hp1 (by omega)
  have b2 := prod_bounds (x := sh) (p := pl) (by omega) (by omega) hp1 (by omega)
  have b3 := prod_bounds (x := sl) (p := ph) (by omega) (by omega) (by omega) hp2
  have b4 := prod_bounds (x := sh) (p := ph) (by omega) (by omega) (by omega) hp2
  obtain ⟨b11, b12⟩ := b1
  obtain ⟨b21, b22⟩ := b2
  obtain ⟨b31, b32⟩ := b3
  obtain ⟨b41, b42⟩ := b4
  by_cases h1 : sl * ph < sl * pl
  · by_cases h2 : sh * pl < sh * ph
    · have hr2 : timesS sl sh pl ph = leastS ((sl * ph) / 1000) (-(-(sh * ph) / 1000)) := by
        rw [hr, show min (sl * pl) (sl * ph) = sl * ph by omega, show max (sh * pl) (sh * ph) = sh * ph by omega]; rfl
      have HR := Lib.hid hr2
      clear hr hr2
      go_enter Try.func45, Try.ntmps45
      go_wp2_with fail
      refine (HV1.out _).mono ?_
      rintro e w1 ⟨rfl, hb1⟩
      have hB1 : Below w.heap.size w w1 := below_after (by go_grown) hb1
      have hz1 := hb1.size
      try simp only [World.size_alloc, World.size_setCell, World.size_drew] at hz1
      have c_a0 : w1.cell? ⟨w.heap.size, 0, none⟩ = some (.int .i64 sl) := kp hb1 (by go_cell)
      have c_a1 : w1.cell? ⟨w.heap.size, 1, none⟩ = some (.int .i64 sh) := kp hb1 (by go_cell)
      have c_b0 : w1.cell? ⟨w.heap.size + 1, 0, none⟩ = some (.int .i64 pl) := kp hb1 (by go_cell)
      have c_b1 : w1.cell? ⟨w.heap.size + 1, 1, none⟩ = some (.int .i64 ph) := kp hb1 (by go_cell)
      have f_r0 : w1.frozen? ⟨w.heap.size + 1 + 1, 0, none⟩ = false := kf hb1 (by go_simp) (by go_simp)
      have f_r1 : w1.frozen? ⟨w.heap.size + 1 + 1, 1, none⟩ = false := kf hb1 (by go_simp) (by go_simp)
      have c_r0 : w1.cell? ⟨w.heap.size + 1 + 1, 0, none⟩ = some (.int .i64 0) := kp hb1 (by go_cell)
      have c_r1 : w1.cell? ⟨w.heap.size + 1 + 1, 1, none⟩ = some (.int .i64 0) := kp hb1 (by go_cell)
      clear hb1
      go_wp2_with fail
      refine (HV2.out _).mono ?_
      rintro e w2 ⟨rfl, hb2⟩
      have hB2 : Below w.heap.size w w2 := below_after (by go_grown) hb2
      have hz2 := hb2.size
      try simp only [World.size_alloc, World.size_setCell, World.size_drew] at hz2
      replace c_a0 : w2.cell? ⟨w.heap.size, 0, none⟩ = some (.int .i64 sl) := kp hb2 (by go_cell)
      replace c_a1 : w2.cell? ⟨w.heap.size, 1, none⟩ = some (.int .i64 sh) := kp hb2 (by go_cell)
      replace c_b0 : w2.cell? ⟨w.heap.size + 1, 0, none⟩ = some (.int .i64 pl) := kp hb2 (by go_cell)
      replace c_b1 : w2.cell? ⟨w.heap.size + 1, 1, none⟩ = some (.int .i64 ph) := kp hb2 (by go_cell)
      replace f_r0 : w2.frozen? ⟨w.heap.size + 1 + 1, 0, none⟩ = false := kf hb2 (by go_simp) (by go_simp)
      replace f_r1 : w2.frozen? ⟨w.heap.size + 1 + 1, 1, none⟩ = false := kf hb2 (by go_simp) (by go_simp)
      replace c_r0 : w2.cell? ⟨w.heap.size + 1 + 1, 0, none⟩ = some (.int .i64 0) := kp hb2 (by go_cell)
      replace c_r1 : w2.cell? ⟨w.heap.size + 1 + 1, 1, none⟩ = some (.int .i64 0) := kp hb2 (by go_cell)
      clear hb2 hB1
      go_wp2_with fail
      refine (Floor_any (sl * ph) 1000 _ (by omega) (by omega) (by omega) (by omega)).mono ?_
      rintro e w0 ⟨rfl, rfl⟩
      go_wp2_with fail
      refine (Ceil_any (sh * ph) 1000 _ (by omega) (by omega) (by omega) (by omega)).mono ?_
      rintro e w0 ⟨rfl, rfl⟩
      go_wp2_with fail
      refine (result_any ((sl * ph) / 1000) (-(-(sh * ph) / 1000)) _).mono ?_
      rintro e w3 ⟨rfl, hb3⟩
      have hB3 : Below w.heap.size w w3 := below_after (by go_grown) hb3
      have hz3 := hb3.size
      try simp only [World.size_alloc, World.size_setCell, World.size_drew] at hz3
      replace f_r0 : w3.frozen? ⟨w.heap.size + 1 + 1, 0, none⟩ = false := kf hb3 (by go_simp) (by go_simp)
      replace f_r1 : w3.frozen? ⟨w.heap.size + 1 + 1, 1, none⟩ = false := kf hb3 (by go_simp) (by go_simp)
      replace c_r0 : w3.cell? ⟨w.heap.size + 1 + 1, 0, none⟩ = some (.int .i64 0) := kp hb3 (by go_cell)
      replace c_r1 : w3.cell? ⟨w.heap.size + 1 + 1, 1, none⟩ = some (.int .i64 0) := kp hb3 (by go_cell)
      clear hb3 hB2
      go_wp2_with fail
      rw [HR.out]
      refine ret_span (B := w.heap.size + 1 + 1) rfl rfl rfl (set2s _ _ (by go_simp) (by go_simp)) ⟨rfl, ?_⟩
      go_grown
    · have hr2 : timesS sl sh pl ph = leastS ((sl * ph) / 1000) (-(-(sh * pl) / 1000)) := by
        rw [hr, show min (sl * pl) (sl * ph) = sl * ph by omega, show max (sh * pl) (sh * ph) = sh * pl by omega]; rfl
      have HR := Lib.hid hr2
      clear hr hr2
      go_enter Try.func45, Try.ntmps45
      go_wp2_with fail
      refine (HV1.out _).mono ?_
      rintro e w1 ⟨rfl, hb1⟩
      have hB1 : Below w.heap.size w w1 := below_after (by go_grown) hb1
      have hz1 := hb1.size
      try simp only [World.size_alloc, World.size_setCell, World.size_drew] at hz1
      have c_a0 : w1.cell? ⟨w.heap.size, 0, none⟩ = some (.int .i64 sl) := kp hb1 (by go_cell)
      have c_a1 : w1.cell? ⟨w.heap.size, 1, none⟩ = some (.int .i64 sh) := kp hb1 (by go_cell)
      have c_b0 : w1.cell? ⟨w.heap.size + 1, 0, none⟩ = some (.int .i64 pl) := kp hb1 (by go_cell)
      have c_b1 : w1.cell? ⟨w.heap.size + 1, 1, none⟩ = some (.int .i64 ph) := kp hb1 (by go_cell)
      have f_r0 : w1.frozen? ⟨w.heap.size + 1 + 1, 0, none⟩ = false := kf hb1 (by go_simp) (by go_simp)
      have f_r1 : w1.frozen? ⟨w.heap.size + 1 + 1, 1, none⟩ = false := kf hb1 (by go_simp) (by go_simp)
      have c_r0 : w1.cell? ⟨w.heap.size + 1 + 1, 0, none⟩ = some (.int .i64 0) := kp hb1 (by go_cell)
      have c_r1 : w1.cell? ⟨w.heap.size + 1 + 1, 1, none⟩ = some (.int .i64 0) := kp hb1 (by go_cell)
      clear hb1
      go_wp2_with fail
      refine (HV2.out _).mono ?_
      rintro e w2 ⟨rfl, hb2⟩
      have hB2 : Below w.heap.size w w2 := below_after (by go_grown) hb2
      have hz2 := hb2.size
      try simp only [World.size_alloc, World.size_setCell, World.size_drew] at hz2
      replace c_a0 : w2.cell? ⟨w.heap.size, 0, none⟩ = some (.int .i64 sl) := kp hb2 (by go_cell)
      replace c_a1 : w2.cell? ⟨w.heap.size, 1, none⟩ = some (.int .i64 sh) := kp hb2 (by go_cell)
      replace c_b0 : w2.cell? ⟨w.heap.size + 1, 0, none⟩ = some (.int .i64 pl) := kp hb2 (by go_cell)
      replace c_b1 : w2.cell? ⟨w.heap.size + 1, 1, none⟩ = some (.int .i64 ph) := kp hb2 (by go_cell)
      replace f_r0 : w2.frozen? ⟨w.heap.size + 1 + 1, 0, none⟩ = false := kf hb2 (by go_simp) (by go_simp)
      replace f_r1 : w2.frozen? ⟨w.heap.size + 1 + 1, 1, none⟩ = false := kf hb2 (by go_simp) (by go_simp)
      replace c_r0 : w2.cell? ⟨w.heap.size + 1 + 1, 0, none⟩ = some (.int .i64 0) := kp hb2 (by go_cell)
      replace c_r1 : w2.cell? ⟨w.heap.size + 1 + 1, 1, none⟩ = some (.int .i64 0) := kp hb2 (by go_cell)
      clear hb2 hB1
      go_wp2_with fail
      refine (Floor_any (sl * ph) 1000 _ (by omega) (by omega) (by omega) (by omega)).mono ?_
      rintro e w0 ⟨rfl, rfl⟩
      go_wp2_with fail
      refine (Ceil_any (sh * pl) 1000 _ (by omega) (by omega) (by omega) (by omega)).mono ?_
      rintro e w0 ⟨rfl, rfl⟩
      go_wp2_with fail
      refine (result_any ((sl * ph) / 1000) (-(-(sh * pl) / 1000)) _).mono ?_
      rintro e w3 ⟨rfl, hb3⟩
      have hB3 : Below w.heap.size w w3 := below_after (by go_grown) hb3
      have hz3 := hb3.size
      try simp only [World.size_alloc, World.size_setCell, World.size_drew] at hz3
      replace f_r0 : w3.frozen? ⟨w.heap.size + 1 + 1, 0, none⟩ = false := kf hb3 (by go_simp) (by go_simp)
      replace f_r1 : w3.frozen? ⟨w.heap.size + 1 + 1, 1, none⟩ = false := kf hb3 (by go_simp) (by go_simp)
      replace c_r0 : w3.cell? ⟨w.heap.size + 1 + 1, 0, none⟩ = some (.int .i64 0) := kp hb3 (by go_cell)
      replace c_r1 : w3.cell? ⟨w.heap.size + 1 + 1, 1, none⟩ = some (.int .i64 0) := kp hb3 (by go_cell)
      clear hb3 hB2
      go_wp2_with fail
      rw [HR.out]
      refine ret_span (B := w.heap.size + 1 + 1) rfl rfl rfl (set2s _ _ (by go_simp) (by go_simp)) ⟨rfl, ?_⟩
      go_grown
  · by_cases h2 : sh * pl < sh * ph
    · have hr2 : timesS sl sh pl ph = leastS ((sl * pl) / 1000) (-(-(sh * ph) / 1000)) := by
        rw [hr, show min (sl * pl) (sl * ph) = sl * pl by omega, show max (sh * pl) (sh * ph) = sh * ph by omega]; rfl
      have HR := Lib.hid hr2
      clear hr hr2
      go_enter Try.func45, Try.ntmps45
      go_wp2_with fail
      refine (HV1.out _).mono ?_
      rintro e w1 ⟨rfl, hb1⟩
      have hB1 : Below w.heap.size w w1 := below_after (by go_grown) hb1
      have hz1 := hb1.size
      try simp only [World.size_alloc, World.size_setCell, World.size_drew] at hz1
      have c_a0 : w1.cell? ⟨w.heap.size, 0, none⟩ = some (.int .i64 sl) := kp hb1 (by go_cell)
      have c_a1 : w1.cell? ⟨w.heap.size, 1, none⟩ = some (.int .i64 sh) := kp hb1 (by go_cell)
      have c_b0 : w1.cell? ⟨w.heap.size + 1, 0, none⟩ = some (.int .i64 pl) := kp hb1 (by go_cell)
      have c_b1 : w1.cell? ⟨w.heap.size + 1, 1, none⟩ = some (.int .i64 ph) := kp hb1 (by go_cell)
      have f_r0 : w1.frozen? ⟨w.heap.size + 1 + 1, 0, none⟩ = false := kf hb1 (by go_simp) (by go_simp)
      have f_r1 : w1.frozen? ⟨w.heap.size + 1 + 1, 1, none⟩ = false := kf hb1 (by go_simp) (by go_simp)
      have c_r0 : w1.cell? ⟨w.heap.size + 1 + 1, 0, none⟩ = some (.int .i64 0) := kp hb1 (by go_cell)
      have c_r1 : w1.cell? ⟨w.heap.size + 1 + 1, 1, none⟩ = some (.int .i64 0) := kp hb1 (by go_cell)
      clear hb1
      go_wp2_with fail
      refine (HV2.out _).mono ?_
      rintro e w2 ⟨rfl, hb2⟩
      have hB2 : Below w.heap.size w w2 := below_after (by go_grown) hb2
      have hz2 := hb2.size
      try simp only [World.size_alloc, World.size_setCell, World.size_drew] at hz2
      replace c_a0 : w2.cell? ⟨w.heap.size, 0, none⟩ = some (.int .i64 sl) := kp hb2 (by go_cell)
      replace c_a1 : w2.cell? ⟨w.heap.size, 1, none⟩ = some (.int .i64 sh) := kp hb2 (by go_cell)
      replace c_b0 : w2.cell? ⟨w.heap.size + 1, 0, none⟩ = some (.int .i64 pl) := kp hb2 (by go_cell)
      replace c_b1 : w2.cell? ⟨w.heap.size + 1, 1, none⟩ = some (.int .i64 ph) := kp hb2 (by go_cell)
      replace f_r0 : w2.frozen? ⟨w.heap.size + 1 + 1, 0, none⟩ = false := kf hb2 (by go_simp) (by go_simp)
      replace f_r1 : w2.frozen? ⟨w.heap.size + 1 + 1, 1, none⟩ = false := kf hb2 (by go_simp) (by go_simp)
      replace c_r0 : w2.cell? ⟨w.heap.size + 1 + 1, 0, none⟩ = some (.int .i64 0) := kp hb2 (by go_cell)
      replace c_r1 : w2.cell? ⟨w.heap.size + 1 + 1, 1, none⟩ = some (.int .i64 0) := kp hb2 (by go_cell)
      clear hb2 hB1
      go_wp2_with fail
      refine (Floor_any (sl * pl) 1000 _ (by omega) (by omega) (by omega) (by omega)).mono ?_
      rintro e w0 ⟨rfl, rfl⟩
      go_wp2_with fail
      refine (Ceil_any (sh * ph) 1000 _ (by omega) (by omega) (by omega) (by omega)).mono ?_
      rintro e w0 ⟨rfl, rfl⟩
      go_wp2_with fail
      refine (result_any ((sl * pl) / 1000) (-(-(sh * ph) / 1000)) _).mono ?_
      rintro e w3 ⟨rfl, hb3⟩
      have hB3 : Below w.heap.size w w3 := below_after (by go_grown) hb3
      have hz3 := hb3.size
      try simp only [World.size_alloc, World.size_setCell, World.size_drew] at hz3
      replace f_r0 : w3.frozen? ⟨w.heap.size + 1 + 1, 0, none⟩ = false := kf hb3 (by go_simp) (by go_simp)
      replace f_r1 : w3.frozen? ⟨w.heap.size + 1 + 1, 1, none⟩ = false := kf hb3 (by go_simp) (by go_simp)
      replace c_r0 : w3.cell? ⟨w.heap.size + 1 + 1, 0, none⟩ = some (.int .i64 0) := kp hb3 (by go_cell)
      replace c_r1 : w3.cell? ⟨w.heap.size + 1 + 1, 1, none⟩ = some (.int .i64 0) := kp hb3 (by go_cell)
      clear hb3 hB2
      go_wp2_with fail
      rw [HR.out]
      refine ret_span (B := w.heap.size + 1 + 1) rfl rfl rfl (set2s _ _ (by go_simp) (by go_simp)) ⟨rfl, ?_⟩
      go_grown
    · have hr2 : timesS sl sh pl ph = leastS ((sl * pl) / 1000) (-(-(sh * pl) / 1000)) := by
        rw [hr, show min (sl * pl) (sl * ph) = sl * pl by omega, show max (sh * pl) (sh * ph) = sh * pl by omega]; rfl
      have HR := Lib.hid hr2
      clear hr hr2
      go_enter Try.func45, Try.ntmps45
      go_wp2_with fail
      refine (HV1.out _).mono ?_
      rintro e w1 ⟨rfl, hb1⟩
      have hB1 : Below w.heap.size w w1 := below_after (by go_grown) hb1
      have hz1 := hb1.size
      try simp only [World.size_alloc, World.size_setCell, World.size_drew] at hz1
      have c_a0 : w1.cell? ⟨w.heap.size, 0, none⟩ = some (.int .i64 sl) := kp hb1 (by go_cell)
      have c_a1 : w1.cell? ⟨w.heap.size, 1, none⟩ = some (.int .i64 sh) := kp hb1 (by go_cell)
      have c_b0 : w1.cell? ⟨w.heap.size + 1, 0, none⟩ = some (.int .i64 pl) := kp hb1 (by go_cell)
      have c_b1 : w1.cell? ⟨w.heap.size + 1, 1, none⟩ = some (.int .i64 ph) := kp hb1 (by go_cell)
      have f_r0 : w1.frozen? ⟨w.heap.size + 1 + 1, 0, none⟩ = false := kf hb1 (by go_simp) (by go_simp)
      have f_r1 : w1.frozen? ⟨w.heap.size + 1 + 1, 1, none⟩ = false := kf hb1 (by go_simp) (by go_simp)
      have c_r0 : w1.cell? ⟨w.heap.size + 1 + 1, 0, none⟩ = some (.int .i64 0) := kp hb1 (by go_cell)
      have c_r1 : w1.cell? ⟨w.heap.size + 1 + 1, 1, none⟩ = some (.int .i64 0) := kp hb1 (by go_cell)
      clear hb1
      go_wp2_with fail
      refine (HV2.out _).mono ?_
      rintro e w2 ⟨rfl, hb2⟩
      have hB2 : Below w.heap.size w w2 := below_after (by go_grown) hb2
      have hz2 := hb2.size
      try simp only [World.size_alloc, World.size_setCell, World.size_drew] at hz2
      replace c_a0 : w2.cell? ⟨w.heap.size, 0, none⟩ = some (.int .i64 sl) := kp hb2 (by go_cell)
      replace c_a1 : w2.cell? ⟨w.heap.size, 1, none⟩ = some (.int .i64 sh) := kp hb2 (by go_cell)
      replace c_b0 : w2.cell? ⟨w.heap.size + 1, 0, none⟩ = some (.int .i64 pl) := kp hb2 (by go_cell)
      replace c_b1 : w2.cell? ⟨w.heap.size + 1, 1, none⟩ = some (.int .i64 ph) := kp hb2 (by go_cell)
      replace f_r0 : w2.frozen? ⟨w.heap.size + 1 + 1, 0, none⟩ = false := kf hb2 (by go_simp) (by go_simp)
      replace f_r1 : w2.frozen? ⟨w.heap.size + 1 + 1, 1, none⟩ = false := kf hb2 (by go_simp) (by go_simp)
      replace c_r0 : w2.cell? ⟨w.heap.size + 1 + 1, 0, none⟩ = some (.int .i64 0) := kp hb2 (by go_cell)
      replace c_r1 : w2.cell? ⟨w.heap.size + 1 + 1, 1, none⟩ = some (.int .i64 0) := kp hb2 (by go_cell)
      clear hb2 hB1
      go_wp2_with fail
      refine (Floor_any (sl * pl) 1000 _ (by omega) (by omega) (by omega) (by omega)).mono ?_
      rintro e w0 ⟨rfl, rfl⟩
      go_wp2_with fail
      refine (Ceil_any (sh * pl) 1000 _ (by omega) (by omega) (by omega) (by omega)).mono ?_
      rintro e w0 ⟨rfl, rfl⟩
      go_wp2_with fail
      refine (result_any ((sl * pl) / 1000) (-(-(sh * pl) / 1000)) _).mono ?_
      rintro e w3 ⟨rfl, hb3⟩
      have hB3 : Below w.heap.size w w3 := below_after (by go_grown) hb3
      have hz3 := hb3.size
      try simp only [World.size_alloc, World.size_setCell, World.size_drew] at hz3
      replace f_r0 : w3.frozen? ⟨w.heap.size + 1 + 1, 0, none⟩ = false := kf hb3 (by go_simp) (by go_simp)
      replace f_r1 : w3.frozen? ⟨w.heap.size + 1 + 1, 1, none⟩ = false := kf hb3 (by go_simp) (by go_simp)
      replace c_r0 : w3.cell? ⟨w.heap.size + 1 + 1, 0, none⟩ = some (.int .i64 0) := kp hb3 (by go_cell)
      replace c_r1 : w3.cell? ⟨w.heap.size + 1 + 1, 1, none⟩ = some (.int .i64 0) := kp hb3 (by go_cell)
      clear hb3 hB2
      go_wp2_with fail
      rw [HR.out]
      refine ret_span (B := w.heap.size + 1 + 1) rfl rfl rfl (set2s _ _ (by go_simp) (by go_simp)) ⟨rfl, ?_⟩
      go_grown

theorem RTimes_any (sl sh pl ph : Int) (w : World) :
    Calls Try.prog 45 #[.agg #[.int .i64 sl, .int .i64 sh], .agg #[.int .i64 pl, .int .i64 ph]] w fun e w' => e = .returned (.tuple #[.agg #[.int .i64 (timesS sl sh pl ph).1, .int .i64 (timesS sl sh pl ph).2.1], .int .i64 (timesS sl sh pl ph).2.2]) ∧ Below w.heap.size w w' := by
  cases h : (vld sl sh && partsB pl ph)
  · exact RTimes_no sl sh pl ph w h
  · exact RTimes_yes sl sh pl ph w h

end Go.Proofs.Ytollpjdnahemeaa
