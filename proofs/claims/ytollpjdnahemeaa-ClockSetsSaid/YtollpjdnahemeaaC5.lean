import Derived.Test.YtollpjdnahemeaaC4
import Derived.Deep.DeepCutAuto
namespace Go.Proofs.Ytollpjdnahemeaa
open Go.RowKit
set_option linter.unusedSimpArgs false
set_option linter.unusedVariables false
attribute [local go_sem ↓] Go.wp_at_zero Go.wp_at_succ

/-- a clock after the true time was seen: the clock, whether it is set, the error -/
def setS (t lo hi dr r sl sh : Int) : (Int × Int × Int × Int) × Bool × Int :=
  if clkB t lo hi dr && readB r && vld sl sh then
    (if min (atHi t hi dr r) sh < max (atLo t lo dr r) sl then ((0, 0, 0, 0), false, 0)
    else if clkB r (max (atLo t lo dr r) sl - r) (min (atHi t hi dr r) sh - r) dr then ((r, max (atLo t lo dr r) sl - r, min (atHi t hi dr r) sh - r, dr), true, 0)
    else ((0, 0, 0, 0), false, 3))
  else ((0, 0, 0, 0), false, 1)

theorem ret_clock_bool {R : Ending → World → Prop} {fn : Func} {p u t : Tmp} {a : Act} {w : World} {B : Nat} {v0 v1 v2 v3 : Int} (hres : fn.results = #[.cell p 45, .tmp u, .tmp t]) (hd : a.defers = [])
    (hp : a.tmps.getD p undef = .pointer (some ⟨B, 0, none⟩)) (c0 : w.cell? ⟨B, 0, none⟩ = some (.int .i64 v0)) (c1 : w.cell? ⟨B, 1, none⟩ = some (.int .i64 v1)) (c2 : w.cell? ⟨B, 2, none⟩ = some (.int .i64 v2)) (c3 : w.cell? ⟨B, 3, none⟩ = some (.int .i64 v3))
    (hR : R (.returned (.tuple #[.agg #[.int .i64 v0, .int .i64 v1, .int .i64 v2, .int .i64 v3], a.tmps.getD u undef, a.tmps.getD t undef])) w) : bodyPost Try.prog fn R .ret a w := by
  refine bodyPost_ret (v := .tuple #[.agg #[.int .i64 v0, .int .i64 v1, .int .i64 v2, .int .i64 v3], a.tmps.getD u undef, a.tmps.getD t undef]) ?_ hd hR
  have hp' : a.tmps[p]?.getD undef = .pointer (some ⟨B, 0, none⟩) := by simpa using hp
  simp only [results, hres]
  simp [Sem.run_bind, Result.andThen, hp', go_sem, c0, c1, c2, c3]
theorem set4s {w : World} {B : Nat} (v0 v1 v2 v3 : Value) (h0 : (w.cell? ⟨B, 0, none⟩).isSome = true) (h1 : (w.cell? ⟨B, 1, none⟩).isSome = true) (h2 : (w.cell? ⟨B, 2, none⟩).isSome = true) (h3 : (w.cell? ⟨B, 3, none⟩).isSome = true) :
    ((((w.setCell ⟨B, 0, none⟩ v0).setCell ⟨B, 1, none⟩ v1).setCell ⟨B, 2, none⟩ v2).setCell ⟨B, 3, none⟩ v3).cell? ⟨B, 0, none⟩ = some v0 ∧
    ((((w.setCell ⟨B, 0, none⟩ v0).setCell ⟨B, 1, none⟩ v1).setCell ⟨B, 2, none⟩ v2).setCell ⟨B, 3, none⟩ v3).cell? ⟨B, 1, none⟩ = some v1 ∧
    ((((w.setCell ⟨B, 0, none⟩ v0).setCell ⟨B, 1, none⟩ v1).setCell ⟨B, 2, none⟩ v2).setCell ⟨B, 3, none⟩ v3).cell? ⟨B, 2, none⟩ = some v2 ∧
    ((((w.setCell ⟨B, 0, none⟩ v0).setCell ⟨B, 1, none⟩ v1).setCell ⟨B, 2, none⟩ v2).setCell ⟨B, 3, none⟩ v3).cell? ⟨B, 3, none⟩ = some v3 := by
  obtain ⟨x0, h0⟩ := Option.isSome_iff_exists.1 h0
  obtain ⟨x1, h1⟩ := Option.isSome_iff_exists.1 h1
  obtain ⟨x2, h2⟩ := Option.isSome_iff_exists.1 h2
  obtain ⟨x3, h3⟩ := Option.isSome_iff_exists.1 h3
  have ne : ∀ i j v (W : World), i ≠ j → (W.setCell ⟨B, i, none⟩ v).cell? ⟨B, j, none⟩ = W.cell? ⟨B, j, none⟩ := fun i j v W h => World.cell?_setCell_other _ _ _ _ (by intro e; exact h (by injection e))
  refine ⟨?_, ?_, ?_, ?_⟩
  · rw [ne _ _ _ _ (by omega), ne _ _ _ _ (by omega), ne _ _ _ _ (by omega)]; exact World.cell?_setCell_same _ _ _ h0
  · rw [ne _ _ _ _ (by omega), ne _ _ _ _ (by omega)]; exact World.cell?_setCell_same _ _ _ (u := x1) (by rw [ne _ _ _ _ (by omega)]; exact h1)
  · rw [ne _ _ _ _ (by omega)]; exact World.cell?_setCell_same _ _ _ (u := x2) (by rw [ne _ _ _ _ (by omega), ne _ _ _ _ (by omega)]; exact h2)
  · exact World.cell?_setCell_same _ _ _ (u := x3) (by rw [ne _ _ _ _ (by omega), ne _ _ _ _ (by omega), ne _ _ _ _ (by omega)]; exact h3)
theorem atLo_bounds {t lo hi dr r : Int} (h : clkB t lo hi dr = true) (h2 : readB r = true) : -2000000 ≤ atLo t lo dr r ∧ atLo t lo dr r ≤ atHi t hi dr r ∧ atHi t hi dr r ≤ 1002000000 := by
  obtain ⟨a1, a2⟩ := wrongI_bounds h h2
  obtain ⟨t1, t2, r1, r2, o1, o2, o3⟩ := clkB_bounds h
  obtain ⟨q1, q2⟩ := readB_bounds h2
  unfold atLo atHi; omega

set_option maxHeartbeats 1600000 in
set_option maxRecDepth 100000 in
theorem Set_no (t lo hi dr r sl sh : Int) (w : World) (h : (clkB t lo hi dr && readB r && vld sl sh) = false) :
    Calls Try.prog 53 #[.agg #[.int .i64 t, .int .i64 lo, .int .i64 hi, .int .i64 dr], .int .i64 r, .agg #[.int .i64 sl, .int .i64 sh]] w fun e w' => e = .returned (.tuple #[.agg #[.int .i64 (setS t lo hi dr r sl sh).1.1, .int .i64 (setS t lo hi dr r sl sh).1.2.1, .int .i64 (setS t lo hi dr r sl sh).1.2.2.1, .int .i64 (setS t lo hi dr r sl sh).1.2.2.2], .bool (setS t lo hi dr r sl sh).2.1, .int .i64 (setS t lo hi dr r sl sh).2.2]) ∧ Below w.heap.size w w' := by
  have hr : setS t lo hi dr r sl sh = ((0, 0, 0, 0), false, 1) := by simp [setS, h]
  have HR := Lib.hid hr
  have v1 := fun w => CValid_any t lo hi dr w
  have v2 := fun w => Valid_any sl sh w
  have v3 := fun w => isReading_any r w
  generalize clkB t lo hi dr = x at *
  generalize readB r = z at *
  generalize vld sl sh = y at *
  have HV1 := Lib.hid v1
  have HV2 := Lib.hid v2
  have HV3 := Lib.hid v3
  have HH := Lib.hid h
  clear hr v1 v2 v3 h
  cases x
  · go_enter Try.func53, Try.ntmps53
    go_wp2_with fail
    refine (HV1.out _).mono ?_
    rintro e w1 ⟨rfl, hb1⟩
    have hB1 : Below w.heap.size w w1 := below_after (by go_grown) hb1
    have hz1 := hb1.size
    try simp only [World.size_alloc, World.size_setCell, World.size_drew] at hz1
    have hw1 := hB1.size
    have f_r0 : w1.frozen? ⟨w.heap.size + 1 + 1, 0, none⟩ = false := kf hb1 (by go_simp) (by go_simp)
    have f_r1 : w1.frozen? ⟨w.heap.size + 1 + 1, 1, none⟩ = false := kf hb1 (by go_simp) (by go_simp)
    have f_r2 : w1.frozen? ⟨w.heap.size + 1 + 1, 2, none⟩ = false := kf hb1 (by go_simp) (by go_simp)
    have f_r3 : w1.frozen? ⟨w.heap.size + 1 + 1, 3, none⟩ = false := kf hb1 (by go_simp) (by go_simp)
    have c_r0 : w1.cell? ⟨w.heap.size + 1 + 1, 0, none⟩ = some (.int .i64 0) := kp hb1 (by go_cell)
    have c_r1 : w1.cell? ⟨w.heap.size + 1 + 1, 1, none⟩ = some (.int .i64 0) := kp hb1 (by go_cell)
    have c_r2 : w1.cell? ⟨w.heap.size + 1 + 1, 2, none⟩ = some (.int .i64 0) := kp hb1 (by go_cell)
    have c_r3 : w1.cell? ⟨w.heap.size + 1 + 1, 3, none⟩ = some (.int .i64 0) := kp hb1 (by go_cell)
    clear hb1
    go_wp2_with fail
    rw [HR.out]
    refine ret_clock_bool (B := w.heap.size + 1 + 1) rfl rfl rfl (set4s _ _ _ _ (by go_simp) (by go_simp) (by go_simp) (by go_simp)).1 (set4s _ _ _ _ (by go_simp) (by go_simp) (by go_simp) (by go_simp)).2.1 (set4s _ _ _ _ (by go_simp) (by go_simp) (by go_simp) (by go_simp)).2.2.1 (set4s _ _ _ _ (by go_simp) (by go_simp) (by go_simp) (by go_simp)).2.2.2 ⟨rfl, by go_grown⟩
  · cases z
    · go_enter Try.func53, Try.ntmps53
      go_wp2_with fail
      refine (HV1.out _).mono ?_
      rintro e w1 ⟨rfl, hb1⟩
      have hB1 : Below w.heap.size w w1 := below_after (by go_grown) hb1
      have hz1 := hb1.size
      try simp only [World.size_alloc, World.size_setCell, World.size_drew] at hz1
      have hw1 := hB1.size
      have f_r0 : w1.frozen? ⟨w.heap.size + 1 + 1, 0, none⟩ = false := kf hb1 (by go_simp) (by go_simp)
      have f_r1 : w1.frozen? ⟨w.heap.size + 1 + 1, 1, none⟩ = false := kf hb1 (by go_simp) (by go_simp)
      have f_r2 : w1.frozen? ⟨w.heap.size + 1 + 1, 2, none⟩ = false := kf hb1 (by go_simp) (by go_simp)
      have f_r3 : w1.frozen? ⟨w.heap.size + 1 + 1, 3, none⟩ = false := kf hb1 (by go_simp) (by go_simp)
      have c_r0 : w1.cell? ⟨w.heap.size + 1 + 1, 0, none⟩ = some (.int .i64 0) := kp hb1 (by go_cell)
      have c_r1 : w1.cell? ⟨w.heap.size + 1 + 1, 1, none⟩ = some (.int .i64 0) := kp hb1 (by go_cell)
      have c_r2 : w1.cell? ⟨w.heap.size + 1 + 1, 2, none⟩ = some (.int .i64 0) := kp hb1 (by go_cell)
      have c_r3 : w1.cell? ⟨w.heap.size + 1 + 1, 3, none⟩ = some (.int .i64 0) := kp hb1 (by go_cell)
      clear hb1
      go_wp2_with fail
      refine (HV3.out _).mono ?_
      rintro e w9 ⟨rfl, rfl⟩
      go_wp2_with fail
      rw [HR.out]
      refine ret_clock_bool (B := w.heap.size + 1 + 1) rfl rfl rfl (set4s _ _ _ _ (by go_simp) (by go_simp) (by go_simp) (by go_simp)).1 (set4s _ _ _ _ (by go_simp) (by go_simp) (by go_simp) (by go_simp)).2.1 (set4s _ _ _ _ (by go_simp) (by go_simp) (by go_simp) (by go_simp)).2.2.1 (set4s _ _ _ _ (by go_simp) (by go_simp) (by go_simp) (by go_simp)).2.2.2 ⟨rfl, by go_grown⟩
    · cases y
      · go_enter Try.func53, Try.ntmps53
        go_wp2_with fail
        refine (HV1.out _).mono ?_
        rintro e w1 ⟨rfl, hb1⟩
        have hB1 : Below w.heap.size w w1 := below_after (by go_grown) hb1
        have hz1 := hb1.size
        try simp only [World.size_alloc, World.size_setCell, World.size_drew] at hz1
        have hw1 := hB1.size
        have c_s0 : w1.cell? ⟨w.heap.size + 1, 0, none⟩ = some (.int .i64 sl) := kp hb1 (by go_cell)
        have c_s1 : w1.cell? ⟨w.heap.size + 1, 1, none⟩ = some (.int .i64 sh) := kp hb1 (by go_cell)
        have f_r0 : w1.frozen? ⟨w.heap.size + 1 + 1, 0, none⟩ = false := kf hb1 (by go_simp) (by go_simp)
        have f_r1 : w1.frozen? ⟨w.heap.size + 1 + 1, 1, none⟩ = false := kf hb1 (by go_simp) (by go_simp)
        have f_r2 : w1.frozen? ⟨w.heap.size + 1 + 1, 2, none⟩ = false := kf hb1 (by go_simp) (by go_simp)
        have f_r3 : w1.frozen? ⟨w.heap.size + 1 + 1, 3, none⟩ = false := kf hb1 (by go_simp) (by go_simp)
        have c_r0 : w1.cell? ⟨w.heap.size + 1 + 1, 0, none⟩ = some (.int .i64 0) := kp hb1 (by go_cell)
        have c_r1 : w1.cell? ⟨w.heap.size + 1 + 1, 1, none⟩ = some (.int .i64 0) := kp hb1 (by go_cell)
        have c_r2 : w1.cell? ⟨w.heap.size + 1 + 1, 2, none⟩ = some (.int .i64 0) := kp hb1 (by go_cell)
        have c_r3 : w1.cell? ⟨w.heap.size + 1 + 1, 3, none⟩ = some (.int .i64 0) := kp hb1 (by go_cell)
        clear hb1
        go_wp2_with fail
        refine (HV3.out _).mono ?_
        rintro e w9 ⟨rfl, rfl⟩
        go_wp2_with fail
        refine (HV2.out _).mono ?_
        rintro e w2 ⟨rfl, hb2⟩
        have hB2 : Below w.heap.size w w2 := below_after (by go_grown) hb2
        have hz2 := hb2.size
        try simp only [World.size_alloc, World.size_setCell, World.size_drew] at hz2
        have hw2 := hB2.size
        replace c_s0 : w2.cell? ⟨w.heap.size + 1, 0, none⟩ = some (.int .i64 sl) := kp hb2 (by go_cell)
        replace c_s1 : w2.cell? ⟨w.heap.size + 1, 1, none⟩ = some (.int .i64 sh) := kp hb2 (by go_cell)
        replace f_r0 : w2.frozen? ⟨w.heap.size + 1 + 1, 0, none⟩ = false := kf hb2 (by go_simp) (by go_simp)
        replace f_r1 : w2.frozen? ⟨w.heap.size + 1 + 1, 1, none⟩ = false := kf hb2 (by go_simp) (by go_simp)
        replace f_r2 : w2.frozen? ⟨w.heap.size + 1 + 1, 2, none⟩ = false := kf hb2 (by go_simp) (by go_simp)
        replace f_r3 : w2.frozen? ⟨w.heap.size + 1 + 1, 3, none⟩ = false := kf hb2 (by go_simp) (by go_simp)
        replace c_r0 : w2.cell? ⟨w.heap.size + 1 + 1, 0, none⟩ = some (.int .i64 0) := kp hb2 (by go_cell)
        replace c_r1 : w2.cell? ⟨w.heap.size + 1 + 1, 1, none⟩ = some (.int .i64 0) := kp hb2 (by go_cell)
        replace c_r2 : w2.cell? ⟨w.heap.size + 1 + 1, 2, none⟩ = some (.int .i64 0) := kp hb2 (by go_cell)
        replace c_r3 : w2.cell? ⟨w.heap.size + 1 + 1, 3, none⟩ = some (.int .i64 0) := kp hb2 (by go_cell)
        clear hb2 hB1
        go_wp2_with fail
        rw [HR.out]
        refine ret_clock_bool (B := w.heap.size + 1 + 1) rfl rfl rfl (set4s _ _ _ _ (by go_simp) (by go_simp) (by go_simp) (by go_simp)).1 (set4s _ _ _ _ (by go_simp) (by go_simp) (by go_simp) (by go_simp)).2.1 (set4s _ _ _ _ (by go_simp) (by go_simp) (by go_simp) (by go_simp)).2.2.1 (set4s _ _ _ _ (by go_simp) (by go_simp) (by go_simp) (by go_simp)).2.2.2 ⟨rfl, by go_grown⟩
      · exact absurd HH.out (by decide)

set_option maxHeartbeats 1600000 in
set_option maxRecDepth 100000 in
theorem Set_apart (t lo hi dr r sl sh : Int) (w : World) (h : clkB t lo hi dr = true) (h2 : readB r = true) (h3 : vld sl sh = true) (hc : min (atHi t hi dr r) sh < max (atLo t lo dr r) sl) :
    Calls Try.prog 53 #[.agg #[.int .i64 t, .int .i64 lo, .int .i64 hi, .int .i64 dr], .int .i64 r, .agg #[.int .i64 sl, .int .i64 sh]] w fun e w' => e = .returned (.tuple #[.agg #[.int .i64 (setS t lo hi dr r sl sh).1.1, .int .i64 (setS t lo hi dr r sl sh).1.2.1, .int .i64 (setS t lo hi dr r sl sh).1.2.2.1, .int .i64 (setS t lo hi dr r sl sh).1.2.2.2], .bool (setS t lo hi dr r sl sh).2.1, .int .i64 (setS t lo hi dr r sl sh).2.2]) ∧ Below w.heap.size w w' := by
  have v1 := fun w => CValid_any t lo hi dr w
  have v2 := fun w => Valid_any sl sh w
  have v3 := fun w => isReading_any r w
  rw [h] at v1
  rw [h2] at v3
  rw [h3] at v2
  have v4 := fun w => at_any t lo hi dr r w h h2
  obtain ⟨b1, b2, b3⟩ := atLo_bounds h h2
  obtain ⟨t1, t2, r1, r2, o1, o2, o3⟩ := clkB_bounds h
  obtain ⟨q1, q2⟩ := readB_bounds h2
  obtain ⟨k1, k2, k3⟩ := vld_bounds h3
  have v5 := fun w => Meet_any (atLo t lo dr r) (atHi t hi dr r) sl sh w
  have hv : (vld (atLo t lo dr r) (atHi t hi dr r) && vld sl sh) = true := by rw [h3, Bool.and_true]; simp [vld]; omega
  have hm : meetS (atLo t lo dr r) (atHi t hi dr r) sl sh = (0, 0, false, 0) := by rw [meetS, hv, if_pos rfl, if_pos hc]
  rw [hm] at v5
  have hr : setS t lo hi dr r sl sh = ((0, 0, 0, 0), false, 0) := by
    rw [setS, h, h2, h3, if_pos (by rfl), if_pos hc]
  have HR := Lib.hid hr
  generalize atLo t lo dr r = x at *
  generalize atHi t hi dr r = y at *
  have HV1 := Lib.hid v1
  have HV2 := Lib.hid v2
  have HV3 := Lib.hid v3
  have HV4 := Lib.hid v4
  have HV5 := Lib.hid v5
  clear hr hm hv v1 v2 v3 v4 v5 h h2 h3
  go_enter Try.func53, Try.ntmps53
  go_wp2_with fail
  refine (HV1.out _).mono ?_
  rintro e w1 ⟨rfl, hb1⟩
  have hB1 : Below w.heap.size w w1 := below_after (by go_grown) hb1
  have hz1 := hb1.size
  try simp only [World.size_alloc, World.size_setCell, World.size_drew] at hz1
  have hw1 := hB1.size
  have c_c0 : w1.cell? ⟨w.heap.size, 0, none⟩ = some (.int .i64 t) := kp hb1 (by go_cell)
  have c_c1 : w1.cell? ⟨w.heap.size, 1, none⟩ = some (.int .i64 lo) := kp hb1 (by go_cell)
  have c_c2 : w1.cell? ⟨w.heap.size, 2, none⟩ = some (.int .i64 hi) := kp hb1 (by go_cell)
  have c_c3 : w1.cell? ⟨w.heap.size, 3, none⟩ = some (.int .i64 dr) := kp hb1 (by go_cell)
  have c_s0 : w1.cell? ⟨w.heap.size + 1, 0, none⟩ = some (.int .i64 sl) := kp hb1 (by go_cell)
  have c_s1 : w1.cell? ⟨w.heap.size + 1, 1, none⟩ = some (.int .i64 sh) := kp hb1 (by go_cell)
  have f_r0 : w1.frozen? ⟨w.heap.size + 1 + 1, 0, none⟩ = false := kf hb1 (by go_simp) (by go_simp)
  have f_r1 : w1.frozen? ⟨w.heap.size + 1 + 1, 1, none⟩ = false := kf hb1 (by go_simp) (by go_simp)
  have f_r2 : w1.frozen? ⟨w.heap.size + 1 + 1, 2, none⟩ = false := kf hb1 (by go_simp) (by go_simp)
  have f_r3 : w1.frozen? ⟨w.heap.size + 1 + 1, 3, none⟩ = false := kf hb1 (by go_simp) (by go_simp)
  have c_r0 : w1.cell? ⟨w.heap.size + 1 + 1, 0, none⟩ = some (.int .i64 0) := kp hb1 (by go_cell)
  have c_r1 : w1.cell? ⟨w.heap.size + 1 + 1, 1, none⟩ = some (.int .i64 0) := kp hb1 (by go_cell)
  have c_r2 : w1.cell? ⟨w.heap.size + 1 + 1, 2, none⟩ = some (.int .i64 0) := kp hb1 (by go_cell)
  have c_r3 : w1.cell? ⟨w.heap.size + 1 + 1, 3, none⟩ = some (.int .i64 0) := kp hb1 (by go_cell)
  clear hb1
  go_wp2_with fail
  refine (HV3.out _).mono ?_
  rintro e w9 ⟨rfl, rfl⟩
  go_wp2_with fail
  refine (HV2.out _).mono ?_
  rintro e w2 ⟨rfl, hb2⟩
  have hB2 : Below w.heap.size w w2 := below_after (by go_grown) hb2
  have hz2 := hb2.size
  try simp only [World.size_alloc, World.size_setCell, World.size_drew] at hz2
  have hw2 := hB2.size
  replace c_c0 : w2.cell? ⟨w.heap.size, 0, none⟩ = some (.int .i64 t) := kp hb2 (by go_cell)
  replace c_c1 : w2.cell? ⟨w.heap.size, 1, none⟩ = some (.int .i64 lo) := kp hb2 (by go_cell)
  replace c_c2 : w2.cell? ⟨w.heap.size, 2, none⟩ = some (.int .i64 hi) := kp hb2 (by go_cell)
  replace c_c3 : w2.cell? ⟨w.heap.size, 3, none⟩ = some (.int .i64 dr) := kp hb2 (by go_cell)
  replace c_s0 : w2.cell? ⟨w.heap.size + 1, 0, none⟩ = some (.int .i64 sl) := kp hb2 (by go_cell)
  replace c_s1 : w2.cell? ⟨w.heap.size + 1, 1, none⟩ = some (.int .i64 sh) := kp hb2 (by go_cell)
  replace f_r0 : w2.frozen? ⟨w.heap.size + 1 + 1, 0, none⟩ = false := kf hb2 (by go_simp) (by go_simp)
  replace f_r1 : w2.frozen? ⟨w.heap.size + 1 + 1, 1, none⟩ = false := kf hb2 (by go_simp) (by go_simp)
  replace f_r2 : w2.frozen? ⟨w.heap.size + 1 + 1, 2, none⟩ = false := kf hb2 (by go_simp) (by go_simp)
  replace f_r3 : w2.frozen? ⟨w.heap.size + 1 + 1, 3, none⟩ = false := kf hb2 (by go_simp) (by go_simp)
  replace c_r0 : w2.cell? ⟨w.heap.size + 1 + 1, 0, none⟩ = some (.int .i64 0) := kp hb2 (by go_cell)
  replace c_r1 : w2.cell? ⟨w.heap.size + 1 + 1, 1, none⟩ = some (.int .i64 0) := kp hb2 (by go_cell)
  replace c_r2 : w2.cell? ⟨w.heap.size + 1 + 1, 2, none⟩ = some (.int .i64 0) := kp hb2 (by go_cell)
  replace c_r3 : w2.cell? ⟨w.heap.size + 1 + 1, 3, none⟩ = some (.int .i64 0) := kp hb2 (by go_cell)
  clear hb2 hB1
  have HA : Hid (True) := Lib.hid trivial
  go_upto_region 3 with fail
  go_cut [9, 10, 11] (fun s9 s10 s11 wx => ∃ g3 : Nat, s9 = .pointer (some ⟨g3, 0, none⟩) ∧ s10 = .bool false ∧ s11 = .int .i64 0 ∧ wx.cell? ⟨g3, 0, none⟩ = some (.int .i64 0) ∧ wx.cell? ⟨g3, 1, none⟩ = some (.int .i64 0) ∧ w.heap.size ≤ g3 ∧ Below w.heap.size w wx ∧ wx.cell? ⟨w.heap.size, 0, none⟩ = some (.int .i64 t) ∧ wx.cell? ⟨w.heap.size, 1, none⟩ = some (.int .i64 lo) ∧ wx.cell? ⟨w.heap.size, 2, none⟩ = some (.int .i64 hi) ∧ wx.cell? ⟨w.heap.size, 3, none⟩ = some (.int .i64 dr) ∧ wx.cell? ⟨w.heap.size + 1, 0, none⟩ = some (.int .i64 sl) ∧ wx.cell? ⟨w.heap.size + 1, 1, none⟩ = some (.int .i64 sh) ∧ wx.cell? ⟨w.heap.size + 1 + 1, 0, none⟩ = some (.int .i64 0) ∧ wx.cell? ⟨w.heap.size + 1 + 1, 1, none⟩ = some (.int .i64 0) ∧ wx.cell? ⟨w.heap.size + 1 + 1, 2, none⟩ = some (.int .i64 0) ∧ wx.cell? ⟨w.heap.size + 1 + 1, 3, none⟩ = some (.int .i64 0) ∧ wx.frozen? ⟨w.heap.size + 1 + 1, 0, none⟩ = false ∧ wx.frozen? ⟨w.heap.size + 1 + 1, 1, none⟩ = false ∧ wx.frozen? ⟨w.heap.size + 1 + 1, 2, none⟩ = false ∧ wx.frozen? ⟨w.heap.size + 1 + 1, 3, none⟩ = false)
  case first =>
    go_region_held3 (fun w' => Below w.heap.size w w' ∧ w'.cell? ⟨w.heap.size, 0, none⟩ = some (.int .i64 t) ∧ w'.cell? ⟨w.heap.size, 1, none⟩ = some (.int .i64 lo) ∧ w'.cell? ⟨w.heap.size, 2, none⟩ = some (.int .i64 hi) ∧ w'.cell? ⟨w.heap.size, 3, none⟩ = some (.int .i64 dr) ∧ w'.cell? ⟨w.heap.size + 1, 0, none⟩ = some (.int .i64 sl) ∧ w'.cell? ⟨w.heap.size + 1, 1, none⟩ = some (.int .i64 sh) ∧ w'.cell? ⟨w.heap.size + 1 + 1, 0, none⟩ = some (.int .i64 0) ∧ w'.cell? ⟨w.heap.size + 1 + 1, 1, none⟩ = some (.int .i64 0) ∧ w'.cell? ⟨w.heap.size + 1 + 1, 2, none⟩ = some (.int .i64 0) ∧ w'.cell? ⟨w.heap.size + 1 + 1, 3, none⟩ = some (.int .i64 0) ∧ w'.frozen? ⟨w.heap.size + 1 + 1, 0, none⟩ = false ∧ w'.frozen? ⟨w.heap.size + 1 + 1, 1, none⟩ = false ∧ w'.frozen? ⟨w.heap.size + 1 + 1, 2, none⟩ = false ∧ w'.frozen? ⟨w.heap.size + 1 + 1, 3, none⟩ = false)
      ((go_split_ands; refine ⟨?_, ?_, ?_, ?_, ?_, ?_, ?_, ?_, ?_, ?_, ?_, ?_, ?_, ?_, ?_⟩; (focus (first | (with_reducible assumption) | (go_grown; done) | (exact Below.drew (by go_grown)))); (focus (first | (with_reducible assumption) | go_cell | (go_simp; done))); (focus (first | (with_reducible assumption) | go_cell | (go_simp; done))); (focus (first | (with_reducible assumption) | go_cell | (go_simp; done))); (focus (first | (with_reducible assumption) | go_cell | (go_simp; done))); (focus (first | (with_reducible assumption) | go_cell | (go_simp; done))); (focus (first | (with_reducible assumption) | go_cell | (go_simp; done))); (focus (first | (with_reducible assumption) | go_cell | (go_simp; done))); (focus (first | (with_reducible assumption) | go_cell | (go_simp; done))); (focus (first | (with_reducible assumption) | go_cell | (go_simp; done))); (focus (first | (with_reducible assumption) | go_cell | (go_simp; done))); (focus (first | (with_reducible assumption) | go_cell | (go_simp; done))); (focus (first | (with_reducible assumption) | go_cell | (go_simp; done))); (focus (first | (with_reducible assumption) | go_cell | (go_simp; done))); (focus (first | (with_reducible assumption) | go_cell | (go_simp; done)))))
      (first | (go_at_call 78; (with_reducible refine (HV4.out _).mono ?_); rintro e xa ⟨rfl, hba⟩; have hB_xa : Below w.heap.size w xa := below_after (by go_grown) hba; have hw_xa := hB_xa.size; have hz_xa := hba.size; (try simp only [World.size_alloc, World.size_setCell, World.size_drew] at hz_xa); have c_c0_xa : xa.cell? ⟨w.heap.size, 0, none⟩ = some (.int .i64 t) := kp hba (by go_cell); have c_c1_xa : xa.cell? ⟨w.heap.size, 1, none⟩ = some (.int .i64 lo) := kp hba (by go_cell); have c_c2_xa : xa.cell? ⟨w.heap.size, 2, none⟩ = some (.int .i64 hi) := kp hba (by go_cell); have c_c3_xa : xa.cell? ⟨w.heap.size, 3, none⟩ = some (.int .i64 dr) := kp hba (by go_cell); have c_s0_xa : xa.cell? ⟨w.heap.size + 1, 0, none⟩ = some (.int .i64 sl) := kp hba (by go_cell); have c_s1_xa : xa.cell? ⟨w.heap.size + 1, 1, none⟩ = some (.int .i64 sh) := kp hba (by go_cell); have f_r0_xa : xa.frozen? ⟨w.heap.size + 1 + 1, 0, none⟩ = false := kf hba (by go_simp) (by go_simp); have f_r1_xa : xa.frozen? ⟨w.heap.size + 1 + 1, 1, none⟩ = false := kf hba (by go_simp) (by go_simp); have f_r2_xa : xa.frozen? ⟨w.heap.size + 1 + 1, 2, none⟩ = false := kf hba (by go_simp) (by go_simp); have f_r3_xa : xa.frozen? ⟨w.heap.size + 1 + 1, 3, none⟩ = false := kf hba (by go_simp) (by go_simp); have c_r0_xa : xa.cell? ⟨w.heap.size + 1 + 1, 0, none⟩ = some (.int .i64 0) := kp hba (by go_cell); have c_r1_xa : xa.cell? ⟨w.heap.size + 1 + 1, 1, none⟩ = some (.int .i64 0) := kp hba (by go_cell); have c_r2_xa : xa.cell? ⟨w.heap.size + 1 + 1, 2, none⟩ = some (.int .i64 0) := kp hba (by go_cell); have c_r3_xa : xa.cell? ⟨w.heap.size + 1 + 1, 3, none⟩ = some (.int .i64 0) := kp hba (by go_cell); (try (have n0f0_xa : xa.frozen? ⟨w2.heap.size, 0, none⟩ = false := ?_; rotate_left 1; focus (refine kf hba ?_ ?_ <;> (go_simp; done)))); (try (have n0c0_xa : xa.cell? ⟨w2.heap.size, 0, none⟩ = some (.int .i64 0) := ?_; rotate_left 1; focus (refine kp hba ?_; go_cell; done))); (try (have n0f1_xa : xa.frozen? ⟨w2.heap.size, 1, none⟩ = false := ?_; rotate_left 1; focus (refine kf hba ?_ ?_ <;> (go_simp; done)))); (try (have n0c1_xa : xa.cell? ⟨w2.heap.size, 1, none⟩ = some (.int .i64 0) := ?_; rotate_left 1; focus (refine kp hba ?_; go_cell; done)))) | (go_at_call 37; (with_reducible refine (HV5.out _).mono ?_); rintro e xb ⟨rfl, hbb⟩; have hB_xb : Below w.heap.size w xb := below_after (by go_grown) hbb; have hw_xb := hB_xb.size; have hz_xb := hbb.size; (try simp only [World.size_alloc, World.size_setCell, World.size_drew] at hz_xb); have c_c0_xb : xb.cell? ⟨w.heap.size, 0, none⟩ = some (.int .i64 t) := kp hbb (by go_cell); have c_c1_xb : xb.cell? ⟨w.heap.size, 1, none⟩ = some (.int .i64 lo) := kp hbb (by go_cell); have c_c2_xb : xb.cell? ⟨w.heap.size, 2, none⟩ = some (.int .i64 hi) := kp hbb (by go_cell); have c_c3_xb : xb.cell? ⟨w.heap.size, 3, none⟩ = some (.int .i64 dr) := kp hbb (by go_cell); have c_s0_xb : xb.cell? ⟨w.heap.size + 1, 0, none⟩ = some (.int .i64 sl) := kp hbb (by go_cell); have c_s1_xb : xb.cell? ⟨w.heap.size + 1, 1, none⟩ = some (.int .i64 sh) := kp hbb (by go_cell); have f_r0_xb : xb.frozen? ⟨w.heap.size + 1 + 1, 0, none⟩ = false := kf hbb (by go_simp) (by go_simp); have f_r1_xb : xb.frozen? ⟨w.heap.size + 1 + 1, 1, none⟩ = false := kf hbb (by go_simp) (by go_simp); have f_r2_xb : xb.frozen? ⟨w.heap.size + 1 + 1, 2, none⟩ = false := kf hbb (by go_simp) (by go_simp); have f_r3_xb : xb.frozen? ⟨w.heap.size + 1 + 1, 3, none⟩ = false := kf hbb (by go_simp) (by go_simp); have c_r0_xb : xb.cell? ⟨w.heap.size + 1 + 1, 0, none⟩ = some (.int .i64 0) := kp hbb (by go_cell); have c_r1_xb : xb.cell? ⟨w.heap.size + 1 + 1, 1, none⟩ = some (.int .i64 0) := kp hbb (by go_cell); have c_r2_xb : xb.cell? ⟨w.heap.size + 1 + 1, 2, none⟩ = some (.int .i64 0) := kp hbb (by go_cell); have c_r3_xb : xb.cell? ⟨w.heap.size + 1 + 1, 3, none⟩ = some (.int .i64 0) := kp hbb (by go_cell); (try (have n0f0_xb : xb.frozen? ⟨w2.heap.size, 0, none⟩ = false := ?_; rotate_left 1; focus (refine kf hbb ?_ ?_ <;> (go_simp; done)))); (try (have n0c0_xb : xb.cell? ⟨w2.heap.size, 0, none⟩ = some (.int .i64 0) := ?_; rotate_left 1; focus (refine kp hbb ?_; go_cell; done))); (try (have n0f1_xb : xb.frozen? ⟨w2.heap.size, 1, none⟩ = false := ?_; rotate_left 1; focus (refine kf hbb ?_ ?_ <;> (go_simp; done)))); (try (have n0c1_xb : xb.cell? ⟨w2.heap.size, 1, none⟩ = some (.int .i64 0) := ?_; rotate_left 1; focus (refine kp hbb ?_; go_cell; done))); (try (have n1f0_xb : xb.frozen? ⟨xa.heap.size, 0, none⟩ = false := ?_; rotate_left 1; focus (refine kf hbb ?_ ?_ <;> (go_simp; done)))); (try (have n1c0_xb : xb.cell? ⟨xa.heap.size, 0, none⟩ = some (.int .i64 0) := ?_; rotate_left 1; focus (refine kp hbb ?_; go_cell; done))); (try (have n1f1_xb : xb.frozen? ⟨xa.heap.size, 1, none⟩ = false := ?_; rotate_left 1; focus (refine kf hbb ?_ ?_ <;> (go_simp; done)))); (try (have n1c1_xb : xb.cell? ⟨xa.heap.size, 1, none⟩ = some (.int .i64 0) := ?_; rotate_left 1; focus (refine kp hbb ?_; go_cell; done)))))
    all_goals go_split_ands
    all_goals (go_wp2_with fail)
    all_goals go_meet
    all_goals (refine ⟨_, rfl, rfl, rfl, ?_, ?_, ?_, ?_, ?_, ?_, ?_, ?_, ?_, ?_, ?_, ?_, ?_, ?_, ?_, ?_, ?_, ?_⟩ <;> first | (with_reducible assumption) | (go_grown; done) | go_cell | (go_simp; done) | (go_simp; omega))
  case rest =>
    obtain ⟨g3, rfl, rfl, rfl, c_m0, c_m1, hg3, hB3, c_c0, c_c1, c_c2, c_c3, c_s0, c_s1, c_r0, c_r1, c_r2, c_r3, f_r0, f_r1, f_r2, f_r3⟩ := hcut
    have hw3 := hB3.size
    go_wp2_with fail
    rw [HR.out]
    refine ret_clock_bool (B := w.heap.size + 1 + 1) rfl rfl rfl (set4s _ _ _ _ (by go_simp) (by go_simp) (by go_simp) (by go_simp)).1 (set4s _ _ _ _ (by go_simp) (by go_simp) (by go_simp) (by go_simp)).2.1 (set4s _ _ _ _ (by go_simp) (by go_simp) (by go_simp) (by go_simp)).2.2.1 (set4s _ _ _ _ (by go_simp) (by go_simp) (by go_simp) (by go_simp)).2.2.2 ⟨rfl, by go_grown⟩

-- Set met
set_option maxHeartbeats 1600000 in
set_option maxRecDepth 100000 in
theorem Set_eq (t lo hi dr r sl sh : Int) (w : World) (h : clkB t lo hi dr = true) (h2 : readB r = true) (h3 : vld sl sh = true) (hc : ¬ min (atHi t hi dr r) sh < max (atLo t lo dr r) sl) (he : r = t ∧ max (atLo t lo dr r) sl - r = lo ∧ min (atHi t hi dr r) sh - r = hi) :
    Calls Try.prog 53 #[.agg #[.int .i64 t, .int .i64 lo, .int .i64 hi, .int .i64 dr], .int .i64 r, .agg #[.int .i64 sl, .int .i64 sh]] w fun e w' => e = .returned (.tuple #[.agg #[.int .i64 (setS t lo hi dr r sl sh).1.1, .int .i64 (setS t lo hi dr r sl sh).1.2.1, .int .i64 (setS t lo hi dr r sl sh).1.2.2.1, .int .i64 (setS t lo hi dr r sl sh).1.2.2.2], .bool (setS t lo hi dr r sl sh).2.1, .int .i64 (setS t lo hi dr r sl sh).2.2]) ∧ Below w.heap.size w w' := by
  have v1 := fun w => CValid_any t lo hi dr w
  have v2 := fun w => Valid_any sl sh w
  have v3 := fun w => isReading_any r w
  rw [h] at v1
  rw [h2] at v3
  rw [h3] at v2
  have v4 := fun w => at_any t lo hi dr r w h h2
  obtain ⟨b1, b2, b3⟩ := atLo_bounds h h2
  obtain ⟨t1, t2, r1, r2, o1, o2, o3⟩ := clkB_bounds h
  obtain ⟨q1, q2⟩ := readB_bounds h2
  obtain ⟨k1, k2, k3⟩ := vld_bounds h3
  have v5 := fun w => Meet_any (atLo t lo dr r) (atHi t hi dr r) sl sh w
  have hv : (vld (atLo t lo dr r) (atHi t hi dr r) && vld sl sh) = true := by rw [h3, Bool.and_true]; simp [vld]; omega
  have hm : meetS (atLo t lo dr r) (atHi t hi dr r) sl sh = (max (atLo t lo dr r) sl, min (atHi t hi dr r) sh, true, 0) := by rw [meetS, hv, if_pos rfl, if_neg hc]
  rw [hm] at v5
  have hr : setS t lo hi dr r sl sh = ((t, lo, hi, dr), true, 0) := by
    rw [setS, h, h2, h3, if_pos (by rfl), if_neg hc, show clkB r (max (atLo t lo dr r) sl - r) (min (atHi t hi dr r) sh - r) dr = true by rw [he.2.1, he.2.2, he.1, h], if_pos rfl, he.2.1, he.2.2, he.1]
  have HR := Lib.hid hr
  generalize atLo t lo dr r = x at *
  generalize atHi t hi dr r = y at *
  obtain ⟨m1, hm1⟩ : ∃ m1, m1 = max x sl := ⟨_, rfl⟩
  obtain ⟨m2, hm2⟩ : ∃ m2, m2 = min y sh := ⟨_, rfl⟩
  rw [← hm1, ← hm2] at v5 hc
  have j1 : -2000000 ≤ m1 := by omega
  have j2 : m2 ≤ 1002000000 := by omega
  have j3 : m1 ≤ m2 := by omega
  have j4 : m1 ≤ 1000000000000 := by omega
  have j5 : -1000000000000 ≤ m2 := by omega
  have v6 := fun w => Sub_any m1 m2 r r w
  rw [show subS m1 m2 r r = (m1 - r, m2 - r, 0) by
    have e1 : (vld m1 m2 && vld r r) = true := by simp [vld]; omega
    have e2 : vld (m1 - r) (m2 - r) = true := by simp [vld]; omega
    rw [subS, e1, if_pos rfl, leastS, e2, if_pos rfl]] at v6
  have HV6 := Lib.hid v6
  clear v6
  rw [← hm1, ← hm2] at he
  obtain ⟨e1, e2, e3⟩ := he
  have n1 : (r == t) = true := by simp; omega
  have n2 : (m1 - r == lo) = true := by simp; omega
  have n3 : (m2 - r == hi) = true := by simp; omega
  have n4 : (dr == dr) = true := by simp
  have HE1 := Lib.hid e1
  have HE2 := Lib.hid e2
  have HE3 := Lib.hid e3
  clear hm1 hm2 e1 e2 e3
  have HV1 := Lib.hid v1
  have HV2 := Lib.hid v2
  have HV3 := Lib.hid v3
  have HV4 := Lib.hid v4
  have HV5 := Lib.hid v5
  clear hr hm hv v1 v2 v3 v4 v5 h h2 h3
  go_enter Try.func53, Try.ntmps53
  go_wp2_with fail
  refine (HV1.out _).mono ?_
  rintro e w1 ⟨rfl, hb1⟩
  have hB1 : Below w.heap.size w w1 := below_after (by go_grown) hb1
  have hz1 := hb1.size
  try simp only [World.size_alloc, World.size_setCell, World.size_drew] at hz1
  have hw1 := hB1.size
  have c_c0 : w1.cell? ⟨w.heap.size, 0, none⟩ = some (.int .i64 t) := kp hb1 (by go_cell)
  have c_c1 : w1.cell? ⟨w.heap.size, 1, none⟩ = some (.int .i64 lo) := kp hb1 (by go_cell)
  have c_c2 : w1.cell? ⟨w.heap.size, 2, none⟩ = some (.int .i64 hi) := kp hb1 (by go_cell)
  have c_c3 : w1.cell? ⟨w.heap.size, 3, none⟩ = some (.int .i64 dr) := kp hb1 (by go_cell)
  have c_s0 : w1.cell? ⟨w.heap.size + 1, 0, none⟩ = some (.int .i64 sl) := kp hb1 (by go_cell)
  have c_s1 : w1.cell? ⟨w.heap.size + 1, 1, none⟩ = some (.int .i64 sh) := kp hb1 (by go_cell)
  have f_r0 : w1.frozen? ⟨w.heap.size + 1 + 1, 0, none⟩ = false := kf hb1 (by go_simp) (by go_simp)
  have f_r1 : w1.frozen? ⟨w.heap.size + 1 + 1, 1, none⟩ = false := kf hb1 (by go_simp) (by go_simp)
  have f_r2 : w1.frozen? ⟨w.heap.size + 1 + 1, 2, none⟩ = false := kf hb1 (by go_simp) (by go_simp)
  have f_r3 : w1.frozen? ⟨w.heap.size + 1 + 1, 3, none⟩ = false := kf hb1 (by go_simp) (by go_simp)
  have c_r0 : w1.cell? ⟨w.heap.size + 1 + 1, 0, none⟩ = some (.int .i64 0) := kp hb1 (by go_cell)
  have c_r1 : w1.cell? ⟨w.heap.size + 1 + 1, 1, none⟩ = some (.int .i64 0) := kp hb1 (by go_cell)
  have c_r2 : w1.cell? ⟨w.heap.size + 1 + 1, 2, none⟩ = some (.int .i64 0) := kp hb1 (by go_cell)
  have c_r3 : w1.cell? ⟨w.heap.size + 1 + 1, 3, none⟩ = some (.int .i64 0) := kp hb1 (by go_cell)
  clear hb1
  go_wp2_with fail
  refine (HV3.out _).mono ?_
  rintro e w9 ⟨rfl, rfl⟩
  go_wp2_with fail
  refine (HV2.out _).mono ?_
  rintro e w2 ⟨rfl, hb2⟩
  have hB2 : Below w.heap.size w w2 := below_after (by go_grown) hb2
  have hz2 := hb2.size
  try simp only [World.size_alloc, World.size_setCell, World.size_drew] at hz2
  have hw2 := hB2.size
  replace c_c0 : w2.cell? ⟨w.heap.size, 0, none⟩ = some (.int .i64 t) := kp hb2 (by go_cell)
  replace c_c1 : w2.cell? ⟨w.heap.size, 1, none⟩ = some (.int .i64 lo) := kp hb2 (by go_cell)
  replace c_c2 : w2.cell? ⟨w.heap.size, 2, none⟩ = some (.int .i64 hi) := kp hb2 (by go_cell)
  replace c_c3 : w2.cell? ⟨w.heap.size, 3, none⟩ = some (.int .i64 dr) := kp hb2 (by go_cell)
  replace c_s0 : w2.cell? ⟨w.heap.size + 1, 0, none⟩ = some (.int .i64 sl) := kp hb2 (by go_cell)
  replace c_s1 : w2.cell? ⟨w.heap.size + 1, 1, none⟩ = some (.int .i64 sh) := kp hb2 (by go_cell)
  replace f_r0 : w2.frozen? ⟨w.heap.size + 1 + 1, 0, none⟩ = false := kf hb2 (by go_simp) (by go_simp)
  replace f_r1 : w2.frozen? ⟨w.heap.size + 1 + 1, 1, none⟩ = false := kf hb2 (by go_simp) (by go_simp)
  replace f_r2 : w2.frozen? ⟨w.heap.size + 1 + 1, 2, none⟩ = false := kf hb2 (by go_simp) (by go_simp)
  replace f_r3 : w2.frozen? ⟨w.heap.size + 1 + 1, 3, none⟩ = false := kf hb2 (by go_simp) (by go_simp)
  replace c_r0 : w2.cell? ⟨w.heap.size + 1 + 1, 0, none⟩ = some (.int .i64 0) := kp hb2 (by go_cell)
  replace c_r1 : w2.cell? ⟨w.heap.size + 1 + 1, 1, none⟩ = some (.int .i64 0) := kp hb2 (by go_cell)
  replace c_r2 : w2.cell? ⟨w.heap.size + 1 + 1, 2, none⟩ = some (.int .i64 0) := kp hb2 (by go_cell)
  replace c_r3 : w2.cell? ⟨w.heap.size + 1 + 1, 3, none⟩ = some (.int .i64 0) := kp hb2 (by go_cell)
  clear hb2 hB1
  have HA : Hid (True) := Lib.hid trivial
  go_upto_region 3 with fail
  go_cut [9, 10, 11] (fun s9 s10 s11 wx => ∃ g3 : Nat, s9 = .pointer (some ⟨g3, 0, none⟩) ∧ s10 = .bool true ∧ s11 = .int .i64 0 ∧ wx.cell? ⟨g3, 0, none⟩ = some (.int .i64 m1) ∧ wx.cell? ⟨g3, 1, none⟩ = some (.int .i64 m2) ∧ w.heap.size ≤ g3 ∧ Below w.heap.size w wx ∧ wx.cell? ⟨w.heap.size, 0, none⟩ = some (.int .i64 t) ∧ wx.cell? ⟨w.heap.size, 1, none⟩ = some (.int .i64 lo) ∧ wx.cell? ⟨w.heap.size, 2, none⟩ = some (.int .i64 hi) ∧ wx.cell? ⟨w.heap.size, 3, none⟩ = some (.int .i64 dr) ∧ wx.cell? ⟨w.heap.size + 1, 0, none⟩ = some (.int .i64 sl) ∧ wx.cell? ⟨w.heap.size + 1, 1, none⟩ = some (.int .i64 sh) ∧ wx.cell? ⟨w.heap.size + 1 + 1, 0, none⟩ = some (.int .i64 0) ∧ wx.cell? ⟨w.heap.size + 1 + 1, 1, none⟩ = some (.int .i64 0) ∧ wx.cell? ⟨w.heap.size + 1 + 1, 2, none⟩ = some (.int .i64 0) ∧ wx.cell? ⟨w.heap.size + 1 + 1, 3, none⟩ = some (.int .i64 0) ∧ wx.frozen? ⟨w.heap.size + 1 + 1, 0, none⟩ = false ∧ wx.frozen? ⟨w.heap.size + 1 + 1, 1, none⟩ = false ∧ wx.frozen? ⟨w.heap.size + 1 + 1, 2, none⟩ = false ∧ wx.frozen? ⟨w.heap.size + 1 + 1, 3, none⟩ = false)
  case first =>
    go_region_held3 (fun w' => Below w.heap.size w w' ∧ w'.cell? ⟨w.heap.size, 0, none⟩ = some (.int .i64 t) ∧ w'.cell? ⟨w.heap.size, 1, none⟩ = some (.int .i64 lo) ∧ w'.cell? ⟨w.heap.size, 2, none⟩ = some (.int .i64 hi) ∧ w'.cell? ⟨w.heap.size, 3, none⟩ = some (.int .i64 dr) ∧ w'.cell? ⟨w.heap.size + 1, 0, none⟩ = some (.int .i64 sl) ∧ w'.cell? ⟨w.heap.size + 1, 1, none⟩ = some (.int .i64 sh) ∧ w'.cell? ⟨w.heap.size + 1 + 1, 0, none⟩ = some (.int .i64 0) ∧ w'.cell? ⟨w.heap.size + 1 + 1, 1, none⟩ = some (.int .i64 0) ∧ w'.cell? ⟨w.heap.size + 1 + 1, 2, none⟩ = some (.int .i64 0) ∧ w'.cell? ⟨w.heap.size + 1 + 1, 3, none⟩ = some (.int .i64 0) ∧ w'.frozen? ⟨w.heap.size + 1 + 1, 0, none⟩ = false ∧ w'.frozen? ⟨w.heap.size + 1 + 1, 1, none⟩ = false ∧ w'.frozen? ⟨w.heap.size + 1 + 1, 2, none⟩ = false ∧ w'.frozen? ⟨w.heap.size + 1 + 1, 3, none⟩ = false)
      ((go_split_ands; refine ⟨?_, ?_, ?_, ?_, ?_, ?_, ?_, ?_, ?_, ?_, ?_, ?_, ?_, ?_, ?_⟩; (focus (first | (with_reducible assumption) | (go_grown; done) | (exact Below.drew (by go_grown)))); (focus (first | (with_reducible assumption) | go_cell | (go_simp; done))); (focus (first | (with_reducible assumption) | go_cell | (go_simp; done))); (focus (first | (with_reducible assumption) | go_cell | (go_simp; done))); (focus (first | (with_reducible assumption) | go_cell | (go_simp; done))); (focus (first | (with_reducible assumption) | go_cell | (go_simp; done))); (focus (first | (with_reducible assumption) | go_cell | (go_simp; done))); (focus (first | (with_reducible assumption) | go_cell | (go_simp; done))); (focus (first | (with_reducible assumption) | go_cell | (go_simp; done))); (focus (first | (with_reducible assumption) | go_cell | (go_simp; done))); (focus (first | (with_reducible assumption) | go_cell | (go_simp; done))); (focus (first | (with_reducible assumption) | go_cell | (go_simp; done))); (focus (first | (with_reducible assumption) | go_cell | (go_simp; done))); (focus (first | (with_reducible assumption) | go_cell | (go_simp; done))); (focus (first | (with_reducible assumption) | go_cell | (go_simp; done)))))
      (first | (go_at_call 78; (with_reducible refine (HV4.out _).mono ?_); rintro e xa ⟨rfl, hba⟩; have hB_xa : Below w.heap.size w xa := below_after (by go_grown) hba; have hw_xa := hB_xa.size; have hz_xa := hba.size; (try simp only [World.size_alloc, World.size_setCell, World.size_drew] at hz_xa); have c_c0_xa : xa.cell? ⟨w.heap.size, 0, none⟩ = some (.int .i64 t) := kp hba (by go_cell); have c_c1_xa : xa.cell? ⟨w.heap.size, 1, none⟩ = some (.int .i64 lo) := kp hba (by go_cell); have c_c2_xa : xa.cell? ⟨w.heap.size, 2, none⟩ = some (.int .i64 hi) := kp hba (by go_cell); have c_c3_xa : xa.cell? ⟨w.heap.size, 3, none⟩ = some (.int .i64 dr) := kp hba (by go_cell); have c_s0_xa : xa.cell? ⟨w.heap.size + 1, 0, none⟩ = some (.int .i64 sl) := kp hba (by go_cell); have c_s1_xa : xa.cell? ⟨w.heap.size + 1, 1, none⟩ = some (.int .i64 sh) := kp hba (by go_cell); have f_r0_xa : xa.frozen? ⟨w.heap.size + 1 + 1, 0, none⟩ = false := kf hba (by go_simp) (by go_simp); have f_r1_xa : xa.frozen? ⟨w.heap.size + 1 + 1, 1, none⟩ = false := kf hba (by go_simp) (by go_simp); have f_r2_xa : xa.frozen? ⟨w.heap.size + 1 + 1, 2, none⟩ = false := kf hba (by go_simp) (by go_simp); have f_r3_xa : xa.frozen? ⟨w.heap.size + 1 + 1, 3, none⟩ = false := kf hba (by go_simp) (by go_simp); have c_r0_xa : xa.cell? ⟨w.heap.size + 1 + 1, 0, none⟩ = some (.int .i64 0) := kp hba (by go_cell); have c_r1_xa : xa.cell? ⟨w.heap.size + 1 + 1, 1, none⟩ = some (.int .i64 0) := kp hba (by go_cell); have c_r2_xa : xa.cell? ⟨w.heap.size + 1 + 1, 2, none⟩ = some (.int .i64 0) := kp hba (by go_cell); have c_r3_xa : xa.cell? ⟨w.heap.size + 1 + 1, 3, none⟩ = some (.int .i64 0) := kp hba (by go_cell); (try (have n0f0_xa : xa.frozen? ⟨w2.heap.size, 0, none⟩ = false := ?_; rotate_left 1; focus (refine kf hba ?_ ?_ <;> (go_simp; done)))); (try (have n0c0_xa : xa.cell? ⟨w2.heap.size, 0, none⟩ = some (.int .i64 0) := ?_; rotate_left 1; focus (refine kp hba ?_; go_cell; done))); (try (have n0f1_xa : xa.frozen? ⟨w2.heap.size, 1, none⟩ = false := ?_; rotate_left 1; focus (refine kf hba ?_ ?_ <;> (go_simp; done)))); (try (have n0c1_xa : xa.cell? ⟨w2.heap.size, 1, none⟩ = some (.int .i64 0) := ?_; rotate_left 1; focus (refine kp hba ?_; go_cell; done)))) | (go_at_call 37; (with_reducible refine (HV5.out _).mono ?_); rintro e xb ⟨rfl, hbb⟩; have hB_xb : Below w.heap.size w xb := below_after (by go_grown) hbb; have hw_xb := hB_xb.size; have hz_xb := hbb.size; (try simp only [World.size_alloc, World.size_setCell, World.size_drew] at hz_xb); have c_c0_xb : xb.cell? ⟨w.heap.size, 0, none⟩ = some (.int .i64 t) := kp hbb (by go_cell); have c_c1_xb : xb.cell? ⟨w.heap.size, 1, none⟩ = some (.int .i64 lo) := kp hbb (by go_cell); have c_c2_xb : xb.cell? ⟨w.heap.size, 2, none⟩ = some (.int .i64 hi) := kp hbb (by go_cell); have c_c3_xb : xb.cell? ⟨w.heap.size, 3, none⟩ = some (.int .i64 dr) := kp hbb (by go_cell); have c_s0_xb : xb.cell? ⟨w.heap.size + 1, 0, none⟩ = some (.int .i64 sl) := kp hbb (by go_cell); have c_s1_xb : xb.cell? ⟨w.heap.size + 1, 1, none⟩ = some (.int .i64 sh) := kp hbb (by go_cell); have f_r0_xb : xb.frozen? ⟨w.heap.size + 1 + 1, 0, none⟩ = false := kf hbb (by go_simp) (by go_simp); have f_r1_xb : xb.frozen? ⟨w.heap.size + 1 + 1, 1, none⟩ = false := kf hbb (by go_simp) (by go_simp); have f_r2_xb : xb.frozen? ⟨w.heap.size + 1 + 1, 2, none⟩ = false := kf hbb (by go_simp) (by go_simp); have f_r3_xb : xb.frozen? ⟨w.heap.size + 1 + 1, 3, none⟩ = false := kf hbb (by go_simp) (by go_simp); have c_r0_xb : xb.cell? ⟨w.heap.size + 1 + 1, 0, none⟩ = some (.int .i64 0) := kp hbb (by go_cell); have c_r1_xb : xb.cell? ⟨w.heap.size + 1 + 1, 1, none⟩ = some (.int .i64 0) := kp hbb (by go_cell); have c_r2_xb : xb.cell? ⟨w.heap.size + 1 + 1, 2, none⟩ = some (.int .i64 0) := kp hbb (by go_cell); have c_r3_xb : xb.cell? ⟨w.heap.size + 1 + 1, 3, none⟩ = some (.int .i64 0) := kp hbb (by go_cell); (try (have n0f0_xb : xb.frozen? ⟨w2.heap.size, 0, none⟩ = false := ?_; rotate_left 1; focus (refine kf hbb ?_ ?_ <;> (go_simp; done)))); (try (have n0c0_xb : xb.cell? ⟨w2.heap.size, 0, none⟩ = some (.int .i64 0) := ?_; rotate_left 1; focus (refine kp hbb ?_; go_cell; done))); (try (have n0f1_xb : xb.frozen? ⟨w2.heap.size, 1, none⟩ = false := ?_; rotate_left 1; focus (refine kf hbb ?_ ?_ <;> (go_simp; done)))); (try (have n0c1_xb : xb.cell? ⟨w2.heap.size, 1, none⟩ = some (.int .i64 0) := ?_; rotate_left 1; focus (refine kp hbb ?_; go_cell; done))); (try (have n1f0_xb : xb.frozen? ⟨xa.heap.size, 0, none⟩ = false := ?_; rotate_left 1; focus (refine kf hbb ?_ ?_ <;> (go_simp; done)))); (try (have n1c0_xb : xb.cell? ⟨xa.heap.size, 0, none⟩ = some (.int .i64 0) := ?_; rotate_left 1; focus (refine kp hbb ?_; go_cell; done))); (try (have n1f1_xb : xb.frozen? ⟨xa.heap.size, 1, none⟩ = false := ?_; rotate_left 1; focus (refine kf hbb ?_ ?_ <;> (go_simp; done)))); (try (have n1c1_xb : xb.cell? ⟨xa.heap.size, 1, none⟩ = some (.int .i64 0) := ?_; rotate_left 1; focus (refine kp hbb ?_; go_cell; done)))))
    all_goals go_split_ands
    all_goals (go_wp2_with fail)
    all_goals go_meet
    all_goals (refine ⟨_, rfl, rfl, rfl, ?_, ?_, ?_, ?_, ?_, ?_, ?_, ?_, ?_, ?_, ?_, ?_, ?_, ?_, ?_, ?_, ?_, ?_⟩ <;> first | (with_reducible assumption) | (go_grown; done) | go_cell | (go_simp; done) | (go_simp; omega))
  case rest =>
    obtain ⟨g3, rfl, rfl, rfl, c_m0, c_m1, hg3, hB3, c_c0, c_c1, c_c2, c_c3, c_s0, c_s1, c_r0, c_r1, c_r2, c_r3, f_r0, f_r1, f_r2, f_r3⟩ := hcut
    have hw3 := hB3.size
    go_wp2_with fail
    refine (HV6.out _).mono ?_
    rintro e w4 ⟨rfl, hb4⟩
    have hB4 : Below w.heap.size w w4 := below_after (by go_grown) hb4
    have hz4 := hb4.size
    try simp only [World.size_alloc, World.size_setCell, World.size_drew] at hz4
    have hw4 := hB4.size
    replace c_c0 : w4.cell? ⟨w.heap.size, 0, none⟩ = some (.int .i64 t) := kp hb4 (by go_cell)
    replace c_c1 : w4.cell? ⟨w.heap.size, 1, none⟩ = some (.int .i64 lo) := kp hb4 (by go_cell)
    replace c_c2 : w4.cell? ⟨w.heap.size, 2, none⟩ = some (.int .i64 hi) := kp hb4 (by go_cell)
    replace c_c3 : w4.cell? ⟨w.heap.size, 3, none⟩ = some (.int .i64 dr) := kp hb4 (by go_cell)
    replace c_s0 : w4.cell? ⟨w.heap.size + 1, 0, none⟩ = some (.int .i64 sl) := kp hb4 (by go_cell)
    replace c_s1 : w4.cell? ⟨w.heap.size + 1, 1, none⟩ = some (.int .i64 sh) := kp hb4 (by go_cell)
    replace f_r0 : w4.frozen? ⟨w.heap.size + 1 + 1, 0, none⟩ = false := kf hb4 (by go_simp) (by go_simp)
    replace f_r1 : w4.frozen? ⟨w.heap.size + 1 + 1, 1, none⟩ = false := kf hb4 (by go_simp) (by go_simp)
    replace f_r2 : w4.frozen? ⟨w.heap.size + 1 + 1, 2, none⟩ = false := kf hb4 (by go_simp) (by go_simp)
    replace f_r3 : w4.frozen? ⟨w.heap.size + 1 + 1, 3, none⟩ = false := kf hb4 (by go_simp) (by go_simp)
    replace c_r0 : w4.cell? ⟨w.heap.size + 1 + 1, 0, none⟩ = some (.int .i64 0) := kp hb4 (by go_cell)
    replace c_r1 : w4.cell? ⟨w.heap.size + 1 + 1, 1, none⟩ = some (.int .i64 0) := kp hb4 (by go_cell)
    replace c_r2 : w4.cell? ⟨w.heap.size + 1 + 1, 2, none⟩ = some (.int .i64 0) := kp hb4 (by go_cell)
    replace c_r3 : w4.cell? ⟨w.heap.size + 1 + 1, 3, none⟩ = some (.int .i64 0) := kp hb4 (by go_cell)
    replace c_m0 : w4.cell? ⟨g3, 0, none⟩ = some (.int .i64 m1) := kp hb4 (by go_cell)
    replace c_m1 : w4.cell? ⟨g3, 1, none⟩ = some (.int .i64 m2) := kp hb4 (by go_cell)
    clear hb4 hB3
    go_wp2_with fail
    rw [HR.out]
    clear n1 n2 n3 n4
    refine ret_clock_bool (B := w.heap.size + 1 + 1) rfl rfl rfl (set4s _ _ _ _ (by go_simp) (by go_simp) (by go_simp) (by go_simp)).1 (set4s _ _ _ _ (by go_simp) (by go_simp) (by go_simp) (by go_simp)).2.1 (set4s _ _ _ _ (by go_simp) (by go_simp) (by go_simp) (by go_simp)).2.2.1 (set4s _ _ _ _ (by go_simp) (by go_simp) (by go_simp) (by go_simp)).2.2.2 ⟨rfl, by go_grown⟩

set_option maxHeartbeats 1600000 in
set_option maxRecDepth 100000 in
theorem Set_new1 (t lo hi dr r sl sh : Int) (w : World) (h : clkB t lo hi dr = true) (h2 : readB r = true) (h3 : vld sl sh = true) (hc : ¬ min (atHi t hi dr r) sh < max (atLo t lo dr r) sl) (he : ¬ r = t) (hn : clkB r (max (atLo t lo dr r) sl - r) (min (atHi t hi dr r) sh - r) dr = true) :
    Calls Try.prog 53 #[.agg #[.int .i64 t, .int .i64 lo, .int .i64 hi, .int .i64 dr], .int .i64 r, .agg #[.int .i64 sl, .int .i64 sh]] w fun e w' => e = .returned (.tuple #[.agg #[.int .i64 (setS t lo hi dr r sl sh).1.1, .int .i64 (setS t lo hi dr r sl sh).1.2.1, .int .i64 (setS t lo hi dr r sl sh).1.2.2.1, .int .i64 (setS t lo hi dr r sl sh).1.2.2.2], .bool (setS t lo hi dr r sl sh).2.1, .int .i64 (setS t lo hi dr r sl sh).2.2]) ∧ Below w.heap.size w w' := by
  have v1 := fun w => CValid_any t lo hi dr w
  have v2 := fun w => Valid_any sl sh w
  have v3 := fun w => isReading_any r w
  rw [h] at v1
  rw [h2] at v3
  rw [h3] at v2
  have v4 := fun w => at_any t lo hi dr r w h h2
  obtain ⟨b1, b2, b3⟩ := atLo_bounds h h2
  obtain ⟨t1, t2, r1, r2, o1, o2, o3⟩ := clkB_bounds h
  obtain ⟨q1, q2⟩ := readB_bounds h2
  obtain ⟨k1, k2, k3⟩ := vld_bounds h3
  have v5 := fun w => Meet_any (atLo t lo dr r) (atHi t hi dr r) sl sh w
  have hv : (vld (atLo t lo dr r) (atHi t hi dr r) && vld sl sh) = true := by rw [h3, Bool.and_true]; simp [vld]; omega
  have hm : meetS (atLo t lo dr r) (atHi t hi dr r) sl sh = (max (atLo t lo dr r) sl, min (atHi t hi dr r) sh, true, 0) := by rw [meetS, hv, if_pos rfl, if_neg hc]
  rw [hm] at v5
  have hr : setS t lo hi dr r sl sh = ((r, max (atLo t lo dr r) sl - r, min (atHi t hi dr r) sh - r, dr), true, 0) := by
    rw [setS, h, h2, h3, if_pos (by rfl), if_neg hc, hn, if_pos rfl]
  have HR := Lib.hid hr
  generalize atLo t lo dr r = x at *
  generalize atHi t hi dr r = y at *
  obtain ⟨m1, hm1⟩ : ∃ m1, m1 = max x sl := ⟨_, rfl⟩
  obtain ⟨m2, hm2⟩ : ∃ m2, m2 = min y sh := ⟨_, rfl⟩
  rw [← hm1, ← hm2] at v5 hc
  try rw [← hm1, ← hm2] at HR
  have j1 : -2000000 ≤ m1 := by omega
  have j2 : m2 ≤ 1002000000 := by omega
  have j3 : m1 ≤ m2 := by omega
  have j4 : m1 ≤ 1000000000000 := by omega
  have j5 : -1000000000000 ≤ m2 := by omega
  have v6 := fun w => Sub_any m1 m2 r r w
  rw [show subS m1 m2 r r = (m1 - r, m2 - r, 0) by
    have e1 : (vld m1 m2 && vld r r) = true := by simp [vld]; omega
    have e2 : vld (m1 - r) (m2 - r) = true := by simp [vld]; omega
    rw [subS, e1, if_pos rfl, leastS, e2, if_pos rfl]] at v6
  have HV6 := Lib.hid v6
  clear v6
  have n1 : (r == t) = false := by simpa using he
  clear he
  have v7 := fun w => CValid_any r (m1 - r) (m2 - r) dr w
  rw [← hm1, ← hm2] at hn
  rw [hn] at v7
  have HV7 := Lib.hid v7
  clear v7 hn hm1 hm2
  have HV1 := Lib.hid v1
  have HV2 := Lib.hid v2
  have HV3 := Lib.hid v3
  have HV4 := Lib.hid v4
  have HV5 := Lib.hid v5
  clear hr hm hv v1 v2 v3 v4 v5 h h2 h3
  go_enter Try.func53, Try.ntmps53
  go_wp2_with fail
  refine (HV1.out _).mono ?_
  rintro e w1 ⟨rfl, hb1⟩
  have hB1 : Below w.heap.size w w1 := below_after (by go_grown) hb1
  have hz1 := hb1.size
  try simp only [World.size_alloc, World.size_setCell, World.size_drew] at hz1
  have hw1 := hB1.size
  have c_c0 : w1.cell? ⟨w.heap.size, 0, none⟩ = some (.int .i64 t) := kp hb1 (by go_cell)
  have c_c1 : w1.cell? ⟨w.heap.size, 1, none⟩ = some (.int .i64 lo) := kp hb1 (by go_cell)
  have c_c2 : w1.cell? ⟨w.heap.size, 2, none⟩ = some (.int .i64 hi) := kp hb1 (by go_cell)
  have c_c3 : w1.cell? ⟨w.heap.size, 3, none⟩ = some (.int .i64 dr) := kp hb1 (by go_cell)
  have c_s0 : w1.cell? ⟨w.heap.size + 1, 0, none⟩ = some (.int .i64 sl) := kp hb1 (by go_cell)
  have c_s1 : w1.cell? ⟨w.heap.size + 1, 1, none⟩ = some (.int .i64 sh) := kp hb1 (by go_cell)
  have f_r0 : w1.frozen? ⟨w.heap.size + 1 + 1, 0, none⟩ = false := kf hb1 (by go_simp) (by go_simp)
  have f_r1 : w1.frozen? ⟨w.heap.size + 1 + 1, 1, none⟩ = false := kf hb1 (by go_simp) (by go_simp)
  have f_r2 : w1.frozen? ⟨w.heap.size + 1 + 1, 2, none⟩ = false := kf hb1 (by go_simp) (by go_simp)
  have f_r3 : w1.frozen? ⟨w.heap.size + 1 + 1, 3, none⟩ = false := kf hb1 (by go_simp) (by go_simp)
  have c_r0 : w1.cell? ⟨w.heap.size + 1 + 1, 0, none⟩ = some (.int .i64 0) := kp hb1 (by go_cell)
  have c_r1 : w1.cell? ⟨w.heap.size + 1 + 1, 1, none⟩ = some (.int .i64 0) := kp hb1 (by go_cell)
  have c_r2 : w1.cell? ⟨w.heap.size + 1 + 1, 2, none⟩ = some (.int .i64 0) := kp hb1 (by go_cell)
  have c_r3 : w1.cell? ⟨w.heap.size + 1 + 1, 3, none⟩ = some (.int .i64 0) := kp hb1 (by go_cell)
  clear hb1
  go_wp2_with fail
  refine (HV3.out _).mono ?_
  rintro e w9 ⟨rfl, rfl⟩
  go_wp2_with fail
  refine (HV2.out _).mono ?_
  rintro e w2 ⟨rfl, hb2⟩
  have hB2 : Below w.heap.size w w2 := below_after (by go_grown) hb2
  have hz2 := hb2.size
  try simp only [World.size_alloc, World.size_setCell, World.size_drew] at hz2
  have hw2 := hB2.size
  replace c_c0 : w2.cell? ⟨w.heap.size, 0, none⟩ = some (.int .i64 t) := kp hb2 (by go_cell)
  replace c_c1 : w2.cell? ⟨w.heap.size, 1, none⟩ = some (.int .i64 lo) := kp hb2 (by go_cell)
  replace c_c2 : w2.cell? ⟨w.heap.size, 2, none⟩ = some (.int .i64 hi) := kp hb2 (by go_cell)
  replace c_c3 : w2.cell? ⟨w.heap.size, 3, none⟩ = some (.int .i64 dr) := kp hb2 (by go_cell)
  replace c_s0 : w2.cell? ⟨w.heap.size + 1, 0, none⟩ = some (.int .i64 sl) := kp hb2 (by go_cell)
  replace c_s1 : w2.cell? ⟨w.heap.size + 1, 1, none⟩ = some (.int .i64 sh) := kp hb2 (by go_cell)
  replace f_r0 : w2.frozen? ⟨w.heap.size + 1 + 1, 0, none⟩ = false := kf hb2 (by go_simp) (by go_simp)
  replace f_r1 : w2.frozen? ⟨w.heap.size + 1 + 1, 1, none⟩ = false := kf hb2 (by go_simp) (by go_simp)
  replace f_r2 : w2.frozen? ⟨w.heap.size + 1 + 1, 2, none⟩ = false := kf hb2 (by go_simp) (by go_simp)
  replace f_r3 : w2.frozen? ⟨w.heap.size + 1 + 1, 3, none⟩ = false := kf hb2 (by go_simp) (by go_simp)
  replace c_r0 : w2.cell? ⟨w.heap.size + 1 + 1, 0, none⟩ = some (.int .i64 0) := kp hb2 (by go_cell)
  replace c_r1 : w2.cell? ⟨w.heap.size + 1 + 1, 1, none⟩ = some (.int .i64 0) := kp hb2 (by go_cell)
  replace c_r2 : w2.cell? ⟨w.heap.size + 1 + 1, 2, none⟩ = some (.int .i64 0) := kp hb2 (by go_cell)
  replace c_r3 : w2.cell? ⟨w.heap.size + 1 + 1, 3, none⟩ = some (.int .i64 0) := kp hb2 (by go_cell)
  clear hb2 hB1
  have HA : Hid (True) := Lib.hid trivial
  go_upto_region 3 with fail
  go_cut [9, 10, 11] (fun s9 s10 s11 wx => ∃ g3 : Nat, s9 = .pointer (some ⟨g3, 0, none⟩) ∧ s10 = .bool true ∧ s11 = .int .i64 0 ∧ wx.cell? ⟨g3, 0, none⟩ = some (.int .i64 m1) ∧ wx.cell? ⟨g3, 1, none⟩ = some (.int .i64 m2) ∧ w.heap.size ≤ g3 ∧ Below w.heap.size w wx ∧ wx.cell? ⟨w.heap.size, 0, none⟩ = some (.int .i64 t) ∧ wx.cell? ⟨w.heap.size, 1, none⟩ = some (.int .i64 lo) ∧ wx.cell? ⟨w.heap.size, 2, none⟩ = some (.int .i64 hi) ∧ wx.cell? ⟨w.heap.size, 3, none⟩ = some (.int .i64 dr) ∧ wx.cell? ⟨w.heap.size + 1, 0, none⟩ = some (.int .i64 sl) ∧ wx.cell? ⟨w.heap.size + 1, 1, none⟩ = some (.int .i64 sh) ∧ wx.cell? ⟨w.heap.size + 1 + 1, 0, none⟩ = some (.int .i64 0) ∧ wx.cell? ⟨w.heap.size + 1 + 1, 1, none⟩ = some (.int .i64 0) ∧ wx.cell? ⟨w.heap.size + 1 + 1, 2, none⟩ = some (.int .i64 0) ∧ wx.cell? ⟨w.heap.size + 1 + 1, 3, none⟩ = some (.int .i64 0) ∧ wx.frozen? ⟨w.heap.size + 1 + 1, 0, none⟩ = false ∧ wx.frozen? ⟨w.heap.size + 1 + 1, 1, none⟩ = false ∧ wx.frozen? ⟨w.heap.size + 1 + 1, 2, none⟩ = false ∧ wx.frozen? ⟨w.heap.size + 1 + 1, 3, none⟩ = false)
  case first =>
    go_region_held3 (fun w' => Below w.heap.size w w' ∧ w'.cell? ⟨w.heap.size, 0, none⟩ = some (.int .i64 t) ∧ w'.cell? ⟨w.heap.size, 1, none⟩ = some (.int .i64 lo) ∧ w'.cell? ⟨w.heap.size, 2, none⟩ = some (.int .i64 hi) ∧ w'.cell? ⟨w.heap.size, 3, none⟩ = some (.int .i64 dr) ∧ w'.cell? ⟨w.heap.size + 1, 0, none⟩ = some (.int .i64 sl) ∧ w'.cell? ⟨w.heap.size + 1, 1, none⟩ = some (.int .i64 sh) ∧ w'.cell? ⟨w.heap.size + 1 + 1, 0, none⟩ = some (.int .i64 0) ∧ w'.cell? ⟨w.heap.size + 1 + 1, 1, none⟩ = some (.int .i64 0) ∧ w'.cell? ⟨w.heap.size + 1 + 1, 2, none⟩ = some (.int .i64 0) ∧ w'.cell? ⟨w.heap.size + 1 + 1, 3, none⟩ = some (.int .i64 0) ∧ w'.frozen? ⟨w.heap.size + 1 + 1, 0, none⟩ = false ∧ w'.frozen? ⟨w.heap.size + 1 + 1, 1, none⟩ = false ∧ w'.frozen? ⟨w.heap.size + 1 + 1, 2, none⟩ = false ∧ w'.frozen? ⟨w.heap.size + 1 + 1, 3, none⟩ = false)
      ((go_split_ands; refine ⟨?_, ?_, ?_, ?_, ?_, ?_, ?_, ?_, ?_, ?_, ?_, ?_, ?_, ?_, ?_⟩; (focus (first | (with_reducible assumption) | (go_grown; done) | (exact Below.drew (by go_grown)))); (focus (first | (with_reducible assumption) | go_cell | (go_simp; done))); (focus (first | (with_reducible assumption) | go_cell | (go_simp; done))); (focus (first | (with_reducible assumption) | go_cell | (go_simp; done))); (focus (first | (with_reducible assumption) | go_cell | (go_simp; done))); (focus (first | (with_reducible assumption) | go_cell | (go_simp; done))); (focus (first | (with_reducible assumption) | go_cell | (go_simp; done))); (focus (first | (with_reducible assumption) | go_cell | (go_simp; done))); (focus (first | (with_reducible assumption) | go_cell | (go_simp; done))); (focus (first | (with_reducible assumption) | go_cell | (go_simp; done))); (focus (first | (with_reducible assumption) | go_cell | (go_simp; done))); (focus (first | (with_reducible assumption) | go_cell | (go_simp; done))); (focus (first | (with_reducible assumption) | go_cell | (go_simp; done))); (focus (first | (with_reducible assumption) | go_cell | (go_simp; done))); (focus (first | (with_reducible assumption) | go_cell | (go_simp; done)))))
      (first | (go_at_call 78; (with_reducible refine (HV4.out _).mono ?_); rintro e xa ⟨rfl, hba⟩; have hB_xa : Below w.heap.size w xa := below_after (by go_grown) hba; have hw_xa := hB_xa.size; have hz_xa := hba.size; (try simp only [World.size_alloc, World.size_setCell, World.size_drew] at hz_xa); have c_c0_xa : xa.cell? ⟨w.heap.size, 0, none⟩ = some (.int .i64 t) := kp hba (by go_cell); have c_c1_xa : xa.cell? ⟨w.heap.size, 1, none⟩ = some (.int .i64 lo) := kp hba (by go_cell); have c_c2_xa : xa.cell? ⟨w.heap.size, 2, none⟩ = some (.int .i64 hi) := kp hba (by go_cell); have c_c3_xa : xa.cell? ⟨w.heap.size, 3, none⟩ = some (.int .i64 dr) := kp hba (by go_cell); have c_s0_xa : xa.cell? ⟨w.heap.size + 1, 0, none⟩ = some (.int .i64 sl) := kp hba (by go_cell); have c_s1_xa : xa.cell? ⟨w.heap.size + 1, 1, none⟩ = some (.int .i64 sh) := kp hba (by go_cell); have f_r0_xa : xa.frozen? ⟨w.heap.size + 1 + 1, 0, none⟩ = false := kf hba (by go_simp) (by go_simp); have f_r1_xa : xa.frozen? ⟨w.heap.size + 1 + 1, 1, none⟩ = false := kf hba (by go_simp) (by go_simp); have f_r2_xa : xa.frozen? ⟨w.heap.size + 1 + 1, 2, none⟩ = false := kf hba (by go_simp) (by go_simp); have f_r3_xa : xa.frozen? ⟨w.heap.size + 1 + 1, 3, none⟩ = false := kf hba (by go_simp) (by go_simp); have c_r0_xa : xa.cell? ⟨w.heap.size + 1 + 1, 0, none⟩ = some (.int .i64 0) := kp hba (by go_cell); have c_r1_xa : xa.cell? ⟨w.heap.size + 1 + 1, 1, none⟩ = some (.int .i64 0) := kp hba (by go_cell); have c_r2_xa : xa.cell? ⟨w.heap.size + 1 + 1, 2, none⟩ = some (.int .i64 0) := kp hba (by go_cell); have c_r3_xa : xa.cell? ⟨w.heap.size + 1 + 1, 3, none⟩ = some (.int .i64 0) := kp hba (by go_cell); (try (have n0f0_xa : xa.frozen? ⟨w2.heap.size, 0, none⟩ = false := ?_; rotate_left 1; focus (refine kf hba ?_ ?_ <;> (go_simp; done)))); (try (have n0c0_xa : xa.cell? ⟨w2.heap.size, 0, none⟩ = some (.int .i64 0) := ?_; rotate_left 1; focus (refine kp hba ?_; go_cell; done))); (try (have n0f1_xa : xa.frozen? ⟨w2.heap.size, 1, none⟩ = false := ?_; rotate_left 1; focus (refine kf hba ?_ ?_ <;> (go_simp; done)))); (try (have n0c1_xa : xa.cell? ⟨w2.heap.size, 1, none⟩ = some (.int .i64 0) := ?_; rotate_left 1; focus (refine kp hba ?_; go_cell; done)))) | (go_at_call 37; (with_reducible refine (HV5.out _).mono ?_); rintro e xb ⟨rfl, hbb⟩; have hB_xb : Below w.heap.size w xb := below_after (by go_grown) hbb; have hw_xb := hB_xb.size; have hz_xb := hbb.size; (try simp only [World.size_alloc, World.size_setCell, World.size_drew] at hz_xb); have c_c0_xb : xb.cell? ⟨w.heap.size, 0, none⟩ = some (.int .i64 t) := kp hbb (by go_cell); have c_c1_xb : xb.cell? ⟨w.heap.size, 1, none⟩ = some (.int .i64 lo) := kp hbb (by go_cell); have c_c2_xb : xb.cell? ⟨w.heap.size, 2, none⟩ = some (.int .i64 hi) := kp hbb (by go_cell); have c_c3_xb : xb.cell? ⟨w.heap.size, 3, none⟩ = some (.int .i64 dr) := kp hbb (by go_cell); have c_s0_xb : xb.cell? ⟨w.heap.size + 1, 0, none⟩ = some (.int .i64 sl) := kp hbb (by go_cell); have c_s1_xb : xb.cell? ⟨w.heap.size + 1, 1, none⟩ = some (.int .i64 sh) := kp hbb (by go_cell); have f_r0_xb : xb.frozen? ⟨w.heap.size + 1 + 1, 0, none⟩ = false := kf hbb (by go_simp) (by go_simp); have f_r1_xb : xb.frozen? ⟨w.heap.size + 1 + 1, 1, none⟩ = false := kf hbb (by go_simp) (by go_simp); have f_r2_xb : xb.frozen? ⟨w.heap.size + 1 + 1, 2, none⟩ = false := kf hbb (by go_simp) (by go_simp); have f_r3_xb : xb.frozen? ⟨w.heap.size + 1 + 1, 3, none⟩ = false := kf hbb (by go_simp) (by go_simp); have c_r0_xb : xb.cell? ⟨w.heap.size + 1 + 1, 0, none⟩ = some (.int .i64 0) := kp hbb (by go_cell); have c_r1_xb : xb.cell? ⟨w.heap.size + 1 + 1, 1, none⟩ = some (.int .i64 0) := kp hbb (by go_cell); have c_r2_xb : xb.cell? ⟨w.heap.size + 1 + 1, 2, none⟩ = some (.int .i64 0) := kp hbb (by go_cell); have c_r3_xb : xb.cell? ⟨w.heap.size + 1 + 1, 3, none⟩ = some (.int .i64 0) := kp hbb (by go_cell); (try (have n0f0_xb : xb.frozen? ⟨w2.heap.size, 0, none⟩ = false := ?_; rotate_left 1; focus (refine kf hbb ?_ ?_ <;> (go_simp; done)))); (try (have n0c0_xb : xb.cell? ⟨w2.heap.size, 0, none⟩ = some (.int .i64 0) := ?_; rotate_left 1; focus (refine kp hbb ?_; go_cell; done))); (try (have n0f1_xb : xb.frozen? ⟨w2.heap.size, 1, none⟩ = false := ?_; rotate_left 1; focus (refine kf hbb ?_ ?_ <;> (go_simp; done)))); (try (have n0c1_xb : xb.cell? ⟨w2.heap.size, 1, none⟩ = some (.int .i64 0) := ?_; rotate_left 1; focus (refine kp hbb ?_; go_cell; done))); (try (have n1f0_xb : xb.frozen? ⟨xa.heap.size, 0, none⟩ = false := ?_; rotate_left 1; focus (refine kf hbb ?_ ?_ <;> (go_simp; done)))); (try (have n1c0_xb : xb.cell? ⟨xa.heap.size, 0, none⟩ = some (.int .i64 0) := ?_; rotate_left 1; focus (refine kp hbb ?_; go_cell; done))); (try (have n1f1_xb : xb.frozen? ⟨xa.heap.size, 1, none⟩ = false := ?_; rotate_left 1; focus (refine kf hbb ?_ ?_ <;> (go_simp; done)))); (try (have n1c1_xb : xb.cell? ⟨xa.heap.size, 1, none⟩ = some (.int .i64 0) := ?_; rotate_left 1; focus (refine kp hbb ?_; go_cell; done)))))
    all_goals go_split_ands
    all_goals (go_wp2_with fail)
    all_goals go_meet
    all_goals (refine ⟨_, rfl, rfl, rfl, ?_, ?_, ?_, ?_, ?_, ?_, ?_, ?_, ?_, ?_, ?_, ?_, ?_, ?_, ?_, ?_, ?_, ?_⟩ <;> first | (with_reducible assumption) | (go_grown; done) | go_cell | (go_simp; done) | (go_simp; omega))
  case rest =>
    obtain ⟨g3, rfl, rfl, rfl, c_m0, c_m1, hg3, hB3, c_c0, c_c1, c_c2, c_c3, c_s0, c_s1, c_r0, c_r1, c_r2, c_r3, f_r0, f_r1, f_r2, f_r3⟩ := hcut
    have hw3 := hB3.size
    go_wp2_with fail
    refine (HV6.out _).mono ?_
    rintro e w4 ⟨rfl, hb4⟩
    have hB4 : Below w.heap.size w w4 := below_after (by go_grown) hb4
    have hz4 := hb4.size
    try simp only [World.size_alloc, World.size_setCell, World.size_drew] at hz4
    have hw4 := hB4.size
    replace c_c0 : w4.cell? ⟨w.heap.size, 0, none⟩ = some (.int .i64 t) := kp hb4 (by go_cell)
    replace c_c1 : w4.cell? ⟨w.heap.size, 1, none⟩ = some (.int .i64 lo) := kp hb4 (by go_cell)
    replace c_c2 : w4.cell? ⟨w.heap.size, 2, none⟩ = some (.int .i64 hi) := kp hb4 (by go_cell)
    replace c_c3 : w4.cell? ⟨w.heap.size, 3, none⟩ = some (.int .i64 dr) := kp hb4 (by go_cell)
    replace c_s0 : w4.cell? ⟨w.heap.size + 1, 0, none⟩ = some (.int .i64 sl) := kp hb4 (by go_cell)
    replace c_s1 : w4.cell? ⟨w.heap.size + 1, 1, none⟩ = some (.int .i64 sh) := kp hb4 (by go_cell)
    replace f_r0 : w4.frozen? ⟨w.heap.size + 1 + 1, 0, none⟩ = false := kf hb4 (by go_simp) (by go_simp)
    replace f_r1 : w4.frozen? ⟨w.heap.size + 1 + 1, 1, none⟩ = false := kf hb4 (by go_simp) (by go_simp)
    replace f_r2 : w4.frozen? ⟨w.heap.size + 1 + 1, 2, none⟩ = false := kf hb4 (by go_simp) (by go_simp)
    replace f_r3 : w4.frozen? ⟨w.heap.size + 1 + 1, 3, none⟩ = false := kf hb4 (by go_simp) (by go_simp)
    replace c_r0 : w4.cell? ⟨w.heap.size + 1 + 1, 0, none⟩ = some (.int .i64 0) := kp hb4 (by go_cell)
    replace c_r1 : w4.cell? ⟨w.heap.size + 1 + 1, 1, none⟩ = some (.int .i64 0) := kp hb4 (by go_cell)
    replace c_r2 : w4.cell? ⟨w.heap.size + 1 + 1, 2, none⟩ = some (.int .i64 0) := kp hb4 (by go_cell)
    replace c_r3 : w4.cell? ⟨w.heap.size + 1 + 1, 3, none⟩ = some (.int .i64 0) := kp hb4 (by go_cell)
    replace c_m0 : w4.cell? ⟨g3, 0, none⟩ = some (.int .i64 m1) := kp hb4 (by go_cell)
    replace c_m1 : w4.cell? ⟨g3, 1, none⟩ = some (.int .i64 m2) := kp hb4 (by go_cell)
    clear hb4 hB3
    go_wp2_with fail
    refine (HV7.out _).mono ?_
    rintro e w5 ⟨rfl, hb5⟩
    have hB5 : Below w.heap.size w w5 := below_after (by go_grown) hb5
    have hz5 := hb5.size
    try simp only [World.size_alloc, World.size_setCell, World.size_drew] at hz5
    have hw5 := hB5.size
    replace c_c0 : w5.cell? ⟨w.heap.size, 0, none⟩ = some (.int .i64 t) := kp hb5 (by go_cell)
    replace c_c1 : w5.cell? ⟨w.heap.size, 1, none⟩ = some (.int .i64 lo) := kp hb5 (by go_cell)
    replace c_c2 : w5.cell? ⟨w.heap.size, 2, none⟩ = some (.int .i64 hi) := kp hb5 (by go_cell)
    replace c_c3 : w5.cell? ⟨w.heap.size, 3, none⟩ = some (.int .i64 dr) := kp hb5 (by go_cell)
    replace f_r0 : w5.frozen? ⟨w.heap.size + 1 + 1, 0, none⟩ = false := kf hb5 (by go_simp) (by go_simp)
    replace f_r1 : w5.frozen? ⟨w.heap.size + 1 + 1, 1, none⟩ = false := kf hb5 (by go_simp) (by go_simp)
    replace f_r2 : w5.frozen? ⟨w.heap.size + 1 + 1, 2, none⟩ = false := kf hb5 (by go_simp) (by go_simp)
    replace f_r3 : w5.frozen? ⟨w.heap.size + 1 + 1, 3, none⟩ = false := kf hb5 (by go_simp) (by go_simp)
    replace c_r0 : w5.cell? ⟨w.heap.size + 1 + 1, 0, none⟩ = some (.int .i64 0) := kp hb5 (by go_cell)
    replace c_r1 : w5.cell? ⟨w.heap.size + 1 + 1, 1, none⟩ = some (.int .i64 0) := kp hb5 (by go_cell)
    replace c_r2 : w5.cell? ⟨w.heap.size + 1 + 1, 2, none⟩ = some (.int .i64 0) := kp hb5 (by go_cell)
    replace c_r3 : w5.cell? ⟨w.heap.size + 1 + 1, 3, none⟩ = some (.int .i64 0) := kp hb5 (by go_cell)
    have c_o0 : w5.cell? ⟨w4.heap.size, 0, none⟩ = some (.int .i64 ((m1 - r))) := kp hb5 (by go_cell)
    have c_o1 : w5.cell? ⟨w4.heap.size, 1, none⟩ = some (.int .i64 ((m2 - r))) := kp hb5 (by go_cell)
    have c_n0 : w5.cell? ⟨w4.heap.size + 1, 0, none⟩ = some (.int .i64 r) := kp hb5 (by go_cell)
    have c_n1 : w5.cell? ⟨w4.heap.size + 1, 1, none⟩ = some (.int .i64 ((m1 - r))) := kp hb5 (by go_cell)
    have c_n2 : w5.cell? ⟨w4.heap.size + 1, 2, none⟩ = some (.int .i64 ((m2 - r))) := kp hb5 (by go_cell)
    have c_n3 : w5.cell? ⟨w4.heap.size + 1, 3, none⟩ = some (.int .i64 dr) := kp hb5 (by go_cell)
    clear hb5 hB4
    go_wp2_with fail
    rw [HR.out]
    refine ret_clock_bool (B := w.heap.size + 1 + 1) rfl rfl rfl (set4s _ _ _ _ (by go_simp) (by go_simp) (by go_simp) (by go_simp)).1 (set4s _ _ _ _ (by go_simp) (by go_simp) (by go_simp) (by go_simp)).2.1 (set4s _ _ _ _ (by go_simp) (by go_simp) (by go_simp) (by go_simp)).2.2.1 (set4s _ _ _ _ (by go_simp) (by go_simp) (by go_simp) (by go_simp)).2.2.2 ⟨rfl, by go_grown⟩

set_option maxHeartbeats 1600000 in
set_option maxRecDepth 100000 in
theorem Set_new2 (t lo hi dr r sl sh : Int) (w : World) (h : clkB t lo hi dr = true) (h2 : readB r = true) (h3 : vld sl sh = true) (hc : ¬ min (atHi t hi dr r) sh < max (atLo t lo dr r) sl) (he : ¬ max (atLo t lo dr r) sl - r = lo) (hn : clkB r (max (atLo t lo dr r) sl - r) (min (atHi t hi dr r) sh - r) dr = true) :
    Calls Try.prog 53 #[.agg #[.int .i64 t, .int .i64 lo, .int .i64 hi, .int .i64 dr], .int .i64 r, .agg #[.int .i64 sl, .int .i64 sh]] w fun e w' => e = .returned (.tuple #[.agg #[.int .i64 (setS t lo hi dr r sl sh).1.1, .int .i64 (setS t lo hi dr r sl sh).1.2.1, .int .i64 (setS t lo hi dr r sl sh).1.2.2.1, .int .i64 (setS t lo hi dr r sl sh).1.2.2.2], .bool (setS t lo hi dr r sl sh).2.1, .int .i64 (setS t lo hi dr r sl sh).2.2]) ∧ Below w.heap.size w w' := by
  have v1 := fun w => CValid_any t lo hi dr w
  have v2 := fun w => Valid_any sl sh w
  have v3 := fun w => isReading_any r w
  rw [h] at v1
  rw [h2] at v3
  rw [h3] at v2
  have v4 := fun w => at_any t lo hi dr r w h h2
  obtain ⟨b1, b2, b3⟩ := atLo_bounds h h2
  obtain ⟨t1, t2, r1, r2, o1, o2, o3⟩ := clkB_bounds h
  obtain ⟨q1, q2⟩ := readB_bounds h2
  obtain ⟨k1, k2, k3⟩ := vld_bounds h3
  have v5 := fun w => Meet_any (atLo t lo dr r) (atHi t hi dr r) sl sh w
  have hv : (vld (atLo t lo dr r) (atHi t hi dr r) && vld sl sh) = true := by rw [h3, Bool.and_true]; simp [vld]; omega
  have hm : meetS (atLo t lo dr r) (atHi t hi dr r) sl sh = (max (atLo t lo dr r) sl, min (atHi t hi dr r) sh, true, 0) := by rw [meetS, hv, if_pos rfl, if_neg hc]
  rw [hm] at v5
  have hr : setS t lo hi dr r sl sh = ((r, max (atLo t lo dr r) sl - r, min (atHi t hi dr r) sh - r, dr), true, 0) := by
    rw [setS, h, h2, h3, if_pos (by rfl), if_neg hc, hn, if_pos rfl]
  have HR := Lib.hid hr
  generalize atLo t lo dr r = x at *
  generalize atHi t hi dr r = y at *
  obtain ⟨m1, hm1⟩ : ∃ m1, m1 = max x sl := ⟨_, rfl⟩
  obtain ⟨m2, hm2⟩ : ∃ m2, m2 = min y sh := ⟨_, rfl⟩
  rw [← hm1, ← hm2] at v5 hc
  try rw [← hm1, ← hm2] at HR
  have j1 : -2000000 ≤ m1 := by omega
  have j2 : m2 ≤ 1002000000 := by omega
  have j3 : m1 ≤ m2 := by omega
  have j4 : m1 ≤ 1000000000000 := by omega
  have j5 : -1000000000000 ≤ m2 := by omega
  have v6 := fun w => Sub_any m1 m2 r r w
  rw [show subS m1 m2 r r = (m1 - r, m2 - r, 0) by
    have e1 : (vld m1 m2 && vld r r) = true := by simp [vld]; omega
    have e2 : vld (m1 - r) (m2 - r) = true := by simp [vld]; omega
    rw [subS, e1, if_pos rfl, leastS, e2, if_pos rfl]] at v6
  have HV6 := Lib.hid v6
  clear v6
  rw [← hm1] at he
  have n1 : (m1 - r == lo) = false := by simpa using he
  clear he
  have v7 := fun w => CValid_any r (m1 - r) (m2 - r) dr w
  rw [← hm1, ← hm2] at hn
  rw [hn] at v7
  have HV7 := Lib.hid v7
  clear v7 hn hm1 hm2
  have HV1 := Lib.hid v1
  have HV2 := Lib.hid v2
  have HV3 := Lib.hid v3
  have HV4 := Lib.hid v4
  have HV5 := Lib.hid v5
  clear hr hm hv v1 v2 v3 v4 v5 h h2 h3
  go_enter Try.func53, Try.ntmps53
  go_wp2_with fail
  refine (HV1.out _).mono ?_
  rintro e w1 ⟨rfl, hb1⟩
  have hB1 : Below w.heap.size w w1 := below_after (by go_grown) hb1
  have hz1 := hb1.size
  try simp only [World.size_alloc, World.size_setCell, World.size_drew] at hz1
  have hw1 := hB1.size
  have c_c0 : w1.cell? ⟨w.heap.size, 0, none⟩ = some (.int .i64 t) := kp hb1 (by go_cell)
  have c_c1 : w1.cell? ⟨w.heap.size, 1, none⟩ = some (.int .i64 lo) := kp hb1 (by go_cell)
  have c_c2 : w1.cell? ⟨w.heap.size, 2, none⟩ = some (.int .i64 hi) := kp hb1 (by go_cell)
  have c_c3 : w1.cell? ⟨w.heap.size, 3, none⟩ = some (.int .i64 dr) := kp hb1 (by go_cell)
  have c_s0 : w1.cell? ⟨w.heap.size + 1, 0, none⟩ = some (.int .i64 sl) := kp hb1 (by go_cell)
  have c_s1 : w1.cell? ⟨w.heap.size + 1, 1, none⟩ = some (.int .i64 sh) := kp hb1 (by go_cell)
  have f_r0 : w1.frozen? ⟨w.heap.size + 1 + 1, 0, none⟩ = false := kf hb1 (by go_simp) (by go_simp)
  have f_r1 : w1.frozen? ⟨w.heap.size + 1 + 1, 1, none⟩ = false := kf hb1 (by go_simp) (by go_simp)
  have f_r2 : w1.frozen? ⟨w.heap.size + 1 + 1, 2, none⟩ = false := kf hb1 (by go_simp) (by go_simp)
  have f_r3 : w1.frozen? ⟨w.heap.size + 1 + 1, 3, none⟩ = false := kf hb1 (by go_simp) (by go_simp)
  have c_r0 : w1.cell? ⟨w.heap.size + 1 + 1, 0, none⟩ = some (.int .i64 0) := kp hb1 (by go_cell)
  have c_r1 : w1.cell? ⟨w.heap.size + 1 + 1, 1, none⟩ = some (.int .i64 0) := kp hb1 (by go_cell)
  have c_r2 : w1.cell? ⟨w.heap.size + 1 + 1, 2, none⟩ = some (.int .i64 0) := kp hb1 (by go_cell)
  have c_r3 : w1.cell? ⟨w.heap.size + 1 + 1, 3, none⟩ = some (.int .i64 0) := kp hb1 (by go_cell)
  clear hb1
  go_wp2_with fail
  refine (HV3.out _).mono ?_
  rintro e w9 ⟨rfl, rfl⟩
  go_wp2_with fail
  refine (HV2.out _).mono ?_
  rintro e w2 ⟨rfl, hb2⟩
  have hB2 : Below w.heap.size w w2 := below_after (by go_grown) hb2
  have hz2 := hb2.size
  try simp only [World.size_alloc, World.size_setCell, World.size_drew] at hz2
  have hw2 := hB2.size
  replace c_c0 : w2.cell? ⟨w.heap.size, 0, none⟩ = some (.int .i64 t) := kp hb2 (by go_cell)
  replace c_c1 : w2.cell? ⟨w.heap.size, 1, none⟩ = some (.int .i64 lo) := kp hb2 (by go_cell)
  replace c_c2 : w2.cell? ⟨w.heap.size, 2, none⟩ = some (.int .i64 hi) := kp hb2 (by go_cell)
  replace c_c3 : w2.cell? ⟨w.heap.size, 3, none⟩ = some (.int .i64 dr) := kp hb2 (by go_cell)
  replace c_s0 : w2.cell? ⟨w.heap.size + 1, 0, none⟩ = some (.int .i64 sl) := kp hb2 (by go_cell)
  replace c_s1 : w2.cell? ⟨w.heap.size + 1, 1, none⟩ = some (.int .i64 sh) := kp hb2 (by go_cell)
  replace f_r0 : w2.frozen? ⟨w.heap.size + 1 + 1, 0, none⟩ = false := kf hb2 (by go_simp) (by go_simp)
  replace f_r1 : w2.frozen? ⟨w.heap.size + 1 + 1, 1, none⟩ = false := kf hb2 (by go_simp) (by go_simp)
  replace f_r2 : w2.frozen? ⟨w.heap.size + 1 + 1, 2, none⟩ = false := kf hb2 (by go_simp) (by go_simp)
  replace f_r3 : w2.frozen? ⟨w.heap.size + 1 + 1, 3, none⟩ = false := kf hb2 (by go_simp) (by go_simp)
  replace c_r0 : w2.cell? ⟨w.heap.size + 1 + 1, 0, none⟩ = some (.int .i64 0) := kp hb2 (by go_cell)
  replace c_r1 : w2.cell? ⟨w.heap.size + 1 + 1, 1, none⟩ = some (.int .i64 0) := kp hb2 (by go_cell)
  replace c_r2 : w2.cell? ⟨w.heap.size + 1 + 1, 2, none⟩ = some (.int .i64 0) := kp hb2 (by go_cell)
  replace c_r3 : w2.cell? ⟨w.heap.size + 1 + 1, 3, none⟩ = some (.int .i64 0) := kp hb2 (by go_cell)
  clear hb2 hB1
  have HA : Hid (True) := Lib.hid trivial
  go_upto_region 3 with fail
  go_cut [9, 10, 11] (fun s9 s10 s11 wx => ∃ g3 : Nat, s9 = .pointer (some ⟨g3, 0, none⟩) ∧ s10 = .bool true ∧ s11 = .int .i64 0 ∧ wx.cell? ⟨g3, 0, none⟩ = some (.int .i64 m1) ∧ wx.cell? ⟨g3, 1, none⟩ = some (.int .i64 m2) ∧ w.heap.size ≤ g3 ∧ Below w.heap.size w wx ∧ wx.cell? ⟨w.heap.size, 0, none⟩ = some (.int .i64 t) ∧ wx.cell? ⟨w.heap.size, 1, none⟩ = some (.int .i64 lo) ∧ wx.cell? ⟨w.heap.size, 2, none⟩ = some (.int .i64 hi) ∧ wx.cell? ⟨w.heap.size, 3, none⟩ = some (.int .i64 dr) ∧ wx.cell? ⟨w.heap.size + 1, 0, none⟩ = some (.int .i64 sl) ∧ wx.cell? ⟨w.heap.size + 1, 1, none⟩ = some (.int .i64 sh) ∧ wx.cell? ⟨w.heap.size + 1 + 1, 0, none⟩ = some (.int .i64 0) ∧ wx.cell? ⟨w.heap.size + 1 + 1, 1, none⟩ = some (.int .i64 0) ∧ wx.cell? ⟨w.heap.size + 1 + 1, 2, none⟩ = some (.int .i64 0) ∧ wx.cell? ⟨w.heap.size + 1 + 1, 3, none⟩ = some (.int .i64 0) ∧ wx.frozen? ⟨w.heap.size + 1 + 1, 0, none⟩ = false ∧ wx.frozen? ⟨w.heap.size + 1 + 1, 1, none⟩ = false ∧ wx.frozen? ⟨w.heap.size + 1 + 1, 2, none⟩ = false ∧ wx.frozen? ⟨w.heap.size + 1 + 1, 3, none⟩ = false)
  case first =>
    go_region_held3 (fun w' => Below w.heap.size w w' ∧ w'.cell? ⟨w.heap.size, 0, none⟩ = some (.int .i64 t) ∧ w'.cell? ⟨w.heap.size, 1, none⟩ = some (.int .i64 lo) ∧ w'.cell? ⟨w.heap.size, 2, none⟩ = some (.int .i64 hi) ∧ w'.cell? ⟨w.heap.size, 3, none⟩ = some (.int .i64 dr) ∧ w'.cell? ⟨w.heap.size + 1, 0, none⟩ = some (.int .i64 sl) ∧ w'.cell? ⟨w.heap.size + 1, 1, none⟩ = some (.int .i64 sh) ∧ w'.cell? ⟨w.heap.size + 1 + 1, 0, none⟩ = some (.int .i64 0) ∧ w'.cell? ⟨w.heap.size + 1 + 1, 1, none⟩ = some (.int .i64 0) ∧ w'.cell? ⟨w.heap.size + 1 + 1, 2, none⟩ = some (.int .i64 0) ∧ w'.cell? ⟨w.heap.size + 1 + 1, 3, none⟩ = some (.int .i64 0) ∧ w'.frozen? ⟨w.heap.size + 1 + 1, 0, none⟩ = false ∧ w'.frozen? ⟨w.heap.size + 1 + 1, 1, none⟩ = false ∧ w'.frozen? ⟨w.heap.size + 1 + 1, 2, none⟩ = false ∧ w'.frozen? ⟨w.heap.size + 1 + 1, 3, none⟩ = false)
      ((go_split_ands; refine ⟨?_, ?_, ?_, ?_, ?_, ?_, ?_, ?_, ?_, ?_, ?_, ?_, ?_, ?_, ?_⟩; (focus (first | (with_reducible assumption) | (go_grown; done) | (exact Below.drew (by go_grown)))); (focus (first | (with_reducible assumption) | go_cell | (go_simp; done))); (focus (first | (with_reducible assumption) | go_cell | (go_simp; done))); (focus (first | (with_reducible assumption) | go_cell | (go_simp; done))); (focus (first | (with_reducible assumption) | go_cell | (go_simp; done))); (focus (first | (with_reducible assumption) | go_cell | (go_simp; done))); (focus (first | (with_reducible assumption) | go_cell | (go_simp; done))); (focus (first | (with_reducible assumption) | go_cell | (go_simp; done))); (focus (first | (with_reducible assumption) | go_cell | (go_simp; done))); (focus (first | (with_reducible assumption) | go_cell | (go_simp; done))); (focus (first | (with_reducible assumption) | go_cell | (go_simp; done))); (focus (first | (with_reducible assumption) | go_cell | (go_simp; done))); (focus (first | (with_reducible assumption) | go_cell | (go_simp; done))); (focus (first | (with_reducible assumption) | go_cell | (go_simp; done))); (focus (first | (with_reducible assumption) | go_cell | (go_simp; done)))))
      (first | (go_at_call 78; (with_reducible refine (HV4.out _).mono ?_); rintro e xa ⟨rfl, hba⟩; have hB_xa : Below w.heap.size w xa := below_after (by go_grown) hba; have hw_xa := hB_xa.size; have hz_xa := hba.size; (try simp only [World.size_alloc, World.size_setCell, World.size_drew] at hz_xa); have c_c0_xa : xa.cell? ⟨w.heap.size, 0, none⟩ = some (.int .i64 t) := kp hba (by go_cell); have c_c1_xa : xa.cell? ⟨w.heap.size, 1, none⟩ = some (.int .i64 lo) := kp hba (by go_cell); have c_c2_xa : xa.cell? ⟨w.heap.size, 2, none⟩ = some (.int .i64 hi) := kp hba (by go_cell); have c_c3_xa : xa.cell? ⟨w.heap.size, 3, none⟩ = some (.int .i64 dr) := kp hba (by go_cell); have c_s0_xa : xa.cell? ⟨w.heap.size + 1, 0, none⟩ = some (.int .i64 sl) := kp hba (by go_cell); have c_s1_xa : xa.cell? ⟨w.heap.size + 1, 1, none⟩ = some (.int .i64 sh) := kp hba (by go_cell); have f_r0_xa : xa.frozen? ⟨w.heap.size + 1 + 1, 0, none⟩ = false := kf hba (by go_simp) (by go_simp); have f_r1_xa : xa.frozen? ⟨w.heap.size + 1 + 1, 1, none⟩ = false := kf hba (by go_simp) (by go_simp); have f_r2_xa : xa.frozen? ⟨w.heap.size + 1 + 1, 2, none⟩ = false := kf hba (by go_simp) (by go_simp); have f_r3_xa : xa.frozen? ⟨w.heap.size + 1 + 1, 3, none⟩ = false := kf hba (by go_simp) (by go_simp); have c_r0_xa : xa.cell? ⟨w.heap.size + 1 + 1, 0, none⟩ = some (.int .i64 0) := kp hba (by go_cell); have c_r1_xa : xa.cell? ⟨w.heap.size + 1 + 1, 1, none⟩ = some (.int .i64 0) := kp hba (by go_cell); have c_r2_xa : xa.cell? ⟨w.heap.size + 1 + 1, 2, none⟩ = some (.int .i64 0) := kp hba (by go_cell); have c_r3_xa : xa.cell? ⟨w.heap.size + 1 + 1, 3, none⟩ = some (.int .i64 0) := kp hba (by go_cell); (try (have n0f0_xa : xa.frozen? ⟨w2.heap.size, 0, none⟩ = false := ?_; rotate_left 1; focus (refine kf hba ?_ ?_ <;> (go_simp; done)))); (try (have n0c0_xa : xa.cell? ⟨w2.heap.size, 0, none⟩ = some (.int .i64 0) := ?_; rotate_left 1; focus (refine kp hba ?_; go_cell; done))); (try (have n0f1_xa : xa.frozen? ⟨w2.heap.size, 1, none⟩ = false := ?_; rotate_left 1; focus (refine kf hba ?_ ?_ <;> (go_simp; done)))); (try (have n0c1_xa : xa.cell? ⟨w2.heap.size, 1, none⟩ = some (.int .i64 0) := ?_; rotate_left 1; focus (refine kp hba ?_; go_cell; done)))) | (go_at_call 37; (with_reducible refine (HV5.out _).mono ?_); rintro e xb ⟨rfl, hbb⟩; have hB_xb : Below w.heap.size w xb := below_after (by go_grown) hbb; have hw_xb := hB_xb.size; have hz_xb := hbb.size; (try simp only [World.size_alloc, World.size_setCell, World.size_drew] at hz_xb); have c_c0_xb : xb.cell? ⟨w.heap.size, 0, none⟩ = some (.int .i64 t) := kp hbb (by go_cell); have c_c1_xb : xb.cell? ⟨w.heap.size, 1, none⟩ = some (.int .i64 lo) := kp hbb (by go_cell); have c_c2_xb : xb.cell? ⟨w.heap.size, 2, none⟩ = some (.int .i64 hi) := kp hbb (by go_cell); have c_c3_xb : xb.cell? ⟨w.heap.size, 3, none⟩ = some (.int .i64 dr) := kp hbb (by go_cell); have c_s0_xb : xb.cell? ⟨w.heap.size + 1, 0, none⟩ = some (.int .i64 sl) := kp hbb (by go_cell); have c_s1_xb : xb.cell? ⟨w.heap.size + 1, 1, none⟩ = some (.int .i64 sh) := kp hbb (by go_cell); have f_r0_xb : xb.frozen? ⟨w.heap.size + 1 + 1, 0, none⟩ = false := kf hbb (by go_simp) (by go_simp); have f_r1_xb : xb.frozen? ⟨w.heap.size + 1 + 1, 1, none⟩ = false := kf hbb (by go_simp) (by go_simp); have f_r2_xb : xb.frozen? ⟨w.heap.size + 1 + 1, 2, none⟩ = false := kf hbb (by go_simp) (by go_simp); have f_r3_xb : xb.frozen? ⟨w.heap.size + 1 + 1, 3, none⟩ = false := kf hbb (by go_simp) (by go_simp); have c_r0_xb : xb.cell? ⟨w.heap.size + 1 + 1, 0, none⟩ = some (.int .i64 0) := kp hbb (by go_cell); have c_r1_xb : xb.cell? ⟨w.heap.size + 1 + 1, 1, none⟩ = some (.int .i64 0) := kp hbb (by go_cell); have c_r2_xb : xb.cell? ⟨w.heap.size + 1 + 1, 2, none⟩ = some (.int .i64 0) := kp hbb (by go_cell); have c_r3_xb : xb.cell? ⟨w.heap.size + 1 + 1, 3, none⟩ = some (.int .i64 0) := kp hbb (by go_cell); (try (have n0f0_xb : xb.frozen? ⟨w2.heap.size, 0, none⟩ = false := ?_; rotate_left 1; focus (refine kf hbb ?_ ?_ <;> (go_simp; done)))); (try (have n0c0_xb : xb.cell? ⟨w2.heap.size, 0, none⟩ = some (.int .i64 0) := ?_; rotate_left 1; focus (refine kp hbb ?_; go_cell; done))); (try (have n0f1_xb : xb.frozen? ⟨w2.heap.size, 1, none⟩ = false := ?_; rotate_left 1; focus (refine kf hbb ?_ ?_ <;> (go_simp; done)))); (try (have n0c1_xb : xb.cell? ⟨w2.heap.size, 1, none⟩ = some (.int .i64 0) := ?_; rotate_left 1; focus (refine kp hbb ?_; go_cell; done))); (try (have n1f0_xb : xb.frozen? ⟨xa.heap.size, 0, none⟩ = false := ?_; rotate_left 1; focus (refine kf hbb ?_ ?_ <;> (go_simp; done)))); (try (have n1c0_xb : xb.cell? ⟨xa.heap.size, 0, none⟩ = some (.int .i64 0) := ?_; rotate_left 1; focus (refine kp hbb ?_; go_cell; done))); (try (have n1f1_xb : xb.frozen? ⟨xa.heap.size, 1, none⟩ = false := ?_; rotate_left 1; focus (refine kf hbb ?_ ?_ <;> (go_simp; done)))); (try (have n1c1_xb : xb.cell? ⟨xa.heap.size, 1, none⟩ = some (.int .i64 0) := ?_; rotate_left 1; focus (refine kp hbb ?_; go_cell; done)))))
    all_goals go_split_ands
    all_goals (go_wp2_with fail)
    all_goals go_meet
    all_goals (refine ⟨_, rfl, rfl, rfl, ?_, ?_, ?_, ?_, ?_, ?_, ?_, ?_, ?_, ?_, ?_, ?_, ?_, ?_, ?_, ?_, ?_, ?_⟩ <;> first | (with_reducible assumption) | (go_grown; done) | go_cell | (go_simp; done) | (go_simp; omega))
  case rest =>
    obtain ⟨g3, rfl, rfl, rfl, c_m0, c_m1, hg3, hB3, c_c0, c_c1, c_c2, c_c3, c_s0, c_s1, c_r0, c_r1, c_r2, c_r3, f_r0, f_r1, f_r2, f_r3⟩ := hcut
    have hw3 := hB3.size
    go_wp2_with fail
    refine (HV6.out _).mono ?_
    rintro e w4 ⟨rfl, hb4⟩
    have hB4 : Below w.heap.size w w4 := below_after (by go_grown) hb4
    have hz4 := hb4.size
    try simp only [World.size_alloc, World.size_setCell, World.size_drew] at hz4
    have hw4 := hB4.size
    replace c_c0 : w4.cell? ⟨w.heap.size, 0, none⟩ = some (.int .i64 t) := kp hb4 (by go_cell)
    replace c_c1 : w4.cell? ⟨w.heap.size, 1, none⟩ = some (.int .i64 lo) := kp hb4 (by go_cell)
    replace c_c2 : w4.cell? ⟨w.heap.size, 2, none⟩ = some (.int .i64 hi) := kp hb4 (by go_cell)
    replace c_c3 : w4.cell? ⟨w.heap.size, 3, none⟩ = some (.int .i64 dr) := kp hb4 (by go_cell)
    replace c_s0 : w4.cell? ⟨w.heap.size + 1, 0, none⟩ = some (.int .i64 sl) := kp hb4 (by go_cell)
    replace c_s1 : w4.cell? ⟨w.heap.size + 1, 1, none⟩ = some (.int .i64 sh) := kp hb4 (by go_cell)
    replace f_r0 : w4.frozen? ⟨w.heap.size + 1 + 1, 0, none⟩ = false := kf hb4 (by go_simp) (by go_simp)
    replace f_r1 : w4.frozen? ⟨w.heap.size + 1 + 1, 1, none⟩ = false := kf hb4 (by go_simp) (by go_simp)
    replace f_r2 : w4.frozen? ⟨w.heap.size + 1 + 1, 2, none⟩ = false := kf hb4 (by go_simp) (by go_simp)
    replace f_r3 : w4.frozen? ⟨w.heap.size + 1 + 1, 3, none⟩ = false := kf hb4 (by go_simp) (by go_simp)
    replace c_r0 : w4.cell? ⟨w.heap.size + 1 + 1, 0, none⟩ = some (.int .i64 0) := kp hb4 (by go_cell)
    replace c_r1 : w4.cell? ⟨w.heap.size + 1 + 1, 1, none⟩ = some (.int .i64 0) := kp hb4 (by go_cell)
    replace c_r2 : w4.cell? ⟨w.heap.size + 1 + 1, 2, none⟩ = some (.int .i64 0) := kp hb4 (by go_cell)
    replace c_r3 : w4.cell? ⟨w.heap.size + 1 + 1, 3, none⟩ = some (.int .i64 0) := kp hb4 (by go_cell)
    replace c_m0 : w4.cell? ⟨g3, 0, none⟩ = some (.int .i64 m1) := kp hb4 (by go_cell)
    replace c_m1 : w4.cell? ⟨g3, 1, none⟩ = some (.int .i64 m2) := kp hb4 (by go_cell)
    clear hb4 hB3
    go_wp2_with fail
    refine (HV7.out _).mono ?_
    rintro e w5 ⟨rfl, hb5⟩
    have hB5 : Below w.heap.size w w5 := below_after (by go_grown) hb5
    have hz5 := hb5.size
    try simp only [World.size_alloc, World.size_setCell, World.size_drew] at hz5
    have hw5 := hB5.size
    replace c_c0 : w5.cell? ⟨w.heap.size, 0, none⟩ = some (.int .i64 t) := kp hb5 (by go_cell)
    replace c_c1 : w5.cell? ⟨w.heap.size, 1, none⟩ = some (.int .i64 lo) := kp hb5 (by go_cell)
    replace c_c2 : w5.cell? ⟨w.heap.size, 2, none⟩ = some (.int .i64 hi) := kp hb5 (by go_cell)
    replace c_c3 : w5.cell? ⟨w.heap.size, 3, none⟩ = some (.int .i64 dr) := kp hb5 (by go_cell)
    replace f_r0 : w5.frozen? ⟨w.heap.size + 1 + 1, 0, none⟩ = false := kf hb5 (by go_simp) (by go_simp)
    replace f_r1 : w5.frozen? ⟨w.heap.size + 1 + 1, 1, none⟩ = false := kf hb5 (by go_simp) (by go_simp)
    replace f_r2 : w5.frozen? ⟨w.heap.size + 1 + 1, 2, none⟩ = false := kf hb5 (by go_simp) (by go_simp)
    replace f_r3 : w5.frozen? ⟨w.heap.size + 1 + 1, 3, none⟩ = false := kf hb5 (by go_simp) (by go_simp)
    replace c_r0 : w5.cell? ⟨w.heap.size + 1 + 1, 0, none⟩ = some (.int .i64 0) := kp hb5 (by go_cell)
    replace c_r1 : w5.cell? ⟨w.heap.size + 1 + 1, 1, none⟩ = some (.int .i64 0) := kp hb5 (by go_cell)
    replace c_r2 : w5.cell? ⟨w.heap.size + 1 + 1, 2, none⟩ = some (.int .i64 0) := kp hb5 (by go_cell)
    replace c_r3 : w5.cell? ⟨w.heap.size + 1 + 1, 3, none⟩ = some (.int .i64 0) := kp hb5 (by go_cell)
    have c_o0 : w5.cell? ⟨w4.heap.size, 0, none⟩ = some (.int .i64 ((m1 - r))) := kp hb5 (by go_cell)
    have c_o1 : w5.cell? ⟨w4.heap.size, 1, none⟩ = some (.int .i64 ((m2 - r))) := kp hb5 (by go_cell)
    have c_n0 : w5.cell? ⟨w4.heap.size + 1, 0, none⟩ = some (.int .i64 r) := kp hb5 (by go_cell)
    have c_n1 : w5.cell? ⟨w4.heap.size + 1, 1, none⟩ = some (.int .i64 ((m1 - r))) := kp hb5 (by go_cell)
    have c_n2 : w5.cell? ⟨w4.heap.size + 1, 2, none⟩ = some (.int .i64 ((m2 - r))) := kp hb5 (by go_cell)
    have c_n3 : w5.cell? ⟨w4.heap.size + 1, 3, none⟩ = some (.int .i64 dr) := kp hb5 (by go_cell)
    clear hb5 hB4
    go_wp2_with fail
    rw [HR.out]
    refine ret_clock_bool (B := w.heap.size + 1 + 1) rfl rfl rfl (set4s _ _ _ _ (by go_simp) (by go_simp) (by go_simp) (by go_simp)).1 (set4s _ _ _ _ (by go_simp) (by go_simp) (by go_simp) (by go_simp)).2.1 (set4s _ _ _ _ (by go_simp) (by go_simp) (by go_simp) (by go_simp)).2.2.1 (set4s _ _ _ _ (by go_simp) (by go_simp) (by go_simp) (by go_simp)).2.2.2 ⟨rfl, by go_grown⟩

set_option maxHeartbeats 1600000 in
set_option maxRecDepth 100000 in
theorem Set_new3 (t lo hi dr r sl sh : Int) (w : World) (h : clkB t lo hi dr = true) (h2 : readB r = true) (h3 : vld sl sh = true) (hc : ¬ min (atHi t hi dr r) sh < max (atLo t lo dr r) sl) (he : ¬ min (atHi t hi dr r) sh - r = hi) (hn : clkB r (max (atLo t lo dr r) sl - r) (min (atHi t hi dr r) sh - r) dr = true) :
    Calls Try.prog 53 #[.agg #[.int .i64 t, .int .i64 lo, .int .i64 hi, .int .i64 dr], .int .i64 r, .agg #[.int .i64 sl, .int .i64 sh]] w fun e w' => e = .returned (.tuple #[.agg #[.int .i64 (setS t lo hi dr r sl sh).1.1, .int .i64 (setS t lo hi dr r sl sh).1.2.1, .int .i64 (setS t lo hi dr r sl sh).1.2.2.1, .int .i64 (setS t lo hi dr r sl sh).1.2.2.2], .bool (setS t lo hi dr r sl sh).2.1, .int .i64 (setS t lo hi dr r sl sh).2.2]) ∧ Below w.heap.size w w' := by
  have v1 := fun w => CValid_any t lo hi dr w
  have v2 := fun w => Valid_any sl sh w
  have v3 := fun w => isReading_any r w
  rw [h] at v1
  rw [h2] at v3
  rw [h3] at v2
  have v4 := fun w => at_any t lo hi dr r w h h2
  obtain ⟨b1, b2, b3⟩ := atLo_bounds h h2
  obtain ⟨t1, t2, r1, r2, o1, o2, o3⟩ := clkB_bounds h
  obtain ⟨q1, q2⟩ := readB_bounds h2
  obtain ⟨k1, k2, k3⟩ := vld_bounds h3
  have v5 := fun w => Meet_any (atLo t lo dr r) (atHi t hi dr r) sl sh w
  have hv : (vld (atLo t lo dr r) (atHi t hi dr r) && vld sl sh) = true := by rw [h3, Bool.and_true]; simp [vld]; omega
  have hm : meetS (atLo t lo dr r) (atHi t hi dr r) sl sh = (max (atLo t lo dr r) sl, min (atHi t hi dr r) sh, true, 0) := by rw [meetS, hv, if_pos rfl, if_neg hc]
  rw [hm] at v5
  have hr : setS t lo hi dr r sl sh = ((r, max (atLo t lo dr r) sl - r, min (atHi t hi dr r) sh - r, dr), true, 0) := by
    rw [setS, h, h2, h3, if_pos (by rfl), if_neg hc, hn, if_pos rfl]
  have HR := Lib.hid hr
  generalize atLo t lo dr r = x at *
  generalize atHi t hi dr r = y at *
  obtain ⟨m1, hm1⟩ : ∃ m1, m1 = max x sl := ⟨_, rfl⟩
  obtain ⟨m2, hm2⟩ : ∃ m2, m2 = min y sh := ⟨_, rfl⟩
  rw [← hm1, ← hm2] at v5 hc
  try rw [← hm1, ← hm2] at HR
  have j1 : -2000000 ≤ m1 := by omega
  have j2 : m2 ≤ 1002000000 := by omega
  have j3 : m1 ≤ m2 := by omega
  have j4 : m1 ≤ 1000000000000 := by omega
  have j5 : -1000000000000 ≤ m2 := by omega
  have v6 := fun w => Sub_any m1 m2 r r w
  rw [show subS m1 m2 r r = (m1 - r, m2 - r, 0) by
    have e1 : (vld m1 m2 && vld r r) = true := by simp [vld]; omega
    have e2 : vld (m1 - r) (m2 - r) = true := by simp [vld]; omega
    rw [subS, e1, if_pos rfl, leastS, e2, if_pos rfl]] at v6
  have HV6 := Lib.hid v6
  clear v6
  rw [← hm2] at he
  have n1 : (m2 - r == hi) = false := by simpa using he
  clear he
  have v7 := fun w => CValid_any r (m1 - r) (m2 - r) dr w
  rw [← hm1, ← hm2] at hn
  rw [hn] at v7
  have HV7 := Lib.hid v7
  clear v7 hn hm1 hm2
  have HV1 := Lib.hid v1
  have HV2 := Lib.hid v2
  have HV3 := Lib.hid v3
  have HV4 := Lib.hid v4
  have HV5 := Lib.hid v5
  clear hr hm hv v1 v2 v3 v4 v5 h h2 h3
  go_enter Try.func53, Try.ntmps53
  go_wp2_with fail
  refine (HV1.out _).mono ?_
  rintro e w1 ⟨rfl, hb1⟩
  have hB1 : Below w.heap.size w w1 := below_after (by go_grown) hb1
  have hz1 := hb1.size
  try simp only [World.size_alloc, World.size_setCell, World.size_drew] at hz1
  have hw1 := hB1.size
  have c_c0 : w1.cell? ⟨w.heap.size, 0, none⟩ = some (.int .i64 t) := kp hb1 (by go_cell)
  have c_c1 : w1.cell? ⟨w.heap.size, 1, none⟩ = some (.int .i64 lo) := kp hb1 (by go_cell)
  have c_c2 : w1.cell? ⟨w.heap.size, 2, none⟩ = some (.int .i64 hi) := kp hb1 (by go_cell)
  have c_c3 : w1.cell? ⟨w.heap.size, 3, none⟩ = some (.int .i64 dr) := kp hb1 (by go_cell)
  have c_s0 : w1.cell? ⟨w.heap.size + 1, 0, none⟩ = some (.int .i64 sl) := kp hb1 (by go_cell)
  have c_s1 : w1.cell? ⟨w.heap.size + 1, 1, none⟩ = some (.int .i64 sh) := kp hb1 (by go_cell)
  have f_r0 : w1.frozen? ⟨w.heap.size + 1 + 1, 0, none⟩ = false := kf hb1 (by go_simp) (by go_simp)
  have f_r1 : w1.frozen? ⟨w.heap.size + 1 + 1, 1, none⟩ = false := kf hb1 (by go_simp) (by go_simp)
  have f_r2 : w1.frozen? ⟨w.heap.size + 1 + 1, 2, none⟩ = false := kf hb1 (by go_simp) (by go_simp)
  have f_r3 : w1.frozen? ⟨w.heap.size + 1 + 1, 3, none⟩ = false := kf hb1 (by go_simp) (by go_simp)
  have c_r0 : w1.cell? ⟨w.heap.size + 1 + 1, 0, none⟩ = some (.int .i64 0) := kp hb1 (by go_cell)
  have c_r1 : w1.cell? ⟨w.heap.size + 1 + 1, 1, none⟩ = some (.int .i64 0) := kp hb1 (by go_cell)
  have c_r2 : w1.cell? ⟨w.heap.size + 1 + 1, 2, none⟩ = some (.int .i64 0) := kp hb1 (by go_cell)
  have c_r3 : w1.cell? ⟨w.heap.size + 1 + 1, 3, none⟩ = some (.int .i64 0) := kp hb1 (by go_cell)
  clear hb1
  go_wp2_with fail
  refine (HV3.out _).mono ?_
  rintro e w9 ⟨rfl, rfl⟩
  go_wp2_with fail
  refine (HV2.out _).mono ?_
  rintro e w2 ⟨rfl, hb2⟩
  have hB2 : Below w.heap.size w w2 := below_after (by go_grown) hb2
  have hz2 := hb2.size
  try simp only [World.size_alloc, World.size_setCell, World.size_drew] at hz2
  have hw2 := hB2.size
  replace c_c0 : w2.cell? ⟨w.heap.size, 0, none⟩ = some (.int .i64 t) := kp hb2 (by go_cell)
  replace c_c1 : w2.cell? ⟨w.heap.size, 1, none⟩ = some (.int .i64 lo) := kp hb2 (by go_cell)
  replace c_c2 : w2.cell? ⟨w.heap.size, 2, none⟩ = some (.int .i64 hi) := kp hb2 (by go_cell)
  replace c_c3 : w2.cell? ⟨w.heap.size, 3, none⟩ = some (.int .i64 dr) := kp hb2 (by go_cell)
  replace c_s0 : w2.cell? ⟨w.heap.size + 1, 0, none⟩ = some (.int .i64 sl) := kp hb2 (by go_cell)
  replace c_s1 : w2.cell? ⟨w.heap.size + 1, 1, none⟩ = some (.int .i64 sh) := kp hb2 (by go_cell)
  replace f_r0 : w2.frozen? ⟨w.heap.size + 1 + 1, 0, none⟩ = false := kf hb2 (by go_simp) (by go_simp)
  replace f_r1 : w2.frozen? ⟨w.heap.size + 1 + 1, 1, none⟩ = false := kf hb2 (by go_simp) (by go_simp)
  replace f_r2 : w2.frozen? ⟨w.heap.size + 1 + 1, 2, none⟩ = false := kf hb2 (by go_simp) (by go_simp)
  replace f_r3 : w2.frozen? ⟨w.heap.size + 1 + 1, 3, none⟩ = false := kf hb2 (by go_simp) (by go_simp)
  replace c_r0 : w2.cell? ⟨w.heap.size + 1 + 1, 0, none⟩ = some (.int .i64 0) := kp hb2 (by go_cell)
  replace c_r1 : w2.cell? ⟨w.heap.size + 1 + 1, 1, none⟩ = some (.int .i64 0) := kp hb2 (by go_cell)
  replace c_r2 : w2.cell? ⟨w.heap.size + 1 + 1, 2, none⟩ = some (.int .i64 0) := kp hb2 (by go_cell)
  replace c_r3 : w2.cell? ⟨w.heap.size + 1 + 1, 3, none⟩ = some (.int .i64 0) := kp hb2 (by go_cell)
  clear hb2 hB1
  have HA : Hid (True) := Lib.hid trivial
  go_upto_region 3 with fail
  go_cut [9, 10, 11] (fun s9 s10 s11 wx => ∃ g3 : Nat, s9 = .pointer (some ⟨g3, 0, none⟩) ∧ s10 = .bool true ∧ s11 = .int .i64 0 ∧ wx.cell? ⟨g3, 0, none⟩ = some (.int .i64 m1) ∧ wx.cell? ⟨g3, 1, none⟩ = some (.int .i64 m2) ∧ w.heap.size ≤ g3 ∧ Below w.heap.size w wx ∧ wx.cell? ⟨w.heap.size, 0, none⟩ = some (.int .i64 t) ∧ wx.cell? ⟨w.heap.size, 1, none⟩ = some (.int .i64 lo) ∧ wx.cell? ⟨w.heap.size, 2, none⟩ = some (.int .i64 hi) ∧ wx.cell? ⟨w.heap.size, 3, none⟩ = some (.int .i64 dr) ∧ wx.cell? ⟨w.heap.size + 1, 0, none⟩ = some (.int .i64 sl) ∧ wx.cell? ⟨w.heap.size + 1, 1, none⟩ = some (.int .i64 sh) ∧ wx.cell? ⟨w.heap.size + 1 + 1, 0, none⟩ = some (.int .i64 0) ∧ wx.cell? ⟨w.heap.size + 1 + 1, 1, none⟩ = some (.int .i64 0) ∧ wx.cell? ⟨w.heap.size + 1 + 1, 2, none⟩ = some (.int .i64 0) ∧ wx.cell? ⟨w.heap.size + 1 + 1, 3, none⟩ = some (.int .i64 0) ∧ wx.frozen? ⟨w.heap.size + 1 + 1, 0, none⟩ = false ∧ wx.frozen? ⟨w.heap.size + 1 + 1, 1, none⟩ = false ∧ wx.frozen? ⟨w.heap.size + 1 + 1, 2, none⟩ = false ∧ wx.frozen? ⟨w.heap.size + 1 + 1, 3, none⟩ = false)
  case first =>
    go_region_held3 (fun w' => Below w.heap.size w w' ∧ w'.cell? ⟨w.heap.size, 0, none⟩ = some (.int .i64 t) ∧ w'.cell? ⟨w.heap.size, 1, none⟩ = some (.int .i64 lo) ∧ w'.cell? ⟨w.heap.size, 2, none⟩ = some (.int .i64 hi) ∧ w'.cell? ⟨w.heap.size, 3, none⟩ = some (.int .i64 dr) ∧ w'.cell? ⟨w.heap.size + 1, 0, none⟩ = some (.int .i64 sl) ∧ w'.cell? ⟨w.heap.size + 1, 1, none⟩ = some (.int .i64 sh) ∧ w'.cell? ⟨w.heap.size + 1 + 1, 0, none⟩ = some (.int .i64 0) ∧ w'.cell? ⟨w.heap.size + 1 + 1, 1, none⟩ = some (.int .i64 0) ∧ w'.cell? ⟨w.heap.size + 1 + 1, 2, none⟩ = some (.int .i64 0) ∧ w'.cell? ⟨w.heap.size + 1 + 1, 3, none⟩ = some (.int .i64 0) ∧ w'.frozen? ⟨w.heap.size + 1 + 1, 0, none⟩ = false ∧ w'.frozen? ⟨w.heap.size + 1 + 1, 1, none⟩ = false ∧ w'.frozen? ⟨w.heap.size + 1 + 1, 2, none⟩ = false ∧ w'.frozen? ⟨w.heap.size + 1 + 1, 3, none⟩ = false)
      ((go_split_ands; refine ⟨?_, ?_, ?_, ?_, ?_, ?_, ?_, ?_, ?_, ?_, ?_, ?_, ?_, ?_, ?_⟩; (focus (first | (with_reducible assumption) | (go_grown; done) | (exact Below.drew (by go_grown)))); (focus (first | (with_reducible assumption) | go_cell | (go_simp; done))); (focus (first | (with_reducible assumption) | go_cell | (go_simp; done))); (focus (first | (with_reducible assumption) | go_cell | (go_simp; done))); (focus (first | (with_reducible assumption) | go_cell | (go_simp; done))); (focus (first | (with_reducible assumption) | go_cell | (go_simp; done))); (focus (first | (with_reducible assumption) | go_cell | (go_simp; done))); (focus (first | (with_reducible assumption) | go_cell | (go_simp; done))); (focus (first | (with_reducible assumption) | go_cell | (go_simp; done))); (focus (first | (with_reducible assumption) | go_cell | (go_simp; done))); (focus (first | (with_reducible assumption) | go_cell | (go_simp; done))); (focus (first | (with_reducible assumption) | go_cell | (go_simp; done))); (focus (first | (with_reducible assumption) | go_cell | (go_simp; done))); (focus (first | (with_reducible assumption) | go_cell | (go_simp; done))); (focus (first | (with_reducible assumption) | go_cell | (go_simp; done)))))
      (first | (go_at_call 78; (with_reducible refine (HV4.out _).mono ?_); rintro e xa ⟨rfl, hba⟩; have hB_xa : Below w.heap.size w xa := below_after (by go_grown) hba; have hw_xa := hB_xa.size; have hz_xa := hba.size; (try simp only [World.size_alloc, World.size_setCell, World.size_drew] at hz_xa); have c_c0_xa : xa.cell? ⟨w.heap.size, 0, none⟩ = some (.int .i64 t) := kp hba (by go_cell); have c_c1_xa : xa.cell? ⟨w.heap.size, 1, none⟩ = some (.int .i64 lo) := kp hba (by go_cell); have c_c2_xa : xa.cell? ⟨w.heap.size, 2, none⟩ = some (.int .i64 hi) := kp hba (by go_cell); have c_c3_xa : xa.cell? ⟨w.heap.size, 3, none⟩ = some (.int .i64 dr) := kp hba (by go_cell); have c_s0_xa : xa.cell? ⟨w.heap.size + 1, 0, none⟩ = some (.int .i64 sl) := kp hba (by go_cell); have c_s1_xa : xa.cell? ⟨w.heap.size + 1, 1, none⟩ = some (.int .i64 sh) := kp hba (by go_cell); have f_r0_xa : xa.frozen? ⟨w.heap.size + 1 + 1, 0, none⟩ = false := kf hba (by go_simp) (by go_simp); have f_r1_xa : xa.frozen? ⟨w.heap.size + 1 + 1, 1, none⟩ = false := kf hba (by go_simp) (by go_simp); have f_r2_xa : xa.frozen? ⟨w.heap.size + 1 + 1, 2, none⟩ = false := kf hba (by go_simp) (by go_simp); have f_r3_xa : xa.frozen? ⟨w.heap.size + 1 + 1, 3, none⟩ = false := kf hba (by go_simp) (by go_simp); have c_r0_xa : xa.cell? ⟨w.heap.size + 1 + 1, 0, none⟩ = some (.int .i64 0) := kp hba (by go_cell); have c_r1_xa : xa.cell? ⟨w.heap.size + 1 + 1, 1, none⟩ = some (.int .i64 0) := kp hba (by go_cell); have c_r2_xa : xa.cell? ⟨w.heap.size + 1 + 1, 2, none⟩ = some (.int .i64 0) := kp hba (by go_cell); have c_r3_xa : xa.cell? ⟨w.heap.size + 1 + 1, 3, none⟩ = some (.int .i64 0) := kp hba (by go_cell); (try (have n0f0_xa : xa.frozen? ⟨w2.heap.size, 0, none⟩ = false := ?_; rotate_left 1; focus (refine kf hba ?_ ?_ <;> (go_simp; done)))); (try (have n0c0_xa : xa.cell? ⟨w2.heap.size, 0, none⟩ = some (.int .i64 0) := ?_; rotate_left 1; focus (refine kp hba ?_; go_cell; done))); (try (have n0f1_xa : xa.frozen? ⟨w2.heap.size, 1, none⟩ = false := ?_; rotate_left 1; focus (refine kf hba ?_ ?_ <;> (go_simp; done)))); (try (have n0c1_xa : xa.cell? ⟨w2.heap.size, 1, none⟩ = some (.int .i64 0) := ?_; rotate_left 1; focus (refine kp hba ?_; go_cell; done)))) | (go_at_call 37; (with_reducible refine (HV5.out _).mono ?_); rintro e xb ⟨rfl, hbb⟩; have hB_xb : Below w.heap.size w xb := below_after (by go_grown) hbb; have hw_xb := hB_xb.size; have hz_xb := hbb.size; (try simp only [World.size_alloc, World.size_setCell, World.size_drew] at hz_xb); have c_c0_xb : xb.cell? ⟨w.heap.size, 0, none⟩ = some (.int .i64 t) := kp hbb (by go_cell); have c_c1_xb : xb.cell? ⟨w.heap.size, 1, none⟩ = some (.int .i64 lo) := kp hbb (by go_cell); have c_c2_xb : xb.cell? ⟨w.heap.size, 2, none⟩ = some (.int .i64 hi) := kp hbb (by go_cell); have c_c3_xb : xb.cell? ⟨w.heap.size, 3, none⟩ = some (.int .i64 dr) := kp hbb (by go_cell); have c_s0_xb : xb.cell? ⟨w.heap.size + 1, 0, none⟩ = some (.int .i64 sl) := kp hbb (by go_cell); have c_s1_xb : xb.cell? ⟨w.heap.size + 1, 1, none⟩ = some (.int .i64 sh) := kp hbb (by go_cell); have f_r0_xb : xb.frozen? ⟨w.heap.size + 1 + 1, 0, none⟩ = false := kf hbb (by go_simp) (by go_simp); have f_r1_xb : xb.frozen? ⟨w.heap.size + 1 + 1, 1, none⟩ = false := kf hbb (by go_simp) (by go_simp); have f_r2_xb : xb.frozen? ⟨w.heap.size + 1 + 1, 2, none⟩ = false := kf hbb (by go_simp) (by go_simp); have f_r3_xb : xb.frozen? ⟨w.heap.size + 1 + 1, 3, none⟩ = false := kf hbb (by go_simp) (by go_simp); have c_r0_xb : xb.cell? ⟨w.heap.size + 1 + 1, 0, none⟩ = some (.int .i64 0) := kp hbb (by go_cell); have c_r1_xb : xb.cell? ⟨w.heap.size + 1 + 1, 1, none⟩ = some (.int .i64 0) := kp hbb (by go_cell); have c_r2_xb : xb.cell? ⟨w.heap.size + 1 + 1, 2, none⟩ = some (.int .i64 0) := kp hbb (by go_cell); have c_r3_xb : xb.cell? ⟨w.heap.size + 1 + 1, 3, none⟩ = some (.int .i64 0) := kp hbb (by go_cell); (try (have n0f0_xb : xb.frozen? ⟨w2.heap.size, 0, none⟩ = false := ?_; rotate_left 1; focus (refine kf hbb ?_ ?_ <;> (go_simp; done)))); (try (have n0c0_xb : xb.cell? ⟨w2.heap.size, 0, none⟩ = some (.int .i64 0) := ?_; rotate_left 1; focus (refine kp hbb ?_; go_cell; done))); (try (have n0f1_xb : xb.frozen? ⟨w2.heap.size, 1, none⟩ = false := ?_; rotate_left 1; focus (refine kf hbb ?_ ?_ <;> (go_simp; done)))); (try (have n0c1_xb : xb.cell? ⟨w2.heap.size, 1, none⟩ = some (.int .i64 0) := ?_; rotate_left 1; focus (refine kp hbb ?_; go_cell; done))); (try (have n1f0_xb : xb.frozen? ⟨xa.heap.size, 0, none⟩ = false := ?_; rotate_left 1; focus (refine kf hbb ?_ ?_ <;> (go_simp; done)))); (try (have n1c0_xb : xb.cell? ⟨xa.heap.size, 0, none⟩ = some (.int .i64 0) := ?_; rotate_left 1; focus (refine kp hbb ?_; go_cell; done))); (try (have n1f1_xb : xb.frozen? ⟨xa.heap.size, 1, none⟩ = false := ?_; rotate_left 1; focus (refine kf hbb ?_ ?_ <;> (go_simp; done)))); (try (have n1c1_xb : xb.cell? ⟨xa.heap.size, 1, none⟩ = some (.int .i64 0) := ?_; rotate_left 1; focus (refine kp hbb ?_; go_cell; done)))))
    all_goals go_split_ands
    all_goals (go_wp2_with fail)
    all_goals go_meet
    all_goals (refine ⟨_, rfl, rfl, rfl, ?_, ?_, ?_, ?_, ?_, ?_, ?_, ?_, ?_, ?_, ?_, ?_, ?_, ?_, ?_, ?_, ?_, ?_⟩ <;> first | (with_reducible assumption) | (go_grown; done) | go_cell | (go_simp; done) | (go_simp; omega))
  case rest =>
    obtain ⟨g3, rfl, rfl, rfl, c_m0, c_m1, hg3, hB3, c_c0, c_c1, c_c2, c_c3, c_s0, c_s1, c_r0, c_r1, c_r2, c_r3, f_r0, f_r1, f_r2, f_r3⟩ := hcut
    have hw3 := hB3.size
    go_wp2_with fail
    refine (HV6.out _).mono ?_
    rintro e w4 ⟨rfl, hb4⟩
    have hB4 : Below w.heap.size w w4 := below_after (by go_grown) hb4
    have hz4 := hb4.size
    try simp only [World.size_alloc, World.size_setCell, World.size_drew] at hz4
    have hw4 := hB4.size
    replace c_c0 : w4.cell? ⟨w.heap.size, 0, none⟩ = some (.int .i64 t) := kp hb4 (by go_cell)
    replace c_c1 : w4.cell? ⟨w.heap.size, 1, none⟩ = some (.int .i64 lo) := kp hb4 (by go_cell)
    replace c_c2 : w4.cell? ⟨w.heap.size, 2, none⟩ = some (.int .i64 hi) := kp hb4 (by go_cell)
    replace c_c3 : w4.cell? ⟨w.heap.size, 3, none⟩ = some (.int .i64 dr) := kp hb4 (by go_cell)
    replace c_s0 : w4.cell? ⟨w.heap.size + 1, 0, none⟩ = some (.int .i64 sl) := kp hb4 (by go_cell)
    replace c_s1 : w4.cell? ⟨w.heap.size + 1, 1, none⟩ = some (.int .i64 sh) := kp hb4 (by go_cell)
    replace f_r0 : w4.frozen? ⟨w.heap.size + 1 + 1, 0, none⟩ = false := kf hb4 (by go_simp) (by go_simp)
    replace f_r1 : w4.frozen? ⟨w.heap.size + 1 + 1, 1, none⟩ = false := kf hb4 (by go_simp) (by go_simp)
    replace f_r2 : w4.frozen? ⟨w.heap.size + 1 + 1, 2, none⟩ = false := kf hb4 (by go_simp) (by go_simp)
    replace f_r3 : w4.frozen? ⟨w.heap.size + 1 + 1, 3, none⟩ = false := kf hb4 (by go_simp) (by go_simp)
    replace c_r0 : w4.cell? ⟨w.heap.size + 1 + 1, 0, none⟩ = some (.int .i64 0) := kp hb4 (by go_cell)
    replace c_r1 : w4.cell? ⟨w.heap.size + 1 + 1, 1, none⟩ = some (.int .i64 0) := kp hb4 (by go_cell)
    replace c_r2 : w4.cell? ⟨w.heap.size + 1 + 1, 2, none⟩ = some (.int .i64 0) := kp hb4 (by go_cell)
    replace c_r3 : w4.cell? ⟨w.heap.size + 1 + 1, 3, none⟩ = some (.int .i64 0) := kp hb4 (by go_cell)
    replace c_m0 : w4.cell? ⟨g3, 0, none⟩ = some (.int .i64 m1) := kp hb4 (by go_cell)
    replace c_m1 : w4.cell? ⟨g3, 1, none⟩ = some (.int .i64 m2) := kp hb4 (by go_cell)
    clear hb4 hB3
    go_wp2_with fail
    refine (HV7.out _).mono ?_
    rintro e w5 ⟨rfl, hb5⟩
    have hB5 : Below w.heap.size w w5 := below_after (by go_grown) hb5
    have hz5 := hb5.size
    try simp only [World.size_alloc, World.size_setCell, World.size_drew] at hz5
    have hw5 := hB5.size
    replace c_c0 : w5.cell? ⟨w.heap.size, 0, none⟩ = some (.int .i64 t) := kp hb5 (by go_cell)
    replace c_c1 : w5.cell? ⟨w.heap.size, 1, none⟩ = some (.int .i64 lo) := kp hb5 (by go_cell)
    replace c_c2 : w5.cell? ⟨w.heap.size, 2, none⟩ = some (.int .i64 hi) := kp hb5 (by go_cell)
    replace c_c3 : w5.cell? ⟨w.heap.size, 3, none⟩ = some (.int .i64 dr) := kp hb5 (by go_cell)
    replace f_r0 : w5.frozen? ⟨w.heap.size + 1 + 1, 0, none⟩ = false := kf hb5 (by go_simp) (by go_simp)
    replace f_r1 : w5.frozen? ⟨w.heap.size + 1 + 1, 1, none⟩ = false := kf hb5 (by go_simp) (by go_simp)
    replace f_r2 : w5.frozen? ⟨w.heap.size + 1 + 1, 2, none⟩ = false := kf hb5 (by go_simp) (by go_simp)
    replace f_r3 : w5.frozen? ⟨w.heap.size + 1 + 1, 3, none⟩ = false := kf hb5 (by go_simp) (by go_simp)
    replace c_r0 : w5.cell? ⟨w.heap.size + 1 + 1, 0, none⟩ = some (.int .i64 0) := kp hb5 (by go_cell)
    replace c_r1 : w5.cell? ⟨w.heap.size + 1 + 1, 1, none⟩ = some (.int .i64 0) := kp hb5 (by go_cell)
    replace c_r2 : w5.cell? ⟨w.heap.size + 1 + 1, 2, none⟩ = some (.int .i64 0) := kp hb5 (by go_cell)
    replace c_r3 : w5.cell? ⟨w.heap.size + 1 + 1, 3, none⟩ = some (.int .i64 0) := kp hb5 (by go_cell)
    have c_o0 : w5.cell? ⟨w4.heap.size, 0, none⟩ = some (.int .i64 ((m1 - r))) := kp hb5 (by go_cell)
    have c_o1 : w5.cell? ⟨w4.heap.size, 1, none⟩ = some (.int .i64 ((m2 - r))) := kp hb5 (by go_cell)
    have c_n0 : w5.cell? ⟨w4.heap.size + 1, 0, none⟩ = some (.int .i64 r) := kp hb5 (by go_cell)
    have c_n1 : w5.cell? ⟨w4.heap.size + 1, 1, none⟩ = some (.int .i64 ((m1 - r))) := kp hb5 (by go_cell)
    have c_n2 : w5.cell? ⟨w4.heap.size + 1, 2, none⟩ = some (.int .i64 ((m2 - r))) := kp hb5 (by go_cell)
    have c_n3 : w5.cell? ⟨w4.heap.size + 1, 3, none⟩ = some (.int .i64 dr) := kp hb5 (by go_cell)
    clear hb5 hB4
    go_wp2_with fail
    rw [HR.out]
    refine ret_clock_bool (B := w.heap.size + 1 + 1) rfl rfl rfl (set4s _ _ _ _ (by go_simp) (by go_simp) (by go_simp) (by go_simp)).1 (set4s _ _ _ _ (by go_simp) (by go_simp) (by go_simp) (by go_simp)).2.1 (set4s _ _ _ _ (by go_simp) (by go_simp) (by go_simp) (by go_simp)).2.2.1 (set4s _ _ _ _ (by go_simp) (by go_simp) (by go_simp) (by go_simp)).2.2.2 ⟨rfl, by go_grown⟩

set_option maxHeartbeats 1600000 in
set_option maxRecDepth 100000 in
theorem Set_out1 (t lo hi dr r sl sh : Int) (w : World) (h : clkB t lo hi dr = true) (h2 : readB r = true) (h3 : vld sl sh = true) (hc : ¬ min (atHi t hi dr r) sh < max (atLo t lo dr r) sl) (he : ¬ r = t) (hn : clkB r (max (atLo t lo dr r) sl - r) (min (atHi t hi dr r) sh - r) dr = false) :
    Calls Try.prog 53 #[.agg #[.int .i64 t, .int .i64 lo, .int .i64 hi, .int .i64 dr], .int .i64 r, .agg #[.int .i64 sl, .int .i64 sh]] w fun e w' => e = .returned (.tuple #[.agg #[.int .i64 (setS t lo hi dr r sl sh).1.1, .int .i64 (setS t lo hi dr r sl sh).1.2.1, .int .i64 (setS t lo hi dr r sl sh).1.2.2.1, .int .i64 (setS t lo hi dr r sl sh).1.2.2.2], .bool (setS t lo hi dr r sl sh).2.1, .int .i64 (setS t lo hi dr r sl sh).2.2]) ∧ Below w.heap.size w w' := by
  have v1 := fun w => CValid_any t lo hi dr w
  have v2 := fun w => Valid_any sl sh w
  have v3 := fun w => isReading_any r w
  rw [h] at v1
  rw [h2] at v3
  rw [h3] at v2
  have v4 := fun w => at_any t lo hi dr r w h h2
  obtain ⟨b1, b2, b3⟩ := atLo_bounds h h2
  obtain ⟨t1, t2, r1, r2, o1, o2, o3⟩ := clkB_bounds h
  obtain ⟨q1, q2⟩ := readB_bounds h2
  obtain ⟨k1, k2, k3⟩ := vld_bounds h3
  have v5 := fun w => Meet_any (atLo t lo dr r) (atHi t hi dr r) sl sh w
  have hv : (vld (atLo t lo dr r) (atHi t hi dr r) && vld sl sh) = true := by rw [h3, Bool.and_true]; simp [vld]; omega
  have hm : meetS (atLo t lo dr r) (atHi t hi dr r) sl sh = (max (atLo t lo dr r) sl, min (atHi t hi dr r) sh, true, 0) := by rw [meetS, hv, if_pos rfl, if_neg hc]
  rw [hm] at v5
  have hr : setS t lo hi dr r sl sh = ((0, 0, 0, 0), false, 3) := by
    rw [setS, h, h2, h3, if_pos (by rfl), if_neg hc, hn, if_neg (by decide)]
  have HR := Lib.hid hr
  generalize atLo t lo dr r = x at *
  generalize atHi t hi dr r = y at *
  obtain ⟨m1, hm1⟩ : ∃ m1, m1 = max x sl := ⟨_, rfl⟩
  obtain ⟨m2, hm2⟩ : ∃ m2, m2 = min y sh := ⟨_, rfl⟩
  rw [← hm1, ← hm2] at v5 hc
  try rw [← hm1, ← hm2] at HR
  have j1 : -2000000 ≤ m1 := by omega
  have j2 : m2 ≤ 1002000000 := by omega
  have j3 : m1 ≤ m2 := by omega
  have j4 : m1 ≤ 1000000000000 := by omega
  have j5 : -1000000000000 ≤ m2 := by omega
  have v6 := fun w => Sub_any m1 m2 r r w
  rw [show subS m1 m2 r r = (m1 - r, m2 - r, 0) by
    have e1 : (vld m1 m2 && vld r r) = true := by simp [vld]; omega
    have e2 : vld (m1 - r) (m2 - r) = true := by simp [vld]; omega
    rw [subS, e1, if_pos rfl, leastS, e2, if_pos rfl]] at v6
  have HV6 := Lib.hid v6
  clear v6
  have n1 : (r == t) = false := by simpa using he
  clear he
  have v7 := fun w => CValid_any r (m1 - r) (m2 - r) dr w
  rw [← hm1, ← hm2] at hn
  rw [hn] at v7
  have HV7 := Lib.hid v7
  clear v7 hn hm1 hm2
  have HV1 := Lib.hid v1
  have HV2 := Lib.hid v2
  have HV3 := Lib.hid v3
  have HV4 := Lib.hid v4
  have HV5 := Lib.hid v5
  clear hr hm hv v1 v2 v3 v4 v5 h h2 h3
  go_enter Try.func53, Try.ntmps53
  go_wp2_with fail
  refine (HV1.out _).mono ?_
  rintro e w1 ⟨rfl, hb1⟩
  have hB1 : Below w.heap.size w w1 := below_after (by go_grown) hb1
  have hz1 := hb1.size
  try simp only [World.size_alloc, World.size_setCell, World.size_drew] at hz1
  have hw1 := hB1.size
  have c_c0 : w1.cell? ⟨w.heap.size, 0, none⟩ = some (.int .i64 t) := kp hb1 (by go_cell)
  have c_c1 : w1.cell? ⟨w.heap.size, 1, none⟩ = some (.int .i64 lo) := kp hb1 (by go_cell)
  have c_c2 : w1.cell? ⟨w.heap.size, 2, none⟩ = some (.int .i64 hi) := kp hb1 (by go_cell)
  have c_c3 : w1.cell? ⟨w.heap.size, 3, none⟩ = some (.int .i64 dr) := kp hb1 (by go_cell)
  have c_s0 : w1.cell? ⟨w.heap.size + 1, 0, none⟩ = some (.int .i64 sl) := kp hb1 (by go_cell)
  have c_s1 : w1.cell? ⟨w.heap.size + 1, 1, none⟩ = some (.int .i64 sh) := kp hb1 (by go_cell)
  have f_r0 : w1.frozen? ⟨w.heap.size + 1 + 1, 0, none⟩ = false := kf hb1 (by go_simp) (by go_simp)
  have f_r1 : w1.frozen? ⟨w.heap.size + 1 + 1, 1, none⟩ = false := kf hb1 (by go_simp) (by go_simp)
  have f_r2 : w1.frozen? ⟨w.heap.size + 1 + 1, 2, none⟩ = false := kf hb1 (by go_simp) (by go_simp)
  have f_r3 : w1.frozen? ⟨w.heap.size + 1 + 1, 3, none⟩ = false := kf hb1 (by go_simp) (by go_simp)
  have c_r0 : w1.cell? ⟨w.heap.size + 1 + 1, 0, none⟩ = some (.int .i64 0) := kp hb1 (by go_cell)
  have c_r1 : w1.cell? ⟨w.heap.size + 1 + 1, 1, none⟩ = some (.int .i64 0) := kp hb1 (by go_cell)
  have c_r2 : w1.cell? ⟨w.heap.size + 1 + 1, 2, none⟩ = some (.int .i64 0) := kp hb1 (by go_cell)
  have c_r3 : w1.cell? ⟨w.heap.size + 1 + 1, 3, none⟩ = some (.int .i64 0) := kp hb1 (by go_cell)
  clear hb1
  go_wp2_with fail
  refine (HV3.out _).mono ?_
  rintro e w9 ⟨rfl, rfl⟩
  go_wp2_with fail
  refine (HV2.out _).mono ?_
  rintro e w2 ⟨rfl, hb2⟩
  have hB2 : Below w.heap.size w w2 := below_after (by go_grown) hb2
  have hz2 := hb2.size
  try simp only [World.size_alloc, World.size_setCell, World.size_drew] at hz2
  have hw2 := hB2.size
  replace c_c0 : w2.cell? ⟨w.heap.size, 0, none⟩ = some (.int .i64 t) := kp hb2 (by go_cell)
  replace c_c1 : w2.cell? ⟨w.heap.size, 1, none⟩ = some (.int .i64 lo) := kp hb2 (by go_cell)
  replace c_c2 : w2.cell? ⟨w.heap.size, 2, none⟩ = some (.int .i64 hi) := kp hb2 (by go_cell)
  replace c_c3 : w2.cell? ⟨w.heap.size, 3, none⟩ = some (.int .i64 dr) := kp hb2 (by go_cell)
  replace c_s0 : w2.cell? ⟨w.heap.size + 1, 0, none⟩ = some (.int .i64 sl) := kp hb2 (by go_cell)
  replace c_s1 : w2.cell? ⟨w.heap.size + 1, 1, none⟩ = some (.int .i64 sh) := kp hb2 (by go_cell)
  replace f_r0 : w2.frozen? ⟨w.heap.size + 1 + 1, 0, none⟩ = false := kf hb2 (by go_simp) (by go_simp)
  replace f_r1 : w2.frozen? ⟨w.heap.size + 1 + 1, 1, none⟩ = false := kf hb2 (by go_simp) (by go_simp)
  replace f_r2 : w2.frozen? ⟨w.heap.size + 1 + 1, 2, none⟩ = false := kf hb2 (by go_simp) (by go_simp)
  replace f_r3 : w2.frozen? ⟨w.heap.size + 1 + 1, 3, none⟩ = false := kf hb2 (by go_simp) (by go_simp)
  replace c_r0 : w2.cell? ⟨w.heap.size + 1 + 1, 0, none⟩ = some (.int .i64 0) := kp hb2 (by go_cell)
  replace c_r1 : w2.cell? ⟨w.heap.size + 1 + 1, 1, none⟩ = some (.int .i64 0) := kp hb2 (by go_cell)
  replace c_r2 : w2.cell? ⟨w.heap.size + 1 + 1, 2, none⟩ = some (.int .i64 0) := kp hb2 (by go_cell)
  replace c_r3 : w2.cell? ⟨w.heap.size + 1 + 1, 3, none⟩ = some (.int .i64 0) := kp hb2 (by go_cell)
  clear hb2 hB1
  have HA : Hid (True) := Lib.hid trivial
  go_upto_region 3 with fail
  go_cut [9, 10, 11] (fun s9 s10 s11 wx => ∃ g3 : Nat, s9 = .pointer (some ⟨g3, 0, none⟩) ∧ s10 = .bool true ∧ s11 = .int .i64 0 ∧ wx.cell? ⟨g3, 0, none⟩ = some (.int .i64 m1) ∧ wx.cell? ⟨g3, 1, none⟩ = some (.int .i64 m2) ∧ w.heap.size ≤ g3 ∧ Below w.heap.size w wx ∧ wx.cell? ⟨w.heap.size, 0, none⟩ = some (.int .i64 t) ∧ wx.cell? ⟨w.heap.size, 1, none⟩ = some (.int .i64 lo) ∧ wx.cell? ⟨w.heap.size, 2, none⟩ = some (.int .i64 hi) ∧ wx.cell? ⟨w.heap.size, 3, none⟩ = some (.int .i64 dr) ∧ wx.cell? ⟨w.heap.size + 1, 0, none⟩ = some (.int .i64 sl) ∧ wx.cell? ⟨w.heap.size + 1, 1, none⟩ = some (.int .i64 sh) ∧ wx.cell? ⟨w.heap.size + 1 + 1, 0, none⟩ = some (.int .i64 0) ∧ wx.cell? ⟨w.heap.size + 1 + 1, 1, none⟩ = some (.int .i64 0) ∧ wx.cell? ⟨w.heap.size + 1 + 1, 2, none⟩ = some (.int .i64 0) ∧ wx.cell? ⟨w.heap.size + 1 + 1, 3, none⟩ = some (.int .i64 0) ∧ wx.frozen? ⟨w.heap.size + 1 + 1, 0, none⟩ = false ∧ wx.frozen? ⟨w.heap.size + 1 + 1, 1, none⟩ = false ∧ wx.frozen? ⟨w.heap.size + 1 + 1, 2, none⟩ = false ∧ wx.frozen? ⟨w.heap.size + 1 + 1, 3, none⟩ = false)
  case first =>
    go_region_held3 (fun w' => Below w.heap.size w w' ∧ w'.cell? ⟨w.heap.size, 0, none⟩ = some (.int .i64 t) ∧ w'.cell? ⟨w.heap.size, 1, none⟩ = some (.int .i64 lo) ∧ w'.cell? ⟨w.heap.size, 2, none⟩ = some (.int .i64 hi) ∧ w'.cell? ⟨w.heap.size, 3, none⟩ = some (.int .i64 dr) ∧ w'.cell? ⟨w.heap.size + 1, 0, none⟩ = some (.int .i64 sl) ∧ w'.cell? ⟨w.heap.size + 1, 1, none⟩ = some (.int .i64 sh) ∧ w'.cell? ⟨w.heap.size + 1 + 1, 0, none⟩ = some (.int .i64 0) ∧ w'.cell? ⟨w.heap.size + 1 + 1, 1, none⟩ = some (.int .i64 0) ∧ w'.cell? ⟨w.heap.size + 1 + 1, 2, none⟩ = some (.int .i64 0) ∧ w'.cell? ⟨w.heap.size + 1 + 1, 3, none⟩ = some (.int .i64 0) ∧ w'.frozen? ⟨w.heap.size + 1 + 1, 0, none⟩ = false ∧ w'.frozen? ⟨w.heap.size + 1 + 1, 1, none⟩ = false ∧ w'.frozen? ⟨w.heap.size + 1 + 1, 2, none⟩ = false ∧ w'.frozen? ⟨w.heap.size + 1 + 1, 3, none⟩ = false)
      ((go_split_ands; refine ⟨?_, ?_, ?_, ?_, ?_, ?_, ?_, ?_, ?_, ?_, ?_, ?_, ?_, ?_, ?_⟩; (focus (first | (with_reducible assumption) | (go_grown; done) | (exact Below.drew (by go_grown)))); (focus (first | (with_reducible assumption) | go_cell | (go_simp; done))); (focus (first | (with_reducible assumption) | go_cell | (go_simp; done))); (focus (first | (with_reducible assumption) | go_cell | (go_simp; done))); (focus (first | (with_reducible assumption) | go_cell | (go_simp; done))); (focus (first | (with_reducible assumption) | go_cell | (go_simp; done))); (focus (first | (with_reducible assumption) | go_cell | (go_simp; done))); (focus (first | (with_reducible assumption) | go_cell | (go_simp; done))); (focus (first | (with_reducible assumption) | go_cell | (go_simp; done))); (focus (first | (with_reducible assumption) | go_cell | (go_simp; done))); (focus (first | (with_reducible assumption) | go_cell | (go_simp; done))); (focus (first | (with_reducible assumption) | go_cell | (go_simp; done))); (focus (first | (with_reducible assumption) | go_cell | (go_simp; done))); (focus (first | (with_reducible assumption) | go_cell | (go_simp; done))); (focus (first | (with_reducible assumption) | go_cell | (go_simp; done)))))
      (first | (go_at_call 78; (with_reducible refine (HV4.out _).mono ?_); rintro e xa ⟨rfl, hba⟩; have hB_xa : Below w.heap.size w xa := below_after (by go_grown) hba; have hw_xa := hB_xa.size; have hz_xa := hba.size; (try simp only [World.size_alloc, World.size_setCell, World.size_drew] at hz_xa); have c_c0_xa : xa.cell? ⟨w.heap.size, 0, none⟩ = some (.int .i64 t) := kp hba (by go_cell); have c_c1_xa : xa.cell? ⟨w.heap.size, 1, none⟩ = some (.int .i64 lo) := kp hba (by go_cell); have c_c2_xa : xa.cell? ⟨w.heap.size, 2, none⟩ = some (.int .i64 hi) := kp hba (by go_cell); have c_c3_xa : xa.cell? ⟨w.heap.size, 3, none⟩ = some (.int .i64 dr) := kp hba (by go_cell); have c_s0_xa : xa.cell? ⟨w.heap.size + 1, 0, none⟩ = some (.int .i64 sl) := kp hba (by go_cell); have c_s1_xa : xa.cell? ⟨w.heap.size + 1, 1, none⟩ = some (.int .i64 sh) := kp hba (by go_cell); have f_r0_xa : xa.frozen? ⟨w.heap.size + 1 + 1, 0, none⟩ = false := kf hba (by go_simp) (by go_simp); have f_r1_xa : xa.frozen? ⟨w.heap.size + 1 + 1, 1, none⟩ = false := kf hba (by go_simp) (by go_simp); have f_r2_xa : xa.frozen? ⟨w.heap.size + 1 + 1, 2, none⟩ = false := kf hba (by go_simp) (by go_simp); have f_r3_xa : xa.frozen? ⟨w.heap.size + 1 + 1, 3, none⟩ = false := kf hba (by go_simp) (by go_simp); have c_r0_xa : xa.cell? ⟨w.heap.size + 1 + 1, 0, none⟩ = some (.int .i64 0) := kp hba (by go_cell); have c_r1_xa : xa.cell? ⟨w.heap.size + 1 + 1, 1, none⟩ = some (.int .i64 0) := kp hba (by go_cell); have c_r2_xa : xa.cell? ⟨w.heap.size + 1 + 1, 2, none⟩ = some (.int .i64 0) := kp hba (by go_cell); have c_r3_xa : xa.cell? ⟨w.heap.size + 1 + 1, 3, none⟩ = some (.int .i64 0) := kp hba (by go_cell); (try (have n0f0_xa : xa.frozen? ⟨w2.heap.size, 0, none⟩ = false := ?_; rotate_left 1; focus (refine kf hba ?_ ?_ <;> (go_simp; done)))); (try (have n0c0_xa : xa.cell? ⟨w2.heap.size, 0, none⟩ = some (.int .i64 0) := ?_; rotate_left 1; focus (refine kp hba ?_; go_cell; done))); (try (have n0f1_xa : xa.frozen? ⟨w2.heap.size, 1, none⟩ = false := ?_; rotate_left 1; focus (refine kf hba ?_ ?_ <;> (go_simp; done)))); (try (have n0c1_xa : xa.cell? ⟨w2.heap.size, 1, none⟩ = some (.int .i64 0) := ?_; rotate_left 1; focus (refine kp hba ?_; go_cell; done)))) | (go_at_call 37; (with_reducible refine (HV5.out _).mono ?_); rintro e xb ⟨rfl, hbb⟩; have hB_xb : Below w.heap.size w xb := below_after (by go_grown) hbb; have hw_xb := hB_xb.size; have hz_xb := hbb.size; (try simp only [World.size_alloc, World.size_setCell, World.size_drew] at hz_xb); have c_c0_xb : xb.cell? ⟨w.heap.size, 0, none⟩ = some (.int .i64 t) := kp hbb (by go_cell); have c_c1_xb : xb.cell? ⟨w.heap.size, 1, none⟩ = some (.int .i64 lo) := kp hbb (by go_cell); have c_c2_xb : xb.cell? ⟨w.heap.size, 2, none⟩ = some (.int .i64 hi) := kp hbb (by go_cell); have c_c3_xb : xb.cell? ⟨w.heap.size, 3, none⟩ = some (.int .i64 dr) := kp hbb (by go_cell); have c_s0_xb : xb.cell? ⟨w.heap.size + 1, 0, none⟩ = some (.int .i64 sl) := kp hbb (by go_cell); have c_s1_xb : xb.cell? ⟨w.heap.size + 1, 1, none⟩ = some (.int .i64 sh) := kp hbb (by go_cell); have f_r0_xb : xb.frozen? ⟨w.heap.size + 1 + 1, 0, none⟩ = false := kf hbb (by go_simp) (by go_simp); have f_r1_xb : xb.frozen? ⟨w.heap.size + 1 + 1, 1, none⟩ = false := kf hbb (by go_simp) (by go_simp); have f_r2_xb : xb.frozen? ⟨w.heap.size + 1 + 1, 2, none⟩ = false := kf hbb (by go_simp) (by go_simp); have f_r3_xb : xb.frozen? ⟨w.heap.size + 1 + 1, 3, none⟩ = false := kf hbb (by go_simp) (by go_simp); have c_r0_xb : xb.cell? ⟨w.heap.size + 1 + 1, 0, none⟩ = some (.int .i64 0) := kp hbb (by go_cell); have c_r1_xb : xb.cell? ⟨w.heap.size + 1 + 1, 1, none⟩ = some (.int .i64 0) := kp hbb (by go_cell); have c_r2_xb : xb.cell? ⟨w.heap.size + 1 + 1, 2, none⟩ = some (.int .i64 0) := kp hbb (by go_cell); have c_r3_xb : xb.cell? ⟨w.heap.size + 1 + 1, 3, none⟩ = some (.int .i64 0) := kp hbb (by go_cell); (try (have n0f0_xb : xb.frozen? ⟨w2.heap.size, 0, none⟩ = false := ?_; rotate_left 1; focus (refine kf hbb ?_ ?_ <;> (go_simp; done)))); (try (have n0c0_xb : xb.cell? ⟨w2.heap.size, 0, none⟩ = some (.int .i64 0) := ?_; rotate_left 1; focus (refine kp hbb ?_; go_cell; done))); (try (have n0f1_xb : xb.frozen? ⟨w2.heap.size, 1, none⟩ = false := ?_; rotate_left 1; focus (refine kf hbb ?_ ?_ <;> (go_simp; done)))); (try (have n0c1_xb : xb.cell? ⟨w2.heap.size, 1, none⟩ = some (.int .i64 0) := ?_; rotate_left 1; focus (refine kp hbb ?_; go_cell; done))); (try (have n1f0_xb : xb.frozen? ⟨xa.heap.size, 0, none⟩ = false := ?_; rotate_left 1; focus (refine kf hbb ?_ ?_ <;> (go_simp; done)))); (try (have n1c0_xb : xb.cell? ⟨xa.heap.size, 0, none⟩ = some (.int .i64 0) := ?_; rotate_left 1; focus (refine kp hbb ?_; go_cell; done))); (try (have n1f1_xb : xb.frozen? ⟨xa.heap.size, 1, none⟩ = false := ?_; rotate_left 1; focus (refine kf hbb ?_ ?_ <;> (go_simp; done)))); (try (have n1c1_xb : xb.cell? ⟨xa.heap.size, 1, none⟩ = some (.int .i64 0) := ?_; rotate_left 1; focus (refine kp hbb ?_; go_cell; done)))))
    all_goals go_split_ands
    all_goals (go_wp2_with fail)
    all_goals go_meet
    all_goals (refine ⟨_, rfl, rfl, rfl, ?_, ?_, ?_, ?_, ?_, ?_, ?_, ?_, ?_, ?_, ?_, ?_, ?_, ?_, ?_, ?_, ?_, ?_⟩ <;> first | (with_reducible assumption) | (go_grown; done) | go_cell | (go_simp; done) | (go_simp; omega))
  case rest =>
    obtain ⟨g3, rfl, rfl, rfl, c_m0, c_m1, hg3, hB3, c_c0, c_c1, c_c2, c_c3, c_s0, c_s1, c_r0, c_r1, c_r2, c_r3, f_r0, f_r1, f_r2, f_r3⟩ := hcut
    have hw3 := hB3.size
    go_wp2_with fail
    refine (HV6.out _).mono ?_
    rintro e w4 ⟨rfl, hb4⟩
    have hB4 : Below w.heap.size w w4 := below_after (by go_grown) hb4
    have hz4 := hb4.size
    try simp only [World.size_alloc, World.size_setCell, World.size_drew] at hz4
    have hw4 := hB4.size
    replace c_c0 : w4.cell? ⟨w.heap.size, 0, none⟩ = some (.int .i64 t) := kp hb4 (by go_cell)
    replace c_c1 : w4.cell? ⟨w.heap.size, 1, none⟩ = some (.int .i64 lo) := kp hb4 (by go_cell)
    replace c_c2 : w4.cell? ⟨w.heap.size, 2, none⟩ = some (.int .i64 hi) := kp hb4 (by go_cell)
    replace c_c3 : w4.cell? ⟨w.heap.size, 3, none⟩ = some (.int .i64 dr) := kp hb4 (by go_cell)
    replace c_s0 : w4.cell? ⟨w.heap.size + 1, 0, none⟩ = some (.int .i64 sl) := kp hb4 (by go_cell)
    replace c_s1 : w4.cell? ⟨w.heap.size + 1, 1, none⟩ = some (.int .i64 sh) := kp hb4 (by go_cell)
    replace f_r0 : w4.frozen? ⟨w.heap.size + 1 + 1, 0, none⟩ = false := kf hb4 (by go_simp) (by go_simp)
    replace f_r1 : w4.frozen? ⟨w.heap.size + 1 + 1, 1, none⟩ = false := kf hb4 (by go_simp) (by go_simp)
    replace f_r2 : w4.frozen? ⟨w.heap.size + 1 + 1, 2, none⟩ = false := kf hb4 (by go_simp) (by go_simp)
    replace f_r3 : w4.frozen? ⟨w.heap.size + 1 + 1, 3, none⟩ = false := kf hb4 (by go_simp) (by go_simp)
    replace c_r0 : w4.cell? ⟨w.heap.size + 1 + 1, 0, none⟩ = some (.int .i64 0) := kp hb4 (by go_cell)
    replace c_r1 : w4.cell? ⟨w.heap.size + 1 + 1, 1, none⟩ = some (.int .i64 0) := kp hb4 (by go_cell)
    replace c_r2 : w4.cell? ⟨w.heap.size + 1 + 1, 2, none⟩ = some (.int .i64 0) := kp hb4 (by go_cell)
    replace c_r3 : w4.cell? ⟨w.heap.size + 1 + 1, 3, none⟩ = some (.int .i64 0) := kp hb4 (by go_cell)
    replace c_m0 : w4.cell? ⟨g3, 0, none⟩ = some (.int .i64 m1) := kp hb4 (by go_cell)
    replace c_m1 : w4.cell? ⟨g3, 1, none⟩ = some (.int .i64 m2) := kp hb4 (by go_cell)
    clear hb4 hB3
    go_wp2_with fail
    refine (HV7.out _).mono ?_
    rintro e w5 ⟨rfl, hb5⟩
    have hB5 : Below w.heap.size w w5 := below_after (by go_grown) hb5
    have hz5 := hb5.size
    try simp only [World.size_alloc, World.size_setCell, World.size_drew] at hz5
    have hw5 := hB5.size
    replace c_c0 : w5.cell? ⟨w.heap.size, 0, none⟩ = some (.int .i64 t) := kp hb5 (by go_cell)
    replace c_c1 : w5.cell? ⟨w.heap.size, 1, none⟩ = some (.int .i64 lo) := kp hb5 (by go_cell)
    replace c_c2 : w5.cell? ⟨w.heap.size, 2, none⟩ = some (.int .i64 hi) := kp hb5 (by go_cell)
    replace c_c3 : w5.cell? ⟨w.heap.size, 3, none⟩ = some (.int .i64 dr) := kp hb5 (by go_cell)
    replace f_r0 : w5.frozen? ⟨w.heap.size + 1 + 1, 0, none⟩ = false := kf hb5 (by go_simp) (by go_simp)
    replace f_r1 : w5.frozen? ⟨w.heap.size + 1 + 1, 1, none⟩ = false := kf hb5 (by go_simp) (by go_simp)
    replace f_r2 : w5.frozen? ⟨w.heap.size + 1 + 1, 2, none⟩ = false := kf hb5 (by go_simp) (by go_simp)
    replace f_r3 : w5.frozen? ⟨w.heap.size + 1 + 1, 3, none⟩ = false := kf hb5 (by go_simp) (by go_simp)
    replace c_r0 : w5.cell? ⟨w.heap.size + 1 + 1, 0, none⟩ = some (.int .i64 0) := kp hb5 (by go_cell)
    replace c_r1 : w5.cell? ⟨w.heap.size + 1 + 1, 1, none⟩ = some (.int .i64 0) := kp hb5 (by go_cell)
    replace c_r2 : w5.cell? ⟨w.heap.size + 1 + 1, 2, none⟩ = some (.int .i64 0) := kp hb5 (by go_cell)
    replace c_r3 : w5.cell? ⟨w.heap.size + 1 + 1, 3, none⟩ = some (.int .i64 0) := kp hb5 (by go_cell)
    have c_o0 : w5.cell? ⟨w4.heap.size, 0, none⟩ = some (.int .i64 ((m1 - r))) := kp hb5 (by go_cell)
    have c_o1 : w5.cell? ⟨w4.heap.size, 1, none⟩ = some (.int .i64 ((m2 - r))) := kp hb5 (by go_cell)
    have c_n0 : w5.cell? ⟨w4.heap.size + 1, 0, none⟩ = some (.int .i64 r) := kp hb5 (by go_cell)
    have c_n1 : w5.cell? ⟨w4.heap.size + 1, 1, none⟩ = some (.int .i64 ((m1 - r))) := kp hb5 (by go_cell)
    have c_n2 : w5.cell? ⟨w4.heap.size + 1, 2, none⟩ = some (.int .i64 ((m2 - r))) := kp hb5 (by go_cell)
    have c_n3 : w5.cell? ⟨w4.heap.size + 1, 3, none⟩ = some (.int .i64 dr) := kp hb5 (by go_cell)
    clear hb5 hB4
    go_wp2_with fail
    rw [HR.out]
    refine ret_clock_bool (B := w.heap.size + 1 + 1) rfl rfl rfl (set4s _ _ _ _ (by go_simp) (by go_simp) (by go_simp) (by go_simp)).1 (set4s _ _ _ _ (by go_simp) (by go_simp) (by go_simp) (by go_simp)).2.1 (set4s _ _ _ _ (by go_simp) (by go_simp) (by go_simp) (by go_simp)).2.2.1 (set4s _ _ _ _ (by go_simp) (by go_simp) (by go_simp) (by go_simp)).2.2.2 ⟨rfl, by go_grown⟩

set_option maxHeartbeats 1600000 in
set_option maxRecDepth 100000 in
theorem Set_out2 (t lo hi dr r sl sh : Int) (w : World) (h : clkB t lo hi dr = true) (h2 : readB r = true) (h3 : vld sl sh = true) (hc : ¬ min (atHi t hi dr r) sh < max (atLo t lo dr r) sl) (he : ¬ max (atLo t lo dr r) sl - r = lo) (hn : clkB r (max (atLo t lo dr r) sl - r) (min (atHi t hi dr r) sh - r) dr = false) :
    Calls Try.prog 53 #[.agg #[.int .i64 t, .int .i64 lo, .int .i64 hi, .int .i64 dr], .int .i64 r, .agg #[.int .i64 sl, .int .i64 sh]] w fun e w' => e = .returned (.tuple #[.agg #[.int .i64 (setS t lo hi dr r sl sh).1.1, .int .i64 (setS t lo hi dr r sl sh).1.2.1, .int .i64 (setS t lo hi dr r sl sh).1.2.2.1, .int .i64 (setS t lo hi dr r sl sh).1.2.2.2], .bool (setS t lo hi dr r sl sh).2.1, .int .i64 (setS t lo hi dr r sl sh).2.2]) ∧ Below w.heap.size w w' := by
  have v1 := fun w => CValid_any t lo hi dr w
  have v2 := fun w => Valid_any sl sh w
  have v3 := fun w => isReading_any r w
  rw [h] at v1
  rw [h2] at v3
  rw [h3] at v2
  have v4 := fun w => at_any t lo hi dr r w h h2
  obtain ⟨b1, b2, b3⟩ := atLo_bounds h h2
  obtain ⟨t1, t2, r1, r2, o1, o2, o3⟩ := clkB_bounds h
  obtain ⟨q1, q2⟩ := readB_bounds h2
  obtain ⟨k1, k2, k3⟩ := vld_bounds h3
  have v5 := fun w => Meet_any (atLo t lo dr r) (atHi t hi dr r) sl sh w
  have hv : (vld (atLo t lo dr r) (atHi t hi dr r) && vld sl sh) = true := by rw [h3, Bool.and_true]; simp [vld]; omega
  have hm : meetS (atLo t lo dr r) (atHi t hi dr r) sl sh = (max (atLo t lo dr r) sl, min (atHi t hi dr r) sh, true, 0) := by rw [meetS, hv, if_pos rfl, if_neg hc]
  rw [hm] at v5
  have hr : setS t lo hi dr r sl sh = ((0, 0, 0, 0), false, 3) := by
    rw [setS, h, h2, h3, if_pos (by rfl), if_neg hc, hn, if_neg (by decide)]
  have HR := Lib.hid hr
  generalize atLo t lo dr r = x at *
  generalize atHi t hi dr r = y at *
  obtain ⟨m1, hm1⟩ : ∃ m1, m1 = max x sl := ⟨_, rfl⟩
  obtain ⟨m2, hm2⟩ : ∃ m2, m2 = min y sh := ⟨_, rfl⟩
  rw [← hm1, ← hm2] at v5 hc
  try rw [← hm1, ← hm2] at HR
  have j1 : -2000000 ≤ m1 := by omega
  have j2 : m2 ≤ 1002000000 := by omega
  have j3 : m1 ≤ m2 := by omega
  have j4 : m1 ≤ 1000000000000 := by omega
  have j5 : -1000000000000 ≤ m2 := by omega
  have v6 := fun w => Sub_any m1 m2 r r w
  rw [show subS m1 m2 r r = (m1 - r, m2 - r, 0) by
    have e1 : (vld m1 m2 && vld r r) = true := by simp [vld]; omega
    have e2 : vld (m1 - r) (m2 - r) = true := by simp [vld]; omega
    rw [subS, e1, if_pos rfl, leastS, e2, if_pos rfl]] at v6
  have HV6 := Lib.hid v6
  clear v6
  rw [← hm1] at he
  have n1 : (m1 - r == lo) = false := by simpa using he
  clear he
  have v7 := fun w => CValid_any r (m1 - r) (m2 - r) dr w
  rw [← hm1, ← hm2] at hn
  rw [hn] at v7
  have HV7 := Lib.hid v7
  clear v7 hn hm1 hm2
  have HV1 := Lib.hid v1
  have HV2 := Lib.hid v2
  have HV3 := Lib.hid v3
  have HV4 := Lib.hid v4
  have HV5 := Lib.hid v5
  clear hr hm hv v1 v2 v3 v4 v5 h h2 h3
  go_enter Try.func53, Try.ntmps53
  go_wp2_with fail
  refine (HV1.out _).mono ?_
  rintro e w1 ⟨rfl, hb1⟩
  have hB1 : Below w.heap.size w w1 := below_after (by go_grown) hb1
  have hz1 := hb1.size
  try simp only [World.size_alloc, World.size_setCell, World.size_drew] at hz1
  have hw1 := hB1.size
  have c_c0 : w1.cell? ⟨w.heap.size, 0, none⟩ = some (.int .i64 t) := kp hb1 (by go_cell)
  have c_c1 : w1.cell? ⟨w.heap.size, 1, none⟩ = some (.int .i64 lo) := kp hb1 (by go_cell)
  have c_c2 : w1.cell? ⟨w.heap.size, 2, none⟩ = some (.int .i64 hi) := kp hb1 (by go_cell)
  have c_c3 : w1.cell? ⟨w.heap.size, 3, none⟩ = some (.int .i64 dr) := kp hb1 (by go_cell)
  have c_s0 : w1.cell? ⟨w.heap.size + 1, 0, none⟩ = some (.int .i64 sl) := kp hb1 (by go_cell)
  have c_s1 : w1.cell? ⟨w.heap.size + 1, 1, none⟩ = some (.int .i64 sh) := kp hb1 (by go_cell)
  have f_r0 : w1.frozen? ⟨w.heap.size + 1 + 1, 0, none⟩ = false := kf hb1 (by go_simp) (by go_simp)
  have f_r1 : w1.frozen? ⟨w.heap.size + 1 + 1, 1, none⟩ = false := kf hb1 (by go_simp) (by go_simp)
  have f_r2 : w1.frozen? ⟨w.heap.size + 1 + 1, 2, none⟩ = false := kf hb1 (by go_simp) (by go_simp)
  have f_r3 : w1.frozen? ⟨w.heap.size + 1 + 1, 3, none⟩ = false := kf hb1 (by go_simp) (by go_simp)
  have c_r0 : w1.cell? ⟨w.heap.size + 1 + 1, 0, none⟩ = some (.int .i64 0) := kp hb1 (by go_cell)
  have c_r1 : w1.cell? ⟨w.heap.size + 1 + 1, 1, none⟩ = some (.int .i64 0) := kp hb1 (by go_cell)
  have c_r2 : w1.cell? ⟨w.heap.size + 1 + 1, 2, none⟩ = some (.int .i64 0) := kp hb1 (by go_cell)
  have c_r3 : w1.cell? ⟨w.heap.size + 1 + 1, 3, none⟩ = some (.int .i64 0) := kp hb1 (by go_cell)
  clear hb1
  go_wp2_with fail
  refine (HV3.out _).mono ?_
  rintro e w9 ⟨rfl, rfl⟩
  go_wp2_with fail
  refine (HV2.out _).mono ?_
  rintro e w2 ⟨rfl, hb2⟩
  have hB2 : Below w.heap.size w w2 := below_after (by go_grown) hb2
  have hz2 := hb2.size
  try simp only [World.size_alloc, World.size_setCell, World.size_drew] at hz2
  have hw2 := hB2.size
  replace c_c0 : w2.cell? ⟨w.heap.size, 0, none⟩ = some (.int .i64 t) := kp hb2 (by go_cell)
  replace c_c1 : w2.cell? ⟨w.heap.size, 1, none⟩ = some (.int .i64 lo) := kp hb2 (by go_cell)
  replace c_c2 : w2.cell? ⟨w.heap.size, 2, none⟩ = some (.int .i64 hi) := kp hb2 (by go_cell)
  replace c_c3 : w2.cell? ⟨w.heap.size, 3, none⟩ = some (.int .i64 dr) := kp hb2 (by go_cell)
  replace c_s0 : w2.cell? ⟨w.heap.size + 1, 0, none⟩ = some (.int .i64 sl) := kp hb2 (by go_cell)
  replace c_s1 : w2.cell? ⟨w.heap.size + 1, 1, none⟩ = some (.int .i64 sh) := kp hb2 (by go_cell)
  replace f_r0 : w2.frozen? ⟨w.heap.size + 1 + 1, 0, none⟩ = false := kf hb2 (by go_simp) (by go_simp)
  replace f_r1 : w2.frozen? ⟨w.heap.size + 1 + 1, 1, none⟩ = false := kf hb2 (by go_simp) (by go_simp)
  replace f_r2 : w2.frozen? ⟨w.heap.size + 1 + 1, 2, none⟩ = false := kf hb2 (by go_simp) (by go_simp)
  replace f_r3 : w2.frozen? ⟨w.heap.size + 1 + 1, 3, none⟩ = false := kf hb2 (by go_simp) (by go_simp)
  replace c_r0 : w2.cell? ⟨w.heap.size + 1 + 1, 0, none⟩ = some (.int .i64 0) := kp hb2 (by go_cell)
  replace c_r1 : w2.cell? ⟨w.heap.size + 1 + 1, 1, none⟩ = some (.int .i64 0) := kp hb2 (by go_cell)
  replace c_r2 : w2.cell? ⟨w.heap.size + 1 + 1, 2, none⟩ = some (.int .i64 0) := kp hb2 (by go_cell)
  replace c_r3 : w2.cell? ⟨w.heap.size + 1 + 1, 3, none⟩ = some (.int .i64 0) := kp hb2 (by go_cell)
  clear hb2 hB1
  have HA : Hid (True) := Lib.hid trivial
  go_upto_region 3 with fail
  go_cut [9, 10, 11] (fun s9 s10 s11 wx => ∃ g3 : Nat, s9 = .pointer (some ⟨g3, 0, none⟩) ∧ s10 = .bool true ∧ s11 = .int .i64 0 ∧ wx.cell? ⟨g3, 0, none⟩ = some (.int .i64 m1) ∧ wx.cell? ⟨g3, 1, none⟩ = some (.int .i64 m2) ∧ w.heap.size ≤ g3 ∧ Below w.heap.size w wx ∧ wx.cell? ⟨w.heap.size, 0, none⟩ = some (.int .i64 t) ∧ wx.cell? ⟨w.heap.size, 1, none⟩ = some (.int .i64 lo) ∧ wx.cell? ⟨w.heap.size, 2, none⟩ = some (.int .i64 hi) ∧ wx.cell? ⟨w.heap.size, 3, none⟩ = some (.int .i64 dr) ∧ wx.cell? ⟨w.heap.size + 1, 0, none⟩ = some (.int .i64 sl) ∧ wx.cell? ⟨w.heap.size + 1, 1, none⟩ = some (.int .i64 sh) ∧ wx.cell? ⟨w.heap.size + 1 + 1, 0, none⟩ = some (.int .i64 0) ∧ wx.cell? ⟨w.heap.size + 1 + 1, 1, none⟩ = some (.int .i64 0) ∧ wx.cell? ⟨w.heap.size + 1 + 1, 2, none⟩ = some (.int .i64 0) ∧ wx.cell? ⟨w.heap.size + 1 + 1, 3, none⟩ = some (.int .i64 0) ∧ wx.frozen? ⟨w.heap.size + 1 + 1, 0, none⟩ = false ∧ wx.frozen? ⟨w.heap.size + 1 + 1, 1, none⟩ = false ∧ wx.frozen? ⟨w.heap.size + 1 + 1, 2, none⟩ = false ∧ wx.frozen? ⟨w.heap.size + 1 + 1, 3, none⟩ = false)
  case first =>
    go_region_held3 (fun w' => Below w.heap.size w w' ∧ w'.cell? ⟨w.heap.size, 0, none⟩ = some (.int .i64 t) ∧ w'.cell? ⟨w.heap.size, 1, none⟩ = some (.int .i64 lo) ∧ w'.cell? ⟨w.heap.size, 2, none⟩ = some (.int .i64 hi) ∧ w'.cell? ⟨w.heap.size, 3, none⟩ = some (.int .i64 dr) ∧ w'.cell? ⟨w.heap.size + 1, 0, none⟩ = some (.int .i64 sl) ∧ w'.cell? ⟨w.heap.size + 1, 1, none⟩ = some (.int .i64 sh) ∧ w'.cell? ⟨w.heap.size + 1 + 1, 0, none⟩ = some (.int .i64 0) ∧ w'.cell? ⟨w.heap.size + 1 + 1, 1, none⟩ = some (.int .i64 0) ∧ w'.cell? ⟨w.heap.size + 1 + 1, 2, none⟩ = some (.int .i64 0) ∧ w'.cell? ⟨w.heap.size + 1 + 1, 3, none⟩ = some (.int .i64 0) ∧ w'.frozen? ⟨w.heap.size + 1 + 1, 0, none⟩ = false ∧ w'.frozen? ⟨w.heap.size + 1 + 1, 1, none⟩ = false ∧ w'.frozen? ⟨w.heap.size + 1 + 1, 2, none⟩ = false ∧ w'.frozen? ⟨w.heap.size + 1 + 1, 3, none⟩ = false)
      ((go_split_ands; refine ⟨?_, ?_, ?_, ?_, ?_, ?_, ?_, ?_, ?_, ?_, ?_, ?_, ?_, ?_, ?_⟩; (focus (first | (with_reducible assumption) | (go_grown; done) | (exact Below.drew (by go_grown)))); (focus (first | (with_reducible assumption) | go_cell | (go_simp; done))); (focus (first | (with_reducible assumption) | go_cell | (go_simp; done))); (focus (first | (with_reducible assumption) | go_cell | (go_simp; done))); (focus (first | (with_reducible assumption) | go_cell | (go_simp; done))); (focus (first | (with_reducible assumption) | go_cell | (go_simp; done))); (focus (first | (with_reducible assumption) | go_cell | (go_simp; done))); (focus (first | (with_reducible assumption) | go_cell | (go_simp; done))); (focus (first | (with_reducible assumption) | go_cell | (go_simp; done))); (focus (first | (with_reducible assumption) | go_cell | (go_simp; done))); (focus (first | (with_reducible assumption) | go_cell | (go_simp; done))); (focus (first | (with_reducible assumption) | go_cell | (go_simp; done))); (focus (first | (with_reducible assumption) | go_cell | (go_simp; done))); (focus (first | (with_reducible assumption) | go_cell | (go_simp; done))); (focus (first | (with_reducible assumption) | go_cell | (go_simp; done)))))
      (first | (go_at_call 78; (with_reducible refine (HV4.out _).mono ?_); rintro e xa ⟨rfl, hba⟩; have hB_xa : Below w.heap.size w xa := below_after (by go_grown) hba; have hw_xa := hB_xa.size; have hz_xa := hba.size; (try simp only [World.size_alloc, World.size_setCell, World.size_drew] at hz_xa); have c_c0_xa : xa.cell? ⟨w.heap.size, 0, none⟩ = some (.int .i64 t) := kp hba (by go_cell); have c_c1_xa : xa.cell? ⟨w.heap.size, 1, none⟩ = some (.int .i64 lo) := kp hba (by go_cell); have c_c2_xa : xa.cell? ⟨w.heap.size, 2, none⟩ = some (.int .i64 hi) := kp hba (by go_cell); have c_c3_xa : xa.cell? ⟨w.heap.size, 3, none⟩ = some (.int .i64 dr) := kp hba (by go_cell); have c_s0_xa : xa.cell? ⟨w.heap.size + 1, 0, none⟩ = some (.int .i64 sl) := kp hba (by go_cell); have c_s1_xa : xa.cell? ⟨w.heap.size + 1, 1, none⟩ = some (.int .i64 sh) := kp hba (by go_cell); have f_r0_xa : xa.frozen? ⟨w.heap.size + 1 + 1, 0, none⟩ = false := kf hba (by go_simp) (by go_simp); have f_r1_xa : xa.frozen? ⟨w.heap.size + 1 + 1, 1, none⟩ = false := kf hba (by go_simp) (by go_simp); have f_r2_xa : xa.frozen? ⟨w.heap.size + 1 + 1, 2, none⟩ = false := kf hba (by go_simp) (by go_simp); have f_r3_xa : xa.frozen? ⟨w.heap.size + 1 + 1, 3, none⟩ = false := kf hba (by go_simp) (by go_simp); have c_r0_xa : xa.cell? ⟨w.heap.size + 1 + 1, 0, none⟩ = some (.int .i64 0) := kp hba (by go_cell); have c_r1_xa : xa.cell? ⟨w.heap.size + 1 + 1, 1, none⟩ = some (.int .i64 0) := kp hba (by go_cell); have c_r2_xa : xa.cell? ⟨w.heap.size + 1 + 1, 2, none⟩ = some (.int .i64 0) := kp hba (by go_cell); have c_r3_xa : xa.cell? ⟨w.heap.size + 1 + 1, 3, none⟩ = some (.int .i64 0) := kp hba (by go_cell); (try (have n0f0_xa : xa.frozen? ⟨w2.heap.size, 0, none⟩ = false := ?_; rotate_left 1; focus (refine kf hba ?_ ?_ <;> (go_simp; done)))); (try (have n0c0_xa : xa.cell? ⟨w2.heap.size, 0, none⟩ = some (.int .i64 0) := ?_; rotate_left 1; focus (refine kp hba ?_; go_cell; done))); (try (have n0f1_xa : xa.frozen? ⟨w2.heap.size, 1, none⟩ = false := ?_; rotate_left 1; focus (refine kf hba ?_ ?_ <;> (go_simp; done)))); (try (have n0c1_xa : xa.cell? ⟨w2.heap.size, 1, none⟩ = some (.int .i64 0) := ?_; rotate_left 1; focus (refine kp hba ?_; go_cell; done)))) | (go_at_call 37; (with_reducible refine (HV5.out _).mono ?_); rintro e xb ⟨rfl, hbb⟩; have hB_xb : Below w.heap.size w xb := below_after (by go_grown) hbb; have hw_xb := hB_xb.size; have hz_xb := hbb.size; (try simp only [World.size_alloc, World.size_setCell, World.size_drew] at hz_xb); have c_c0_xb : xb.cell? ⟨w.heap.size, 0, none⟩ = some (.int .i64 t) := kp hbb (by go_cell); have c_c1_xb : xb.cell? ⟨w.heap.size, 1, none⟩ = some (.int .i64 lo) := kp hbb (by go_cell); have c_c2_xb : xb.cell? ⟨w.heap.size, 2, none⟩ = some (.int .i64 hi) := kp hbb (by go_cell); have c_c3_xb : xb.cell? ⟨w.heap.size, 3, none⟩ = some (.int .i64 dr) := kp hbb (by go_cell); have c_s0_xb : xb.cell? ⟨w.heap.size + 1, 0, none⟩ = some (.int .i64 sl) := kp hbb (by go_cell); have c_s1_xb : xb.cell? ⟨w.heap.size + 1, 1, none⟩ = some (.int .i64 sh) := kp hbb (by go_cell); have f_r0_xb : xb.frozen? ⟨w.heap.size + 1 + 1, 0, none⟩ = false := kf hbb (by go_simp) (by go_simp); have f_r1_xb : xb.frozen? ⟨w.heap.size + 1 + 1, 1, none⟩ = false := kf hbb (by go_simp) (by go_simp); have f_r2_xb : xb.frozen? ⟨w.heap.size + 1 + 1, 2, none⟩ = false := kf hbb (by go_simp) (by go_simp); have f_r3_xb : xb.frozen? ⟨w.heap.size + 1 + 1, 3, none⟩ = false := kf hbb (by go_simp) (by go_simp); have c_r0_xb : xb.cell? ⟨w.heap.size + 1 + 1, 0, none⟩ = some (.int .i64 0) := kp hbb (by go_cell); have c_r1_xb : xb.cell? ⟨w.heap.size + 1 + 1, 1, none⟩ = some (.int .i64 0) := kp hbb (by go_cell); have c_r2_xb : xb.cell? ⟨w.heap.size + 1 + 1, 2, none⟩ = some (.int .i64 0) := kp hbb (by go_cell); have c_r3_xb : xb.cell? ⟨w.heap.size + 1 + 1, 3, none⟩ = some (.int .i64 0) := kp hbb (by go_cell); (try (have n0f0_xb : xb.frozen? ⟨w2.heap.size, 0, none⟩ = false := ?_; rotate_left 1; focus (refine kf hbb ?_ ?_ <;> (go_simp; done)))); (try (have n0c0_xb : xb.cell? ⟨w2.heap.size, 0, none⟩ = some (.int .i64 0) := ?_; rotate_left 1; focus (refine kp hbb ?_; go_cell; done))); (try (have n0f1_xb : xb.frozen? ⟨w2.heap.size, 1, none⟩ = false := ?_; rotate_left 1; focus (refine kf hbb ?_ ?_ <;> (go_simp; done)))); (try (have n0c1_xb : xb.cell? ⟨w2.heap.size, 1, none⟩ = some (.int .i64 0) := ?_; rotate_left 1; focus (refine kp hbb ?_; go_cell; done))); (try (have n1f0_xb : xb.frozen? ⟨xa.heap.size, 0, none⟩ = false := ?_; rotate_left 1; focus (refine kf hbb ?_ ?_ <;> (go_simp; done)))); (try (have n1c0_xb : xb.cell? ⟨xa.heap.size, 0, none⟩ = some (.int .i64 0) := ?_; rotate_left 1; focus (refine kp hbb ?_; go_cell; done))); (try (have n1f1_xb : xb.frozen? ⟨xa.heap.size, 1, none⟩ = false := ?_; rotate_left 1; focus (refine kf hbb ?_ ?_ <;> (go_simp; done)))); (try (have n1c1_xb : xb.cell? ⟨xa.heap.size, 1, none⟩ = some (.int .i64 0) := ?_; rotate_left 1; focus (refine kp hbb ?_; go_cell; done)))))
    all_goals go_split_ands
    all_goals (go_wp2_with fail)
    all_goals go_meet
    all_goals (refine ⟨_, rfl, rfl, rfl, ?_, ?_, ?_, ?_, ?_, ?_, ?_, ?_, ?_, ?_, ?_, ?_, ?_, ?_, ?_, ?_, ?_, ?_⟩ <;> first | (with_reducible assumption) | (go_grown; done) | go_cell | (go_simp; done) | (go_simp; omega))
  case rest =>
    obtain ⟨g3, rfl, rfl, rfl, c_m0, c_m1, hg3, hB3, c_c0, c_c1, c_c2, c_c3, c_s0, c_s1, c_r0, c_r1, c_r2, c_r3, f_r0, f_r1, f_r2, f_r3⟩ := hcut
    have hw3 := hB3.size
    go_wp2_with fail
    refine (HV6.out _).mono ?_
    rintro e w4 ⟨rfl, hb4⟩
    have hB4 : Below w.heap.size w w4 := below_after (by go_grown) hb4
    have hz4 := hb4.size
    try simp only [World.size_alloc, World.size_setCell, World.size_drew] at hz4
    have hw4 := hB4.size
    replace c_c0 : w4.cell? ⟨w.heap.size, 0, none⟩ = some (.int .i64 t) := kp hb4 (by go_cell)
    replace c_c1 : w4.cell? ⟨w.heap.size, 1, none⟩ = some (.int .i64 lo) := kp hb4 (by go_cell)
    replace c_c2 : w4.cell? ⟨w.heap.size, 2, none⟩ = some (.int .i64 hi) := kp hb4 (by go_cell)
    replace c_c3 : w4.cell? ⟨w.heap.size, 3, none⟩ = some (.int .i64 dr) := kp hb4 (by go_cell)
    replace c_s0 : w4.cell? ⟨w.heap.size + 1, 0, none⟩ = some (.int .i64 sl) := kp hb4 (by go_cell)
    replace c_s1 : w4.cell? ⟨w.heap.size + 1, 1, none⟩ = some (.int .i64 sh) := kp hb4 (by go_cell)
    replace f_r0 : w4.frozen? ⟨w.heap.size + 1 + 1, 0, none⟩ = false := kf hb4 (by go_simp) (by go_simp)
    replace f_r1 : w4.frozen? ⟨w.heap.size + 1 + 1, 1, none⟩ = false := kf hb4 (by go_simp) (by go_simp)
    replace f_r2 : w4.frozen? ⟨w.heap.size + 1 + 1, 2, none⟩ = false := kf hb4 (by go_simp) (by go_simp)
    replace f_r3 : w4.frozen? ⟨w.heap.size + 1 + 1, 3, none⟩ = false := kf hb4 (by go_simp) (by go_simp)
    replace c_r0 : w4.cell? ⟨w.heap.size + 1 + 1, 0, none⟩ = some (.int .i64 0) := kp hb4 (by go_cell)
    replace c_r1 : w4.cell? ⟨w.heap.size + 1 + 1, 1, none⟩ = some (.int .i64 0) := kp hb4 (by go_cell)
    replace c_r2 : w4.cell? ⟨w.heap.size + 1 + 1, 2, none⟩ = some (.int .i64 0) := kp hb4 (by go_cell)
    replace c_r3 : w4.cell? ⟨w.heap.size + 1 + 1, 3, none⟩ = some (.int .i64 0) := kp hb4 (by go_cell)
    replace c_m0 : w4.cell? ⟨g3, 0, none⟩ = some (.int .i64 m1) := kp hb4 (by go_cell)
    replace c_m1 : w4.cell? ⟨g3, 1, none⟩ = some (.int .i64 m2) := kp hb4 (by go_cell)
    clear hb4 hB3
    go_wp2_with fail
    refine (HV7.out _).mono ?_
    rintro e w5 ⟨rfl, hb5⟩
    have hB5 : Below w.heap.size w w5 := below_after (by go_grown) hb5
    have hz5 := hb5.size
    try simp only [World.size_alloc, World.size_setCell, World.size_drew] at hz5
    have hw5 := hB5.size
    replace c_c0 : w5.cell? ⟨w.heap.size, 0, none⟩ = some (.int .i64 t) := kp hb5 (by go_cell)
    replace c_c1 : w5.cell? ⟨w.heap.size, 1, none⟩ = some (.int .i64 lo) := kp hb5 (by go_cell)
    replace c_c2 : w5.cell? ⟨w.heap.size, 2, none⟩ = some (.int .i64 hi) := kp hb5 (by go_cell)
    replace c_c3 : w5.cell? ⟨w.heap.size, 3, none⟩ = some (.int .i64 dr) := kp hb5 (by go_cell)
    replace f_r0 : w5.frozen? ⟨w.heap.size + 1 + 1, 0, none⟩ = false := kf hb5 (by go_simp) (by go_simp)
    replace f_r1 : w5.frozen? ⟨w.heap.size + 1 + 1, 1, none⟩ = false := kf hb5 (by go_simp) (by go_simp)
    replace f_r2 : w5.frozen? ⟨w.heap.size + 1 + 1, 2, none⟩ = false := kf hb5 (by go_simp) (by go_simp)
    replace f_r3 : w5.frozen? ⟨w.heap.size + 1 + 1, 3, none⟩ = false := kf hb5 (by go_simp) (by go_simp)
    replace c_r0 : w5.cell? ⟨w.heap.size + 1 + 1, 0, none⟩ = some (.int .i64 0) := kp hb5 (by go_cell)
    replace c_r1 : w5.cell? ⟨w.heap.size + 1 + 1, 1, none⟩ = some (.int .i64 0) := kp hb5 (by go_cell)
    replace c_r2 : w5.cell? ⟨w.heap.size + 1 + 1, 2, none⟩ = some (.int .i64 0) := kp hb5 (by go_cell)
    replace c_r3 : w5.cell? ⟨w.heap.size + 1 + 1, 3, none⟩ = some (.int .i64 0) := kp hb5 (by go_cell)
    have c_o0 : w5.cell? ⟨w4.heap.size, 0, none⟩ = some (.int .i64 ((m1 - r))) := kp hb5 (by go_cell)
    have c_o1 : w5.cell? ⟨w4.heap.size, 1, none⟩ = some (.int .i64 ((m2 - r))) := kp hb5 (by go_cell)
    have c_n0 : w5.cell? ⟨w4.heap.size + 1, 0, none⟩ = some (.int .i64 r) := kp hb5 (by go_cell)
    have c_n1 : w5.cell? ⟨w4.heap.size + 1, 1, none⟩ = some (.int .i64 ((m1 - r))) := kp hb5 (by go_cell)
    have c_n2 : w5.cell? ⟨w4.heap.size + 1, 2, none⟩ = some (.int .i64 ((m2 - r))) := kp hb5 (by go_cell)
    have c_n3 : w5.cell? ⟨w4.heap.size + 1, 3, none⟩ = some (.int .i64 dr) := kp hb5 (by go_cell)
    clear hb5 hB4
    go_wp2_with fail
    rw [HR.out]
    refine ret_clock_bool (B := w.heap.size + 1 + 1) rfl rfl rfl (set4s _ _ _ _ (by go_simp) (by go_simp) (by go_simp) (by go_simp)).1 (set4s _ _ _ _ (by go_simp) (by go_simp) (by go_simp) (by go_simp)).2.1 (set4s _ _ _ _ (by go_simp) (by go_simp) (by go_simp) (by go_simp)).2.2.1 (set4s _ _ _ _ (by go_simp) (by go_simp) (by go_simp) (by go_simp)).2.2.2 ⟨rfl, by go_grown⟩

set_option maxHeartbeats 1600000 in
set_option maxRecDepth 100000 in
theorem Set_out3 (t lo hi dr r sl sh : Int) (w : World) (h : clkB t lo hi dr = true) (h2 : readB r = true) (h3 : vld sl sh = true) (hc : ¬ min (atHi t hi dr r) sh < max (atLo t lo dr r) sl) (he : ¬ min (atHi t hi dr r) sh - r = hi) (hn : clkB r (max (atLo t lo dr r) sl - r) (min (atHi t hi dr r) sh - r) dr = false) :
    Calls Try.prog 53 #[.agg #[.int .i64 t, .int .i64 lo, .int .i64 hi, .int .i64 dr], .int .i64 r, .agg #[.int .i64 sl, .int .i64 sh]] w fun e w' => e = .returned (.tuple #[.agg #[.int .i64 (setS t lo hi dr r sl sh).1.1, .int .i64 (setS t lo hi dr r sl sh).1.2.1, .int .i64 (setS t lo hi dr r sl sh).1.2.2.1, .int .i64 (setS t lo hi dr r sl sh).1.2.2.2], .bool (setS t lo hi dr r sl sh).2.1, .int .i64 (setS t lo hi dr r sl sh).2.2]) ∧ Below w.heap.size w w' := by
  have v1 := fun w => CValid_any t lo hi dr w
  have v2 := fun w => Valid_any sl sh w
  have v3 := fun w => isReading_any r w
  rw [h] at v1
  rw [h2] at v3
  rw [h3] at v2
  have v4 := fun w => at_any t lo hi dr r w h h2
  obtain ⟨b1, b2, b3⟩ := atLo_bounds h h2
  obtain ⟨t1, t2, r1, r2, o1, o2, o3⟩ := clkB_bounds h
  obtain ⟨q1, q2⟩ := readB_bounds h2
  obtain ⟨k1, k2, k3⟩ := vld_bounds h3
  have v5 := fun w => Meet_any (atLo t lo dr r) (atHi t hi dr r) sl sh w
  have hv : (vld (atLo t lo dr r) (atHi t hi dr r) && vld sl sh) = true := by rw [h3, Bool.and_true]; simp [vld]; omega
  have hm : meetS (atLo t lo dr r) (atHi t hi dr r) sl sh = (max (atLo t lo dr r) sl, min (atHi t hi dr r) sh, true, 0) := by rw [meetS, hv, if_pos rfl, if_neg hc]
  rw [hm] at v5
  have hr : setS t lo hi dr r sl sh = ((0, 0, 0, 0), false, 3) := by
    rw [setS, h, h2, h3, if_pos (by rfl), if_neg hc, hn, if_neg (by decide)]
  have HR := Lib.hid hr
  generalize atLo t lo dr r = x at *
  generalize atHi t hi dr r = y at *
  obtain ⟨m1, hm1⟩ : ∃ m1, m1 = max x sl := ⟨_, rfl⟩
  obtain ⟨m2, hm2⟩ : ∃ m2, m2 = min y sh := ⟨_, rfl⟩
  rw [← hm1, ← hm2] at v5 hc
  try rw [← hm1, ← hm2] at HR
  have j1 : -2000000 ≤ m1 := by omega
  have j2 : m2 ≤ 1002000000 := by omega
  have j3 : m1 ≤ m2 := by omega
  have j4 : m1 ≤ 1000000000000 := by omega
  have j5 : -1000000000000 ≤ m2 := by omega
  have v6 := fun w => Sub_any m1 m2 r r w
  rw [show subS m1 m2 r r = (m1 - r, m2 - r, 0) by
    have e1 : (vld m1 m2 && vld r r) = true := by simp [vld]; omega
    have e2 : vld (m1 - r) (m2 - r) = true := by simp [vld]; omega
    rw [subS, e1, if_pos rfl, leastS, e2, if_pos rfl]] at v6
  have HV6 := Lib.hid v6
  clear v6
  rw [← hm2] at he
  have n1 : (m2 - r == hi) = false := by simpa using he
  clear he
  have v7 := fun w => CValid_any r (m1 - r) (m2 - r) dr w
  rw [← hm1, ← hm2] at hn
  rw [hn] at v7
  have HV7 := Lib.hid v7
  clear v7 hn hm1 hm2
  have HV1 := Lib.hid v1
  have HV2 := Lib.hid v2
  have HV3 := Lib.hid v3
  have HV4 := Lib.hid v4
  have HV5 := Lib.hid v5
  clear hr hm hv v1 v2 v3 v4 v5 h h2 h3
  go_enter Try.func53, Try.ntmps53
  go_wp2_with fail
  refine (HV1.out _).mono ?_
  rintro e w1 ⟨rfl, hb1⟩
  have hB1 : Below w.heap.size w w1 := below_after (by go_grown) hb1
  have hz1 := hb1.size
  try simp only [World.size_alloc, World.size_setCell, World.size_drew] at hz1
  have hw1 := hB1.size
  have c_c0 : w1.cell? ⟨w.heap.size, 0, none⟩ = some (.int .i64 t) := kp hb1 (by go_cell)
  have c_c1 : w1.cell? ⟨w.heap.size, 1, none⟩ = some (.int .i64 lo) := kp hb1 (by go_cell)
  have c_c2 : w1.cell? ⟨w.heap.size, 2, none⟩ = some (.int .i64 hi) := kp hb1 (by go_cell)
  have c_c3 : w1.cell? ⟨w.heap.size, 3, none⟩ = some (.int .i64 dr) := kp hb1 (by go_cell)
  have c_s0 : w1.cell? ⟨w.heap.size + 1, 0, none⟩ = some (.int .i64 sl) := kp hb1 (by go_cell)
  have c_s1 : w1.cell? ⟨w.heap.size + 1, 1, none⟩ = some (.int .i64 sh) := kp hb1 (by go_cell)
  have f_r0 : w1.frozen? ⟨w.heap.size + 1 + 1, 0, none⟩ = false := kf hb1 (by go_simp) (by go_simp)
  have f_r1 : w1.frozen? ⟨w.heap.size + 1 + 1, 1, none⟩ = false := kf hb1 (by go_simp) (by go_simp)
  have f_r2 : w1.frozen? ⟨w.heap.size + 1 + 1, 2, none⟩ = false := kf hb1 (by go_simp) (by go_simp)
  have f_r3 : w1.frozen? ⟨w.heap.size + 1 + 1, 3, none⟩ = false := kf hb1 (by go_simp) (by go_simp)
  have c_r0 : w1.cell? ⟨w.heap.size + 1 + 1, 0, none⟩ = some (.int .i64 0) := kp hb1 (by go_cell)
  have c_r1 : w1.cell? ⟨w.heap.size + 1 + 1, 1, none⟩ = some (.int .i64 0) := kp hb1 (by go_cell)
  have c_r2 : w1.cell? ⟨w.heap.size + 1 + 1, 2, none⟩ = some (.int .i64 0) := kp hb1 (by go_cell)
  have c_r3 : w1.cell? ⟨w.heap.size + 1 + 1, 3, none⟩ = some (.int .i64 0) := kp hb1 (by go_cell)
  clear hb1
  go_wp2_with fail
  refine (HV3.out _).mono ?_
  rintro e w9 ⟨rfl, rfl⟩
  go_wp2_with fail
  refine (HV2.out _).mono ?_
  rintro e w2 ⟨rfl, hb2⟩
  have hB2 : Below w.heap.size w w2 := below_after (by go_grown) hb2
  have hz2 := hb2.size
  try simp only [World.size_alloc, World.size_setCell, World.size_drew] at hz2
  have hw2 := hB2.size
  replace c_c0 : w2.cell? ⟨w.heap.size, 0, none⟩ = some (.int .i64 t) := kp hb2 (by go_cell)
  replace c_c1 : w2.cell? ⟨w.heap.size, 1, none⟩ = some (.int .i64 lo) := kp hb2 (by go_cell)
  replace c_c2 : w2.cell? ⟨w.heap.size, 2, none⟩ = some (.int .i64 hi) := kp hb2 (by go_cell)
  replace c_c3 : w2.cell? ⟨w.heap.size, 3, none⟩ = some (.int .i64 dr) := kp hb2 (by go_cell)
  replace c_s0 : w2.cell? ⟨w.heap.size + 1, 0, none⟩ = some (.int .i64 sl) := kp hb2 (by go_cell)
  replace c_s1 : w2.cell? ⟨w.heap.size + 1, 1, none⟩ = some (.int .i64 sh) := kp hb2 (by go_cell)
  replace f_r0 : w2.frozen? ⟨w.heap.size + 1 + 1, 0, none⟩ = false := kf hb2 (by go_simp) (by go_simp)
  replace f_r1 : w2.frozen? ⟨w.heap.size + 1 + 1, 1, none⟩ = false := kf hb2 (by go_simp) (by go_simp)
  replace f_r2 : w2.frozen? ⟨w.heap.size + 1 + 1, 2, none⟩ = false := kf hb2 (by go_simp) (by go_simp)
  replace f_r3 : w2.frozen? ⟨w.heap.size + 1 + 1, 3, none⟩ = false := kf hb2 (by go_simp) (by go_simp)
  replace c_r0 : w2.cell? ⟨w.heap.size + 1 + 1, 0, none⟩ = some (.int .i64 0) := kp hb2 (by go_cell)
  replace c_r1 : w2.cell? ⟨w.heap.size + 1 + 1, 1, none⟩ = some (.int .i64 0) := kp hb2 (by go_cell)
  replace c_r2 : w2.cell? ⟨w.heap.size + 1 + 1, 2, none⟩ = some (.int .i64 0) := kp hb2 (by go_cell)
  replace c_r3 : w2.cell? ⟨w.heap.size + 1 + 1, 3, none⟩ = some (.int .i64 0) := kp hb2 (by go_cell)
  clear hb2 hB1
  have HA : Hid (True) := Lib.hid trivial
  go_upto_region 3 with fail
  go_cut [9, 10, 11] (fun s9 s10 s11 wx => ∃ g3 : Nat, s9 = .pointer (some ⟨g3, 0, none⟩) ∧ s10 = .bool true ∧ s11 = .int .i64 0 ∧ wx.cell? ⟨g3, 0, none⟩ = some (.int .i64 m1) ∧ wx.cell? ⟨g3, 1, none⟩ = some (.int .i64 m2) ∧ w.heap.size ≤ g3 ∧ Below w.heap.size w wx ∧ wx.cell? ⟨w.heap.size, 0, none⟩ = some (.int .i64 t) ∧ wx.cell? ⟨w.heap.size, 1, none⟩ = some (.int .i64 lo) ∧ wx.cell? ⟨w.heap.size, 2, none⟩ = some (.int .i64 hi) ∧ wx.cell? ⟨w.heap.size, 3, none⟩ = some (.int .i64 dr) ∧ wx.cell? ⟨w.heap.size + 1, 0, none⟩ = some (.int .i64 sl) ∧ wx.cell? ⟨w.heap.size + 1, 1, none⟩ = some (.int .i64 sh) ∧ wx.cell? ⟨w.heap.size + 1 + 1, 0, none⟩ = some (.int .i64 0) ∧ wx.cell? ⟨w.heap.size + 1 + 1, 1, none⟩ = some (.int .i64 0) ∧ wx.cell? ⟨w.heap.size + 1 + 1, 2, none⟩ = some (.int .i64 0) ∧ wx.cell? ⟨w.heap.size + 1 + 1, 3, none⟩ = some (.int .i64 0) ∧ wx.frozen? ⟨w.heap.size + 1 + 1, 0, none⟩ = false ∧ wx.frozen? ⟨w.heap.size + 1 + 1, 1, none⟩ = false ∧ wx.frozen? ⟨w.heap.size + 1 + 1, 2, none⟩ = false ∧ wx.frozen? ⟨w.heap.size + 1 + 1, 3, none⟩ = false)
  case first =>
    go_region_held3 (fun w' => Below w.heap.size w w' ∧ w'.cell? ⟨w.heap.size, 0, none⟩ = some (.int .i64 t) ∧ w'.cell? ⟨w.heap.size, 1, none⟩ = some (.int .i64 lo) ∧ w'.cell? ⟨w.heap.size, 2, none⟩ = some (.int .i64 hi) ∧ w'.cell? ⟨w.heap.size, 3, none⟩ = some (.int .i64 dr) ∧ w'.cell? ⟨w.heap.size + 1, 0, none⟩ = some (.int .i64 sl) ∧ w'.cell? ⟨w.heap.size + 1, 1, none⟩ = some (.int .i64 sh) ∧ w'.cell? ⟨w.heap.size + 1 + 1, 0, none⟩ = some (.int .i64 0) ∧ w'.cell? ⟨w.heap.size + 1 + 1, 1, none⟩ = some (.int .i64 0) ∧ w'.cell? ⟨w.heap.size + 1 + 1, 2, none⟩ = some (.int .i64 0) ∧ w'.cell? ⟨w.heap.size + 1 + 1, 3, none⟩ = some (.int .i64 0) ∧ w'.frozen? ⟨w.heap.size + 1 + 1, 0, none⟩ = false ∧ w'.frozen? ⟨w.heap.size + 1 + 1, 1, none⟩ = false ∧ w'.frozen? ⟨w.heap.size + 1 + 1, 2, none⟩ = false ∧ w'.frozen? ⟨w.heap.size + 1 + 1, 3, none⟩ = false)
      ((go_split_ands; refine ⟨?_, ?_, ?_, ?_, ?_, ?_, ?_, ?_, ?_, ?_, ?_, ?_, ?_, ?_, ?_⟩; (focus (first | (with_reducible assumption) | (go_grown; done) | (exact Below.drew (by go_grown)))); (focus (first | (with_reducible assumption) | go_cell | (go_simp; done))); (focus (first | (with_reducible assumption) | go_cell | (go_simp; done))); (focus (first | (with_reducible assumption) | go_cell | (go_simp; done))); (focus (first | (with_reducible assumption) | go_cell | (go_simp; done))); (focus (first | (with_reducible assumption) | go_cell | (go_simp; done))); (focus (first | (with_reducible assumption) | go_cell | (go_simp; done))); (focus (first | (with_reducible assumption) | go_cell | (go_simp; done))); (focus (first | (with_reducible assumption) | go_cell | (go_simp; done))); (focus (first | (with_reducible assumption) | go_cell | (go_simp; done))); (focus (first | (with_reducible assumption) | go_cell | (go_simp; done))); (focus (first | (with_reducible assumption) | go_cell | (go_simp; done))); (focus (first | (with_reducible assumption) | go_cell | (go_simp; done))); (focus (first | (with_reducible assumption) | go_cell | (go_simp; done))); (focus (first | (with_reducible assumption) | go_cell | (go_simp; done)))))
      (first | (go_at_call 78; (with_reducible refine (HV4.out _).mono ?_); rintro e xa ⟨rfl, hba⟩; have hB_xa : Below w.heap.size w xa := below_after (by go_grown) hba; have hw_xa := hB_xa.size; have hz_xa := hba.size; (try simp only [World.size_alloc, World.size_setCell, World.size_drew] at hz_xa); have c_c0_xa : xa.cell? ⟨w.heap.size, 0, none⟩ = some (.int .i64 t) := kp hba (by go_cell); have c_c1_xa : xa.cell? ⟨w.heap.size, 1, none⟩ = some (.int .i64 lo) := kp hba (by go_cell); have c_c2_xa : xa.cell? ⟨w.heap.size, 2, none⟩ = some (.int .i64 hi) := kp hba (by go_cell); have c_c3_xa : xa.cell? ⟨w.heap.size, 3, none⟩ = some (.int .i64 dr) := kp hba (by go_cell); have c_s0_xa : xa.cell? ⟨w.heap.size + 1, 0, none⟩ = some (.int .i64 sl) := kp hba (by go_cell); have c_s1_xa : xa.cell? ⟨w.heap.size + 1, 1, none⟩ = some (.int .i64 sh) := kp hba (by go_cell); have f_r0_xa : xa.frozen? ⟨w.heap.size + 1 + 1, 0, none⟩ = false := kf hba (by go_simp) (by go_simp); have f_r1_xa : xa.frozen? ⟨w.heap.size + 1 + 1, 1, none⟩ = false := kf hba (by go_simp) (by go_simp); have f_r2_xa : xa.frozen? ⟨w.heap.size + 1 + 1, 2, none⟩ = false := kf hba (by go_simp) (by go_simp); have f_r3_xa : xa.frozen? ⟨w.heap.size + 1 + 1, 3, none⟩ = false := kf hba (by go_simp) (by go_simp); have c_r0_xa : xa.cell? ⟨w.heap.size + 1 + 1, 0, none⟩ = some (.int .i64 0) := kp hba (by go_cell); have c_r1_xa : xa.cell? ⟨w.heap.size + 1 + 1, 1, none⟩ = some (.int .i64 0) := kp hba (by go_cell); have c_r2_xa : xa.cell? ⟨w.heap.size + 1 + 1, 2, none⟩ = some (.int .i64 0) := kp hba (by go_cell); have c_r3_xa : xa.cell? ⟨w.heap.size + 1 + 1, 3, none⟩ = some (.int .i64 0) := kp hba (by go_cell); (try (have n0f0_xa : xa.frozen? ⟨w2.heap.size, 0, none⟩ = false := ?_; rotate_left 1; focus (refine kf hba ?_ ?_ <;> (go_simp; done)))); (try (have n0c0_xa : xa.cell? ⟨w2.heap.size, 0, none⟩ = some (.int .i64 0) := ?_; rotate_left 1; focus (refine kp hba ?_; go_cell; done))); (try (have n0f1_xa : xa.frozen? ⟨w2.heap.size, 1, none⟩ = false := ?_; rotate_left 1; focus (refine kf hba ?_ ?_ <;> (go_simp; done)))); (try (have n0c1_xa : xa.cell? ⟨w2.heap.size, 1, none⟩ = some (.int .i64 0) := ?_; rotate_left 1; focus (refine kp hba ?_; go_cell; done)))) | (go_at_call 37; (with_reducible refine (HV5.out _).mono ?_); rintro e xb ⟨rfl, hbb⟩; have hB_xb : Below w.heap.size w xb := below_after (by go_grown) hbb; have hw_xb := hB_xb.size; have hz_xb := hbb.size; (try simp only [World.size_alloc, World.size_setCell, World.size_drew] at hz_xb); have c_c0_xb : xb.cell? ⟨w.heap.size, 0, none⟩ = some (.int .i64 t) := kp hbb (by go_cell); have c_c1_xb : xb.cell? ⟨w.heap.size, 1, none⟩ = some (.int .i64 lo) := kp hbb (by go_cell); have c_c2_xb : xb.cell? ⟨w.heap.size, 2, none⟩ = some (.int .i64 hi) := kp hbb (by go_cell); have c_c3_xb : xb.cell? ⟨w.heap.size, 3, none⟩ = some (.int .i64 dr) := kp hbb (by go_cell); have c_s0_xb : xb.cell? ⟨w.heap.size + 1, 0, none⟩ = some (.int .i64 sl) := kp hbb (by go_cell); have c_s1_xb : xb.cell? ⟨w.heap.size + 1, 1, none⟩ = some (.int .i64 sh) := kp hbb (by go_cell); have f_r0_xb : xb.frozen? ⟨w.heap.size + 1 + 1, 0, none⟩ = false := kf hbb (by go_simp) (by go_simp); have f_r1_xb : xb.frozen? ⟨w.heap.size + 1 + 1, 1, none⟩ = false := kf hbb (by go_simp) (by go_simp); have f_r2_xb : xb.frozen? ⟨w.heap.size + 1 + 1, 2, none⟩ = false := kf hbb (by go_simp) (by go_simp); have f_r3_xb : xb.frozen? ⟨w.heap.size + 1 + 1, 3, none⟩ = false := kf hbb (by go_simp) (by go_simp); have c_r0_xb : xb.cell? ⟨w.heap.size + 1 + 1, 0, none⟩ = some (.int .i64 0) := kp hbb (by go_cell); have c_r1_xb : xb.cell? ⟨w.heap.size + 1 + 1, 1, none⟩ = some (.int .i64 0) := kp hbb (by go_cell); have c_r2_xb : xb.cell? ⟨w.heap.size + 1 + 1, 2, none⟩ = some (.int .i64 0) := kp hbb (by go_cell); have c_r3_xb : xb.cell? ⟨w.heap.size + 1 + 1, 3, none⟩ = some (.int .i64 0) := kp hbb (by go_cell); (try (have n0f0_xb : xb.frozen? ⟨w2.heap.size, 0, none⟩ = false := ?_; rotate_left 1; focus (refine kf hbb ?_ ?_ <;> (go_simp; done)))); (try (have n0c0_xb : xb.cell? ⟨w2.heap.size, 0, none⟩ = some (.int .i64 0) := ?_; rotate_left 1; focus (refine kp hbb ?_; go_cell; done))); (try (have n0f1_xb : xb.frozen? ⟨w2.heap.size, 1, none⟩ = false := ?_; rotate_left 1; focus (refine kf hbb ?_ ?_ <;> (go_simp; done)))); (try (have n0c1_xb : xb.cell? ⟨w2.heap.size, 1, none⟩ = some (.int .i64 0) := ?_; rotate_left 1; focus (refine kp hbb ?_; go_cell; done))); (try (have n1f0_xb : xb.frozen? ⟨xa.heap.size, 0, none⟩ = false := ?_; rotate_left 1; focus (refine kf hbb ?_ ?_ <;> (go_simp; done)))); (try (have n1c0_xb : xb.cell? ⟨xa.heap.size, 0, none⟩ = some (.int .i64 0) := ?_; rotate_left 1; focus (refine kp hbb ?_; go_cell; done))); (try (have n1f1_xb : xb.frozen? ⟨xa.heap.size, 1, none⟩ = false := ?_; rotate_left 1; focus (refine kf hbb ?_ ?_ <;> (go_simp; done)))); (try (have n1c1_xb : xb.cell? ⟨xa.heap.size, 1, none⟩ = some (.int .i64 0) := ?_; rotate_left 1; focus (refine kp hbb ?_; go_cell; done)))))
    all_goals go_split_ands
    all_goals (go_wp2_with fail)
    all_goals go_meet
    all_goals (refine ⟨_, rfl, rfl, rfl, ?_, ?_, ?_, ?_, ?_, ?_, ?_, ?_, ?_, ?_, ?_, ?_, ?_, ?_, ?_, ?_, ?_, ?_⟩ <;> first | (with_reducible assumption) | (go_grown; done) | go_cell | (go_simp; done) | (go_simp; omega))
  case rest =>
    obtain ⟨g3, rfl, rfl, rfl, c_m0, c_m1, hg3, hB3, c_c0, c_c1, c_c2, c_c3, c_s0, c_s1, c_r0, c_r1, c_r2, c_r3, f_r0, f_r1, f_r2, f_r3⟩ := hcut
    have hw3 := hB3.size
    go_wp2_with fail
    refine (HV6.out _).mono ?_
    rintro e w4 ⟨rfl, hb4⟩
    have hB4 : Below w.heap.size w w4 := below_after (by go_grown) hb4
    have hz4 := hb4.size
    try simp only [World.size_alloc, World.size_setCell, World.size_drew] at hz4
    have hw4 := hB4.size
    replace c_c0 : w4.cell? ⟨w.heap.size, 0, none⟩ = some (.int .i64 t) := kp hb4 (by go_cell)
    replace c_c1 : w4.cell? ⟨w.heap.size, 1, none⟩ = some (.int .i64 lo) := kp hb4 (by go_cell)
    replace c_c2 : w4.cell? ⟨w.heap.size, 2, none⟩ = some (.int .i64 hi) := kp hb4 (by go_cell)
    replace c_c3 : w4.cell? ⟨w.heap.size, 3, none⟩ = some (.int .i64 dr) := kp hb4 (by go_cell)
    replace c_s0 : w4.cell? ⟨w.heap.size + 1, 0, none⟩ = some (.int .i64 sl) := kp hb4 (by go_cell)
    replace c_s1 : w4.cell? ⟨w.heap.size + 1, 1, none⟩ = some (.int .i64 sh) := kp hb4 (by go_cell)
    replace f_r0 : w4.frozen? ⟨w.heap.size + 1 + 1, 0, none⟩ = false := kf hb4 (by go_simp) (by go_simp)
    replace f_r1 : w4.frozen? ⟨w.heap.size + 1 + 1, 1, none⟩ = false := kf hb4 (by go_simp) (by go_simp)
    replace f_r2 : w4.frozen? ⟨w.heap.size + 1 + 1, 2, none⟩ = false := kf hb4 (by go_simp) (by go_simp)
    replace f_r3 : w4.frozen? ⟨w.heap.size + 1 + 1, 3, none⟩ = false := kf hb4 (by go_simp) (by go_simp)
    replace c_r0 : w4.cell? ⟨w.heap.size + 1 + 1, 0, none⟩ = some (.int .i64 0) := kp hb4 (by go_cell)
    replace c_r1 : w4.cell? ⟨w.heap.size + 1 + 1, 1, none⟩ = some (.int .i64 0) := kp hb4 (by go_cell)
    replace c_r2 : w4.cell? ⟨w.heap.size + 1 + 1, 2, none⟩ = some (.int .i64 0) := kp hb4 (by go_cell)
    replace c_r3 : w4.cell? ⟨w.heap.size + 1 + 1, 3, none⟩ = some (.int .i64 0) := kp hb4 (by go_cell)
    replace c_m0 : w4.cell? ⟨g3, 0, none⟩ = some (.int .i64 m1) := kp hb4 (by go_cell)
    replace c_m1 : w4.cell? ⟨g3, 1, none⟩ = some (.int .i64 m2) := kp hb4 (by go_cell)
    clear hb4 hB3
    go_wp2_with fail
    refine (HV7.out _).mono ?_
    rintro e w5 ⟨rfl, hb5⟩
    have hB5 : Below w.heap.size w w5 := below_after (by go_grown) hb5
    have hz5 := hb5.size
    try simp only [World.size_alloc, World.size_setCell, World.size_drew] at hz5
    have hw5 := hB5.size
    replace c_c0 : w5.cell? ⟨w.heap.size, 0, none⟩ = some (.int .i64 t) := kp hb5 (by go_cell)
    replace c_c1 : w5.cell? ⟨w.heap.size, 1, none⟩ = some (.int .i64 lo) := kp hb5 (by go_cell)
    replace c_c2 : w5.cell? ⟨w.heap.size, 2, none⟩ = some (.int .i64 hi) := kp hb5 (by go_cell)
    replace c_c3 : w5.cell? ⟨w.heap.size, 3, none⟩ = some (.int .i64 dr) := kp hb5 (by go_cell)
    replace f_r0 : w5.frozen? ⟨w.heap.size + 1 + 1, 0, none⟩ = false := kf hb5 (by go_simp) (by go_simp)
    replace f_r1 : w5.frozen? ⟨w.heap.size + 1 + 1, 1, none⟩ = false := kf hb5 (by go_simp) (by go_simp)
    replace f_r2 : w5.frozen? ⟨w.heap.size + 1 + 1, 2, none⟩ = false := kf hb5 (by go_simp) (by go_simp)
    replace f_r3 : w5.frozen? ⟨w.heap.size + 1 + 1, 3, none⟩ = false := kf hb5 (by go_simp) (by go_simp)
    replace c_r0 : w5.cell? ⟨w.heap.size + 1 + 1, 0, none⟩ = some (.int .i64 0) := kp hb5 (by go_cell)
    replace c_r1 : w5.cell? ⟨w.heap.size + 1 + 1, 1, none⟩ = some (.int .i64 0) := kp hb5 (by go_cell)
    replace c_r2 : w5.cell? ⟨w.heap.size + 1 + 1, 2, none⟩ = some (.int .i64 0) := kp hb5 (by go_cell)
    replace c_r3 : w5.cell? ⟨w.heap.size + 1 + 1, 3, none⟩ = some (.int .i64 0) := kp hb5 (by go_cell)
    have c_o0 : w5.cell? ⟨w4.heap.size, 0, none⟩ = some (.int .i64 ((m1 - r))) := kp hb5 (by go_cell)
    have c_o1 : w5.cell? ⟨w4.heap.size, 1, none⟩ = some (.int .i64 ((m2 - r))) := kp hb5 (by go_cell)
    have c_n0 : w5.cell? ⟨w4.heap.size + 1, 0, none⟩ = some (.int .i64 r) := kp hb5 (by go_cell)
    have c_n1 : w5.cell? ⟨w4.heap.size + 1, 1, none⟩ = some (.int .i64 ((m1 - r))) := kp hb5 (by go_cell)
    have c_n2 : w5.cell? ⟨w4.heap.size + 1, 2, none⟩ = some (.int .i64 ((m2 - r))) := kp hb5 (by go_cell)
    have c_n3 : w5.cell? ⟨w4.heap.size + 1, 3, none⟩ = some (.int .i64 dr) := kp hb5 (by go_cell)
    clear hb5 hB4
    go_wp2_with fail
    rw [HR.out]
    refine ret_clock_bool (B := w.heap.size + 1 + 1) rfl rfl rfl (set4s _ _ _ _ (by go_simp) (by go_simp) (by go_simp) (by go_simp)).1 (set4s _ _ _ _ (by go_simp) (by go_simp) (by go_simp) (by go_simp)).2.1 (set4s _ _ _ _ (by go_simp) (by go_simp) (by go_simp) (by go_simp)).2.2.1 (set4s _ _ _ _ (by go_simp) (by go_simp) (by go_simp) (by go_simp)).2.2.2 ⟨rfl, by go_grown⟩

theorem Set_any (t lo hi dr r sl sh : Int) (w : World) :
    Calls Try.prog 53 #[.agg #[.int .i64 t, .int .i64 lo, .int .i64 hi, .int .i64 dr], .int .i64 r, .agg #[.int .i64 sl, .int .i64 sh]] w fun e w' => e = .returned (.tuple #[.agg #[.int .i64 (setS t lo hi dr r sl sh).1.1, .int .i64 (setS t lo hi dr r sl sh).1.2.1, .int .i64 (setS t lo hi dr r sl sh).1.2.2.1, .int .i64 (setS t lo hi dr r sl sh).1.2.2.2], .bool (setS t lo hi dr r sl sh).2.1, .int .i64 (setS t lo hi dr r sl sh).2.2]) ∧ Below w.heap.size w w' := by
  cases h : (clkB t lo hi dr && readB r && vld sl sh)
  · exact Set_no t lo hi dr r sl sh w h
  · have h1 := and_left (and_left h)
    have h2 := and_right (and_left h)
    have h3 := and_right h
    by_cases hc : min (atHi t hi dr r) sh < max (atLo t lo dr r) sl
    · exact Set_apart t lo hi dr r sl sh w h1 h2 h3 hc
    · by_cases e1 : r = t
      · by_cases e2 : max (atLo t lo dr r) sl - r = lo
        · by_cases e3 : min (atHi t hi dr r) sh - r = hi
          · exact Set_eq t lo hi dr r sl sh w h1 h2 h3 hc ⟨e1, e2, e3⟩
          · cases hn : clkB r (max (atLo t lo dr r) sl - r) (min (atHi t hi dr r) sh - r) dr
            · exact Set_out3 t lo hi dr r sl sh w h1 h2 h3 hc e3 hn
            · exact Set_new3 t lo hi dr r sl sh w h1 h2 h3 hc e3 hn
        · cases hn : clkB r (max (atLo t lo dr r) sl - r) (min (atHi t hi dr r) sh - r) dr
          · exact Set_out2 t lo hi dr r sl sh w h1 h2 h3 hc e2 hn
          · exact Set_new2 t lo hi dr r sl sh w h1 h2 h3 hc e2 hn
      · cases hn : clkB r (max (atLo t lo dr r) sl - r) (min (atHi t hi dr r) sh - r) dr
        · exact Set_out1 t lo hi dr r sl sh w h1 h2 h3 hc e1 hn
        · exact Set_new1 t lo hi dr r sl sh w h1 h2 h3 hc e1 hn

set_option maxHeartbeats 1600000 in
set_option maxRecDepth 100000 in
theorem RSet_no (t lo hi dr r sl sh : Int) (w : World) (h : (clkB t lo hi dr && readB r && vld sl sh) = false) :
    Calls Try.prog 54 #[.agg #[.int .i64 t, .int .i64 lo, .int .i64 hi, .int .i64 dr], .int .i64 r, .agg #[.int .i64 sl, .int .i64 sh]] w fun e w' => e = .returned (.tuple #[.agg #[.int .i64 (setS t lo hi dr r sl sh).1.1, .int .i64 (setS t lo hi dr r sl sh).1.2.1, .int .i64 (setS t lo hi dr r sl sh).1.2.2.1, .int .i64 (setS t lo hi dr r sl sh).1.2.2.2], .bool (setS t lo hi dr r sl sh).2.1, .int .i64 (setS t lo hi dr r sl sh).2.2]) ∧ Below w.heap.size w w' := by
  have hr : setS t lo hi dr r sl sh = ((0, 0, 0, 0), false, 1) := by simp [setS, h]
  have HR := Lib.hid hr
  have v1 := fun w => RCValid_any t lo hi dr w
  have v2 := fun w => RValid_any sl sh w
  have v3 := fun w => RTime_any r w
  generalize clkB t lo hi dr = x at *
  generalize readB r = z at *
  generalize vld sl sh = y at *
  have HV1 := Lib.hid v1
  have HV2 := Lib.hid v2
  have HV3 := Lib.hid v3
  have HH := Lib.hid h
  clear hr v1 v2 v3 h
  cases x
  · go_enter Try.func54, Try.ntmps54
    go_wp2_with fail
    refine (HV1.out _).mono ?_
    rintro e w1 ⟨rfl, hb1⟩
    have hB1 : Below w.heap.size w w1 := below_after (by go_grown) hb1
    have hz1 := hb1.size
    try simp only [World.size_alloc, World.size_setCell, World.size_drew] at hz1
    have hw1 := hB1.size
    have c_s0 : w1.cell? ⟨w.heap.size + 1, 0, none⟩ = some (.int .i64 sl) := kp hb1 (by go_cell)
    have c_s1 : w1.cell? ⟨w.heap.size + 1, 1, none⟩ = some (.int .i64 sh) := kp hb1 (by go_cell)
    have f_r0 : w1.frozen? ⟨w.heap.size + 1 + 1, 0, none⟩ = false := kf hb1 (by go_simp) (by go_simp)
    have f_r1 : w1.frozen? ⟨w.heap.size + 1 + 1, 1, none⟩ = false := kf hb1 (by go_simp) (by go_simp)
    have f_r2 : w1.frozen? ⟨w.heap.size + 1 + 1, 2, none⟩ = false := kf hb1 (by go_simp) (by go_simp)
    have f_r3 : w1.frozen? ⟨w.heap.size + 1 + 1, 3, none⟩ = false := kf hb1 (by go_simp) (by go_simp)
    have c_r0 : w1.cell? ⟨w.heap.size + 1 + 1, 0, none⟩ = some (.int .i64 0) := kp hb1 (by go_cell)
    have c_r1 : w1.cell? ⟨w.heap.size + 1 + 1, 1, none⟩ = some (.int .i64 0) := kp hb1 (by go_cell)
    have c_r2 : w1.cell? ⟨w.heap.size + 1 + 1, 2, none⟩ = some (.int .i64 0) := kp hb1 (by go_cell)
    have c_r3 : w1.cell? ⟨w.heap.size + 1 + 1, 3, none⟩ = some (.int .i64 0) := kp hb1 (by go_cell)
    clear hb1
    go_wp2_with fail
    refine (HV2.out _).mono ?_
    rintro e w2 ⟨rfl, hb2⟩
    have hB2 : Below w.heap.size w w2 := below_after (by go_grown) hb2
    have hz2 := hb2.size
    try simp only [World.size_alloc, World.size_setCell, World.size_drew] at hz2
    have hw2 := hB2.size
    replace c_s0 : w2.cell? ⟨w.heap.size + 1, 0, none⟩ = some (.int .i64 sl) := kp hb2 (by go_cell)
    replace c_s1 : w2.cell? ⟨w.heap.size + 1, 1, none⟩ = some (.int .i64 sh) := kp hb2 (by go_cell)
    replace f_r0 : w2.frozen? ⟨w.heap.size + 1 + 1, 0, none⟩ = false := kf hb2 (by go_simp) (by go_simp)
    replace f_r1 : w2.frozen? ⟨w.heap.size + 1 + 1, 1, none⟩ = false := kf hb2 (by go_simp) (by go_simp)
    replace f_r2 : w2.frozen? ⟨w.heap.size + 1 + 1, 2, none⟩ = false := kf hb2 (by go_simp) (by go_simp)
    replace f_r3 : w2.frozen? ⟨w.heap.size + 1 + 1, 3, none⟩ = false := kf hb2 (by go_simp) (by go_simp)
    replace c_r0 : w2.cell? ⟨w.heap.size + 1 + 1, 0, none⟩ = some (.int .i64 0) := kp hb2 (by go_cell)
    replace c_r1 : w2.cell? ⟨w.heap.size + 1 + 1, 1, none⟩ = some (.int .i64 0) := kp hb2 (by go_cell)
    replace c_r2 : w2.cell? ⟨w.heap.size + 1 + 1, 2, none⟩ = some (.int .i64 0) := kp hb2 (by go_cell)
    replace c_r3 : w2.cell? ⟨w.heap.size + 1 + 1, 3, none⟩ = some (.int .i64 0) := kp hb2 (by go_cell)
    clear hb2 hB1
    go_wp2_with fail
    rw [HR.out]
    refine ret_clock_bool (B := w.heap.size + 1 + 1) rfl rfl rfl (set4s _ _ _ _ (by go_simp) (by go_simp) (by go_simp) (by go_simp)).1 (set4s _ _ _ _ (by go_simp) (by go_simp) (by go_simp) (by go_simp)).2.1 (set4s _ _ _ _ (by go_simp) (by go_simp) (by go_simp) (by go_simp)).2.2.1 (set4s _ _ _ _ (by go_simp) (by go_simp) (by go_simp) (by go_simp)).2.2.2 ⟨rfl, by go_grown⟩
  · cases z
    · go_enter Try.func54, Try.ntmps54
      go_wp2_with fail
      refine (HV1.out _).mono ?_
      rintro e w1 ⟨rfl, hb1⟩
      have hB1 : Below w.heap.size w w1 := below_after (by go_grown) hb1
      have hz1 := hb1.size
      try simp only [World.size_alloc, World.size_setCell, World.size_drew] at hz1
      have hw1 := hB1.size
      have c_s0 : w1.cell? ⟨w.heap.size + 1, 0, none⟩ = some (.int .i64 sl) := kp hb1 (by go_cell)
      have c_s1 : w1.cell? ⟨w.heap.size + 1, 1, none⟩ = some (.int .i64 sh) := kp hb1 (by go_cell)
      have f_r0 : w1.frozen? ⟨w.heap.size + 1 + 1, 0, none⟩ = false := kf hb1 (by go_simp) (by go_simp)
      have f_r1 : w1.frozen? ⟨w.heap.size + 1 + 1, 1, none⟩ = false := kf hb1 (by go_simp) (by go_simp)
      have f_r2 : w1.frozen? ⟨w.heap.size + 1 + 1, 2, none⟩ = false := kf hb1 (by go_simp) (by go_simp)
      have f_r3 : w1.frozen? ⟨w.heap.size + 1 + 1, 3, none⟩ = false := kf hb1 (by go_simp) (by go_simp)
      have c_r0 : w1.cell? ⟨w.heap.size + 1 + 1, 0, none⟩ = some (.int .i64 0) := kp hb1 (by go_cell)
      have c_r1 : w1.cell? ⟨w.heap.size + 1 + 1, 1, none⟩ = some (.int .i64 0) := kp hb1 (by go_cell)
      have c_r2 : w1.cell? ⟨w.heap.size + 1 + 1, 2, none⟩ = some (.int .i64 0) := kp hb1 (by go_cell)
      have c_r3 : w1.cell? ⟨w.heap.size + 1 + 1, 3, none⟩ = some (.int .i64 0) := kp hb1 (by go_cell)
      clear hb1
      go_wp2_with fail
      refine (HV2.out _).mono ?_
      rintro e w2 ⟨rfl, hb2⟩
      have hB2 : Below w.heap.size w w2 := below_after (by go_grown) hb2
      have hz2 := hb2.size
      try simp only [World.size_alloc, World.size_setCell, World.size_drew] at hz2
      have hw2 := hB2.size
      replace c_s0 : w2.cell? ⟨w.heap.size + 1, 0, none⟩ = some (.int .i64 sl) := kp hb2 (by go_cell)
      replace c_s1 : w2.cell? ⟨w.heap.size + 1, 1, none⟩ = some (.int .i64 sh) := kp hb2 (by go_cell)
      replace f_r0 : w2.frozen? ⟨w.heap.size + 1 + 1, 0, none⟩ = false := kf hb2 (by go_simp) (by go_simp)
      replace f_r1 : w2.frozen? ⟨w.heap.size + 1 + 1, 1, none⟩ = false := kf hb2 (by go_simp) (by go_simp)
      replace f_r2 : w2.frozen? ⟨w.heap.size + 1 + 1, 2, none⟩ = false := kf hb2 (by go_simp) (by go_simp)
      replace f_r3 : w2.frozen? ⟨w.heap.size + 1 + 1, 3, none⟩ = false := kf hb2 (by go_simp) (by go_simp)
      replace c_r0 : w2.cell? ⟨w.heap.size + 1 + 1, 0, none⟩ = some (.int .i64 0) := kp hb2 (by go_cell)
      replace c_r1 : w2.cell? ⟨w.heap.size + 1 + 1, 1, none⟩ = some (.int .i64 0) := kp hb2 (by go_cell)
      replace c_r2 : w2.cell? ⟨w.heap.size + 1 + 1, 2, none⟩ = some (.int .i64 0) := kp hb2 (by go_cell)
      replace c_r3 : w2.cell? ⟨w.heap.size + 1 + 1, 3, none⟩ = some (.int .i64 0) := kp hb2 (by go_cell)
      clear hb2 hB1
      go_wp2_with fail
      refine (HV3.out _).mono ?_
      rintro e w9 ⟨rfl, rfl⟩
      go_wp2_with fail
      rw [HR.out]
      refine ret_clock_bool (B := w.heap.size + 1 + 1) rfl rfl rfl (set4s _ _ _ _ (by go_simp) (by go_simp) (by go_simp) (by go_simp)).1 (set4s _ _ _ _ (by go_simp) (by go_simp) (by go_simp) (by go_simp)).2.1 (set4s _ _ _ _ (by go_simp) (by go_simp) (by go_simp) (by go_simp)).2.2.1 (set4s _ _ _ _ (by go_simp) (by go_simp) (by go_simp) (by go_simp)).2.2.2 ⟨rfl, by go_grown⟩
    · cases y
      · go_enter Try.func54, Try.ntmps54
        go_wp2_with fail
        refine (HV1.out _).mono ?_
        rintro e w1 ⟨rfl, hb1⟩
        have hB1 : Below w.heap.size w w1 := below_after (by go_grown) hb1
        have hz1 := hb1.size
        try simp only [World.size_alloc, World.size_setCell, World.size_drew] at hz1
        have hw1 := hB1.size
        have c_s0 : w1.cell? ⟨w.heap.size + 1, 0, none⟩ = some (.int .i64 sl) := kp hb1 (by go_cell)
        have c_s1 : w1.cell? ⟨w.heap.size + 1, 1, none⟩ = some (.int .i64 sh) := kp hb1 (by go_cell)
        have f_r0 : w1.frozen? ⟨w.heap.size + 1 + 1, 0, none⟩ = false := kf hb1 (by go_simp) (by go_simp)
        have f_r1 : w1.frozen? ⟨w.heap.size + 1 + 1, 1, none⟩ = false := kf hb1 (by go_simp) (by go_simp)
        have f_r2 : w1.frozen? ⟨w.heap.size + 1 + 1, 2, none⟩ = false := kf hb1 (by go_simp) (by go_simp)
        have f_r3 : w1.frozen? ⟨w.heap.size + 1 + 1, 3, none⟩ = false := kf hb1 (by go_simp) (by go_simp)
        have c_r0 : w1.cell? ⟨w.heap.size + 1 + 1, 0, none⟩ = some (.int .i64 0) := kp hb1 (by go_cell)
        have c_r1 : w1.cell? ⟨w.heap.size + 1 + 1, 1, none⟩ = some (.int .i64 0) := kp hb1 (by go_cell)
        have c_r2 : w1.cell? ⟨w.heap.size + 1 + 1, 2, none⟩ = some (.int .i64 0) := kp hb1 (by go_cell)
        have c_r3 : w1.cell? ⟨w.heap.size + 1 + 1, 3, none⟩ = some (.int .i64 0) := kp hb1 (by go_cell)
        clear hb1
        go_wp2_with fail
        refine (HV2.out _).mono ?_
        rintro e w2 ⟨rfl, hb2⟩
        have hB2 : Below w.heap.size w w2 := below_after (by go_grown) hb2
        have hz2 := hb2.size
        try simp only [World.size_alloc, World.size_setCell, World.size_drew] at hz2
        have hw2 := hB2.size
        replace c_s0 : w2.cell? ⟨w.heap.size + 1, 0, none⟩ = some (.int .i64 sl) := kp hb2 (by go_cell)
        replace c_s1 : w2.cell? ⟨w.heap.size + 1, 1, none⟩ = some (.int .i64 sh) := kp hb2 (by go_cell)
        replace f_r0 : w2.frozen? ⟨w.heap.size + 1 + 1, 0, none⟩ = false := kf hb2 (by go_simp) (by go_simp)
        replace f_r1 : w2.frozen? ⟨w.heap.size + 1 + 1, 1, none⟩ = false := kf hb2 (by go_simp) (by go_simp)
        replace f_r2 : w2.frozen? ⟨w.heap.size + 1 + 1, 2, none⟩ = false := kf hb2 (by go_simp) (by go_simp)
        replace f_r3 : w2.frozen? ⟨w.heap.size + 1 + 1, 3, none⟩ = false := kf hb2 (by go_simp) (by go_simp)
        replace c_r0 : w2.cell? ⟨w.heap.size + 1 + 1, 0, none⟩ = some (.int .i64 0) := kp hb2 (by go_cell)
        replace c_r1 : w2.cell? ⟨w.heap.size + 1 + 1, 1, none⟩ = some (.int .i64 0) := kp hb2 (by go_cell)
        replace c_r2 : w2.cell? ⟨w.heap.size + 1 + 1, 2, none⟩ = some (.int .i64 0) := kp hb2 (by go_cell)
        replace c_r3 : w2.cell? ⟨w.heap.size + 1 + 1, 3, none⟩ = some (.int .i64 0) := kp hb2 (by go_cell)
        clear hb2 hB1
        go_wp2_with fail
        refine (HV3.out _).mono ?_
        rintro e w9 ⟨rfl, rfl⟩
        go_wp2_with fail
        rw [HR.out]
        refine ret_clock_bool (B := w.heap.size + 1 + 1) rfl rfl rfl (set4s _ _ _ _ (by go_simp) (by go_simp) (by go_simp) (by go_simp)).1 (set4s _ _ _ _ (by go_simp) (by go_simp) (by go_simp) (by go_simp)).2.1 (set4s _ _ _ _ (by go_simp) (by go_simp) (by go_simp) (by go_simp)).2.2.1 (set4s _ _ _ _ (by go_simp) (by go_simp) (by go_simp) (by go_simp)).2.2.2 ⟨rfl, by go_grown⟩
      · exact absurd HH.out (by decide)

set_option maxHeartbeats 1600000 in
set_option maxRecDepth 100000 in
theorem RSet_apart (t lo hi dr r sl sh : Int) (w : World) (h : clkB t lo hi dr = true) (h2 : readB r = true) (h3 : vld sl sh = true) (hc : min (atHi t hi dr r) sh < max (atLo t lo dr r) sl) :
    Calls Try.prog 54 #[.agg #[.int .i64 t, .int .i64 lo, .int .i64 hi, .int .i64 dr], .int .i64 r, .agg #[.int .i64 sl, .int .i64 sh]] w fun e w' => e = .returned (.tuple #[.agg #[.int .i64 (setS t lo hi dr r sl sh).1.1, .int .i64 (setS t lo hi dr r sl sh).1.2.1, .int .i64 (setS t lo hi dr r sl sh).1.2.2.1, .int .i64 (setS t lo hi dr r sl sh).1.2.2.2], .bool (setS t lo hi dr r sl sh).2.1, .int .i64 (setS t lo hi dr r sl sh).2.2]) ∧ Below w.heap.size w w' := by
  have v1 := fun w => RCValid_any t lo hi dr w
  have v2 := fun w => RValid_any sl sh w
  have v3 := fun w => RTime_any r w
  rw [h] at v1
  rw [h2] at v3
  rw [h3] at v2
  have v4 := fun w => Of_any t lo hi dr r w h h2
  obtain ⟨b1, b2, b3⟩ := atLo_bounds h h2
  obtain ⟨t1, t2, r1, r2, o1, o2, o3⟩ := clkB_bounds h
  obtain ⟨q1, q2⟩ := readB_bounds h2
  obtain ⟨k1, k2, k3⟩ := vld_bounds h3
  have v5 := fun w => RMeet_any (atLo t lo dr r) (atHi t hi dr r) sl sh w
  have hv : (vld (atLo t lo dr r) (atHi t hi dr r) && vld sl sh) = true := by rw [h3, Bool.and_true]; simp [vld]; omega
  have hm : meetS (atLo t lo dr r) (atHi t hi dr r) sl sh = (0, 0, false, 0) := by rw [meetS, hv, if_pos rfl, if_pos hc]
  rw [hm] at v5
  have hr : setS t lo hi dr r sl sh = ((0, 0, 0, 0), false, 0) := by
    rw [setS, h, h2, h3, if_pos (by rfl), if_pos hc]
  have HR := Lib.hid hr
  generalize atLo t lo dr r = x at *
  generalize atHi t hi dr r = y at *
  have HV1 := Lib.hid v1
  have HV2 := Lib.hid v2
  have HV3 := Lib.hid v3
  have HV4 := Lib.hid v4
  have HV5 := Lib.hid v5
  clear hr hm hv v1 v2 v3 v4 v5 h h2 h3
  go_enter Try.func54, Try.ntmps54
  go_wp2_with fail
  refine (HV1.out _).mono ?_
  rintro e w1 ⟨rfl, hb1⟩
  have hB1 : Below w.heap.size w w1 := below_after (by go_grown) hb1
  have hz1 := hb1.size
  try simp only [World.size_alloc, World.size_setCell, World.size_drew] at hz1
  have hw1 := hB1.size
  have c_c0 : w1.cell? ⟨w.heap.size, 0, none⟩ = some (.int .i64 t) := kp hb1 (by go_cell)
  have c_c1 : w1.cell? ⟨w.heap.size, 1, none⟩ = some (.int .i64 lo) := kp hb1 (by go_cell)
  have c_c2 : w1.cell? ⟨w.heap.size, 2, none⟩ = some (.int .i64 hi) := kp hb1 (by go_cell)
  have c_c3 : w1.cell? ⟨w.heap.size, 3, none⟩ = some (.int .i64 dr) := kp hb1 (by go_cell)
  have c_s0 : w1.cell? ⟨w.heap.size + 1, 0, none⟩ = some (.int .i64 sl) := kp hb1 (by go_cell)
  have c_s1 : w1.cell? ⟨w.heap.size + 1, 1, none⟩ = some (.int .i64 sh) := kp hb1 (by go_cell)
  have f_r0 : w1.frozen? ⟨w.heap.size + 1 + 1, 0, none⟩ = false := kf hb1 (by go_simp) (by go_simp)
  have f_r1 : w1.frozen? ⟨w.heap.size + 1 + 1, 1, none⟩ = false := kf hb1 (by go_simp) (by go_simp)
  have f_r2 : w1.frozen? ⟨w.heap.size + 1 + 1, 2, none⟩ = false := kf hb1 (by go_simp) (by go_simp)
  have f_r3 : w1.frozen? ⟨w.heap.size + 1 + 1, 3, none⟩ = false := kf hb1 (by go_simp) (by go_simp)
  have c_r0 : w1.cell? ⟨w.heap.size + 1 + 1, 0, none⟩ = some (.int .i64 0) := kp hb1 (by go_cell)
  have c_r1 : w1.cell? ⟨w.heap.size + 1 + 1, 1, none⟩ = some (.int .i64 0) := kp hb1 (by go_cell)
  have c_r2 : w1.cell? ⟨w.heap.size + 1 + 1, 2, none⟩ = some (.int .i64 0) := kp hb1 (by go_cell)
  have c_r3 : w1.cell? ⟨w.heap.size + 1 + 1, 3, none⟩ = some (.int .i64 0) := kp hb1 (by go_cell)
  clear hb1
  go_wp2_with fail
  refine (HV2.out _).mono ?_
  rintro e w2 ⟨rfl, hb2⟩
  have hB2 : Below w.heap.size w w2 := below_after (by go_grown) hb2
  have hz2 := hb2.size
  try simp only [World.size_alloc, World.size_setCell, World.size_drew] at hz2
  have hw2 := hB2.size
  replace c_c0 : w2.cell? ⟨w.heap.size, 0, none⟩ = some (.int .i64 t) := kp hb2 (by go_cell)
  replace c_c1 : w2.cell? ⟨w.heap.size, 1, none⟩ = some (.int .i64 lo) := kp hb2 (by go_cell)
  replace c_c2 : w2.cell? ⟨w.heap.size, 2, none⟩ = some (.int .i64 hi) := kp hb2 (by go_cell)
  replace c_c3 : w2.cell? ⟨w.heap.size, 3, none⟩ = some (.int .i64 dr) := kp hb2 (by go_cell)
  replace c_s0 : w2.cell? ⟨w.heap.size + 1, 0, none⟩ = some (.int .i64 sl) := kp hb2 (by go_cell)
  replace c_s1 : w2.cell? ⟨w.heap.size + 1, 1, none⟩ = some (.int .i64 sh) := kp hb2 (by go_cell)
  replace f_r0 : w2.frozen? ⟨w.heap.size + 1 + 1, 0, none⟩ = false := kf hb2 (by go_simp) (by go_simp)
  replace f_r1 : w2.frozen? ⟨w.heap.size + 1 + 1, 1, none⟩ = false := kf hb2 (by go_simp) (by go_simp)
  replace f_r2 : w2.frozen? ⟨w.heap.size + 1 + 1, 2, none⟩ = false := kf hb2 (by go_simp) (by go_simp)
  replace f_r3 : w2.frozen? ⟨w.heap.size + 1 + 1, 3, none⟩ = false := kf hb2 (by go_simp) (by go_simp)
  replace c_r0 : w2.cell? ⟨w.heap.size + 1 + 1, 0, none⟩ = some (.int .i64 0) := kp hb2 (by go_cell)
  replace c_r1 : w2.cell? ⟨w.heap.size + 1 + 1, 1, none⟩ = some (.int .i64 0) := kp hb2 (by go_cell)
  replace c_r2 : w2.cell? ⟨w.heap.size + 1 + 1, 2, none⟩ = some (.int .i64 0) := kp hb2 (by go_cell)
  replace c_r3 : w2.cell? ⟨w.heap.size + 1 + 1, 3, none⟩ = some (.int .i64 0) := kp hb2 (by go_cell)
  clear hb2 hB1
  go_wp2_with fail
  refine (HV3.out _).mono ?_
  rintro e w9 ⟨rfl, rfl⟩
  have HA : Hid (True) := Lib.hid trivial
  go_upto_region 5 with fail
  go_cut [11, 12, 13] (fun s11 s12 s13 wx => ∃ g3 : Nat, s11 = .pointer (some ⟨g3, 0, none⟩) ∧ s12 = .bool false ∧ s13 = .int .i64 0 ∧ wx.cell? ⟨g3, 0, none⟩ = some (.int .i64 0) ∧ wx.cell? ⟨g3, 1, none⟩ = some (.int .i64 0) ∧ w.heap.size ≤ g3 ∧ Below w.heap.size w wx ∧ wx.cell? ⟨w.heap.size, 0, none⟩ = some (.int .i64 t) ∧ wx.cell? ⟨w.heap.size, 1, none⟩ = some (.int .i64 lo) ∧ wx.cell? ⟨w.heap.size, 2, none⟩ = some (.int .i64 hi) ∧ wx.cell? ⟨w.heap.size, 3, none⟩ = some (.int .i64 dr) ∧ wx.cell? ⟨w.heap.size + 1, 0, none⟩ = some (.int .i64 sl) ∧ wx.cell? ⟨w.heap.size + 1, 1, none⟩ = some (.int .i64 sh) ∧ wx.cell? ⟨w.heap.size + 1 + 1, 0, none⟩ = some (.int .i64 0) ∧ wx.cell? ⟨w.heap.size + 1 + 1, 1, none⟩ = some (.int .i64 0) ∧ wx.cell? ⟨w.heap.size + 1 + 1, 2, none⟩ = some (.int .i64 0) ∧ wx.cell? ⟨w.heap.size + 1 + 1, 3, none⟩ = some (.int .i64 0) ∧ wx.frozen? ⟨w.heap.size + 1 + 1, 0, none⟩ = false ∧ wx.frozen? ⟨w.heap.size + 1 + 1, 1, none⟩ = false ∧ wx.frozen? ⟨w.heap.size + 1 + 1, 2, none⟩ = false ∧ wx.frozen? ⟨w.heap.size + 1 + 1, 3, none⟩ = false)
  case first =>
    go_region_held3 (fun w' => Below w.heap.size w w' ∧ w'.cell? ⟨w.heap.size, 0, none⟩ = some (.int .i64 t) ∧ w'.cell? ⟨w.heap.size, 1, none⟩ = some (.int .i64 lo) ∧ w'.cell? ⟨w.heap.size, 2, none⟩ = some (.int .i64 hi) ∧ w'.cell? ⟨w.heap.size, 3, none⟩ = some (.int .i64 dr) ∧ w'.cell? ⟨w.heap.size + 1, 0, none⟩ = some (.int .i64 sl) ∧ w'.cell? ⟨w.heap.size + 1, 1, none⟩ = some (.int .i64 sh) ∧ w'.cell? ⟨w.heap.size + 1 + 1, 0, none⟩ = some (.int .i64 0) ∧ w'.cell? ⟨w.heap.size + 1 + 1, 1, none⟩ = some (.int .i64 0) ∧ w'.cell? ⟨w.heap.size + 1 + 1, 2, none⟩ = some (.int .i64 0) ∧ w'.cell? ⟨w.heap.size + 1 + 1, 3, none⟩ = some (.int .i64 0) ∧ w'.frozen? ⟨w.heap.size + 1 + 1, 0, none⟩ = false ∧ w'.frozen? ⟨w.heap.size + 1 + 1, 1, none⟩ = false ∧ w'.frozen? ⟨w.heap.size + 1 + 1, 2, none⟩ = false ∧ w'.frozen? ⟨w.heap.size + 1 + 1, 3, none⟩ = false)
      ((go_split_ands; refine ⟨?_, ?_, ?_, ?_, ?_, ?_, ?_, ?_, ?_, ?_, ?_, ?_, ?_, ?_, ?_⟩; (focus (first | (with_reducible assumption) | (go_grown; done) | (exact Below.drew (by go_grown)))); (focus (first | (with_reducible assumption) | go_cell | (go_simp; done))); (focus (first | (with_reducible assumption) | go_cell | (go_simp; done))); (focus (first | (with_reducible assumption) | go_cell | (go_simp; done))); (focus (first | (with_reducible assumption) | go_cell | (go_simp; done))); (focus (first | (with_reducible assumption) | go_cell | (go_simp; done))); (focus (first | (with_reducible assumption) | go_cell | (go_simp; done))); (focus (first | (with_reducible assumption) | go_cell | (go_simp; done))); (focus (first | (with_reducible assumption) | go_cell | (go_simp; done))); (focus (first | (with_reducible assumption) | go_cell | (go_simp; done))); (focus (first | (with_reducible assumption) | go_cell | (go_simp; done))); (focus (first | (with_reducible assumption) | go_cell | (go_simp; done))); (focus (first | (with_reducible assumption) | go_cell | (go_simp; done))); (focus (first | (with_reducible assumption) | go_cell | (go_simp; done))); (focus (first | (with_reducible assumption) | go_cell | (go_simp; done)))))
      (first | (go_at_call 79; (with_reducible refine (HV4.out _).mono ?_); rintro e xa ⟨rfl, hba⟩; have hB_xa : Below w.heap.size w xa := below_after (by go_grown) hba; have hw_xa := hB_xa.size; have hz_xa := hba.size; (try simp only [World.size_alloc, World.size_setCell, World.size_drew] at hz_xa); have c_c0_xa : xa.cell? ⟨w.heap.size, 0, none⟩ = some (.int .i64 t) := kp hba (by go_cell); have c_c1_xa : xa.cell? ⟨w.heap.size, 1, none⟩ = some (.int .i64 lo) := kp hba (by go_cell); have c_c2_xa : xa.cell? ⟨w.heap.size, 2, none⟩ = some (.int .i64 hi) := kp hba (by go_cell); have c_c3_xa : xa.cell? ⟨w.heap.size, 3, none⟩ = some (.int .i64 dr) := kp hba (by go_cell); have c_s0_xa : xa.cell? ⟨w.heap.size + 1, 0, none⟩ = some (.int .i64 sl) := kp hba (by go_cell); have c_s1_xa : xa.cell? ⟨w.heap.size + 1, 1, none⟩ = some (.int .i64 sh) := kp hba (by go_cell); have f_r0_xa : xa.frozen? ⟨w.heap.size + 1 + 1, 0, none⟩ = false := kf hba (by go_simp) (by go_simp); have f_r1_xa : xa.frozen? ⟨w.heap.size + 1 + 1, 1, none⟩ = false := kf hba (by go_simp) (by go_simp); have f_r2_xa : xa.frozen? ⟨w.heap.size + 1 + 1, 2, none⟩ = false := kf hba (by go_simp) (by go_simp); have f_r3_xa : xa.frozen? ⟨w.heap.size + 1 + 1, 3, none⟩ = false := kf hba (by go_simp) (by go_simp); have c_r0_xa : xa.cell? ⟨w.heap.size + 1 + 1, 0, none⟩ = some (.int .i64 0) := kp hba (by go_cell); have c_r1_xa : xa.cell? ⟨w.heap.size + 1 + 1, 1, none⟩ = some (.int .i64 0) := kp hba (by go_cell); have c_r2_xa : xa.cell? ⟨w.heap.size + 1 + 1, 2, none⟩ = some (.int .i64 0) := kp hba (by go_cell); have c_r3_xa : xa.cell? ⟨w.heap.size + 1 + 1, 3, none⟩ = some (.int .i64 0) := kp hba (by go_cell); (try (have n0f0_xa : xa.frozen? ⟨w2.heap.size, 0, none⟩ = false := ?_; rotate_left 1; focus (refine kf hba ?_ ?_ <;> (go_simp; done)))); (try (have n0c0_xa : xa.cell? ⟨w2.heap.size, 0, none⟩ = some (.int .i64 0) := ?_; rotate_left 1; focus (refine kp hba ?_; go_cell; done))); (try (have n0f1_xa : xa.frozen? ⟨w2.heap.size, 1, none⟩ = false := ?_; rotate_left 1; focus (refine kf hba ?_ ?_ <;> (go_simp; done)))); (try (have n0c1_xa : xa.cell? ⟨w2.heap.size, 1, none⟩ = some (.int .i64 0) := ?_; rotate_left 1; focus (refine kp hba ?_; go_cell; done)))) | (go_at_call 43; (with_reducible refine (HV5.out _).mono ?_); rintro e xb ⟨rfl, hbb⟩; have hB_xb : Below w.heap.size w xb := below_after (by go_grown) hbb; have hw_xb := hB_xb.size; have hz_xb := hbb.size; (try simp only [World.size_alloc, World.size_setCell, World.size_drew] at hz_xb); have c_c0_xb : xb.cell? ⟨w.heap.size, 0, none⟩ = some (.int .i64 t) := kp hbb (by go_cell); have c_c1_xb : xb.cell? ⟨w.heap.size, 1, none⟩ = some (.int .i64 lo) := kp hbb (by go_cell); have c_c2_xb : xb.cell? ⟨w.heap.size, 2, none⟩ = some (.int .i64 hi) := kp hbb (by go_cell); have c_c3_xb : xb.cell? ⟨w.heap.size, 3, none⟩ = some (.int .i64 dr) := kp hbb (by go_cell); have c_s0_xb : xb.cell? ⟨w.heap.size + 1, 0, none⟩ = some (.int .i64 sl) := kp hbb (by go_cell); have c_s1_xb : xb.cell? ⟨w.heap.size + 1, 1, none⟩ = some (.int .i64 sh) := kp hbb (by go_cell); have f_r0_xb : xb.frozen? ⟨w.heap.size + 1 + 1, 0, none⟩ = false := kf hbb (by go_simp) (by go_simp); have f_r1_xb : xb.frozen? ⟨w.heap.size + 1 + 1, 1, none⟩ = false := kf hbb (by go_simp) (by go_simp); have f_r2_xb : xb.frozen? ⟨w.heap.size + 1 + 1, 2, none⟩ = false := kf hbb (by go_simp) (by go_simp); have f_r3_xb : xb.frozen? ⟨w.heap.size + 1 + 1, 3, none⟩ = false := kf hbb (by go_simp) (by go_simp); have c_r0_xb : xb.cell? ⟨w.heap.size + 1 + 1, 0, none⟩ = some (.int .i64 0) := kp hbb (by go_cell); have c_r1_xb : xb.cell? ⟨w.heap.size + 1 + 1, 1, none⟩ = some (.int .i64 0) := kp hbb (by go_cell); have c_r2_xb : xb.cell? ⟨w.heap.size + 1 + 1, 2, none⟩ = some (.int .i64 0) := kp hbb (by go_cell); have c_r3_xb : xb.cell? ⟨w.heap.size + 1 + 1, 3, none⟩ = some (.int .i64 0) := kp hbb (by go_cell); (try (have n0f0_xb : xb.frozen? ⟨w2.heap.size, 0, none⟩ = false := ?_; rotate_left 1; focus (refine kf hbb ?_ ?_ <;> (go_simp; done)))); (try (have n0c0_xb : xb.cell? ⟨w2.heap.size, 0, none⟩ = some (.int .i64 0) := ?_; rotate_left 1; focus (refine kp hbb ?_; go_cell; done))); (try (have n0f1_xb : xb.frozen? ⟨w2.heap.size, 1, none⟩ = false := ?_; rotate_left 1; focus (refine kf hbb ?_ ?_ <;> (go_simp; done)))); (try (have n0c1_xb : xb.cell? ⟨w2.heap.size, 1, none⟩ = some (.int .i64 0) := ?_; rotate_left 1; focus (refine kp hbb ?_; go_cell; done))); (try (have n1f0_xb : xb.frozen? ⟨xa.heap.size, 0, none⟩ = false := ?_; rotate_left 1; focus (refine kf hbb ?_ ?_ <;> (go_simp; done)))); (try (have n1c0_xb : xb.cell? ⟨xa.heap.size, 0, none⟩ = some (.int .i64 0) := ?_; rotate_left 1; focus (refine kp hbb ?_; go_cell; done))); (try (have n1f1_xb : xb.frozen? ⟨xa.heap.size, 1, none⟩ = false := ?_; rotate_left 1; focus (refine kf hbb ?_ ?_ <;> (go_simp; done)))); (try (have n1c1_xb : xb.cell? ⟨xa.heap.size, 1, none⟩ = some (.int .i64 0) := ?_; rotate_left 1; focus (refine kp hbb ?_; go_cell; done)))))
    all_goals go_split_ands
    all_goals (go_wp2_with fail)
    all_goals go_meet
    all_goals (refine ⟨_, rfl, rfl, rfl, ?_, ?_, ?_, ?_, ?_, ?_, ?_, ?_, ?_, ?_, ?_, ?_, ?_, ?_, ?_, ?_, ?_, ?_⟩ <;> first | (with_reducible assumption) | (go_grown; done) | go_cell | (go_simp; done) | (go_simp; omega))
  case rest =>
    obtain ⟨g3, rfl, rfl, rfl, c_m0, c_m1, hg3, hB3, c_c0, c_c1, c_c2, c_c3, c_s0, c_s1, c_r0, c_r1, c_r2, c_r3, f_r0, f_r1, f_r2, f_r3⟩ := hcut
    have hw3 := hB3.size
    go_wp2_with fail
    rw [HR.out]
    refine ret_clock_bool (B := w.heap.size + 1 + 1) rfl rfl rfl (set4s _ _ _ _ (by go_simp) (by go_simp) (by go_simp) (by go_simp)).1 (set4s _ _ _ _ (by go_simp) (by go_simp) (by go_simp) (by go_simp)).2.1 (set4s _ _ _ _ (by go_simp) (by go_simp) (by go_simp) (by go_simp)).2.2.1 (set4s _ _ _ _ (by go_simp) (by go_simp) (by go_simp) (by go_simp)).2.2.2 ⟨rfl, by go_grown⟩

-- RSet met
set_option maxHeartbeats 1600000 in
set_option maxRecDepth 100000 in
theorem RSet_new (t lo hi dr r sl sh : Int) (w : World) (h : clkB t lo hi dr = true) (h2 : readB r = true) (h3 : vld sl sh = true) (hc : ¬ min (atHi t hi dr r) sh < max (atLo t lo dr r) sl) (hn : clkB r (max (atLo t lo dr r) sl - r) (min (atHi t hi dr r) sh - r) dr = true) :
    Calls Try.prog 54 #[.agg #[.int .i64 t, .int .i64 lo, .int .i64 hi, .int .i64 dr], .int .i64 r, .agg #[.int .i64 sl, .int .i64 sh]] w fun e w' => e = .returned (.tuple #[.agg #[.int .i64 (setS t lo hi dr r sl sh).1.1, .int .i64 (setS t lo hi dr r sl sh).1.2.1, .int .i64 (setS t lo hi dr r sl sh).1.2.2.1, .int .i64 (setS t lo hi dr r sl sh).1.2.2.2], .bool (setS t lo hi dr r sl sh).2.1, .int .i64 (setS t lo hi dr r sl sh).2.2]) ∧ Below w.heap.size w w' := by
  have v1 := fun w => RCValid_any t lo hi dr w
  have v2 := fun w => RValid_any sl sh w
  have v3 := fun w => RTime_any r w
  rw [h] at v1
  rw [h2] at v3
  rw [h3] at v2
  have v4 := fun w => Of_any t lo hi dr r w h h2
  obtain ⟨b1, b2, b3⟩ := atLo_bounds h h2
  obtain ⟨t1, t2, r1, r2, o1, o2, o3⟩ := clkB_bounds h
  obtain ⟨q1, q2⟩ := readB_bounds h2
  obtain ⟨k1, k2, k3⟩ := vld_bounds h3
  have v5 := fun w => RMeet_any (atLo t lo dr r) (atHi t hi dr r) sl sh w
  have hv : (vld (atLo t lo dr r) (atHi t hi dr r) && vld sl sh) = true := by rw [h3, Bool.and_true]; simp [vld]; omega
  have hm : meetS (atLo t lo dr r) (atHi t hi dr r) sl sh = (max (atLo t lo dr r) sl, min (atHi t hi dr r) sh, true, 0) := by rw [meetS, hv, if_pos rfl, if_neg hc]
  rw [hm] at v5
  have hr : setS t lo hi dr r sl sh = ((r, max (atLo t lo dr r) sl - r, min (atHi t hi dr r) sh - r, dr), true, 0) := by
    rw [setS, h, h2, h3, if_pos (by rfl), if_neg hc, hn, if_pos rfl]
  have HR := Lib.hid hr
  generalize atLo t lo dr r = x at *
  generalize atHi t hi dr r = y at *
  obtain ⟨m1, hm1⟩ : ∃ m1, m1 = max x sl := ⟨_, rfl⟩
  obtain ⟨m2, hm2⟩ : ∃ m2, m2 = min y sh := ⟨_, rfl⟩
  rw [← hm1, ← hm2] at v5 hc
  try rw [← hm1, ← hm2] at HR
  have j1 : -2000000 ≤ m1 := by omega
  have j2 : m2 ≤ 1002000000 := by omega
  have j3 : m1 ≤ m2 := by omega
  have j4 : m1 ≤ 1000000000000 := by omega
  have j5 : -1000000000000 ≤ m2 := by omega
  have v7 := fun w => RCValid_any r (m1 - r) (m2 - r) dr w
  rw [← hm1, ← hm2] at hn
  rw [hn] at v7
  have HV7 := Lib.hid v7
  clear v7 hn hm1 hm2
  have HV1 := Lib.hid v1
  have HV2 := Lib.hid v2
  have HV3 := Lib.hid v3
  have HV4 := Lib.hid v4
  have HV5 := Lib.hid v5
  clear hr hm hv v1 v2 v3 v4 v5 h h2 h3
  go_enter Try.func54, Try.ntmps54
  go_wp2_with fail
  refine (HV1.out _).mono ?_
  rintro e w1 ⟨rfl, hb1⟩
  have hB1 : Below w.heap.size w w1 := below_after (by go_grown) hb1
  have hz1 := hb1.size
  try simp only [World.size_alloc, World.size_setCell, World.size_drew] at hz1
  have hw1 := hB1.size
  have c_c0 : w1.cell? ⟨w.heap.size, 0, none⟩ = some (.int .i64 t) := kp hb1 (by go_cell)
  have c_c1 : w1.cell? ⟨w.heap.size, 1, none⟩ = some (.int .i64 lo) := kp hb1 (by go_cell)
  have c_c2 : w1.cell? ⟨w.heap.size, 2, none⟩ = some (.int .i64 hi) := kp hb1 (by go_cell)
  have c_c3 : w1.cell? ⟨w.heap.size, 3, none⟩ = some (.int .i64 dr) := kp hb1 (by go_cell)
  have c_s0 : w1.cell? ⟨w.heap.size + 1, 0, none⟩ = some (.int .i64 sl) := kp hb1 (by go_cell)
  have c_s1 : w1.cell? ⟨w.heap.size + 1, 1, none⟩ = some (.int .i64 sh) := kp hb1 (by go_cell)
  have f_r0 : w1.frozen? ⟨w.heap.size + 1 + 1, 0, none⟩ = false := kf hb1 (by go_simp) (by go_simp)
  have f_r1 : w1.frozen? ⟨w.heap.size + 1 + 1, 1, none⟩ = false := kf hb1 (by go_simp) (by go_simp)
  have f_r2 : w1.frozen? ⟨w.heap.size + 1 + 1, 2, none⟩ = false := kf hb1 (by go_simp) (by go_simp)
  have f_r3 : w1.frozen? ⟨w.heap.size + 1 + 1, 3, none⟩ = false := kf hb1 (by go_simp) (by go_simp)
  have c_r0 : w1.cell? ⟨w.heap.size + 1 + 1, 0, none⟩ = some (.int .i64 0) := kp hb1 (by go_cell)
  have c_r1 : w1.cell? ⟨w.heap.size + 1 + 1, 1, none⟩ = some (.int .i64 0) := kp hb1 (by go_cell)
  have c_r2 : w1.cell? ⟨w.heap.size + 1 + 1, 2, none⟩ = some (.int .i64 0) := kp hb1 (by go_cell)
  have c_r3 : w1.cell? ⟨w.heap.size + 1 + 1, 3, none⟩ = some (.int .i64 0) := kp hb1 (by go_cell)
  clear hb1
  go_wp2_with fail
  refine (HV2.out _).mono ?_
  rintro e w2 ⟨rfl, hb2⟩
  have hB2 : Below w.heap.size w w2 := below_after (by go_grown) hb2
  have hz2 := hb2.size
  try simp only [World.size_alloc, World.size_setCell, World.size_drew] at hz2
  have hw2 := hB2.size
  replace c_c0 : w2.cell? ⟨w.heap.size, 0, none⟩ = some (.int .i64 t) := kp hb2 (by go_cell)
  replace c_c1 : w2.cell? ⟨w.heap.size, 1, none⟩ = some (.int .i64 lo) := kp hb2 (by go_cell)
  replace c_c2 : w2.cell? ⟨w.heap.size, 2, none⟩ = some (.int .i64 hi) := kp hb2 (by go_cell)
  replace c_c3 : w2.cell? ⟨w.heap.size, 3, none⟩ = some (.int .i64 dr) := kp hb2 (by go_cell)
  replace c_s0 : w2.cell? ⟨w.heap.size + 1, 0, none⟩ = some (.int .i64 sl) := kp hb2 (by go_cell)
  replace c_s1 : w2.cell? ⟨w.heap.size + 1, 1, none⟩ = some (.int .i64 sh) := kp hb2 (by go_cell)
  replace f_r0 : w2.frozen? ⟨w.heap.size + 1 + 1, 0, none⟩ = false := kf hb2 (by go_simp) (by go_simp)
  replace f_r1 : w2.frozen? ⟨w.heap.size + 1 + 1, 1, none⟩ = false := kf hb2 (by go_simp) (by go_simp)
  replace f_r2 : w2.frozen? ⟨w.heap.size + 1 + 1, 2, none⟩ = false := kf hb2 (by go_simp) (by go_simp)
  replace f_r3 : w2.frozen? ⟨w.heap.size + 1 + 1, 3, none⟩ = false := kf hb2 (by go_simp) (by go_simp)
  replace c_r0 : w2.cell? ⟨w.heap.size + 1 + 1, 0, none⟩ = some (.int .i64 0) := kp hb2 (by go_cell)
  replace c_r1 : w2.cell? ⟨w.heap.size + 1 + 1, 1, none⟩ = some (.int .i64 0) := kp hb2 (by go_cell)
  replace c_r2 : w2.cell? ⟨w.heap.size + 1 + 1, 2, none⟩ = some (.int .i64 0) := kp hb2 (by go_cell)
  replace c_r3 : w2.cell? ⟨w.heap.size + 1 + 1, 3, none⟩ = some (.int .i64 0) := kp hb2 (by go_cell)
  clear hb2 hB1
  go_wp2_with fail
  refine (HV3.out _).mono ?_
  rintro e w9 ⟨rfl, rfl⟩
  have HA : Hid (True) := Lib.hid trivial
  go_upto_region 5 with fail
  go_cut [11, 12, 13] (fun s11 s12 s13 wx => ∃ g3 : Nat, s11 = .pointer (some ⟨g3, 0, none⟩) ∧ s12 = .bool true ∧ s13 = .int .i64 0 ∧ wx.cell? ⟨g3, 0, none⟩ = some (.int .i64 m1) ∧ wx.cell? ⟨g3, 1, none⟩ = some (.int .i64 m2) ∧ w.heap.size ≤ g3 ∧ Below w.heap.size w wx ∧ wx.cell? ⟨w.heap.size, 0, none⟩ = some (.int .i64 t) ∧ wx.cell? ⟨w.heap.size, 1, none⟩ = some (.int .i64 lo) ∧ wx.cell? ⟨w.heap.size, 2, none⟩ = some (.int .i64 hi) ∧ wx.cell? ⟨w.heap.size, 3, none⟩ = some (.int .i64 dr) ∧ wx.cell? ⟨w.heap.size + 1, 0, none⟩ = some (.int .i64 sl) ∧ wx.cell? ⟨w.heap.size + 1, 1, none⟩ = some (.int .i64 sh) ∧ wx.cell? ⟨w.heap.size + 1 + 1, 0, none⟩ = some (.int .i64 0) ∧ wx.cell? ⟨w.heap.size + 1 + 1, 1, none⟩ = some (.int .i64 0) ∧ wx.cell? ⟨w.heap.size + 1 + 1, 2, none⟩ = some (.int .i64 0) ∧ wx.cell? ⟨w.heap.size + 1 + 1, 3, none⟩ = some (.int .i64 0) ∧ wx.frozen? ⟨w.heap.size + 1 + 1, 0, none⟩ = false ∧ wx.frozen? ⟨w.heap.size + 1 + 1, 1, none⟩ = false ∧ wx.frozen? ⟨w.heap.size + 1 + 1, 2, none⟩ = false ∧ wx.frozen? ⟨w.heap.size + 1 + 1, 3, none⟩ = false)
  case first =>
    go_region_held3 (fun w' => Below w.heap.size w w' ∧ w'.cell? ⟨w.heap.size, 0, none⟩ = some (.int .i64 t) ∧ w'.cell? ⟨w.heap.size, 1, none⟩ = some (.int .i64 lo) ∧ w'.cell? ⟨w.heap.size, 2, none⟩ = some (.int .i64 hi) ∧ w'.cell? ⟨w.heap.size, 3, none⟩ = some (.int .i64 dr) ∧ w'.cell? ⟨w.heap.size + 1, 0, none⟩ = some (.int .i64 sl) ∧ w'.cell? ⟨w.heap.size + 1, 1, none⟩ = some (.int .i64 sh) ∧ w'.cell? ⟨w.heap.size + 1 + 1, 0, none⟩ = some (.int .i64 0) ∧ w'.cell? ⟨w.heap.size + 1 + 1, 1, none⟩ = some (.int .i64 0) ∧ w'.cell? ⟨w.heap.size + 1 + 1, 2, none⟩ = some (.int .i64 0) ∧ w'.cell? ⟨w.heap.size + 1 + 1, 3, none⟩ = some (.int .i64 0) ∧ w'.frozen? ⟨w.heap.size + 1 + 1, 0, none⟩ = false ∧ w'.frozen? ⟨w.heap.size + 1 + 1, 1, none⟩ = false ∧ w'.frozen? ⟨w.heap.size + 1 + 1, 2, none⟩ = false ∧ w'.frozen? ⟨w.heap.size + 1 + 1, 3, none⟩ = false)
      ((go_split_ands; refine ⟨?_, ?_, ?_, ?_, ?_, ?_, ?_, ?_, ?_, ?_, ?_, ?_, ?_, ?_, ?_⟩; (focus (first | (with_reducible assumption) | (go_grown; done) | (exact Below.drew (by go_grown)))); (focus (first | (with_reducible assumption) | go_cell | (go_simp; done))); (focus (first | (with_reducible assumption) | go_cell | (go_simp; done))); (focus (first | (with_reducible assumption) | go_cell | (go_simp; done))); (focus (first | (with_reducible assumption) | go_cell | (go_simp; done))); (focus (first | (with_reducible assumption) | go_cell | (go_simp; done))); (focus (first | (with_reducible assumption) | go_cell | (go_simp; done))); (focus (first | (with_reducible assumption) | go_cell | (go_simp; done))); (focus (first | (with_reducible assumption) | go_cell | (go_simp; done))); (focus (first | (with_reducible assumption) | go_cell | (go_simp; done))); (focus (first | (with_reducible assumption) | go_cell | (go_simp; done))); (focus (first | (with_reducible assumption) | go_cell | (go_simp; done))); (focus (first | (with_reducible assumption) | go_cell | (go_simp; done))); (focus (first | (with_reducible assumption) | go_cell | (go_simp; done))); (focus (first | (with_reducible assumption) | go_cell | (go_simp; done)))))
      (first | (go_at_call 79; (with_reducible refine (HV4.out _).mono ?_); rintro e xa ⟨rfl, hba⟩; have hB_xa : Below w.heap.size w xa := below_after (by go_grown) hba; have hw_xa := hB_xa.size; have hz_xa := hba.size; (try simp only [World.size_alloc, World.size_setCell, World.size_drew] at hz_xa); have c_c0_xa : xa.cell? ⟨w.heap.size, 0, none⟩ = some (.int .i64 t) := kp hba (by go_cell); have c_c1_xa : xa.cell? ⟨w.heap.size, 1, none⟩ = some (.int .i64 lo) := kp hba (by go_cell); have c_c2_xa : xa.cell? ⟨w.heap.size, 2, none⟩ = some (.int .i64 hi) := kp hba (by go_cell); have c_c3_xa : xa.cell? ⟨w.heap.size, 3, none⟩ = some (.int .i64 dr) := kp hba (by go_cell); have c_s0_xa : xa.cell? ⟨w.heap.size + 1, 0, none⟩ = some (.int .i64 sl) := kp hba (by go_cell); have c_s1_xa : xa.cell? ⟨w.heap.size + 1, 1, none⟩ = some (.int .i64 sh) := kp hba (by go_cell); have f_r0_xa : xa.frozen? ⟨w.heap.size + 1 + 1, 0, none⟩ = false := kf hba (by go_simp) (by go_simp); have f_r1_xa : xa.frozen? ⟨w.heap.size + 1 + 1, 1, none⟩ = false := kf hba (by go_simp) (by go_simp); have f_r2_xa : xa.frozen? ⟨w.heap.size + 1 + 1, 2, none⟩ = false := kf hba (by go_simp) (by go_simp); have f_r3_xa : xa.frozen? ⟨w.heap.size + 1 + 1, 3, none⟩ = false := kf hba (by go_simp) (by go_simp); have c_r0_xa : xa.cell? ⟨w.heap.size + 1 + 1, 0, none⟩ = some (.int .i64 0) := kp hba (by go_cell); have c_r1_xa : xa.cell? ⟨w.heap.size + 1 + 1, 1, none⟩ = some (.int .i64 0) := kp hba (by go_cell); have c_r2_xa : xa.cell? ⟨w.heap.size + 1 + 1, 2, none⟩ = some (.int .i64 0) := kp hba (by go_cell); have c_r3_xa : xa.cell? ⟨w.heap.size + 1 + 1, 3, none⟩ = some (.int .i64 0) := kp hba (by go_cell); (try (have n0f0_xa : xa.frozen? ⟨w2.heap.size, 0, none⟩ = false := ?_; rotate_left 1; focus (refine kf hba ?_ ?_ <;> (go_simp; done)))); (try (have n0c0_xa : xa.cell? ⟨w2.heap.size, 0, none⟩ = some (.int .i64 0) := ?_; rotate_left 1; focus (refine kp hba ?_; go_cell; done))); (try (have n0f1_xa : xa.frozen? ⟨w2.heap.size, 1, none⟩ = false := ?_; rotate_left 1; focus (refine kf hba ?_ ?_ <;> (go_simp; done)))); (try (have n0c1_xa : xa.cell? ⟨w2.heap.size, 1, none⟩ = some (.int .i64 0) := ?_; rotate_left 1; focus (refine kp hba ?_; go_cell; done)))) | (go_at_call 43; (with_reducible refine (HV5.out _).mono ?_); rintro e xb ⟨rfl, hbb⟩; have hB_xb : Below w.heap.size w xb := below_after (by go_grown) hbb; have hw_xb := hB_xb.size; have hz_xb := hbb.size; (try simp only [World.size_alloc, World.size_setCell, World.size_drew] at hz_xb); have c_c0_xb : xb.cell? ⟨w.heap.size, 0, none⟩ = some (.int .i64 t) := kp hbb (by go_cell); have c_c1_xb : xb.cell? ⟨w.heap.size, 1, none⟩ = some (.int .i64 lo) := kp hbb (by go_cell); have c_c2_xb : xb.cell? ⟨w.heap.size, 2, none⟩ = some (.int .i64 hi) := kp hbb (by go_cell); have c_c3_xb : xb.cell? ⟨w.heap.size, 3, none⟩ = some (.int .i64 dr) := kp hbb (by go_cell); have c_s0_xb : xb.cell? ⟨w.heap.size + 1, 0, none⟩ = some (.int .i64 sl) := kp hbb (by go_cell); have c_s1_xb : xb.cell? ⟨w.heap.size + 1, 1, none⟩ = some (.int .i64 sh) := kp hbb (by go_cell); have f_r0_xb : xb.frozen? ⟨w.heap.size + 1 + 1, 0, none⟩ = false := kf hbb (by go_simp) (by go_simp); have f_r1_xb : xb.frozen? ⟨w.heap.size + 1 + 1, 1, none⟩ = false := kf hbb (by go_simp) (by go_simp); have f_r2_xb : xb.frozen? ⟨w.heap.size + 1 + 1, 2, none⟩ = false := kf hbb (by go_simp) (by go_simp); have f_r3_xb : xb.frozen? ⟨w.heap.size + 1 + 1, 3, none⟩ = false := kf hbb (by go_simp) (by go_simp); have c_r0_xb : xb.cell? ⟨w.heap.size + 1 + 1, 0, none⟩ = some (.int .i64 0) := kp hbb (by go_cell); have c_r1_xb : xb.cell? ⟨w.heap.size + 1 + 1, 1, none⟩ = some (.int .i64 0) := kp hbb (by go_cell); have c_r2_xb : xb.cell? ⟨w.heap.size + 1 + 1, 2, none⟩ = some (.int .i64 0) := kp hbb (by go_cell); have c_r3_xb : xb.cell? ⟨w.heap.size + 1 + 1, 3, none⟩ = some (.int .i64 0) := kp hbb (by go_cell); (try (have n0f0_xb : xb.frozen? ⟨w2.heap.size, 0, none⟩ = false := ?_; rotate_left 1; focus (refine kf hbb ?_ ?_ <;> (go_simp; done)))); (try (have n0c0_xb : xb.cell? ⟨w2.heap.size, 0, none⟩ = some (.int .i64 0) := ?_; rotate_left 1; focus (refine kp hbb ?_; go_cell; done))); (try (have n0f1_xb : xb.frozen? ⟨w2.heap.size, 1, none⟩ = false := ?_; rotate_left 1; focus (refine kf hbb ?_ ?_ <;> (go_simp; done)))); (try (have n0c1_xb : xb.cell? ⟨w2.heap.size, 1, none⟩ = some (.int .i64 0) := ?_; rotate_left 1; focus (refine kp hbb ?_; go_cell; done))); (try (have n1f0_xb : xb.frozen? ⟨xa.heap.size, 0, none⟩ = false := ?_; rotate_left 1; focus (refine kf hbb ?_ ?_ <;> (go_simp; done)))); (try (have n1c0_xb : xb.cell? ⟨xa.heap.size, 0, none⟩ = some (.int .i64 0) := ?_; rotate_left 1; focus (refine kp hbb ?_; go_cell; done))); (try (have n1f1_xb : xb.frozen? ⟨xa.heap.size, 1, none⟩ = false := ?_; rotate_left 1; focus (refine kf hbb ?_ ?_ <;> (go_simp; done)))); (try (have n1c1_xb : xb.cell? ⟨xa.heap.size, 1, none⟩ = some (.int .i64 0) := ?_; rotate_left 1; focus (refine kp hbb ?_; go_cell; done)))))
    all_goals go_split_ands
    all_goals (go_wp2_with fail)
    all_goals go_meet
    all_goals (refine ⟨_, rfl, rfl, rfl, ?_, ?_, ?_, ?_, ?_, ?_, ?_, ?_, ?_, ?_, ?_, ?_, ?_, ?_, ?_, ?_, ?_, ?_⟩ <;> first | (with_reducible assumption) | (go_grown; done) | go_cell | (go_simp; done) | (go_simp; omega))
  case rest =>
    obtain ⟨g3, rfl, rfl, rfl, c_m0, c_m1, hg3, hB3, c_c0, c_c1, c_c2, c_c3, c_s0, c_s1, c_r0, c_r1, c_r2, c_r3, f_r0, f_r1, f_r2, f_r3⟩ := hcut
    have hw3 := hB3.size
    go_wp2_with fail
    refine (HV7.out _).mono ?_
    rintro e w4 ⟨rfl, hb4⟩
    have hB4 : Below w.heap.size w w4 := below_after (by go_grown) hb4
    have hz4 := hb4.size
    try simp only [World.size_alloc, World.size_setCell, World.size_drew] at hz4
    have hw4 := hB4.size
    replace c_c0 : w4.cell? ⟨w.heap.size, 0, none⟩ = some (.int .i64 t) := kp hb4 (by go_cell)
    replace c_c1 : w4.cell? ⟨w.heap.size, 1, none⟩ = some (.int .i64 lo) := kp hb4 (by go_cell)
    replace c_c2 : w4.cell? ⟨w.heap.size, 2, none⟩ = some (.int .i64 hi) := kp hb4 (by go_cell)
    replace c_c3 : w4.cell? ⟨w.heap.size, 3, none⟩ = some (.int .i64 dr) := kp hb4 (by go_cell)
    replace f_r0 : w4.frozen? ⟨w.heap.size + 1 + 1, 0, none⟩ = false := kf hb4 (by go_simp) (by go_simp)
    replace f_r1 : w4.frozen? ⟨w.heap.size + 1 + 1, 1, none⟩ = false := kf hb4 (by go_simp) (by go_simp)
    replace f_r2 : w4.frozen? ⟨w.heap.size + 1 + 1, 2, none⟩ = false := kf hb4 (by go_simp) (by go_simp)
    replace f_r3 : w4.frozen? ⟨w.heap.size + 1 + 1, 3, none⟩ = false := kf hb4 (by go_simp) (by go_simp)
    replace c_r0 : w4.cell? ⟨w.heap.size + 1 + 1, 0, none⟩ = some (.int .i64 0) := kp hb4 (by go_cell)
    replace c_r1 : w4.cell? ⟨w.heap.size + 1 + 1, 1, none⟩ = some (.int .i64 0) := kp hb4 (by go_cell)
    replace c_r2 : w4.cell? ⟨w.heap.size + 1 + 1, 2, none⟩ = some (.int .i64 0) := kp hb4 (by go_cell)
    replace c_r3 : w4.cell? ⟨w.heap.size + 1 + 1, 3, none⟩ = some (.int .i64 0) := kp hb4 (by go_cell)
    replace c_m0 : w4.cell? ⟨g3, 0, none⟩ = some (.int .i64 m1) := kp hb4 (by go_cell)
    replace c_m1 : w4.cell? ⟨g3, 1, none⟩ = some (.int .i64 m2) := kp hb4 (by go_cell)
    have c_n0 : w4.cell? ⟨wc.heap.size, 0, none⟩ = some (.int .i64 r) := kp hb4 (by go_cell)
    have c_n1 : w4.cell? ⟨wc.heap.size, 1, none⟩ = some (.int .i64 ((m1 - r))) := kp hb4 (by go_cell)
    have c_n2 : w4.cell? ⟨wc.heap.size, 2, none⟩ = some (.int .i64 ((m2 - r))) := kp hb4 (by go_cell)
    have c_n3 : w4.cell? ⟨wc.heap.size, 3, none⟩ = some (.int .i64 dr) := kp hb4 (by go_cell)
    clear hb4 hB3
    go_wp2_with fail
    rw [HR.out]
    refine ret_clock_bool (B := w.heap.size + 1 + 1) rfl rfl rfl (set4s _ _ _ _ (by go_simp) (by go_simp) (by go_simp) (by go_simp)).1 (set4s _ _ _ _ (by go_simp) (by go_simp) (by go_simp) (by go_simp)).2.1 (set4s _ _ _ _ (by go_simp) (by go_simp) (by go_simp) (by go_simp)).2.2.1 (set4s _ _ _ _ (by go_simp) (by go_simp) (by go_simp) (by go_simp)).2.2.2 ⟨rfl, by go_grown⟩

set_option maxHeartbeats 1600000 in
set_option maxRecDepth 100000 in
theorem RSet_out (t lo hi dr r sl sh : Int) (w : World) (h : clkB t lo hi dr = true) (h2 : readB r = true) (h3 : vld sl sh = true) (hc : ¬ min (atHi t hi dr r) sh < max (atLo t lo dr r) sl) (hn : clkB r (max (atLo t lo dr r) sl - r) (min (atHi t hi dr r) sh - r) dr = false) :
    Calls Try.prog 54 #[.agg #[.int .i64 t, .int .i64 lo, .int .i64 hi, .int .i64 dr], .int .i64 r, .agg #[.int .i64 sl, .int .i64 sh]] w fun e w' => e = .returned (.tuple #[.agg #[.int .i64 (setS t lo hi dr r sl sh).1.1, .int .i64 (setS t lo hi dr r sl sh).1.2.1, .int .i64 (setS t lo hi dr r sl sh).1.2.2.1, .int .i64 (setS t lo hi dr r sl sh).1.2.2.2], .bool (setS t lo hi dr r sl sh).2.1, .int .i64 (setS t lo hi dr r sl sh).2.2]) ∧ Below w.heap.size w w' := by
  have v1 := fun w => RCValid_any t lo hi dr w
  have v2 := fun w => RValid_any sl sh w
  have v3 := fun w => RTime_any r w
  rw [h] at v1
  rw [h2] at v3
  rw [h3] at v2
  have v4 := fun w => Of_any t lo hi dr r w h h2
  obtain ⟨b1, b2, b3⟩ := atLo_bounds h h2
  obtain ⟨t1, t2, r1, r2, o1, o2, o3⟩ := clkB_bounds h
  obtain ⟨q1, q2⟩ := readB_bounds h2
  obtain ⟨k1, k2, k3⟩ := vld_bounds h3
  have v5 := fun w => RMeet_any (atLo t lo dr r) (atHi t hi dr r) sl sh w
  have hv : (vld (atLo t lo dr r) (atHi t hi dr r) && vld sl sh) = true := by rw [h3, Bool.and_true]; simp [vld]; omega
  have hm : meetS (atLo t lo dr r) (atHi t hi dr r) sl sh = (max (atLo t lo dr r) sl, min (atHi t hi dr r) sh, true, 0) := by rw [meetS, hv, if_pos rfl, if_neg hc]
  rw [hm] at v5
  have hr : setS t lo hi dr r sl sh = ((0, 0, 0, 0), false, 3) := by
    rw [setS, h, h2, h3, if_pos (by rfl), if_neg hc, hn, if_neg (by decide)]
  have HR := Lib.hid hr
  generalize atLo t lo dr r = x at *
  generalize atHi t hi dr r = y at *
  obtain ⟨m1, hm1⟩ : ∃ m1, m1 = max x sl := ⟨_, rfl⟩
  obtain ⟨m2, hm2⟩ : ∃ m2, m2 = min y sh := ⟨_, rfl⟩
  rw [← hm1, ← hm2] at v5 hc
  try rw [← hm1, ← hm2] at HR
  have j1 : -2000000 ≤ m1 := by omega
  have j2 : m2 ≤ 1002000000 := by omega
  have j3 : m1 ≤ m2 := by omega
  have j4 : m1 ≤ 1000000000000 := by omega
  have j5 : -1000000000000 ≤ m2 := by omega
  have v7 := fun w => RCValid_any r (m1 - r) (m2 - r) dr w
  rw [← hm1, ← hm2] at hn
  rw [hn] at v7
  have HV7 := Lib.hid v7
  clear v7 hn hm1 hm2
  have HV1 := Lib.hid v1
  have HV2 := Lib.hid v2
  have HV3 := Lib.hid v3
  have HV4 := Lib.hid v4
  have HV5 := Lib.hid v5
  clear hr hm hv v1 v2 v3 v4 v5 h h2 h3
  go_enter Try.func54, Try.ntmps54
  go_wp2_with fail
  refine (HV1.out _).mono ?_
  rintro e w1 ⟨rfl, hb1⟩
  have hB1 : Below w.heap.size w w1 := below_after (by go_grown) hb1
  have hz1 := hb1.size
  try simp only [World.size_alloc, World.size_setCell, World.size_drew] at hz1
  have hw1 := hB1.size
  have c_c0 : w1.cell? ⟨w.heap.size, 0, none⟩ = some (.int .i64 t) := kp hb1 (by go_cell)
  have c_c1 : w1.cell? ⟨w.heap.size, 1, none⟩ = some (.int .i64 lo) := kp hb1 (by go_cell)
  have c_c2 : w1.cell? ⟨w.heap.size, 2, none⟩ = some (.int .i64 hi) := kp hb1 (by go_cell)
  have c_c3 : w1.cell? ⟨w.heap.size, 3, none⟩ = some (.int .i64 dr) := kp hb1 (by go_cell)
  have c_s0 : w1.cell? ⟨w.heap.size + 1, 0, none⟩ = some (.int .i64 sl) := kp hb1 (by go_cell)
  have c_s1 : w1.cell? ⟨w.heap.size + 1, 1, none⟩ = some (.int .i64 sh) := kp hb1 (by go_cell)
  have f_r0 : w1.frozen? ⟨w.heap.size + 1 + 1, 0, none⟩ = false := kf hb1 (by go_simp) (by go_simp)
  have f_r1 : w1.frozen? ⟨w.heap.size + 1 + 1, 1, none⟩ = false := kf hb1 (by go_simp) (by go_simp)
  have f_r2 : w1.frozen? ⟨w.heap.size + 1 + 1, 2, none⟩ = false := kf hb1 (by go_simp) (by go_simp)
  have f_r3 : w1.frozen? ⟨w.heap.size + 1 + 1, 3, none⟩ = false := kf hb1 (by go_simp) (by go_simp)
  have c_r0 : w1.cell? ⟨w.heap.size + 1 + 1, 0, none⟩ = some (.int .i64 0) := kp hb1 (by go_cell)
  have c_r1 : w1.cell? ⟨w.heap.size + 1 + 1, 1, none⟩ = some (.int .i64 0) := kp hb1 (by go_cell)
  have c_r2 : w1.cell? ⟨w.heap.size + 1 + 1, 2, none⟩ = some (.int .i64 0) := kp hb1 (by go_cell)
  have c_r3 : w1.cell? ⟨w.heap.size + 1 + 1, 3, none⟩ = some (.int .i64 0) := kp hb1 (by go_cell)
  clear hb1
  go_wp2_with fail
  refine (HV2.out _).mono ?_
  rintro e w2 ⟨rfl, hb2⟩
  have hB2 : Below w.heap.size w w2 := below_after (by go_grown) hb2
  have hz2 := hb2.size
  try simp only [World.size_alloc, World.size_setCell, World.size_drew] at hz2
  have hw2 := hB2.size
  replace c_c0 : w2.cell? ⟨w.heap.size, 0, none⟩ = some (.int .i64 t) := kp hb2 (by go_cell)
  replace c_c1 : w2.cell? ⟨w.heap.size, 1, none⟩ = some (.int .i64 lo) := kp hb2 (by go_cell)
  replace c_c2 : w2.cell? ⟨w.heap.size, 2, none⟩ = some (.int .i64 hi) := kp hb2 (by go_cell)
  replace c_c3 : w2.cell? ⟨w.heap.size, 3, none⟩ = some (.int .i64 dr) := kp hb2 (by go_cell)
  replace c_s0 : w2.cell? ⟨w.heap.size + 1, 0, none⟩ = some (.int .i64 sl) := kp hb2 (by go_cell)
  replace c_s1 : w2.cell? ⟨w.heap.size + 1, 1, none⟩ = some (.int .i64 sh) := kp hb2 (by go_cell)
  replace f_r0 : w2.frozen? ⟨w.heap.size + 1 + 1, 0, none⟩ = false := kf hb2 (by go_simp) (by go_simp)
  replace f_r1 : w2.frozen? ⟨w.heap.size + 1 + 1, 1, none⟩ = false := kf hb2 (by go_simp) (by go_simp)
  replace f_r2 : w2.frozen? ⟨w.heap.size + 1 + 1, 2, none⟩ = false := kf hb2 (by go_simp) (by go_simp)
  replace f_r3 : w2.frozen? ⟨w.heap.size + 1 + 1, 3, none⟩ = false := kf hb2 (by go_simp) (by go_simp)
  replace c_r0 : w2.cell? ⟨w.heap.size + 1 + 1, 0, none⟩ = some (.int .i64 0) := kp hb2 (by go_cell)
  replace c_r1 : w2.cell? ⟨w.heap.size + 1 + 1, 1, none⟩ = some (.int .i64 0) := kp hb2 (by go_cell)
  replace c_r2 : w2.cell? ⟨w.heap.size + 1 + 1, 2, none⟩ = some (.int .i64 0) := kp hb2 (by go_cell)
  replace c_r3 : w2.cell? ⟨w.heap.size + 1 + 1, 3, none⟩ = some (.int .i64 0) := kp hb2 (by go_cell)
  clear hb2 hB1
  go_wp2_with fail
  refine (HV3.out _).mono ?_
  rintro e w9 ⟨rfl, rfl⟩
  have HA : Hid (True) := Lib.hid trivial
  go_upto_region 5 with fail
  go_cut [11, 12, 13] (fun s11 s12 s13 wx => ∃ g3 : Nat, s11 = .pointer (some ⟨g3, 0, none⟩) ∧ s12 = .bool true ∧ s13 = .int .i64 0 ∧ wx.cell? ⟨g3, 0, none⟩ = some (.int .i64 m1) ∧ wx.cell? ⟨g3, 1, none⟩ = some (.int .i64 m2) ∧ w.heap.size ≤ g3 ∧ Below w.heap.size w wx ∧ wx.cell? ⟨w.heap.size, 0, none⟩ = some (.int .i64 t) ∧ wx.cell? ⟨w.heap.size, 1, none⟩ = some (.int .i64 lo) ∧ wx.cell? ⟨w.heap.size, 2, none⟩ = some (.int .i64 hi) ∧ wx.cell? ⟨w.heap.size, 3, none⟩ = some (.int .i64 dr) ∧ wx.cell? ⟨w.heap.size + 1, 0, none⟩ = some (.int .i64 sl) ∧ wx.cell? ⟨w.heap.size + 1, 1, none⟩ = some (.int .i64 sh) ∧ wx.cell? ⟨w.heap.size + 1 + 1, 0, none⟩ = some (.int .i64 0) ∧ wx.cell? ⟨w.heap.size + 1 + 1, 1, none⟩ = some (.int .i64 0) ∧ wx.cell? ⟨w.heap.size + 1 + 1, 2, none⟩ = some (.int .i64 0) ∧ wx.cell? ⟨w.heap.size + 1 + 1, 3, none⟩ = some (.int .i64 0) ∧ wx.frozen? ⟨w.heap.size + 1 + 1, 0, none⟩ = false ∧ wx.frozen? ⟨w.heap.size + 1 + 1, 1, none⟩ = false ∧ wx.frozen? ⟨w.heap.size + 1 + 1, 2, none⟩ = false ∧ wx.frozen? ⟨w.heap.size + 1 + 1, 3, none⟩ = false)
  case first =>
    go_region_held3 (fun w' => Below w.heap.size w w' ∧ w'.cell? ⟨w.heap.size, 0, none⟩ = some (.int .i64 t) ∧ w'.cell? ⟨w.heap.size, 1, none⟩ = some (.int .i64 lo) ∧ w'.cell? ⟨w.heap.size, 2, none⟩ = some (.int .i64 hi) ∧ w'.cell? ⟨w.heap.size, 3, none⟩ = some (.int .i64 dr) ∧ w'.cell? ⟨w.heap.size + 1, 0, none⟩ = some (.int .i64 sl) ∧ w'.cell? ⟨w.heap.size + 1, 1, none⟩ = some (.int .i64 sh) ∧ w'.cell? ⟨w.heap.size + 1 + 1, 0, none⟩ = some (.int .i64 0) ∧ w'.cell? ⟨w.heap.size + 1 + 1, 1, none⟩ = some (.int .i64 0) ∧ w'.cell? ⟨w.heap.size + 1 + 1, 2, none⟩ = some (.int .i64 0) ∧ w'.cell? ⟨w.heap.size + 1 + 1, 3, none⟩ = some (.int .i64 0) ∧ w'.frozen? ⟨w.heap.size + 1 + 1, 0, none⟩ = false ∧ w'.frozen? ⟨w.heap.size + 1 + 1, 1, none⟩ = false ∧ w'.frozen? ⟨w.heap.size + 1 + 1, 2, none⟩ = false ∧ w'.frozen? ⟨w.heap.size + 1 + 1, 3, none⟩ = false)
      ((go_split_ands; refine ⟨?_, ?_, ?_, ?_, ?_, ?_, ?_, ?_, ?_, ?_, ?_, ?_, ?_, ?_, ?_⟩; (focus (first | (with_reducible assumption) | (go_grown; done) | (exact Below.drew (by go_grown)))); (focus (first | (with_reducible assumption) | go_cell | (go_simp; done))); (focus (first | (with_reducible assumption) | go_cell | (go_simp; done))); (focus (first | (with_reducible assumption) | go_cell | (go_simp; done))); (focus (first | (with_reducible assumption) | go_cell | (go_simp; done))); (focus (first | (with_reducible assumption) | go_cell | (go_simp; done))); (focus (first | (with_reducible assumption) | go_cell | (go_simp; done))); (focus (first | (with_reducible assumption) | go_cell | (go_simp; done))); (focus (first | (with_reducible assumption) | go_cell | (go_simp; done))); (focus (first | (with_reducible assumption) | go_cell | (go_simp; done))); (focus (first | (with_reducible assumption) | go_cell | (go_simp; done))); (focus (first | (with_reducible assumption) | go_cell | (go_simp; done))); (focus (first | (with_reducible assumption) | go_cell | (go_simp; done))); (focus (first | (with_reducible assumption) | go_cell | (go_simp; done))); (focus (first | (with_reducible assumption) | go_cell | (go_simp; done)))))
      (first | (go_at_call 79; (with_reducible refine (HV4.out _).mono ?_); rintro e xa ⟨rfl, hba⟩; have hB_xa : Below w.heap.size w xa := below_after (by go_grown) hba; have hw_xa := hB_xa.size; have hz_xa := hba.size; (try simp only [World.size_alloc, World.size_setCell, World.size_drew] at hz_xa); have c_c0_xa : xa.cell? ⟨w.heap.size, 0, none⟩ = some (.int .i64 t) := kp hba (by go_cell); have c_c1_xa : xa.cell? ⟨w.heap.size, 1, none⟩ = some (.int .i64 lo) := kp hba (by go_cell); have c_c2_xa : xa.cell? ⟨w.heap.size, 2, none⟩ = some (.int .i64 hi) := kp hba (by go_cell); have c_c3_xa : xa.cell? ⟨w.heap.size, 3, none⟩ = some (.int .i64 dr) := kp hba (by go_cell); have c_s0_xa : xa.cell? ⟨w.heap.size + 1, 0, none⟩ = some (.int .i64 sl) := kp hba (by go_cell); have c_s1_xa : xa.cell? ⟨w.heap.size + 1, 1, none⟩ = some (.int .i64 sh) := kp hba (by go_cell); have f_r0_xa : xa.frozen? ⟨w.heap.size + 1 + 1, 0, none⟩ = false := kf hba (by go_simp) (by go_simp); have f_r1_xa : xa.frozen? ⟨w.heap.size + 1 + 1, 1, none⟩ = false := kf hba (by go_simp) (by go_simp); have f_r2_xa : xa.frozen? ⟨w.heap.size + 1 + 1, 2, none⟩ = false := kf hba (by go_simp) (by go_simp); have f_r3_xa : xa.frozen? ⟨w.heap.size + 1 + 1, 3, none⟩ = false := kf hba (by go_simp) (by go_simp); have c_r0_xa : xa.cell? ⟨w.heap.size + 1 + 1, 0, none⟩ = some (.int .i64 0) := kp hba (by go_cell); have c_r1_xa : xa.cell? ⟨w.heap.size + 1 + 1, 1, none⟩ = some (.int .i64 0) := kp hba (by go_cell); have c_r2_xa : xa.cell? ⟨w.heap.size + 1 + 1, 2, none⟩ = some (.int .i64 0) := kp hba (by go_cell); have c_r3_xa : xa.cell? ⟨w.heap.size + 1 + 1, 3, none⟩ = some (.int .i64 0) := kp hba (by go_cell); (try (have n0f0_xa : xa.frozen? ⟨w2.heap.size, 0, none⟩ = false := ?_; rotate_left 1; focus (refine kf hba ?_ ?_ <;> (go_simp; done)))); (try (have n0c0_xa : xa.cell? ⟨w2.heap.size, 0, none⟩ = some (.int .i64 0) := ?_; rotate_left 1; focus (refine kp hba ?_; go_cell; done))); (try (have n0f1_xa : xa.frozen? ⟨w2.heap.size, 1, none⟩ = false := ?_; rotate_left 1; focus (refine kf hba ?_ ?_ <;> (go_simp; done)))); (try (have n0c1_xa : xa.cell? ⟨w2.heap.size, 1, none⟩ = some (.int .i64 0) := ?_; rotate_left 1; focus (refine kp hba ?_; go_cell; done)))) | (go_at_call 43; (with_reducible refine (HV5.out _).mono ?_); rintro e xb ⟨rfl, hbb⟩; have hB_xb : Below w.heap.size w xb := below_after (by go_grown) hbb; have hw_xb := hB_xb.size; have hz_xb := hbb.size; (try simp only [World.size_alloc, World.size_setCell, World.size_drew] at hz_xb); have c_c0_xb : xb.cell? ⟨w.heap.size, 0, none⟩ = some (.int .i64 t) := kp hbb (by go_cell); have c_c1_xb : xb.cell? ⟨w.heap.size, 1, none⟩ = some (.int .i64 lo) := kp hbb (by go_cell); have c_c2_xb : xb.cell? ⟨w.heap.size, 2, none⟩ = some (.int .i64 hi) := kp hbb (by go_cell); have c_c3_xb : xb.cell? ⟨w.heap.size, 3, none⟩ = some (.int .i64 dr) := kp hbb (by go_cell); have c_s0_xb : xb.cell? ⟨w.heap.size + 1, 0, none⟩ = some (.int .i64 sl) := kp hbb (by go_cell); have c_s1_xb : xb.cell? ⟨w.heap.size + 1, 1, none⟩ = some (.int .i64 sh) := kp hbb (by go_cell); have f_r0_xb : xb.frozen? ⟨w.heap.size + 1 + 1, 0, none⟩ = false := kf hbb (by go_simp) (by go_simp); have f_r1_xb : xb.frozen? ⟨w.heap.size + 1 + 1, 1, none⟩ = false := kf hbb (by go_simp) (by go_simp); have f_r2_xb : xb.frozen? ⟨w.heap.size + 1 + 1, 2, none⟩ = false := kf hbb (by go_simp) (by go_simp); have f_r3_xb : xb.frozen? ⟨w.heap.size + 1 + 1, 3, none⟩ = false := kf hbb (by go_simp) (by go_simp); have c_r0_xb : xb.cell? ⟨w.heap.size + 1 + 1, 0, none⟩ = some (.int .i64 0) := kp hbb (by go_cell); have c_r1_xb : xb.cell? ⟨w.heap.size + 1 + 1, 1, none⟩ = some (.int .i64 0) := kp hbb (by go_cell); have c_r2_xb : xb.cell? ⟨w.heap.size + 1 + 1, 2, none⟩ = some (.int .i64 0) := kp hbb (by go_cell); have c_r3_xb : xb.cell? ⟨w.heap.size + 1 + 1, 3, none⟩ = some (.int .i64 0) := kp hbb (by go_cell); (try (have n0f0_xb : xb.frozen? ⟨w2.heap.size, 0, none⟩ = false := ?_; rotate_left 1; focus (refine kf hbb ?_ ?_ <;> (go_simp; done)))); (try (have n0c0_xb : xb.cell? ⟨w2.heap.size, 0, none⟩ = some (.int .i64 0) := ?_; rotate_left 1; focus (refine kp hbb ?_; go_cell; done))); (try (have n0f1_xb : xb.frozen? ⟨w2.heap.size, 1, none⟩ = false := ?_; rotate_left 1; focus (refine kf hbb ?_ ?_ <;> (go_simp; done)))); (try (have n0c1_xb : xb.cell? ⟨w2.heap.size, 1, none⟩ = some (.int .i64 0) := ?_; rotate_left 1; focus (refine kp hbb ?_; go_cell; done))); (try (have n1f0_xb : xb.frozen? ⟨xa.heap.size, 0, none⟩ = false := ?_; rotate_left 1; focus (refine kf hbb ?_ ?_ <;> (go_simp; done)))); (try (have n1c0_xb : xb.cell? ⟨xa.heap.size, 0, none⟩ = some (.int .i64 0) := ?_; rotate_left 1; focus (refine kp hbb ?_; go_cell; done))); (try (have n1f1_xb : xb.frozen? ⟨xa.heap.size, 1, none⟩ = false := ?_; rotate_left 1; focus (refine kf hbb ?_ ?_ <;> (go_simp; done)))); (try (have n1c1_xb : xb.cell? ⟨xa.heap.size, 1, none⟩ = some (.int .i64 0) := ?_; rotate_left 1; focus (refine kp hbb ?_; go_cell; done)))))
    all_goals go_split_ands
    all_goals (go_wp2_with fail)
    all_goals go_meet
    all_goals (refine ⟨_, rfl, rfl, rfl, ?_, ?_, ?_, ?_, ?_, ?_, ?_, ?_, ?_, ?_, ?_, ?_, ?_, ?_, ?_, ?_, ?_, ?_⟩ <;> first | (with_reducible assumption) | (go_grown; done) | go_cell | (go_simp; done) | (go_simp; omega))
  case rest =>
    obtain ⟨g3, rfl, rfl, rfl, c_m0, c_m1, hg3, hB3, c_c0, c_c1, c_c2, c_c3, c_s0, c_s1, c_r0, c_r1, c_r2, c_r3, f_r0, f_r1, f_r2, f_r3⟩ := hcut
    have hw3 := hB3.size
    go_wp2_with fail
    refine (HV7.out _).mono ?_
    rintro e w4 ⟨rfl, hb4⟩
    have hB4 : Below w.heap.size w w4 := below_after (by go_grown) hb4
    have hz4 := hb4.size
    try simp only [World.size_alloc, World.size_setCell, World.size_drew] at hz4
    have hw4 := hB4.size
    replace c_c0 : w4.cell? ⟨w.heap.size, 0, none⟩ = some (.int .i64 t) := kp hb4 (by go_cell)
    replace c_c1 : w4.cell? ⟨w.heap.size, 1, none⟩ = some (.int .i64 lo) := kp hb4 (by go_cell)
    replace c_c2 : w4.cell? ⟨w.heap.size, 2, none⟩ = some (.int .i64 hi) := kp hb4 (by go_cell)
    replace c_c3 : w4.cell? ⟨w.heap.size, 3, none⟩ = some (.int .i64 dr) := kp hb4 (by go_cell)
    replace f_r0 : w4.frozen? ⟨w.heap.size + 1 + 1, 0, none⟩ = false := kf hb4 (by go_simp) (by go_simp)
    replace f_r1 : w4.frozen? ⟨w.heap.size + 1 + 1, 1, none⟩ = false := kf hb4 (by go_simp) (by go_simp)
    replace f_r2 : w4.frozen? ⟨w.heap.size + 1 + 1, 2, none⟩ = false := kf hb4 (by go_simp) (by go_simp)
    replace f_r3 : w4.frozen? ⟨w.heap.size + 1 + 1, 3, none⟩ = false := kf hb4 (by go_simp) (by go_simp)
    replace c_r0 : w4.cell? ⟨w.heap.size + 1 + 1, 0, none⟩ = some (.int .i64 0) := kp hb4 (by go_cell)
    replace c_r1 : w4.cell? ⟨w.heap.size + 1 + 1, 1, none⟩ = some (.int .i64 0) := kp hb4 (by go_cell)
    replace c_r2 : w4.cell? ⟨w.heap.size + 1 + 1, 2, none⟩ = some (.int .i64 0) := kp hb4 (by go_cell)
    replace c_r3 : w4.cell? ⟨w.heap.size + 1 + 1, 3, none⟩ = some (.int .i64 0) := kp hb4 (by go_cell)
    replace c_m0 : w4.cell? ⟨g3, 0, none⟩ = some (.int .i64 m1) := kp hb4 (by go_cell)
    replace c_m1 : w4.cell? ⟨g3, 1, none⟩ = some (.int .i64 m2) := kp hb4 (by go_cell)
    have c_n0 : w4.cell? ⟨wc.heap.size, 0, none⟩ = some (.int .i64 r) := kp hb4 (by go_cell)
    have c_n1 : w4.cell? ⟨wc.heap.size, 1, none⟩ = some (.int .i64 ((m1 - r))) := kp hb4 (by go_cell)
    have c_n2 : w4.cell? ⟨wc.heap.size, 2, none⟩ = some (.int .i64 ((m2 - r))) := kp hb4 (by go_cell)
    have c_n3 : w4.cell? ⟨wc.heap.size, 3, none⟩ = some (.int .i64 dr) := kp hb4 (by go_cell)
    clear hb4 hB3
    go_wp2_with fail
    rw [HR.out]
    refine ret_clock_bool (B := w.heap.size + 1 + 1) rfl rfl rfl (set4s _ _ _ _ (by go_simp) (by go_simp) (by go_simp) (by go_simp)).1 (set4s _ _ _ _ (by go_simp) (by go_simp) (by go_simp) (by go_simp)).2.1 (set4s _ _ _ _ (by go_simp) (by go_simp) (by go_simp) (by go_simp)).2.2.1 (set4s _ _ _ _ (by go_simp) (by go_simp) (by go_simp) (by go_simp)).2.2.2 ⟨rfl, by go_grown⟩

theorem RSet_any (t lo hi dr r sl sh : Int) (w : World) :
    Calls Try.prog 54 #[.agg #[.int .i64 t, .int .i64 lo, .int .i64 hi, .int .i64 dr], .int .i64 r, .agg #[.int .i64 sl, .int .i64 sh]] w fun e w' => e = .returned (.tuple #[.agg #[.int .i64 (setS t lo hi dr r sl sh).1.1, .int .i64 (setS t lo hi dr r sl sh).1.2.1, .int .i64 (setS t lo hi dr r sl sh).1.2.2.1, .int .i64 (setS t lo hi dr r sl sh).1.2.2.2], .bool (setS t lo hi dr r sl sh).2.1, .int .i64 (setS t lo hi dr r sl sh).2.2]) ∧ Below w.heap.size w w' := by
  cases h : (clkB t lo hi dr && readB r && vld sl sh)
  · exact RSet_no t lo hi dr r sl sh w h
  · have h1 := and_left (and_left h)
    have h2 := and_right (and_left h)
    have h3 := and_right h
    by_cases hc : min (atHi t hi dr r) sh < max (atLo t lo dr r) sl
    · exact RSet_apart t lo hi dr r sl sh w h1 h2 h3 hc
    · cases hn : clkB r (max (atLo t lo dr r) sl - r) (min (atHi t hi dr r) sh - r) dr
      · exact RSet_out t lo hi dr r sl sh w h1 h2 h3 hc hn
      · exact RSet_new t lo hi dr r sl sh w h1 h2 h3 hc hn

end Go.Proofs.Ytollpjdnahemeaa
