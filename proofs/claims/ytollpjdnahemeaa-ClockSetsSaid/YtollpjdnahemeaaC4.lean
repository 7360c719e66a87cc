import Derived.Test.YtollpjdnahemeaaC3
import Derived.Deep.RegionHeld3
namespace Go.Proofs.Ytollpjdnahemeaa
open Go.RowKit
set_option linter.unusedSimpArgs false
set_option linter.unusedVariables false
attribute [local go_sem ↓] Go.wp_at_zero Go.wp_at_succ
attribute [local go_sem] field_lo field_hi

theorem cell_realloc {w : World} {o1 o2 : Obj} {n i : Nat} {v : Value} (h : (w.alloc o1).cell? ⟨n, i, none⟩ = some v) (hn : n < w.heap.size) : (w.alloc o2).cell? ⟨n, i, none⟩ = some v := by
  rw [World.cell?_alloc_lt _ _ _ (by exact hn)] at h ⊢
  exact h
theorem frozen_realloc {w : World} {o1 o2 : Obj} {n i : Nat} {v : Bool} (h : (w.alloc o1).frozen? ⟨n, i, none⟩ = v) (hn : n < w.heap.size) : (w.alloc o2).frozen? ⟨n, i, none⟩ = v := by
  rw [World.frozen?_alloc_old _ _ _ (by exact Nat.ne_of_lt hn)] at h ⊢
  exact h
theorem below_allocW {w x : World} {o : Obj} (h : Below w.heap.size w x) : Below w.heap.size w (x.alloc o) := h.alloc h.size o
theorem below_setW {w x : World} {p : Addr} {v : Value} (h : Below w.heap.size w x) (hp : w.heap.size ≤ p.block) : Below w.heap.size w (x.setCell p v) := h.setCell hp v
theorem below_realloc {B : Nat} {a w : World} {o1 o2 : Obj} (h : Below B a (w.alloc o1)) (hn : B ≤ w.heap.size) : Below B a (w.alloc o2) where
  os := h.os
  tape := h.tape
  output := h.output
  size := by have := h.size; simp only [World.size_alloc] at this ⊢; exact this
  block := fun k hk => by
    have h1 := h.block k hk
    rw [Below.heap_alloc _ _ _ (by omega)] at h1 ⊢
    exact h1

set_option maxHeartbeats 800000 in
set_option maxRecDepth 100000 in
theorem Reading_no (t lo hi dr time : Int) (w : World) (h : (clkB t lo hi dr && timeB time) = false) : Calls Try.prog 51 #[.agg #[.int .i64 t, .int .i64 lo, .int .i64 hi, .int .i64 dr], .int .i64 time] w fun e w' => e = .returned (.tuple #[.agg #[.int .i64 (readingS t lo hi dr time).1, .int .i64 (readingS t lo hi dr time).2.1], .int .i64 (readingS t lo hi dr time).2.2]) ∧ Below w.heap.size w w' := by
  have hr : readingS t lo hi dr time = (0, 0, 1) := by simp [readingS, h]
  have HR := Lib.hid hr
  have v1 := fun w => CValid_any t lo hi dr w
  cases hc : clkB t lo hi dr
  · rw [hc] at v1
    have HV1 := Lib.hid v1
    clear hr v1 hc h
    go_enter Try.func51, Try.ntmps51
    go_wp2_with fail
    refine (HV1.out _).mono ?_
    rintro e w1 ⟨rfl, hb1⟩
    have hB1 : Below w.heap.size w w1 := below_after (by go_grown) hb1
    have hz1 := hb1.size
    try simp only [World.size_alloc, World.size_setCell, World.size_drew] at hz1
    have hw1 := hB1.size
    have f_r0 : w1.frozen? ⟨w.heap.size + 1 + 1, 0, none⟩ = false := kf hb1 (by go_simp) (by go_simp)
    have f_r1 : w1.frozen? ⟨w.heap.size + 1 + 1, 1, none⟩ = false := kf hb1 (by go_simp) (by go_simp)
    have c_r0 : w1.cell? ⟨w.heap.size + 1 + 1, 0, none⟩ = some (.int .i64 0) := kp hb1 (by go_cell)
    have c_r1 : w1.cell? ⟨w.heap.size + 1 + 1, 1, none⟩ = some (.int .i64 0) := kp hb1 (by go_cell)
    clear hb1
    go_wp2_with fail
    rw [HR.out]
    refine ret_span (B := w.heap.size + 1 + 1) rfl rfl rfl (set2s _ _ (by go_simp) (by go_simp)) ⟨rfl, by go_grown⟩
  · rw [hc] at v1
    have HV1 := Lib.hid v1
    have h3 : time < -1000000000000 ∨ (¬ time < -1000000000000 ∧ 1000000000000 < time) := by
      simp only [hc, timeB, Bool.true_and, Bool.and_eq_false_iff, decide_eq_false_iff_not] at h
      omega
    clear hr v1 hc h
    rcases h3 with h3 | ⟨h3, h4⟩
    · go_enter Try.func51, Try.ntmps51
      go_wp2_with fail
      refine (HV1.out _).mono ?_
      rintro e w1 ⟨rfl, hb1⟩
      have hB1 : Below w.heap.size w w1 := below_after (by go_grown) hb1
      have hz1 := hb1.size
      try simp only [World.size_alloc, World.size_setCell, World.size_drew] at hz1
      have hw1 := hB1.size
      have c_t0 : w1.cell? ⟨w.heap.size + 1, 0, none⟩ = some (.int .i64 time) := kp hb1 (by go_cell)
      have f_r0 : w1.frozen? ⟨w.heap.size + 1 + 1, 0, none⟩ = false := kf hb1 (by go_simp) (by go_simp)
      have f_r1 : w1.frozen? ⟨w.heap.size + 1 + 1, 1, none⟩ = false := kf hb1 (by go_simp) (by go_simp)
      have c_r0 : w1.cell? ⟨w.heap.size + 1 + 1, 0, none⟩ = some (.int .i64 0) := kp hb1 (by go_cell)
      have c_r1 : w1.cell? ⟨w.heap.size + 1 + 1, 1, none⟩ = some (.int .i64 0) := kp hb1 (by go_cell)
      clear hb1
      go_wp2_with fail
      rw [HR.out]
      refine ret_span (B := w.heap.size + 1 + 1) rfl rfl rfl (set2s _ _ (by go_simp) (by go_simp)) ⟨rfl, by go_grown⟩
    · go_enter Try.func51, Try.ntmps51
      go_wp2_with fail
      refine (HV1.out _).mono ?_
      rintro e w1 ⟨rfl, hb1⟩
      have hB1 : Below w.heap.size w w1 := below_after (by go_grown) hb1
      have hz1 := hb1.size
      try simp only [World.size_alloc, World.size_setCell, World.size_drew] at hz1
      have hw1 := hB1.size
      have c_t0 : w1.cell? ⟨w.heap.size + 1, 0, none⟩ = some (.int .i64 time) := kp hb1 (by go_cell)
      have f_r0 : w1.frozen? ⟨w.heap.size + 1 + 1, 0, none⟩ = false := kf hb1 (by go_simp) (by go_simp)
      have f_r1 : w1.frozen? ⟨w.heap.size + 1 + 1, 1, none⟩ = false := kf hb1 (by go_simp) (by go_simp)
      have c_r0 : w1.cell? ⟨w.heap.size + 1 + 1, 0, none⟩ = some (.int .i64 0) := kp hb1 (by go_cell)
      have c_r1 : w1.cell? ⟨w.heap.size + 1 + 1, 1, none⟩ = some (.int .i64 0) := kp hb1 (by go_cell)
      clear hb1
      go_wp2_with fail
      rw [HR.out]
      refine ret_span (B := w.heap.size + 1 + 1) rfl rfl rfl (set2s _ _ (by go_simp) (by go_simp)) ⟨rfl, by go_grown⟩

set_option maxHeartbeats 800000 in
set_option maxRecDepth 100000 in
theorem Reading_yes (t lo hi dr time : Int) (w : World) (h : clkB t lo hi dr = true) (ht1 : -1000000000000 ≤ time) (ht2 : time ≤ 1000000000000) : Calls Try.prog 51 #[.agg #[.int .i64 t, .int .i64 lo, .int .i64 hi, .int .i64 dr], .int .i64 time] w fun e w' => e = .returned (.tuple #[.agg #[.int .i64 (readingS t lo hi dr time).1, .int .i64 (readingS t lo hi dr time).2.1], .int .i64 (readingS t lo hi dr time).2.2]) ∧ Below w.heap.size w w' := by
  have hr : readingS t lo hi dr time = if untilI t lo dr time ≤ firstI t hi dr time then (0, 0, 4) else (firstI t hi dr time, untilI t lo dr time - 1, 0) := by
    rw [readingS, h, show timeB time = true by simp [timeB]; omega]; rfl
  have v1 := fun w => CValid_any t lo hi dr w
  rw [h] at v1
  have HV1 := Lib.hid v1
  obtain ⟨t1, t2, r1, r2, o1, o2, o3⟩ := clkB_bounds h
  obtain ⟨f1, f2, _⟩ := firstI_spec (t := t) (hi := hi) (time := time) r1 r2
  obtain ⟨u1, u2, _⟩ := untilI_spec (t := t) (lo := lo) (time := time) r1 r2
  have L1 := fun W hp => leastHi_any (hiP t hi dr time) w.heap.size (w.heap.size + 1) W hp
  have L2 := fun W hp => leastLo_any (loP t lo dr time) w.heap.size (w.heap.size + 1) W hp
  rw [show bs (hiP t hi dr time) 31 0 1000000001 = firstI t hi dr time from rfl] at L1
  rw [show bs (loP t lo dr time) 31 0 1000000001 = untilI t lo dr time from rfl] at L2
  generalize firstI t hi dr time = F at *
  generalize untilI t lo dr time = U at *
  have HL1 := Lib.hid L1
  have HL2 := Lib.hid L2
  have HK := Lib.hid h
  clear v1 L1 L2 h
  by_cases hc : U ≤ F
  · have hr2 : readingS t lo hi dr time = (0, 0, 4) := by rw [hr, if_pos hc]
    have HR := Lib.hid hr2
    clear hr hr2
    go_enter Try.func51, Try.ntmps51
    go_wp2_with fail
    refine (HV1.out _).mono ?_
    rintro e w1 ⟨rfl, hb1⟩
    have hB1 : Below w.heap.size w w1 := below_after (by go_grown) hb1
    have hz1 := hb1.size
    try simp only [World.size_alloc, World.size_setCell, World.size_drew] at hz1
    have hw1 := hB1.size
    have c_c0 : w1.cell? ⟨w.heap.size, 0, none⟩ = some (.int .i64 t) := kp hb1 (by go_cell)
    have c_c1 : w1.cell? ⟨w.heap.size, 1, none⟩ = some (.int .i64 lo) := kp hb1 (by go_cell)
    have c_c2 : w1.cell? ⟨w.heap.size, 2, none⟩ = some (.int .i64 hi) := kp hb1 (by go_cell)
    have c_c3 : w1.cell? ⟨w.heap.size, 3, none⟩ = some (.int .i64 dr) := kp hb1 (by go_cell)
    have c_t0 : w1.cell? ⟨w.heap.size + 1, 0, none⟩ = some (.int .i64 time) := kp hb1 (by go_cell)
    have f_r0 : w1.frozen? ⟨w.heap.size + 1 + 1, 0, none⟩ = false := kf hb1 (by go_simp) (by go_simp)
    have f_r1 : w1.frozen? ⟨w.heap.size + 1 + 1, 1, none⟩ = false := kf hb1 (by go_simp) (by go_simp)
    have c_r0 : w1.cell? ⟨w.heap.size + 1 + 1, 0, none⟩ = some (.int .i64 0) := kp hb1 (by go_cell)
    have c_r1 : w1.cell? ⟨w.heap.size + 1 + 1, 1, none⟩ = some (.int .i64 0) := kp hb1 (by go_cell)
    clear hb1
    go_wp2_with fail
    have hp0 := fun Z n (hz : Below w1.heap.size w1 Z) hn => hold81_any t lo hi dr time n w.heap.size (w.heap.size + 1) Z HK.out hn (kp hz c_c0) (kp hz c_c1) (kp hz c_c2) (kp hz c_c3) (kp hz c_t0)
    have HP0 := Lib.hid hp0
    clear hp0
    refine (HL1.out _ HP0.out).mono ?_
    rintro e w2 ⟨rfl, hb2⟩
    have hB2 : Below w.heap.size w w2 := below_after (by go_grown) hb2
    have hz2 := hb2.size
    try simp only [World.size_alloc, World.size_setCell, World.size_drew] at hz2
    have hw2 := hB2.size
    replace c_c0 : w2.cell? ⟨w.heap.size, 0, none⟩ = some (.int .i64 t) := kp hb2 (by go_cell)
    replace c_c1 : w2.cell? ⟨w.heap.size, 1, none⟩ = some (.int .i64 lo) := kp hb2 (by go_cell)
    replace c_c2 : w2.cell? ⟨w.heap.size, 2, none⟩ = some (.int .i64 hi) := kp hb2 (by go_cell)
    replace c_c3 : w2.cell? ⟨w.heap.size, 3, none⟩ = some (.int .i64 dr) := kp hb2 (by go_cell)
    replace c_t0 : w2.cell? ⟨w.heap.size + 1, 0, none⟩ = some (.int .i64 time) := kp hb2 (by go_cell)
    replace f_r0 : w2.frozen? ⟨w.heap.size + 1 + 1, 0, none⟩ = false := kf hb2 (by go_simp) (by go_simp)
    replace f_r1 : w2.frozen? ⟨w.heap.size + 1 + 1, 1, none⟩ = false := kf hb2 (by go_simp) (by go_simp)
    replace c_r0 : w2.cell? ⟨w.heap.size + 1 + 1, 0, none⟩ = some (.int .i64 0) := kp hb2 (by go_cell)
    replace c_r1 : w2.cell? ⟨w.heap.size + 1 + 1, 1, none⟩ = some (.int .i64 0) := kp hb2 (by go_cell)
    clear hb2 hB1
    go_wp2_with fail
    have hp1 := fun Z n (hz : Below w2.heap.size w2 Z) hn => hold82_any t lo hi dr time n w.heap.size (w.heap.size + 1) Z HK.out hn (kp hz c_c0) (kp hz c_c1) (kp hz c_c2) (kp hz c_c3) (kp hz c_t0)
    have HP1 := Lib.hid hp1
    clear hp1
    refine (HL2.out _ HP1.out).mono ?_
    rintro e w3 ⟨rfl, hb3⟩
    have hB3 : Below w.heap.size w w3 := below_after (by go_grown) hb3
    have hz3 := hb3.size
    try simp only [World.size_alloc, World.size_setCell, World.size_drew] at hz3
    have hw3 := hB3.size
    replace c_c0 : w3.cell? ⟨w.heap.size, 0, none⟩ = some (.int .i64 t) := kp hb3 (by go_cell)
    replace c_c1 : w3.cell? ⟨w.heap.size, 1, none⟩ = some (.int .i64 lo) := kp hb3 (by go_cell)
    replace c_c2 : w3.cell? ⟨w.heap.size, 2, none⟩ = some (.int .i64 hi) := kp hb3 (by go_cell)
    replace c_c3 : w3.cell? ⟨w.heap.size, 3, none⟩ = some (.int .i64 dr) := kp hb3 (by go_cell)
    replace c_t0 : w3.cell? ⟨w.heap.size + 1, 0, none⟩ = some (.int .i64 time) := kp hb3 (by go_cell)
    replace f_r0 : w3.frozen? ⟨w.heap.size + 1 + 1, 0, none⟩ = false := kf hb3 (by go_simp) (by go_simp)
    replace f_r1 : w3.frozen? ⟨w.heap.size + 1 + 1, 1, none⟩ = false := kf hb3 (by go_simp) (by go_simp)
    replace c_r0 : w3.cell? ⟨w.heap.size + 1 + 1, 0, none⟩ = some (.int .i64 0) := kp hb3 (by go_cell)
    replace c_r1 : w3.cell? ⟨w.heap.size + 1 + 1, 1, none⟩ = some (.int .i64 0) := kp hb3 (by go_cell)
    clear hb3 hB2
    all_goals go_wp2_with fail
    all_goals rw [HR.out]
    all_goals refine ret_span (B := w.heap.size + 1 + 1) rfl rfl rfl (set2s _ _ (by go_simp) (by go_simp)) ⟨rfl, by go_grown⟩
  · have hr2 : readingS t lo hi dr time = (F, U - 1, 0) := by rw [hr, if_neg hc]
    have HR := Lib.hid hr2
    clear hr hr2
    go_enter Try.func51, Try.ntmps51
    go_wp2_with fail
    refine (HV1.out _).mono ?_
    rintro e w1 ⟨rfl, hb1⟩
    have hB1 : Below w.heap.size w w1 := below_after (by go_grown) hb1
    have hz1 := hb1.size
    try simp only [World.size_alloc, World.size_setCell, World.size_drew] at hz1
    have hw1 := hB1.size
    have c_c0 : w1.cell? ⟨w.heap.size, 0, none⟩ = some (.int .i64 t) := kp hb1 (by go_cell)
    have c_c1 : w1.cell? ⟨w.heap.size, 1, none⟩ = some (.int .i64 lo) := kp hb1 (by go_cell)
    have c_c2 : w1.cell? ⟨w.heap.size, 2, none⟩ = some (.int .i64 hi) := kp hb1 (by go_cell)
    have c_c3 : w1.cell? ⟨w.heap.size, 3, none⟩ = some (.int .i64 dr) := kp hb1 (by go_cell)
    have c_t0 : w1.cell? ⟨w.heap.size + 1, 0, none⟩ = some (.int .i64 time) := kp hb1 (by go_cell)
    have f_r0 : w1.frozen? ⟨w.heap.size + 1 + 1, 0, none⟩ = false := kf hb1 (by go_simp) (by go_simp)
    have f_r1 : w1.frozen? ⟨w.heap.size + 1 + 1, 1, none⟩ = false := kf hb1 (by go_simp) (by go_simp)
    have c_r0 : w1.cell? ⟨w.heap.size + 1 + 1, 0, none⟩ = some (.int .i64 0) := kp hb1 (by go_cell)
    have c_r1 : w1.cell? ⟨w.heap.size + 1 + 1, 1, none⟩ = some (.int .i64 0) := kp hb1 (by go_cell)
    clear hb1
    go_wp2_with fail
    have hp0 := fun Z n (hz : Below w1.heap.size w1 Z) hn => hold81_any t lo hi dr time n w.heap.size (w.heap.size + 1) Z HK.out hn (kp hz c_c0) (kp hz c_c1) (kp hz c_c2) (kp hz c_c3) (kp hz c_t0)
    have HP0 := Lib.hid hp0
    clear hp0
    refine (HL1.out _ HP0.out).mono ?_
    rintro e w2 ⟨rfl, hb2⟩
    have hB2 : Below w.heap.size w w2 := below_after (by go_grown) hb2
    have hz2 := hb2.size
    try simp only [World.size_alloc, World.size_setCell, World.size_drew] at hz2
    have hw2 := hB2.size
    replace c_c0 : w2.cell? ⟨w.heap.size, 0, none⟩ = some (.int .i64 t) := kp hb2 (by go_cell)
    replace c_c1 : w2.cell? ⟨w.heap.size, 1, none⟩ = some (.int .i64 lo) := kp hb2 (by go_cell)
    replace c_c2 : w2.cell? ⟨w.heap.size, 2, none⟩ = some (.int .i64 hi) := kp hb2 (by go_cell)
    replace c_c3 : w2.cell? ⟨w.heap.size, 3, none⟩ = some (.int .i64 dr) := kp hb2 (by go_cell)
    replace c_t0 : w2.cell? ⟨w.heap.size + 1, 0, none⟩ = some (.int .i64 time) := kp hb2 (by go_cell)
    replace f_r0 : w2.frozen? ⟨w.heap.size + 1 + 1, 0, none⟩ = false := kf hb2 (by go_simp) (by go_simp)
    replace f_r1 : w2.frozen? ⟨w.heap.size + 1 + 1, 1, none⟩ = false := kf hb2 (by go_simp) (by go_simp)
    replace c_r0 : w2.cell? ⟨w.heap.size + 1 + 1, 0, none⟩ = some (.int .i64 0) := kp hb2 (by go_cell)
    replace c_r1 : w2.cell? ⟨w.heap.size + 1 + 1, 1, none⟩ = some (.int .i64 0) := kp hb2 (by go_cell)
    clear hb2 hB1
    go_wp2_with fail
    have hp1 := fun Z n (hz : Below w2.heap.size w2 Z) hn => hold82_any t lo hi dr time n w.heap.size (w.heap.size + 1) Z HK.out hn (kp hz c_c0) (kp hz c_c1) (kp hz c_c2) (kp hz c_c3) (kp hz c_t0)
    have HP1 := Lib.hid hp1
    clear hp1
    refine (HL2.out _ HP1.out).mono ?_
    rintro e w3 ⟨rfl, hb3⟩
    have hB3 : Below w.heap.size w w3 := below_after (by go_grown) hb3
    have hz3 := hb3.size
    try simp only [World.size_alloc, World.size_setCell, World.size_drew] at hz3
    have hw3 := hB3.size
    replace c_c0 : w3.cell? ⟨w.heap.size, 0, none⟩ = some (.int .i64 t) := kp hb3 (by go_cell)
    replace c_c1 : w3.cell? ⟨w.heap.size, 1, none⟩ = some (.int .i64 lo) := kp hb3 (by go_cell)
    replace c_c2 : w3.cell? ⟨w.heap.size, 2, none⟩ = some (.int .i64 hi) := kp hb3 (by go_cell)
    replace c_c3 : w3.cell? ⟨w.heap.size, 3, none⟩ = some (.int .i64 dr) := kp hb3 (by go_cell)
    replace c_t0 : w3.cell? ⟨w.heap.size + 1, 0, none⟩ = some (.int .i64 time) := kp hb3 (by go_cell)
    replace f_r0 : w3.frozen? ⟨w.heap.size + 1 + 1, 0, none⟩ = false := kf hb3 (by go_simp) (by go_simp)
    replace f_r1 : w3.frozen? ⟨w.heap.size + 1 + 1, 1, none⟩ = false := kf hb3 (by go_simp) (by go_simp)
    replace c_r0 : w3.cell? ⟨w.heap.size + 1 + 1, 0, none⟩ = some (.int .i64 0) := kp hb3 (by go_cell)
    replace c_r1 : w3.cell? ⟨w.heap.size + 1 + 1, 1, none⟩ = some (.int .i64 0) := kp hb3 (by go_cell)
    clear hb3 hB2
    all_goals go_wp2_with fail
    all_goals rw [HR.out]
    all_goals refine ret_span (B := w.heap.size + 1 + 1) rfl rfl rfl (set2s _ _ (by go_simp) (by go_simp)) ⟨rfl, by go_grown⟩

theorem Reading_any (t lo hi dr time : Int) (w : World) : Calls Try.prog 51 #[.agg #[.int .i64 t, .int .i64 lo, .int .i64 hi, .int .i64 dr], .int .i64 time] w fun e w' => e = .returned (.tuple #[.agg #[.int .i64 (readingS t lo hi dr time).1, .int .i64 (readingS t lo hi dr time).2.1], .int .i64 (readingS t lo hi dr time).2.2]) ∧ Below w.heap.size w w' := by
  cases h : (clkB t lo hi dr && timeB time)
  · exact Reading_no t lo hi dr time w h
  · have h2 := and_right h
    simp [timeB] at h2
    exact Reading_yes t lo hi dr time w (and_left h) h2.1 h2.2

set_option maxHeartbeats 800000 in
set_option maxRecDepth 100000 in
theorem RReading_no (t lo hi dr time : Int) (w : World) (h : (clkB t lo hi dr && timeB time) = false) : Calls Try.prog 52 #[.agg #[.int .i64 t, .int .i64 lo, .int .i64 hi, .int .i64 dr], .int .i64 time] w fun e w' => e = .returned (.tuple #[.agg #[.int .i64 (readingS t lo hi dr time).1, .int .i64 (readingS t lo hi dr time).2.1], .int .i64 (readingS t lo hi dr time).2.2]) ∧ Below w.heap.size w w' := by
  have hr : readingS t lo hi dr time = (0, 0, 1) := by simp [readingS, h]
  have HR := Lib.hid hr
  have v1 := fun w => RCValid_any t lo hi dr w
  cases hc : clkB t lo hi dr
  · rw [hc] at v1
    have HV1 := Lib.hid v1
    clear hr v1 hc h
    go_enter Try.func52, Try.ntmps52
    go_wp2_with fail
    refine (HV1.out _).mono ?_
    rintro e w1 ⟨rfl, hb1⟩
    have hB1 : Below w.heap.size w w1 := below_after (by go_grown) hb1
    have hz1 := hb1.size
    try simp only [World.size_alloc, World.size_setCell, World.size_drew] at hz1
    have hw1 := hB1.size
    have f_r0 : w1.frozen? ⟨w.heap.size + 1, 0, none⟩ = false := kf hb1 (by go_simp) (by go_simp)
    have f_r1 : w1.frozen? ⟨w.heap.size + 1, 1, none⟩ = false := kf hb1 (by go_simp) (by go_simp)
    have c_r0 : w1.cell? ⟨w.heap.size + 1, 0, none⟩ = some (.int .i64 0) := kp hb1 (by go_cell)
    have c_r1 : w1.cell? ⟨w.heap.size + 1, 1, none⟩ = some (.int .i64 0) := kp hb1 (by go_cell)
    clear hb1
    go_wp2_with fail
    rw [HR.out]
    refine ret_span (B := w.heap.size + 1) rfl rfl rfl (set2s _ _ (by go_simp) (by go_simp)) ⟨rfl, by go_grown⟩
  · rw [hc] at v1
    have HV1 := Lib.hid v1
    have h3 : time < -1000000000000 ∨ (¬ time < -1000000000000 ∧ 1000000000000 < time) := by
      simp only [hc, timeB, Bool.true_and, Bool.and_eq_false_iff, decide_eq_false_iff_not] at h
      omega
    clear hr v1 hc h
    rcases h3 with h3 | ⟨h3, h4⟩
    · go_enter Try.func52, Try.ntmps52
      go_wp2_with fail
      refine (HV1.out _).mono ?_
      rintro e w1 ⟨rfl, hb1⟩
      have hB1 : Below w.heap.size w w1 := below_after (by go_grown) hb1
      have hz1 := hb1.size
      try simp only [World.size_alloc, World.size_setCell, World.size_drew] at hz1
      have hw1 := hB1.size
      have f_r0 : w1.frozen? ⟨w.heap.size + 1, 0, none⟩ = false := kf hb1 (by go_simp) (by go_simp)
      have f_r1 : w1.frozen? ⟨w.heap.size + 1, 1, none⟩ = false := kf hb1 (by go_simp) (by go_simp)
      have c_r0 : w1.cell? ⟨w.heap.size + 1, 0, none⟩ = some (.int .i64 0) := kp hb1 (by go_cell)
      have c_r1 : w1.cell? ⟨w.heap.size + 1, 1, none⟩ = some (.int .i64 0) := kp hb1 (by go_cell)
      clear hb1
      go_wp2_with fail
      rw [HR.out]
      refine ret_span (B := w.heap.size + 1) rfl rfl rfl (set2s _ _ (by go_simp) (by go_simp)) ⟨rfl, by go_grown⟩
    · go_enter Try.func52, Try.ntmps52
      go_wp2_with fail
      refine (HV1.out _).mono ?_
      rintro e w1 ⟨rfl, hb1⟩
      have hB1 : Below w.heap.size w w1 := below_after (by go_grown) hb1
      have hz1 := hb1.size
      try simp only [World.size_alloc, World.size_setCell, World.size_drew] at hz1
      have hw1 := hB1.size
      have f_r0 : w1.frozen? ⟨w.heap.size + 1, 0, none⟩ = false := kf hb1 (by go_simp) (by go_simp)
      have f_r1 : w1.frozen? ⟨w.heap.size + 1, 1, none⟩ = false := kf hb1 (by go_simp) (by go_simp)
      have c_r0 : w1.cell? ⟨w.heap.size + 1, 0, none⟩ = some (.int .i64 0) := kp hb1 (by go_cell)
      have c_r1 : w1.cell? ⟨w.heap.size + 1, 1, none⟩ = some (.int .i64 0) := kp hb1 (by go_cell)
      clear hb1
      go_wp2_with fail
      rw [HR.out]
      refine ret_span (B := w.heap.size + 1) rfl rfl rfl (set2s _ _ (by go_simp) (by go_simp)) ⟨rfl, by go_grown⟩

set_option maxHeartbeats 800000 in
set_option maxRecDepth 100000 in
theorem RReading_yes (t lo hi dr time : Int) (w : World) (h : clkB t lo hi dr = true) (ht1 : -1000000000000 ≤ time) (ht2 : time ≤ 1000000000000) : Calls Try.prog 52 #[.agg #[.int .i64 t, .int .i64 lo, .int .i64 hi, .int .i64 dr], .int .i64 time] w fun e w' => e = .returned (.tuple #[.agg #[.int .i64 (readingS t lo hi dr time).1, .int .i64 (readingS t lo hi dr time).2.1], .int .i64 (readingS t lo hi dr time).2.2]) ∧ Below w.heap.size w w' := by
  have hr : readingS t lo hi dr time = if untilI t lo dr time ≤ firstI t hi dr time then (0, 0, 4) else (firstI t hi dr time, untilI t lo dr time - 1, 0) := by
    rw [readingS, h, show timeB time = true by simp [timeB]; omega]; rfl
  have v1 := fun w => RCValid_any t lo hi dr w
  rw [h] at v1
  have HV1 := Lib.hid v1
  obtain ⟨t1, t2, r1, r2, o1, o2, o3⟩ := clkB_bounds h
  obtain ⟨f1, f2, _⟩ := firstI_spec (t := t) (hi := hi) (time := time) r1 r2
  obtain ⟨u1, u2, _⟩ := untilI_spec (t := t) (lo := lo) (time := time) r1 r2
  have L1 := fun W => RFirst_any t lo hi dr time W h ht1 ht2
  have L2 := fun W => RLast_any t lo hi dr time W h ht1 ht2
  generalize firstI t hi dr time = F at *
  generalize untilI t lo dr time = U at *
  have HL1 := Lib.hid L1
  have HL2 := Lib.hid L2
  have HK := Lib.hid h
  clear v1 L1 L2 h
  by_cases hc : U ≤ F
  · have hr2 : readingS t lo hi dr time = (0, 0, 4) := by rw [hr, if_pos hc]
    have HR := Lib.hid hr2
    clear hr hr2
    have hd : F > U - 1 := by omega
    go_enter Try.func52, Try.ntmps52
    go_wp2_with fail
    refine (HV1.out _).mono ?_
    rintro e w1 ⟨rfl, hb1⟩
    have hB1 : Below w.heap.size w w1 := below_after (by go_grown) hb1
    have hz1 := hb1.size
    try simp only [World.size_alloc, World.size_setCell, World.size_drew] at hz1
    have hw1 := hB1.size
    have c_c0 : w1.cell? ⟨w.heap.size, 0, none⟩ = some (.int .i64 t) := kp hb1 (by go_cell)
    have c_c1 : w1.cell? ⟨w.heap.size, 1, none⟩ = some (.int .i64 lo) := kp hb1 (by go_cell)
    have c_c2 : w1.cell? ⟨w.heap.size, 2, none⟩ = some (.int .i64 hi) := kp hb1 (by go_cell)
    have c_c3 : w1.cell? ⟨w.heap.size, 3, none⟩ = some (.int .i64 dr) := kp hb1 (by go_cell)
    have f_r0 : w1.frozen? ⟨w.heap.size + 1, 0, none⟩ = false := kf hb1 (by go_simp) (by go_simp)
    have f_r1 : w1.frozen? ⟨w.heap.size + 1, 1, none⟩ = false := kf hb1 (by go_simp) (by go_simp)
    have c_r0 : w1.cell? ⟨w.heap.size + 1, 0, none⟩ = some (.int .i64 0) := kp hb1 (by go_cell)
    have c_r1 : w1.cell? ⟨w.heap.size + 1, 1, none⟩ = some (.int .i64 0) := kp hb1 (by go_cell)
    clear hb1
    go_wp2_with fail
    go_region_held3 (fun w' => Below w.heap.size w w' ∧ w'.cell? ⟨w.heap.size, 0, none⟩ = some (.int .i64 t) ∧ w'.cell? ⟨w.heap.size, 1, none⟩ = some (.int .i64 lo) ∧ w'.cell? ⟨w.heap.size, 2, none⟩ = some (.int .i64 hi) ∧ w'.cell? ⟨w.heap.size, 3, none⟩ = some (.int .i64 dr) ∧ w'.cell? ⟨w.heap.size + 1, 0, none⟩ = some (.int .i64 0) ∧ w'.cell? ⟨w.heap.size + 1, 1, none⟩ = some (.int .i64 0) ∧ w'.frozen? ⟨w.heap.size + 1, 0, none⟩ = false ∧ w'.frozen? ⟨w.heap.size + 1, 1, none⟩ = false)
      ((go_split_ands; refine ⟨?_, ?_, ?_, ?_, ?_, ?_, ?_, ?_, ?_⟩ <;> first | (with_reducible assumption) | (exact Below.drew (by go_grown)) | (exact below_allocW (by assumption)) | (go_grown; done) | go_cell | (go_simp; done)))
      (first | (go_at_call 83; (with_reducible refine (HL1.out _).mono ?_); rintro e xa ⟨rfl, hba⟩; have hB_xa : Below w.heap.size w xa := below_after (by go_grown) hba; have hw_xa := hB_xa.size; have hz_xa := hba.size; (try simp only [World.size_alloc, World.size_setCell, World.size_drew] at hz_xa); have c_c0_xa : xa.cell? ⟨w.heap.size, 0, none⟩ = some (.int .i64 t) := kp hba (by go_cell); have c_c1_xa : xa.cell? ⟨w.heap.size, 1, none⟩ = some (.int .i64 lo) := kp hba (by go_cell); have c_c2_xa : xa.cell? ⟨w.heap.size, 2, none⟩ = some (.int .i64 hi) := kp hba (by go_cell); have c_c3_xa : xa.cell? ⟨w.heap.size, 3, none⟩ = some (.int .i64 dr) := kp hba (by go_cell); have f_r0_xa : xa.frozen? ⟨w.heap.size + 1, 0, none⟩ = false := kf hba (by go_simp) (by go_simp); have f_r1_xa : xa.frozen? ⟨w.heap.size + 1, 1, none⟩ = false := kf hba (by go_simp) (by go_simp); have c_r0_xa : xa.cell? ⟨w.heap.size + 1, 0, none⟩ = some (.int .i64 0) := kp hba (by go_cell); have c_r1_xa : xa.cell? ⟨w.heap.size + 1, 1, none⟩ = some (.int .i64 0) := kp hba (by go_cell); (try (have n0f0_xa : xa.frozen? ⟨w1.heap.size, 0, none⟩ = false := ?_; rotate_left 1; focus (refine kf hba ?_ ?_ <;> (go_simp; done)))); (try (have n0c0_xa : xa.cell? ⟨w1.heap.size, 0, none⟩ = some (.int .i64 0) := ?_; rotate_left 1; focus (refine kp hba ?_; go_cell; done))); (try (have n0f1_xa : xa.frozen? ⟨w1.heap.size, 1, none⟩ = false := ?_; rotate_left 1; focus (refine kf hba ?_ ?_ <;> (go_simp; done)))); (try (have n0c1_xa : xa.cell? ⟨w1.heap.size, 1, none⟩ = some (.int .i64 0) := ?_; rotate_left 1; focus (refine kp hba ?_; go_cell; done)))) | (go_at_call 84; (with_reducible refine (HL2.out _).mono ?_); rintro e xb ⟨rfl, hbb⟩; have hB_xb : Below w.heap.size w xb := below_after (by go_grown) hbb; have hw_xb := hB_xb.size; have hz_xb := hbb.size; (try simp only [World.size_alloc, World.size_setCell, World.size_drew] at hz_xb); have c_c0_xb : xb.cell? ⟨w.heap.size, 0, none⟩ = some (.int .i64 t) := kp hbb (by go_cell); have c_c1_xb : xb.cell? ⟨w.heap.size, 1, none⟩ = some (.int .i64 lo) := kp hbb (by go_cell); have c_c2_xb : xb.cell? ⟨w.heap.size, 2, none⟩ = some (.int .i64 hi) := kp hbb (by go_cell); have c_c3_xb : xb.cell? ⟨w.heap.size, 3, none⟩ = some (.int .i64 dr) := kp hbb (by go_cell); have f_r0_xb : xb.frozen? ⟨w.heap.size + 1, 0, none⟩ = false := kf hbb (by go_simp) (by go_simp); have f_r1_xb : xb.frozen? ⟨w.heap.size + 1, 1, none⟩ = false := kf hbb (by go_simp) (by go_simp); have c_r0_xb : xb.cell? ⟨w.heap.size + 1, 0, none⟩ = some (.int .i64 0) := kp hbb (by go_cell); have c_r1_xb : xb.cell? ⟨w.heap.size + 1, 1, none⟩ = some (.int .i64 0) := kp hbb (by go_cell); (try (have n0f0_xb : xb.frozen? ⟨w1.heap.size, 0, none⟩ = false := ?_; rotate_left 1; focus (refine kf hbb ?_ ?_ <;> (go_simp; done)))); (try (have n0c0_xb : xb.cell? ⟨w1.heap.size, 0, none⟩ = some (.int .i64 0) := ?_; rotate_left 1; focus (refine kp hbb ?_; go_cell; done))); (try (have n0f1_xb : xb.frozen? ⟨w1.heap.size, 1, none⟩ = false := ?_; rotate_left 1; focus (refine kf hbb ?_ ?_ <;> (go_simp; done)))); (try (have n0c1_xb : xb.cell? ⟨w1.heap.size, 1, none⟩ = some (.int .i64 0) := ?_; rotate_left 1; focus (refine kp hbb ?_; go_cell; done))); (try (have n1f0_xb : xb.frozen? ⟨xa.heap.size, 0, none⟩ = false := ?_; rotate_left 1; focus (refine kf hbb ?_ ?_ <;> (go_simp; done)))); (try (have n1c0_xb : xb.cell? ⟨xa.heap.size, 0, none⟩ = some (.int .i64 0) := ?_; rotate_left 1; focus (refine kp hbb ?_; go_cell; done))); (try (have n1f1_xb : xb.frozen? ⟨xa.heap.size, 1, none⟩ = false := ?_; rotate_left 1; focus (refine kf hbb ?_ ?_ <;> (go_simp; done)))); (try (have n1c1_xb : xb.cell? ⟨xa.heap.size, 1, none⟩ = some (.int .i64 0) := ?_; rotate_left 1; focus (refine kp hbb ?_; go_cell; done)))))
    all_goals go_split_ands
    all_goals go_wp2_with fail
    all_goals rw [HR.out]
    all_goals refine ret_span (B := w.heap.size + 1) rfl rfl rfl (set2s _ _ (by go_simp) (by go_simp)) ⟨rfl, by go_grown⟩
  · have hr2 : readingS t lo hi dr time = (F, U - 1, 0) := by rw [hr, if_neg hc]
    have HR := Lib.hid hr2
    clear hr hr2
    have hd : ¬ F > U - 1 := by omega
    go_enter Try.func52, Try.ntmps52
    go_wp2_with fail
    refine (HV1.out _).mono ?_
    rintro e w1 ⟨rfl, hb1⟩
    have hB1 : Below w.heap.size w w1 := below_after (by go_grown) hb1
    have hz1 := hb1.size
    try simp only [World.size_alloc, World.size_setCell, World.size_drew] at hz1
    have hw1 := hB1.size
    have c_c0 : w1.cell? ⟨w.heap.size, 0, none⟩ = some (.int .i64 t) := kp hb1 (by go_cell)
    have c_c1 : w1.cell? ⟨w.heap.size, 1, none⟩ = some (.int .i64 lo) := kp hb1 (by go_cell)
    have c_c2 : w1.cell? ⟨w.heap.size, 2, none⟩ = some (.int .i64 hi) := kp hb1 (by go_cell)
    have c_c3 : w1.cell? ⟨w.heap.size, 3, none⟩ = some (.int .i64 dr) := kp hb1 (by go_cell)
    have f_r0 : w1.frozen? ⟨w.heap.size + 1, 0, none⟩ = false := kf hb1 (by go_simp) (by go_simp)
    have f_r1 : w1.frozen? ⟨w.heap.size + 1, 1, none⟩ = false := kf hb1 (by go_simp) (by go_simp)
    have c_r0 : w1.cell? ⟨w.heap.size + 1, 0, none⟩ = some (.int .i64 0) := kp hb1 (by go_cell)
    have c_r1 : w1.cell? ⟨w.heap.size + 1, 1, none⟩ = some (.int .i64 0) := kp hb1 (by go_cell)
    clear hb1
    go_wp2_with fail
    go_region_held3 (fun w' => Below w.heap.size w w' ∧ w'.cell? ⟨w.heap.size, 0, none⟩ = some (.int .i64 t) ∧ w'.cell? ⟨w.heap.size, 1, none⟩ = some (.int .i64 lo) ∧ w'.cell? ⟨w.heap.size, 2, none⟩ = some (.int .i64 hi) ∧ w'.cell? ⟨w.heap.size, 3, none⟩ = some (.int .i64 dr) ∧ w'.cell? ⟨w.heap.size + 1, 0, none⟩ = some (.int .i64 0) ∧ w'.cell? ⟨w.heap.size + 1, 1, none⟩ = some (.int .i64 0) ∧ w'.frozen? ⟨w.heap.size + 1, 0, none⟩ = false ∧ w'.frozen? ⟨w.heap.size + 1, 1, none⟩ = false)
      ((go_split_ands; refine ⟨?_, ?_, ?_, ?_, ?_, ?_, ?_, ?_, ?_⟩ <;> first | (with_reducible assumption) | (exact Below.drew (by go_grown)) | (exact below_allocW (by assumption)) | (go_grown; done) | go_cell | (go_simp; done)))
      (first | (go_at_call 83; (with_reducible refine (HL1.out _).mono ?_); rintro e xa ⟨rfl, hba⟩; have hB_xa : Below w.heap.size w xa := below_after (by go_grown) hba; have hw_xa := hB_xa.size; have hz_xa := hba.size; (try simp only [World.size_alloc, World.size_setCell, World.size_drew] at hz_xa); have c_c0_xa : xa.cell? ⟨w.heap.size, 0, none⟩ = some (.int .i64 t) := kp hba (by go_cell); have c_c1_xa : xa.cell? ⟨w.heap.size, 1, none⟩ = some (.int .i64 lo) := kp hba (by go_cell); have c_c2_xa : xa.cell? ⟨w.heap.size, 2, none⟩ = some (.int .i64 hi) := kp hba (by go_cell); have c_c3_xa : xa.cell? ⟨w.heap.size, 3, none⟩ = some (.int .i64 dr) := kp hba (by go_cell); have f_r0_xa : xa.frozen? ⟨w.heap.size + 1, 0, none⟩ = false := kf hba (by go_simp) (by go_simp); have f_r1_xa : xa.frozen? ⟨w.heap.size + 1, 1, none⟩ = false := kf hba (by go_simp) (by go_simp); have c_r0_xa : xa.cell? ⟨w.heap.size + 1, 0, none⟩ = some (.int .i64 0) := kp hba (by go_cell); have c_r1_xa : xa.cell? ⟨w.heap.size + 1, 1, none⟩ = some (.int .i64 0) := kp hba (by go_cell); (try (have n0f0_xa : xa.frozen? ⟨w1.heap.size, 0, none⟩ = false := ?_; rotate_left 1; focus (refine kf hba ?_ ?_ <;> (go_simp; done)))); (try (have n0c0_xa : xa.cell? ⟨w1.heap.size, 0, none⟩ = some (.int .i64 0) := ?_; rotate_left 1; focus (refine kp hba ?_; go_cell; done))); (try (have n0f1_xa : xa.frozen? ⟨w1.heap.size, 1, none⟩ = false := ?_; rotate_left 1; focus (refine kf hba ?_ ?_ <;> (go_simp; done)))); (try (have n0c1_xa : xa.cell? ⟨w1.heap.size, 1, none⟩ = some (.int .i64 0) := ?_; rotate_left 1; focus (refine kp hba ?_; go_cell; done)))) | (go_at_call 84; (with_reducible refine (HL2.out _).mono ?_); rintro e xb ⟨rfl, hbb⟩; have hB_xb : Below w.heap.size w xb := below_after (by go_grown) hbb; have hw_xb := hB_xb.size; have hz_xb := hbb.size; (try simp only [World.size_alloc, World.size_setCell, World.size_drew] at hz_xb); have c_c0_xb : xb.cell? ⟨w.heap.size, 0, none⟩ = some (.int .i64 t) := kp hbb (by go_cell); have c_c1_xb : xb.cell? ⟨w.heap.size, 1, none⟩ = some (.int .i64 lo) := kp hbb (by go_cell); have c_c2_xb : xb.cell? ⟨w.heap.size, 2, none⟩ = some (.int .i64 hi) := kp hbb (by go_cell); have c_c3_xb : xb.cell? ⟨w.heap.size, 3, none⟩ = some (.int .i64 dr) := kp hbb (by go_cell); have f_r0_xb : xb.frozen? ⟨w.heap.size + 1, 0, none⟩ = false := kf hbb (by go_simp) (by go_simp); have f_r1_xb : xb.frozen? ⟨w.heap.size + 1, 1, none⟩ = false := kf hbb (by go_simp) (by go_simp); have c_r0_xb : xb.cell? ⟨w.heap.size + 1, 0, none⟩ = some (.int .i64 0) := kp hbb (by go_cell); have c_r1_xb : xb.cell? ⟨w.heap.size + 1, 1, none⟩ = some (.int .i64 0) := kp hbb (by go_cell); (try (have n0f0_xb : xb.frozen? ⟨w1.heap.size, 0, none⟩ = false := ?_; rotate_left 1; focus (refine kf hbb ?_ ?_ <;> (go_simp; done)))); (try (have n0c0_xb : xb.cell? ⟨w1.heap.size, 0, none⟩ = some (.int .i64 0) := ?_; rotate_left 1; focus (refine kp hbb ?_; go_cell; done))); (try (have n0f1_xb : xb.frozen? ⟨w1.heap.size, 1, none⟩ = false := ?_; rotate_left 1; focus (refine kf hbb ?_ ?_ <;> (go_simp; done)))); (try (have n0c1_xb : xb.cell? ⟨w1.heap.size, 1, none⟩ = some (.int .i64 0) := ?_; rotate_left 1; focus (refine kp hbb ?_; go_cell; done))); (try (have n1f0_xb : xb.frozen? ⟨xa.heap.size, 0, none⟩ = false := ?_; rotate_left 1; focus (refine kf hbb ?_ ?_ <;> (go_simp; done)))); (try (have n1c0_xb : xb.cell? ⟨xa.heap.size, 0, none⟩ = some (.int .i64 0) := ?_; rotate_left 1; focus (refine kp hbb ?_; go_cell; done))); (try (have n1f1_xb : xb.frozen? ⟨xa.heap.size, 1, none⟩ = false := ?_; rotate_left 1; focus (refine kf hbb ?_ ?_ <;> (go_simp; done)))); (try (have n1c1_xb : xb.cell? ⟨xa.heap.size, 1, none⟩ = some (.int .i64 0) := ?_; rotate_left 1; focus (refine kp hbb ?_; go_cell; done)))))
    all_goals go_split_ands
    all_goals go_wp2_with fail
    all_goals rw [HR.out]
    all_goals refine ret_span (B := w.heap.size + 1) rfl rfl rfl (set2s _ _ (by go_simp) (by go_simp)) ⟨rfl, by go_grown⟩

theorem RReading_any (t lo hi dr time : Int) (w : World) : Calls Try.prog 52 #[.agg #[.int .i64 t, .int .i64 lo, .int .i64 hi, .int .i64 dr], .int .i64 time] w fun e w' => e = .returned (.tuple #[.agg #[.int .i64 (readingS t lo hi dr time).1, .int .i64 (readingS t lo hi dr time).2.1], .int .i64 (readingS t lo hi dr time).2.2]) ∧ Below w.heap.size w w' := by
  cases h : (clkB t lo hi dr && timeB time)
  · exact RReading_no t lo hi dr time w h
  · have h2 := and_right h
    simp [timeB] at h2
    exact RReading_yes t lo hi dr time w (and_left h) h2.1 h2.2

end Go.Proofs.Ytollpjdnahemeaa
