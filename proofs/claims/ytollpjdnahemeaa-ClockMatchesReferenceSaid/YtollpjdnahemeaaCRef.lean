import Derived.Test.YtollpjdnahemeaaCOrder
import Derived.Deep.RegionHeld3
namespace Go.Proofs.Ytollpjdnahemeaa
open Go.RowKit
set_option linter.unusedSimpArgs false
set_option linter.unusedVariables false
attribute [local go_sem ↓] Go.wp_at_zero Go.wp_at_succ

set_option maxHeartbeats 1600000 in
set_option maxRecDepth 100000 in
theorem clockRef_walk (t lo hi dr r time sl sh : Int) (w : World) :
    Calls Try.prog 10 #[.agg #[.int .i64 t, .int .i64 lo, .int .i64 hi, .int .i64 dr], .int .i64 r, .int .i64 time, .agg #[.int .i64 sl, .int .i64 sh]] w fun e w' => e = .returned (.bool true) ∧ Below w.heap.size w w' := by
  have a1 := fun w => True_any t lo hi dr r w
  have a2 := fun w => RTrue_any t lo hi dr r w
  have a3 := fun w => CValid_any t lo hi dr w
  have a4 := fun w => RCValid_any t lo hi dr w
  have a5 := fun w => Reading_any t lo hi dr time w
  have a6 := fun w => RReading_any t lo hi dr time w
  have a7 := fun w => Set_any t lo hi dr r sl sh w
  have a8 := fun w => RSet_any t lo hi dr r sl sh w
  generalize clkB t lo hi dr = vb at *
  generalize trueS t lo hi dr r = T1 at *
  obtain ⟨x1, y1, e1⟩ := T1
  generalize readingS t lo hi dr time = T2 at *
  obtain ⟨x2, y2, e2⟩ := T2
  generalize setS t lo hi dr r sl sh = T3 at *
  obtain ⟨⟨x3, y3, z3, u3⟩, b3, e3⟩ := T3
  have A1 := Lib.hid a1
  have A2 := Lib.hid a2
  have A3 := Lib.hid a3
  have A4 := Lib.hid a4
  have A5 := Lib.hid a5
  have A6 := Lib.hid a6
  have A7 := Lib.hid a7
  have A8 := Lib.hid a8
  clear a1 a2 a3 a4 a5 a6 a7 a8
  go_enter Try.func10, Try.ntmps10
  go_wp2_with fail
  refine (head14_any _).mono ?_
  rintro e w1 ⟨rfl, hb1⟩
  have hB1 : Below w.heap.size w w1 := below_after (by go_grown) hb1
  have hz1 := hb1.size
  try simp only [World.size_alloc, World.size_setCell, World.size_drew] at hz1
  have hw1 := hB1.size
  have c_c0 : w1.cell? ⟨w.heap.size, 0, none⟩ = some (.int .i64 t) := kp hb1 (by go_cell)
  have c_c1 : w1.cell? ⟨w.heap.size, 1, none⟩ = some (.int .i64 lo) := kp hb1 (by go_cell)
  have c_c2 : w1.cell? ⟨w.heap.size, 2, none⟩ = some (.int .i64 hi) := kp hb1 (by go_cell)
  have c_c3 : w1.cell? ⟨w.heap.size, 3, none⟩ = some (.int .i64 dr) := kp hb1 (by go_cell)
  have c_n0 : w1.cell? ⟨w.heap.size + 1, 0, none⟩ = some (.int .i64 sl) := kp hb1 (by go_cell)
  have c_n1 : w1.cell? ⟨w.heap.size + 1, 1, none⟩ = some (.int .i64 sh) := kp hb1 (by go_cell)
  clear hb1
  go_wp2_with fail
  refine (A1.out _).mono ?_
  rintro e w2 ⟨rfl, hb2⟩
  have hB2 : Below w.heap.size w w2 := below_after (by go_grown) hb2
  have hz2 := hb2.size
  try simp only [World.size_alloc, World.size_setCell, World.size_drew] at hz2
  have hw2 := hB2.size
  replace c_c0 : w2.cell? ⟨w.heap.size, 0, none⟩ = some (.int .i64 t) := kp hb2 (by go_cell)
  replace c_c1 : w2.cell? ⟨w.heap.size, 1, none⟩ = some (.int .i64 lo) := kp hb2 (by go_cell)
  replace c_c2 : w2.cell? ⟨w.heap.size, 2, none⟩ = some (.int .i64 hi) := kp hb2 (by go_cell)
  replace c_c3 : w2.cell? ⟨w.heap.size, 3, none⟩ = some (.int .i64 dr) := kp hb2 (by go_cell)
  replace c_n0 : w2.cell? ⟨w.heap.size + 1, 0, none⟩ = some (.int .i64 sl) := kp hb2 (by go_cell)
  replace c_n1 : w2.cell? ⟨w.heap.size + 1, 1, none⟩ = some (.int .i64 sh) := kp hb2 (by go_cell)
  clear hb2 hB1
  go_wp2_with fail
  refine (A2.out _).mono ?_
  rintro e w3 ⟨rfl, hb3⟩
  have hB3 : Below w.heap.size w w3 := below_after (by go_grown) hb3
  have hz3 := hb3.size
  try simp only [World.size_alloc, World.size_setCell, World.size_drew] at hz3
  have hw3 := hB3.size
  replace c_c0 : w3.cell? ⟨w.heap.size, 0, none⟩ = some (.int .i64 t) := kp hb3 (by go_cell)
  replace c_c1 : w3.cell? ⟨w.heap.size, 1, none⟩ = some (.int .i64 lo) := kp hb3 (by go_cell)
  replace c_c2 : w3.cell? ⟨w.heap.size, 2, none⟩ = some (.int .i64 hi) := kp hb3 (by go_cell)
  replace c_c3 : w3.cell? ⟨w.heap.size, 3, none⟩ = some (.int .i64 dr) := kp hb3 (by go_cell)
  replace c_n0 : w3.cell? ⟨w.heap.size + 1, 0, none⟩ = some (.int .i64 sl) := kp hb3 (by go_cell)
  replace c_n1 : w3.cell? ⟨w.heap.size + 1, 1, none⟩ = some (.int .i64 sh) := kp hb3 (by go_cell)
  have f_s0 : w3.frozen? ⟨w2.heap.size, 0, none⟩ = false := kf hb3 (by go_simp) (by go_simp)
  have f_s1 : w3.frozen? ⟨w2.heap.size, 1, none⟩ = false := kf hb3 (by go_simp) (by go_simp)
  have c_s0 : w3.cell? ⟨w2.heap.size, 0, none⟩ = some (.int .i64 x1) := kp hb3 (by go_cell)
  have c_s1 : w3.cell? ⟨w2.heap.size, 1, none⟩ = some (.int .i64 y1) := kp hb3 (by go_cell)
  clear hb3 hB2
  go_wp2_with fail
  go_region_held3 (fun w' => Below w.heap.size w w' ∧ w'.cell? ⟨w.heap.size, 0, none⟩ = some (.int .i64 t) ∧ w'.cell? ⟨w.heap.size, 1, none⟩ = some (.int .i64 lo) ∧ w'.cell? ⟨w.heap.size, 2, none⟩ = some (.int .i64 hi) ∧ w'.cell? ⟨w.heap.size, 3, none⟩ = some (.int .i64 dr) ∧ w'.cell? ⟨w.heap.size + 1, 0, none⟩ = some (.int .i64 sl) ∧ w'.cell? ⟨w.heap.size + 1, 1, none⟩ = some (.int .i64 sh) ∧ w'.cell? ⟨w2.heap.size, 0, none⟩ = some (.int .i64 x1) ∧ w'.cell? ⟨w2.heap.size, 1, none⟩ = some (.int .i64 y1) ∧ w'.frozen? ⟨w2.heap.size, 0, none⟩ = false ∧ w'.frozen? ⟨w2.heap.size, 1, none⟩ = false ∧ w'.cell? ⟨w3.heap.size, 0, none⟩ = some (.int .i64 x1) ∧ w'.cell? ⟨w3.heap.size, 1, none⟩ = some (.int .i64 y1) ∧ w'.frozen? ⟨w3.heap.size, 0, none⟩ = false ∧ w'.frozen? ⟨w3.heap.size, 1, none⟩ = false)
    ((go_split_ands; refine ⟨?_, ?_, ?_, ?_, ?_, ?_, ?_, ?_, ?_, ?_, ?_, ?_, ?_, ?_, ?_⟩; (focus (first | (with_reducible assumption) | (go_grown; done) | (exact Below.drew (by go_grown)))); (focus (first | (with_reducible assumption) | go_cell | (go_simp; done))); (focus (first | (with_reducible assumption) | go_cell | (go_simp; done))); (focus (first | (with_reducible assumption) | go_cell | (go_simp; done))); (focus (first | (with_reducible assumption) | go_cell | (go_simp; done))); (focus (first | (with_reducible assumption) | go_cell | (go_simp; done))); (focus (first | (with_reducible assumption) | go_cell | (go_simp; done))); (focus (first | (with_reducible assumption) | go_cell | (go_simp; done))); (focus (first | (with_reducible assumption) | go_cell | (go_simp; done))); (focus (first | (with_reducible assumption) | go_cell | (go_simp; done))); (focus (first | (with_reducible assumption) | go_cell | (go_simp; done))); (focus (first | (with_reducible assumption) | go_cell | (go_simp; done))); (focus (first | (with_reducible assumption) | go_cell | (go_simp; done))); (focus (first | (with_reducible assumption) | go_cell | (go_simp; done))); (focus (first | (with_reducible assumption) | go_cell | (go_simp; done)))))
    (first | (go_at_call 49; (with_reducible refine (A3.out _).mono ?_); rintro e xa ⟨rfl, hba⟩; have hB_xa : Below w.heap.size w xa := below_after (by go_grown) hba; have hw_xa := hB_xa.size; have hz_xa := hba.size; (try simp only [World.size_alloc, World.size_setCell, World.size_drew] at hz_xa); have c_c0_xa : xa.cell? ⟨w.heap.size, 0, none⟩ = some (.int .i64 t) := kp hba (by go_cell); have c_c1_xa : xa.cell? ⟨w.heap.size, 1, none⟩ = some (.int .i64 lo) := kp hba (by go_cell); have c_c2_xa : xa.cell? ⟨w.heap.size, 2, none⟩ = some (.int .i64 hi) := kp hba (by go_cell); have c_c3_xa : xa.cell? ⟨w.heap.size, 3, none⟩ = some (.int .i64 dr) := kp hba (by go_cell); have c_n0_xa : xa.cell? ⟨w.heap.size + 1, 0, none⟩ = some (.int .i64 sl) := kp hba (by go_cell); have c_n1_xa : xa.cell? ⟨w.heap.size + 1, 1, none⟩ = some (.int .i64 sh) := kp hba (by go_cell); have f_s0_xa : xa.frozen? ⟨w2.heap.size, 0, none⟩ = false := kf hba (by go_simp) (by go_simp); have f_s1_xa : xa.frozen? ⟨w2.heap.size, 1, none⟩ = false := kf hba (by go_simp) (by go_simp); have c_s0_xa : xa.cell? ⟨w2.heap.size, 0, none⟩ = some (.int .i64 x1) := kp hba (by go_cell); have c_s1_xa : xa.cell? ⟨w2.heap.size, 1, none⟩ = some (.int .i64 y1) := kp hba (by go_cell); have f_u0_xa : xa.frozen? ⟨w3.heap.size, 0, none⟩ = false := kf hba (by go_simp) (by go_simp); have f_u1_xa : xa.frozen? ⟨w3.heap.size, 1, none⟩ = false := kf hba (by go_simp) (by go_simp); have c_u0_xa : xa.cell? ⟨w3.heap.size, 0, none⟩ = some (.int .i64 x1) := kp hba (by go_cell); have c_u1_xa : xa.cell? ⟨w3.heap.size, 1, none⟩ = some (.int .i64 y1) := kp hba (by go_cell)) | (go_at_call 50; (with_reducible refine (A4.out _).mono ?_); rintro e xb ⟨rfl, hbb⟩; have hB_xb : Below w.heap.size w xb := below_after (by go_grown) hbb; have hw_xb := hB_xb.size; have hz_xb := hbb.size; (try simp only [World.size_alloc, World.size_setCell, World.size_drew] at hz_xb); have c_c0_xb : xb.cell? ⟨w.heap.size, 0, none⟩ = some (.int .i64 t) := kp hbb (by go_cell); have c_c1_xb : xb.cell? ⟨w.heap.size, 1, none⟩ = some (.int .i64 lo) := kp hbb (by go_cell); have c_c2_xb : xb.cell? ⟨w.heap.size, 2, none⟩ = some (.int .i64 hi) := kp hbb (by go_cell); have c_c3_xb : xb.cell? ⟨w.heap.size, 3, none⟩ = some (.int .i64 dr) := kp hbb (by go_cell); have c_n0_xb : xb.cell? ⟨w.heap.size + 1, 0, none⟩ = some (.int .i64 sl) := kp hbb (by go_cell); have c_n1_xb : xb.cell? ⟨w.heap.size + 1, 1, none⟩ = some (.int .i64 sh) := kp hbb (by go_cell); have f_s0_xb : xb.frozen? ⟨w2.heap.size, 0, none⟩ = false := kf hbb (by go_simp) (by go_simp); have f_s1_xb : xb.frozen? ⟨w2.heap.size, 1, none⟩ = false := kf hbb (by go_simp) (by go_simp); have c_s0_xb : xb.cell? ⟨w2.heap.size, 0, none⟩ = some (.int .i64 x1) := kp hbb (by go_cell); have c_s1_xb : xb.cell? ⟨w2.heap.size, 1, none⟩ = some (.int .i64 y1) := kp hbb (by go_cell); have f_u0_xb : xb.frozen? ⟨w3.heap.size, 0, none⟩ = false := kf hbb (by go_simp) (by go_simp); have f_u1_xb : xb.frozen? ⟨w3.heap.size, 1, none⟩ = false := kf hbb (by go_simp) (by go_simp); have c_u0_xb : xb.cell? ⟨w3.heap.size, 0, none⟩ = some (.int .i64 x1) := kp hbb (by go_cell); have c_u1_xb : xb.cell? ⟨w3.heap.size, 1, none⟩ = some (.int .i64 y1) := kp hbb (by go_cell)))
  all_goals go_split_ands
  have hB4 : Below w.heap.size w xb := by assumption
  have hw4 := hB4.size
  have c_c0 : xb.cell? ⟨w.heap.size, 0, none⟩ = some (.int .i64 t) := by assumption
  have c_c1 : xb.cell? ⟨w.heap.size, 1, none⟩ = some (.int .i64 lo) := by assumption
  have c_c2 : xb.cell? ⟨w.heap.size, 2, none⟩ = some (.int .i64 hi) := by assumption
  have c_c3 : xb.cell? ⟨w.heap.size, 3, none⟩ = some (.int .i64 dr) := by assumption
  have c_n0 : xb.cell? ⟨w.heap.size + 1, 0, none⟩ = some (.int .i64 sl) := by assumption
  have c_n1 : xb.cell? ⟨w.heap.size + 1, 1, none⟩ = some (.int .i64 sh) := by assumption
  have c_s0 : xb.cell? ⟨w2.heap.size, 0, none⟩ = some (.int .i64 x1) := by assumption
  have c_s1 : xb.cell? ⟨w2.heap.size, 1, none⟩ = some (.int .i64 y1) := by assumption
  have f_s0 : xb.frozen? ⟨w2.heap.size, 0, none⟩ = false := by assumption
  have f_s1 : xb.frozen? ⟨w2.heap.size, 1, none⟩ = false := by assumption
  have c_u0 : xb.cell? ⟨w3.heap.size, 0, none⟩ = some (.int .i64 x1) := by assumption
  have c_u1 : xb.cell? ⟨w3.heap.size, 1, none⟩ = some (.int .i64 y1) := by assumption
  have f_u0 : xb.frozen? ⟨w3.heap.size, 0, none⟩ = false := by assumption
  have f_u1 : xb.frozen? ⟨w3.heap.size, 1, none⟩ = false := by assumption
  go_wp2_with fail
  refine (A5.out _).mono ?_
  rintro e w5 ⟨rfl, hb5⟩
  have hB5 : Below w.heap.size w w5 := below_after (by go_grown) hb5
  have hz5 := hb5.size
  try simp only [World.size_alloc, World.size_setCell, World.size_drew] at hz5
  have hw5 := hB5.size
  replace c_c0 : w5.cell? ⟨w.heap.size, 0, none⟩ = some (.int .i64 t) := kp hb5 (by go_cell)
  replace c_c1 : w5.cell? ⟨w.heap.size, 1, none⟩ = some (.int .i64 lo) := kp hb5 (by go_cell)
  replace c_c2 : w5.cell? ⟨w.heap.size, 2, none⟩ = some (.int .i64 hi) := kp hb5 (by go_cell)
  replace c_c3 : w5.cell? ⟨w.heap.size, 3, none⟩ = some (.int .i64 dr) := kp hb5 (by go_cell)
  replace c_n0 : w5.cell? ⟨w.heap.size + 1, 0, none⟩ = some (.int .i64 sl) := kp hb5 (by go_cell)
  replace c_n1 : w5.cell? ⟨w.heap.size + 1, 1, none⟩ = some (.int .i64 sh) := kp hb5 (by go_cell)
  replace f_s0 : w5.frozen? ⟨w2.heap.size, 0, none⟩ = false := kf hb5 (by go_simp) (by go_simp)
  replace f_s1 : w5.frozen? ⟨w2.heap.size, 1, none⟩ = false := kf hb5 (by go_simp) (by go_simp)
  replace c_s0 : w5.cell? ⟨w2.heap.size, 0, none⟩ = some (.int .i64 x1) := kp hb5 (by go_cell)
  replace c_s1 : w5.cell? ⟨w2.heap.size, 1, none⟩ = some (.int .i64 y1) := kp hb5 (by go_cell)
  replace f_u0 : w5.frozen? ⟨w3.heap.size, 0, none⟩ = false := kf hb5 (by go_simp) (by go_simp)
  replace f_u1 : w5.frozen? ⟨w3.heap.size, 1, none⟩ = false := kf hb5 (by go_simp) (by go_simp)
  replace c_u0 : w5.cell? ⟨w3.heap.size, 0, none⟩ = some (.int .i64 x1) := kp hb5 (by go_cell)
  replace c_u1 : w5.cell? ⟨w3.heap.size, 1, none⟩ = some (.int .i64 y1) := kp hb5 (by go_cell)
  clear hb5 hB4
  go_wp2_with fail
  refine (A6.out _).mono ?_
  rintro e w6 ⟨rfl, hb6⟩
  have hB6 : Below w.heap.size w w6 := below_after (by go_grown) hb6
  have hz6 := hb6.size
  try simp only [World.size_alloc, World.size_setCell, World.size_drew] at hz6
  have hw6 := hB6.size
  replace c_c0 : w6.cell? ⟨w.heap.size, 0, none⟩ = some (.int .i64 t) := kp hb6 (by go_cell)
  replace c_c1 : w6.cell? ⟨w.heap.size, 1, none⟩ = some (.int .i64 lo) := kp hb6 (by go_cell)
  replace c_c2 : w6.cell? ⟨w.heap.size, 2, none⟩ = some (.int .i64 hi) := kp hb6 (by go_cell)
  replace c_c3 : w6.cell? ⟨w.heap.size, 3, none⟩ = some (.int .i64 dr) := kp hb6 (by go_cell)
  replace c_n0 : w6.cell? ⟨w.heap.size + 1, 0, none⟩ = some (.int .i64 sl) := kp hb6 (by go_cell)
  replace c_n1 : w6.cell? ⟨w.heap.size + 1, 1, none⟩ = some (.int .i64 sh) := kp hb6 (by go_cell)
  replace f_s0 : w6.frozen? ⟨w2.heap.size, 0, none⟩ = false := kf hb6 (by go_simp) (by go_simp)
  replace f_s1 : w6.frozen? ⟨w2.heap.size, 1, none⟩ = false := kf hb6 (by go_simp) (by go_simp)
  replace c_s0 : w6.cell? ⟨w2.heap.size, 0, none⟩ = some (.int .i64 x2) := kp hb6 (by go_cell)
  replace c_s1 : w6.cell? ⟨w2.heap.size, 1, none⟩ = some (.int .i64 y2) := kp hb6 (by go_cell)
  replace f_u0 : w6.frozen? ⟨w3.heap.size, 0, none⟩ = false := kf hb6 (by go_simp) (by go_simp)
  replace f_u1 : w6.frozen? ⟨w3.heap.size, 1, none⟩ = false := kf hb6 (by go_simp) (by go_simp)
  replace c_u0 : w6.cell? ⟨w3.heap.size, 0, none⟩ = some (.int .i64 x1) := kp hb6 (by go_cell)
  replace c_u1 : w6.cell? ⟨w3.heap.size, 1, none⟩ = some (.int .i64 y1) := kp hb6 (by go_cell)
  clear hb6 hB5
  go_wp2_with fail
  refine (A7.out _).mono ?_
  rintro e w7 ⟨rfl, hb7⟩
  have hB7 : Below w.heap.size w w7 := below_after (by go_grown) hb7
  have hz7 := hb7.size
  try simp only [World.size_alloc, World.size_setCell, World.size_drew] at hz7
  have hw7 := hB7.size
  replace c_c0 : w7.cell? ⟨w.heap.size, 0, none⟩ = some (.int .i64 t) := kp hb7 (by go_cell)
  replace c_c1 : w7.cell? ⟨w.heap.size, 1, none⟩ = some (.int .i64 lo) := kp hb7 (by go_cell)
  replace c_c2 : w7.cell? ⟨w.heap.size, 2, none⟩ = some (.int .i64 hi) := kp hb7 (by go_cell)
  replace c_c3 : w7.cell? ⟨w.heap.size, 3, none⟩ = some (.int .i64 dr) := kp hb7 (by go_cell)
  replace c_n0 : w7.cell? ⟨w.heap.size + 1, 0, none⟩ = some (.int .i64 sl) := kp hb7 (by go_cell)
  replace c_n1 : w7.cell? ⟨w.heap.size + 1, 1, none⟩ = some (.int .i64 sh) := kp hb7 (by go_cell)
  replace f_s0 : w7.frozen? ⟨w2.heap.size, 0, none⟩ = false := kf hb7 (by go_simp) (by go_simp)
  replace f_s1 : w7.frozen? ⟨w2.heap.size, 1, none⟩ = false := kf hb7 (by go_simp) (by go_simp)
  replace c_s0 : w7.cell? ⟨w2.heap.size, 0, none⟩ = some (.int .i64 x2) := kp hb7 (by go_cell)
  replace c_s1 : w7.cell? ⟨w2.heap.size, 1, none⟩ = some (.int .i64 y2) := kp hb7 (by go_cell)
  replace f_u0 : w7.frozen? ⟨w3.heap.size, 0, none⟩ = false := kf hb7 (by go_simp) (by go_simp)
  replace f_u1 : w7.frozen? ⟨w3.heap.size, 1, none⟩ = false := kf hb7 (by go_simp) (by go_simp)
  replace c_u0 : w7.cell? ⟨w3.heap.size, 0, none⟩ = some (.int .i64 x2) := kp hb7 (by go_cell)
  replace c_u1 : w7.cell? ⟨w3.heap.size, 1, none⟩ = some (.int .i64 y2) := kp hb7 (by go_cell)
  clear hb7 hB6
  go_wp2_with fail
  refine (A8.out _).mono ?_
  rintro e w8 ⟨rfl, hb8⟩
  have hB8 : Below w.heap.size w w8 := below_after (by go_grown) hb8
  have hz8 := hb8.size
  try simp only [World.size_alloc, World.size_setCell, World.size_drew] at hz8
  have hw8 := hB8.size
  replace c_c0 : w8.cell? ⟨w.heap.size, 0, none⟩ = some (.int .i64 t) := kp hb8 (by go_cell)
  replace c_c1 : w8.cell? ⟨w.heap.size, 1, none⟩ = some (.int .i64 lo) := kp hb8 (by go_cell)
  replace c_c2 : w8.cell? ⟨w.heap.size, 2, none⟩ = some (.int .i64 hi) := kp hb8 (by go_cell)
  replace c_c3 : w8.cell? ⟨w.heap.size, 3, none⟩ = some (.int .i64 dr) := kp hb8 (by go_cell)
  replace c_n0 : w8.cell? ⟨w.heap.size + 1, 0, none⟩ = some (.int .i64 sl) := kp hb8 (by go_cell)
  replace c_n1 : w8.cell? ⟨w.heap.size + 1, 1, none⟩ = some (.int .i64 sh) := kp hb8 (by go_cell)
  have c_p0 : w8.cell? ⟨w7.heap.size, 0, none⟩ = some (.int .i64 x3) := kp hb8 (by go_cell)
  have c_p1 : w8.cell? ⟨w7.heap.size, 1, none⟩ = some (.int .i64 y3) := kp hb8 (by go_cell)
  have c_p2 : w8.cell? ⟨w7.heap.size, 2, none⟩ = some (.int .i64 z3) := kp hb8 (by go_cell)
  have c_p3 : w8.cell? ⟨w7.heap.size, 3, none⟩ = some (.int .i64 u3) := kp hb8 (by go_cell)
  clear hb8 hB7
  go_wp2_with fail
  go_ret
  exact ⟨rfl, by go_grown⟩

end Go.Proofs.Ytollpjdnahemeaa
