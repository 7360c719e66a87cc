import Derived.Test.YtollpjdnahemeaaCOrder
import Derived.StillTailTactics
import Derived.BigRegion
namespace Go.Proofs.Ytollpjdnahemeaa
open Go.RowKit
set_option linter.unusedSimpArgs false
set_option linter.unusedVariables false
attribute [local go_sem ↓] Go.wp_at_zero Go.wp_at_succ

set_option maxHeartbeats 1600000 in
set_option maxRecDepth 100000 in
theorem better_no (t lo hi dr ls l h r : Int) (w : World) (h1 : (clkB t lo hi dr && readB r) = false) :
    Calls Try.prog 15 #[.agg #[.int .i64 t, .int .i64 lo, .int .i64 hi, .int .i64 dr], .int .u16 ls, .int .u32 l, .int .u32 h, .int .i64 r] w fun e w' => e = .returned (.bool true) ∧ Below w.heap.size w w' := by
  have v1 := fun w => True_any t lo hi dr r w
  rw [trueS_no h1] at v1
  have H1 := Lib.hid v1
  clear v1 h1
  go_enter Try.func15, Try.ntmps15
  go_wp2_with fail
  refine (head14_any _).mono ?_
  rintro e w1 ⟨rfl, hb1⟩
  have hB1 : Below w.heap.size w w1 := below_after (by go_grown) hb1
  have hz1 := hb1.size
  try simp only [World.size_alloc, World.size_setCell, World.size_drew] at hz1
  have hw1 := hB1.size
  have c_c0 : w1.cell? ⟨w.heap.size, 0, none⟩ = some (.int .i64 t) := kp hb1 (by go_cell)
  have c_c1 : w1.cell? ⟨w.heap.size, 1, none⟩ = some (.int .i64 lo) := kp hb1 (by go_cell)
  have c_c2 : w1.cell? ⟨w.heap.size, 2, none⟩ = some (.int .i64 hi) := kp hb1 (by go_cell)
  have c_c3 : w1.cell? ⟨w.heap.size, 3, none⟩ = some (.int .i64 dr) := kp hb1 (by go_cell)
  clear hb1
  go_wp2_with fail
  refine (H1.out _).mono ?_
  rintro e w2 ⟨rfl, hb2⟩
  have hB2 : Below w.heap.size w w2 := below_after (by go_grown) hb2
  have hz2 := hb2.size
  try simp only [World.size_alloc, World.size_setCell, World.size_drew] at hz2
  have hw2 := hB2.size
  replace c_c0 : w2.cell? ⟨w.heap.size, 0, none⟩ = some (.int .i64 t) := kp hb2 (by go_cell)
  replace c_c1 : w2.cell? ⟨w.heap.size, 1, none⟩ = some (.int .i64 lo) := kp hb2 (by go_cell)
  replace c_c2 : w2.cell? ⟨w.heap.size, 2, none⟩ = some (.int .i64 hi) := kp hb2 (by go_cell)
  replace c_c3 : w2.cell? ⟨w.heap.size, 3, none⟩ = some (.int .i64 dr) := kp hb2 (by go_cell)
  clear hb2 hB1
  go_wp2_with fail
  go_ret
  exact ⟨rfl, by go_grown⟩

set_option maxHeartbeats 1600000 in
set_option maxRecDepth 100000 in
theorem better_yes (t lo hi dr ls l h r : Int) (w : World) (b1 : 0 ≤ ls) (b2 : ls ≤ 65535) (b3 : 0 ≤ l) (b4 : l ≤ 4294967295) (b5 : 0 ≤ h) (b6 : h ≤ 4294967295) (h1 : (clkB t lo hi dr && readB r) = true) :
    Calls Try.prog 15 #[.agg #[.int .i64 t, .int .i64 lo, .int .i64 hi, .int .i64 dr], .int .u16 ls, .int .u32 l, .int .u32 h, .int .i64 r] w fun e w' => e = .returned (.bool true) ∧ Below w.heap.size w w' := by
  have h2 := and_left h1
  have h3 := and_right h1
  obtain ⟨t1, t2, r1, r2, o1, o2, o3⟩ := clkB_bounds h2
  obtain ⟨q1, q2⟩ := readB_bounds h3
  have v1 := fun w => True_any t lo hi dr r w
  rw [trueS_ok h1] at v1
  have v2 := fun w => RCValid_any t lo hi dr w
  rw [h2] at v2
  have d1 : 0 ≤ ls % (dr + 1) := Int.emod_nonneg _ (by omega)
  have d2 : ls % (dr + 1) < dr + 1 := Int.emod_lt_of_pos _ (by omega)
  have p1 : 0 ≤ l % (hi - lo + 1) := Int.emod_nonneg _ (by omega)
  have p2 : l % (hi - lo + 1) < hi - lo + 1 := Int.emod_lt_of_pos _ (by omega)
  generalize hd : ls % (dr + 1) = d at *
  generalize hp : l % (hi - lo + 1) = p at *
  have k1 : 0 ≤ h % (hi - (lo + p) + 1) := Int.emod_nonneg _ (by omega)
  have k2 : h % (hi - (lo + p) + 1) < hi - (lo + p) + 1 := Int.emod_lt_of_pos _ (by omega)
  generalize hk : h % (hi - (lo + p) + 1) = k at *
  have hc : (clkB t (lo + p) (hi - k) d && readB r) = true := by rw [h3, Bool.and_true]; simp only [clkB, readB, vld, Bool.and_eq_true, decide_eq_true_eq]; omega
  have v3 := fun w => True_any t (lo + p) (hi - k) d r w
  rw [trueS_ok hc] at v3
  have g1 : wrongI t d r ≤ wrongI t dr r := by
    have : d * max (r - t) (t - r) ≤ dr * max (r - t) (t - r) := Int.mul_le_mul_of_nonneg_right (by omega) (by omega)
    unfold wrongI; omega
  have g2 : atLo t lo dr r ≤ atLo t (lo + p) d r := by unfold atLo; omega
  have g3 : atHi t (hi - k) d r ≤ atHi t hi dr r := by unfold atHi; omega
  have v4 := fun w => Within_any (atLo t (lo + p) d r) (atHi t (hi - k) d r) (atLo t lo dr r) (atHi t hi dr r) w
  rw [show (decide (atLo t lo dr r ≤ atLo t (lo + p) d r) && decide (atHi t (hi - k) d r ≤ atHi t hi dr r)) = true by simp; omega] at v4
  generalize atLo t lo dr r = x at *
  generalize atHi t hi dr r = y at *
  generalize atLo t (lo + p) d r = x2 at *
  generalize atHi t (hi - k) d r = y2 at *
  have H1 := Lib.hid v1
  have H2 := Lib.hid v2
  have H3 := Lib.hid v3
  have H4 := Lib.hid v4
  clear v1 v2 v3 v4 h1 h2 h3 hc g1 g2 g3
  go_enter Try.func15, Try.ntmps15
  go_wp2_with fail
  refine (head14_any _).mono ?_
  rintro e w1 ⟨rfl, hb1⟩
  have hB1 : Below w.heap.size w w1 := below_after (by go_grown) hb1
  have hz1 := hb1.size
  try simp only [World.size_alloc, World.size_setCell, World.size_drew] at hz1
  have hw1 := hB1.size
  have c_c0 : w1.cell? ⟨w.heap.size, 0, none⟩ = some (.int .i64 t) := kp hb1 (by go_cell)
  have c_c1 : w1.cell? ⟨w.heap.size, 1, none⟩ = some (.int .i64 lo) := kp hb1 (by go_cell)
  have c_c2 : w1.cell? ⟨w.heap.size, 2, none⟩ = some (.int .i64 hi) := kp hb1 (by go_cell)
  have c_c3 : w1.cell? ⟨w.heap.size, 3, none⟩ = some (.int .i64 dr) := kp hb1 (by go_cell)
  clear hb1
  go_wp2_with fail
  refine (H1.out _).mono ?_
  rintro e w2 ⟨rfl, hb2⟩
  have hB2 : Below w.heap.size w w2 := below_after (by go_grown) hb2
  have hz2 := hb2.size
  try simp only [World.size_alloc, World.size_setCell, World.size_drew] at hz2
  have hw2 := hB2.size
  replace c_c0 : w2.cell? ⟨w.heap.size, 0, none⟩ = some (.int .i64 t) := kp hb2 (by go_cell)
  replace c_c1 : w2.cell? ⟨w.heap.size, 1, none⟩ = some (.int .i64 lo) := kp hb2 (by go_cell)
  replace c_c2 : w2.cell? ⟨w.heap.size, 2, none⟩ = some (.int .i64 hi) := kp hb2 (by go_cell)
  replace c_c3 : w2.cell? ⟨w.heap.size, 3, none⟩ = some (.int .i64 dr) := kp hb2 (by go_cell)
  clear hb2 hB1
  go_wp2_with fail
  refine (H2.out _).mono ?_
  rintro e w3 ⟨rfl, hb3⟩
  have hB3 : Below w.heap.size w w3 := below_after (by go_grown) hb3
  have hz3 := hb3.size
  try simp only [World.size_alloc, World.size_setCell, World.size_drew] at hz3
  have hw3 := hB3.size
  replace c_c0 : w3.cell? ⟨w.heap.size, 0, none⟩ = some (.int .i64 t) := kp hb3 (by go_cell)
  replace c_c1 : w3.cell? ⟨w.heap.size, 1, none⟩ = some (.int .i64 lo) := kp hb3 (by go_cell)
  replace c_c2 : w3.cell? ⟨w.heap.size, 2, none⟩ = some (.int .i64 hi) := kp hb3 (by go_cell)
  replace c_c3 : w3.cell? ⟨w.heap.size, 3, none⟩ = some (.int .i64 dr) := kp hb3 (by go_cell)
  have c_s0 : w3.cell? ⟨w2.heap.size, 0, none⟩ = some (.int .i64 x) := kp hb3 (by go_cell)
  have c_s1 : w3.cell? ⟨w2.heap.size, 1, none⟩ = some (.int .i64 y) := kp hb3 (by go_cell)
  clear hb3 hB2
  go_wp2_with fail
  have wr1 : IntKind.i64.wrap (hi - lo) = hi - lo := IntWalk.i64_in _ (by omega)
  have wr2 : IntKind.i64.wrap (hi - lo + 1) = hi - lo + 1 := IntWalk.i64_in _ (by omega)
  have wr3 : IntKind.i64.wrap (lo + p) = lo + p := IntWalk.i64_in _ (by omega)
  have wr4 : l.tmod (hi - lo + 1) = p := by rw [Int.tmod_eq_emod_of_nonneg b3]; exact hp
  have wr5 : IntKind.i64.wrap p = p := IntWalk.i64_in _ (by omega)
  go_region
  clear wr1 wr2 wr3 wr4 wr5
  go_wp2_with fail
  have wr1 : IntKind.i64.wrap (hi - (lo + p)) = hi - (lo + p) := IntWalk.i64_in _ (by omega)
  have wr2 : IntKind.i64.wrap (hi - (lo + p) + 1) = hi - (lo + p) + 1 := IntWalk.i64_in _ (by omega)
  have wr3 : IntKind.i64.wrap (hi - k) = hi - k := IntWalk.i64_in _ (by omega)
  have wr4 : h.tmod (hi - (lo + p) + 1) = k := by rw [Int.tmod_eq_emod_of_nonneg b5]; exact hk
  have wr5 : IntKind.i64.wrap k = k := IntWalk.i64_in _ (by omega)
  go_region
  clear wr1 wr2 wr3 wr4 wr5 hd hp hk
  go_wp2_with fail
  refine (H3.out _).mono ?_
  rintro e w4 ⟨rfl, hb4⟩
  have hB4 : Below w.heap.size w w4 := below_after (by go_grown) hb4
  have hz4 := hb4.size
  try simp only [World.size_alloc, World.size_setCell, World.size_drew] at hz4
  have hw4 := hB4.size
  replace c_s0 : w4.cell? ⟨w2.heap.size, 0, none⟩ = some (.int .i64 x) := kp hb4 (by go_cell)
  replace c_s1 : w4.cell? ⟨w2.heap.size, 1, none⟩ = some (.int .i64 y) := kp hb4 (by go_cell)
  have c_d0 : w4.cell? ⟨w3.heap.size, 0, none⟩ = some (.int .i64 t) := kp hb4 (by go_cell)
  have c_d1 : w4.cell? ⟨w3.heap.size, 1, none⟩ = some (.int .i64 ((lo + p))) := kp hb4 (by go_cell)
  have c_d2 : w4.cell? ⟨w3.heap.size, 2, none⟩ = some (.int .i64 ((hi - k))) := kp hb4 (by go_cell)
  have c_d3 : w4.cell? ⟨w3.heap.size, 3, none⟩ = some (.int .i64 d) := kp hb4 (by go_cell)
  clear hb4 hB3
  go_wp2_with fail
  refine (H4.out _).mono ?_
  rintro e w5 ⟨rfl, hb5⟩
  have hB5 : Below w.heap.size w w5 := below_after (by go_grown) hb5
  have hz5 := hb5.size
  try simp only [World.size_alloc, World.size_setCell, World.size_drew] at hz5
  have hw5 := hB5.size
  replace c_s0 : w5.cell? ⟨w2.heap.size, 0, none⟩ = some (.int .i64 x) := kp hb5 (by go_cell)
  replace c_s1 : w5.cell? ⟨w2.heap.size, 1, none⟩ = some (.int .i64 y) := kp hb5 (by go_cell)
  have c_e0 : w5.cell? ⟨w4.heap.size, 0, none⟩ = some (.int .i64 x2) := kp hb5 (by go_cell)
  have c_e1 : w5.cell? ⟨w4.heap.size, 1, none⟩ = some (.int .i64 y2) := kp hb5 (by go_cell)
  clear hb5 hB4
  go_wp2_with fail
  go_ret
  exact ⟨rfl, by go_grown⟩

theorem better_walk (t lo hi dr ls l h r : Int) (w : World) (b1 : 0 ≤ ls) (b2 : ls ≤ 65535) (b3 : 0 ≤ l) (b4 : l ≤ 4294967295) (b5 : 0 ≤ h) (b6 : h ≤ 4294967295) :
    Calls Try.prog 15 #[.agg #[.int .i64 t, .int .i64 lo, .int .i64 hi, .int .i64 dr], .int .u16 ls, .int .u32 l, .int .u32 h, .int .i64 r] w fun e w' => e = .returned (.bool true) ∧ Below w.heap.size w w' := by
  cases h1 : (clkB t lo hi dr && readB r)
  · exact better_no t lo hi dr ls l h r w h1
  · exact better_yes t lo hi dr ls l h r w b1 b2 b3 b4 b5 b6 h1
end Go.Proofs.Ytollpjdnahemeaa
