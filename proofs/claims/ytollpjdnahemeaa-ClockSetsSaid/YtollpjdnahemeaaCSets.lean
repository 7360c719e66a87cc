import Derived.Test.YtollpjdnahemeaaCApart
import Derived.Deep.RegionHeld3
namespace Go.Proofs.Ytollpjdnahemeaa
open Go.RowKit
set_option linter.unusedSimpArgs false
set_option linter.unusedVariables false
attribute [local go_sem ↓] Go.wp_at_zero Go.wp_at_succ

theorem follows_below (dr a b n : Int) (w : World) (h1 : 0 ≤ n) (h2 : n ≤ 18446744073709551615) (h3 : 0 ≤ dr) (h4 : dr ≤ 1000) (ha : 0 ≤ a) (ha2 : a ≤ 1000000000) (hb : 0 ≤ b) (hb2 : b ≤ 1000000000) :
    Calls Try.prog 56 #[.int .i64 dr, .int .i64 a, .int .i64 b, .int .u64 n] w fun e w' => e = .returned (.int .i64 (n % (2 * (dr * max (a - b) (b - a) / 1000000) + 1) - dr * max (a - b) (b - a) / 1000000)) ∧ Below w.heap.size w w' :=
  (follows_any dr a b n w h1 h2 h3 h4 ha ha2 hb hb2).mono fun e w' h => ⟨h.1, h.2 ▸ Below.refl _ _⟩

set_option maxHeartbeats 1600000 in
set_option maxRecDepth 100000 in
theorem sets_no1 (t lo hi dr r sl sh o q n : Int) (w : World) (hp : setS t lo hi dr r sl sh = ((0, 0, 0, 0), false, 1)) :
    Calls Try.prog 13 #[.agg #[.int .i64 t, .int .i64 lo, .int .i64 hi, .int .i64 dr], .int .i64 r, .agg #[.int .i64 sl, .int .i64 sh], .int .i64 o, .int .u64 q, .int .u64 n] w fun e w' => e = .returned (.bool true) ∧ Below w.heap.size w w' := by
  have v1 := fun w => Set_any t lo hi dr r sl sh w
  rw [hp] at v1
  have H1 := Lib.hid v1
  clear v1 hp
  go_enter Try.func13, Try.ntmps13
  go_wp2_with fail
  refine (head14_any _).mono ?_
  rintro e w1 ⟨rfl, hb1⟩
  have hB1 : Below w.heap.size w w1 := below_after (by go_grown) hb1
  have hz1 := hb1.size
  try simp only [World.size_alloc, World.size_setCell, World.size_drew] at hz1
  have hw1 := hB1.size
  have c_c0 : w1.cell? ⟨w.heap.size, 0, none⟩ = some (.int .i64 t) := kp hb1 (by go_cell)
  have c_c1 : w1.cell? ⟨w.heap.size, 1, none⟩ = some (.int .i64 lo) := kp hb1 (by go_cell)
  have c_c2 : w1.cell? ⟨w.heap.size, 2, none⟩ = some (.int .i64 hi) := kp hb1 (by go_cell)
  have c_c3 : w1.cell? ⟨w.heap.size, 3, none⟩ = some (.int .i64 dr) := kp hb1 (by go_cell)
  have c_n0 : w1.cell? ⟨w.heap.size + 1, 0, none⟩ = some (.int .i64 sl) := kp hb1 (by go_cell)
  have c_n1 : w1.cell? ⟨w.heap.size + 1, 1, none⟩ = some (.int .i64 sh) := kp hb1 (by go_cell)
  clear hb1
  go_wp2_with fail
  refine (H1.out _).mono ?_
  rintro e w2 ⟨rfl, hb2⟩
  have hB2 : Below w.heap.size w w2 := below_after (by go_grown) hb2
  have hz2 := hb2.size
  try simp only [World.size_alloc, World.size_setCell, World.size_drew] at hz2
  have hw2 := hB2.size
  replace c_c0 : w2.cell? ⟨w.heap.size, 0, none⟩ = some (.int .i64 t) := kp hb2 (by go_cell)
  replace c_c1 : w2.cell? ⟨w.heap.size, 1, none⟩ = some (.int .i64 lo) := kp hb2 (by go_cell)
  replace c_c2 : w2.cell? ⟨w.heap.size, 2, none⟩ = some (.int .i64 hi) := kp hb2 (by go_cell)
  replace c_c3 : w2.cell? ⟨w.heap.size, 3, none⟩ = some (.int .i64 dr) := kp hb2 (by go_cell)
  replace c_n0 : w2.cell? ⟨w.heap.size + 1, 0, none⟩ = some (.int .i64 sl) := kp hb2 (by go_cell)
  replace c_n1 : w2.cell? ⟨w.heap.size + 1, 1, none⟩ = some (.int .i64 sh) := kp hb2 (by go_cell)
  clear hb2 hB1
  go_wp2_with fail
  go_ret
  exact ⟨rfl, by go_grown⟩

set_option maxHeartbeats 1600000 in
set_option maxRecDepth 100000 in
theorem sets_no3 (t lo hi dr r sl sh o q n : Int) (w : World) (hp : setS t lo hi dr r sl sh = ((0, 0, 0, 0), false, 3)) :
    Calls Try.prog 13 #[.agg #[.int .i64 t, .int .i64 lo, .int .i64 hi, .int .i64 dr], .int .i64 r, .agg #[.int .i64 sl, .int .i64 sh], .int .i64 o, .int .u64 q, .int .u64 n] w fun e w' => e = .returned (.bool true) ∧ Below w.heap.size w w' := by
  have v1 := fun w => Set_any t lo hi dr r sl sh w
  rw [hp] at v1
  have H1 := Lib.hid v1
  clear v1 hp
  go_enter Try.func13, Try.ntmps13
  go_wp2_with fail
  refine (head14_any _).mono ?_
  rintro e w1 ⟨rfl, hb1⟩
  have hB1 : Below w.heap.size w w1 := below_after (by go_grown) hb1
  have hz1 := hb1.size
  try simp only [World.size_alloc, World.size_setCell, World.size_drew] at hz1
  have hw1 := hB1.size
  have c_c0 : w1.cell? ⟨w.heap.size, 0, none⟩ = some (.int .i64 t) := kp hb1 (by go_cell)
  have c_c1 : w1.cell? ⟨w.heap.size, 1, none⟩ = some (.int .i64 lo) := kp hb1 (by go_cell)
  have c_c2 : w1.cell? ⟨w.heap.size, 2, none⟩ = some (.int .i64 hi) := kp hb1 (by go_cell)
  have c_c3 : w1.cell? ⟨w.heap.size, 3, none⟩ = some (.int .i64 dr) := kp hb1 (by go_cell)
  have c_n0 : w1.cell? ⟨w.heap.size + 1, 0, none⟩ = some (.int .i64 sl) := kp hb1 (by go_cell)
  have c_n1 : w1.cell? ⟨w.heap.size + 1, 1, none⟩ = some (.int .i64 sh) := kp hb1 (by go_cell)
  clear hb1
  go_wp2_with fail
  refine (H1.out _).mono ?_
  rintro e w2 ⟨rfl, hb2⟩
  have hB2 : Below w.heap.size w w2 := below_after (by go_grown) hb2
  have hz2 := hb2.size
  try simp only [World.size_alloc, World.size_setCell, World.size_drew] at hz2
  have hw2 := hB2.size
  replace c_c0 : w2.cell? ⟨w.heap.size, 0, none⟩ = some (.int .i64 t) := kp hb2 (by go_cell)
  replace c_c1 : w2.cell? ⟨w.heap.size, 1, none⟩ = some (.int .i64 lo) := kp hb2 (by go_cell)
  replace c_c2 : w2.cell? ⟨w.heap.size, 2, none⟩ = some (.int .i64 hi) := kp hb2 (by go_cell)
  replace c_c3 : w2.cell? ⟨w.heap.size, 3, none⟩ = some (.int .i64 dr) := kp hb2 (by go_cell)
  replace c_n0 : w2.cell? ⟨w.heap.size + 1, 0, none⟩ = some (.int .i64 sl) := kp hb2 (by go_cell)
  replace c_n1 : w2.cell? ⟨w.heap.size + 1, 1, none⟩ = some (.int .i64 sh) := kp hb2 (by go_cell)
  clear hb2 hB1
  go_wp2_with fail
  go_ret
  exact ⟨rfl, by go_grown⟩

set_option maxHeartbeats 1600000 in
set_option maxRecDepth 100000 in
theorem sets_no0 (t lo hi dr r sl sh o q n : Int) (w : World) (hp : setS t lo hi dr r sl sh = ((0, 0, 0, 0), false, 0)) :
    Calls Try.prog 13 #[.agg #[.int .i64 t, .int .i64 lo, .int .i64 hi, .int .i64 dr], .int .i64 r, .agg #[.int .i64 sl, .int .i64 sh], .int .i64 o, .int .u64 q, .int .u64 n] w fun e w' => e = .returned (.bool true) ∧ Below w.heap.size w w' := by
  have v1 := fun w => Set_any t lo hi dr r sl sh w
  rw [hp] at v1
  have H1 := Lib.hid v1
  clear v1 hp
  go_enter Try.func13, Try.ntmps13
  go_wp2_with fail
  refine (head14_any _).mono ?_
  rintro e w1 ⟨rfl, hb1⟩
  have hB1 : Below w.heap.size w w1 := below_after (by go_grown) hb1
  have hz1 := hb1.size
  try simp only [World.size_alloc, World.size_setCell, World.size_drew] at hz1
  have hw1 := hB1.size
  have c_c0 : w1.cell? ⟨w.heap.size, 0, none⟩ = some (.int .i64 t) := kp hb1 (by go_cell)
  have c_c1 : w1.cell? ⟨w.heap.size, 1, none⟩ = some (.int .i64 lo) := kp hb1 (by go_cell)
  have c_c2 : w1.cell? ⟨w.heap.size, 2, none⟩ = some (.int .i64 hi) := kp hb1 (by go_cell)
  have c_c3 : w1.cell? ⟨w.heap.size, 3, none⟩ = some (.int .i64 dr) := kp hb1 (by go_cell)
  have c_n0 : w1.cell? ⟨w.heap.size + 1, 0, none⟩ = some (.int .i64 sl) := kp hb1 (by go_cell)
  have c_n1 : w1.cell? ⟨w.heap.size + 1, 1, none⟩ = some (.int .i64 sh) := kp hb1 (by go_cell)
  clear hb1
  go_wp2_with fail
  refine (H1.out _).mono ?_
  rintro e w2 ⟨rfl, hb2⟩
  have hB2 : Below w.heap.size w w2 := below_after (by go_grown) hb2
  have hz2 := hb2.size
  try simp only [World.size_alloc, World.size_setCell, World.size_drew] at hz2
  have hw2 := hB2.size
  replace c_c0 : w2.cell? ⟨w.heap.size, 0, none⟩ = some (.int .i64 t) := kp hb2 (by go_cell)
  replace c_c1 : w2.cell? ⟨w.heap.size, 1, none⟩ = some (.int .i64 lo) := kp hb2 (by go_cell)
  replace c_c2 : w2.cell? ⟨w.heap.size, 2, none⟩ = some (.int .i64 hi) := kp hb2 (by go_cell)
  replace c_c3 : w2.cell? ⟨w.heap.size, 3, none⟩ = some (.int .i64 dr) := kp hb2 (by go_cell)
  replace c_n0 : w2.cell? ⟨w.heap.size + 1, 0, none⟩ = some (.int .i64 sl) := kp hb2 (by go_cell)
  replace c_n1 : w2.cell? ⟨w.heap.size + 1, 1, none⟩ = some (.int .i64 sh) := kp hb2 (by go_cell)
  clear hb2 hB1
  go_wp2_with fail
  go_ret
  exact ⟨rfl, by go_grown⟩

set_option maxHeartbeats 1600000 in
set_option maxRecDepth 100000 in
theorem sets_un (t lo hi dr r sl sh o q n : Int) (w : World) (m1 m2 : Int) (h1 : clkB t lo hi dr = true) (h2 : readB r = true) (hp : setS t lo hi dr r sl sh = ((r, m1 - r, m2 - r, dr), true, 0)) (hm : meetS (atLo t lo dr r) (atHi t hi dr r) sl sh = (m1, m2, true, 0)) (hd : clkB r (m1 - r) (m2 - r) dr = true) (h3 : readB o = false) :
    Calls Try.prog 13 #[.agg #[.int .i64 t, .int .i64 lo, .int .i64 hi, .int .i64 dr], .int .i64 r, .agg #[.int .i64 sl, .int .i64 sh], .int .i64 o, .int .u64 q, .int .u64 n] w fun e w' => e = .returned (.bool true) ∧ Below w.heap.size w w' := by
  have v1 := fun w => Set_any t lo hi dr r sl sh w
  rw [hp] at v1
  have v2 := fun w => RCValid_any t lo hi dr w
  rw [h1] at v2
  have v3 := fun w => True_any t lo hi dr r w
  rw [trueS_ok (by rw [h1, h2]; rfl)] at v3
  have v4 := fun w => Meet_any (atLo t lo dr r) (atHi t hi dr r) sl sh w
  rw [hm] at v4
  have v5 := fun w => True_any r (m1 - r) (m2 - r) dr r w
  rw [trueS_own hd, show r + (m1 - r) = m1 by omega, show r + (m2 - r) = m2 by omega] at v5
  have v6 := fun w => CValid_any r (m1 - r) (m2 - r) dr w
  rw [hd] at v6
  have v7 := fun w => True_any r (m1 - r) (m2 - r) dr o w
  have kk := clkB_bounds hd
  obtain ⟨k1, k2, k3, k4, k5, k6, k7⟩ := kk
  have hle : ¬ m2 < m1 := by omega
  rw [trueS_no (by rw [hd, h3]; rfl)] at v7
  generalize atLo t lo dr r = x at *
  generalize atHi t hi dr r = y at *
  have H1 := Lib.hid v1
  have H2 := Lib.hid v2
  have H3 := Lib.hid v3
  have H4 := Lib.hid v4
  have H5 := Lib.hid v5
  have H6 := Lib.hid v6
  have H7 := Lib.hid v7
  clear v1 v2 v3 v4 v5 v6 v7 h1 h2 h3 hp hm hd
  go_enter Try.func13, Try.ntmps13
  go_wp2_with fail
  refine (head14_any _).mono ?_
  rintro e w1 ⟨rfl, hb1⟩
  have hB1 : Below w.heap.size w w1 := below_after (by go_grown) hb1
  have hz1 := hb1.size
  try simp only [World.size_alloc, World.size_setCell, World.size_drew] at hz1
  have hw1 := hB1.size
  have c_c0 : w1.cell? ⟨w.heap.size, 0, none⟩ = some (.int .i64 t) := kp hb1 (by go_cell)
  have c_c1 : w1.cell? ⟨w.heap.size, 1, none⟩ = some (.int .i64 lo) := kp hb1 (by go_cell)
  have c_c2 : w1.cell? ⟨w.heap.size, 2, none⟩ = some (.int .i64 hi) := kp hb1 (by go_cell)
  have c_c3 : w1.cell? ⟨w.heap.size, 3, none⟩ = some (.int .i64 dr) := kp hb1 (by go_cell)
  have c_n0 : w1.cell? ⟨w.heap.size + 1, 0, none⟩ = some (.int .i64 sl) := kp hb1 (by go_cell)
  have c_n1 : w1.cell? ⟨w.heap.size + 1, 1, none⟩ = some (.int .i64 sh) := kp hb1 (by go_cell)
  clear hb1
  go_wp2_with fail
  refine (H1.out _).mono ?_
  rintro e w2 ⟨rfl, hb2⟩
  have hB2 : Below w.heap.size w w2 := below_after (by go_grown) hb2
  have hz2 := hb2.size
  try simp only [World.size_alloc, World.size_setCell, World.size_drew] at hz2
  have hw2 := hB2.size
  replace c_c0 : w2.cell? ⟨w.heap.size, 0, none⟩ = some (.int .i64 t) := kp hb2 (by go_cell)
  replace c_c1 : w2.cell? ⟨w.heap.size, 1, none⟩ = some (.int .i64 lo) := kp hb2 (by go_cell)
  replace c_c2 : w2.cell? ⟨w.heap.size, 2, none⟩ = some (.int .i64 hi) := kp hb2 (by go_cell)
  replace c_c3 : w2.cell? ⟨w.heap.size, 3, none⟩ = some (.int .i64 dr) := kp hb2 (by go_cell)
  replace c_n0 : w2.cell? ⟨w.heap.size + 1, 0, none⟩ = some (.int .i64 sl) := kp hb2 (by go_cell)
  replace c_n1 : w2.cell? ⟨w.heap.size + 1, 1, none⟩ = some (.int .i64 sh) := kp hb2 (by go_cell)
  clear hb2 hB1
  go_wp2_with fail
  refine (H2.out _).mono ?_
  rintro e w3 ⟨rfl, hb3⟩
  have hB3 : Below w.heap.size w w3 := below_after (by go_grown) hb3
  have hz3 := hb3.size
  try simp only [World.size_alloc, World.size_setCell, World.size_drew] at hz3
  have hw3 := hB3.size
  replace c_c0 : w3.cell? ⟨w.heap.size, 0, none⟩ = some (.int .i64 t) := kp hb3 (by go_cell)
  replace c_c1 : w3.cell? ⟨w.heap.size, 1, none⟩ = some (.int .i64 lo) := kp hb3 (by go_cell)
  replace c_c2 : w3.cell? ⟨w.heap.size, 2, none⟩ = some (.int .i64 hi) := kp hb3 (by go_cell)
  replace c_c3 : w3.cell? ⟨w.heap.size, 3, none⟩ = some (.int .i64 dr) := kp hb3 (by go_cell)
  replace c_n0 : w3.cell? ⟨w.heap.size + 1, 0, none⟩ = some (.int .i64 sl) := kp hb3 (by go_cell)
  replace c_n1 : w3.cell? ⟨w.heap.size + 1, 1, none⟩ = some (.int .i64 sh) := kp hb3 (by go_cell)
  have c_d0 : w3.cell? ⟨w2.heap.size, 0, none⟩ = some (.int .i64 r) := kp hb3 (by go_cell)
  have c_d1 : w3.cell? ⟨w2.heap.size, 1, none⟩ = some (.int .i64 ((m1 - r))) := kp hb3 (by go_cell)
  have c_d2 : w3.cell? ⟨w2.heap.size, 2, none⟩ = some (.int .i64 ((m2 - r))) := kp hb3 (by go_cell)
  have c_d3 : w3.cell? ⟨w2.heap.size, 3, none⟩ = some (.int .i64 dr) := kp hb3 (by go_cell)
  clear hb3 hB2
  go_wp2_with fail
  refine (H3.out _).mono ?_
  rintro e w4 ⟨rfl, hb4⟩
  have hB4 : Below w.heap.size w w4 := below_after (by go_grown) hb4
  have hz4 := hb4.size
  try simp only [World.size_alloc, World.size_setCell, World.size_drew] at hz4
  have hw4 := hB4.size
  replace c_c0 : w4.cell? ⟨w.heap.size, 0, none⟩ = some (.int .i64 t) := kp hb4 (by go_cell)
  replace c_c1 : w4.cell? ⟨w.heap.size, 1, none⟩ = some (.int .i64 lo) := kp hb4 (by go_cell)
  replace c_c2 : w4.cell? ⟨w.heap.size, 2, none⟩ = some (.int .i64 hi) := kp hb4 (by go_cell)
  replace c_c3 : w4.cell? ⟨w.heap.size, 3, none⟩ = some (.int .i64 dr) := kp hb4 (by go_cell)
  replace c_n0 : w4.cell? ⟨w.heap.size + 1, 0, none⟩ = some (.int .i64 sl) := kp hb4 (by go_cell)
  replace c_n1 : w4.cell? ⟨w.heap.size + 1, 1, none⟩ = some (.int .i64 sh) := kp hb4 (by go_cell)
  replace c_d0 : w4.cell? ⟨w2.heap.size, 0, none⟩ = some (.int .i64 r) := kp hb4 (by go_cell)
  replace c_d1 : w4.cell? ⟨w2.heap.size, 1, none⟩ = some (.int .i64 ((m1 - r))) := kp hb4 (by go_cell)
  replace c_d2 : w4.cell? ⟨w2.heap.size, 2, none⟩ = some (.int .i64 ((m2 - r))) := kp hb4 (by go_cell)
  replace c_d3 : w4.cell? ⟨w2.heap.size, 3, none⟩ = some (.int .i64 dr) := kp hb4 (by go_cell)
  clear hb4 hB3
  go_wp2_with fail
  refine (H4.out _).mono ?_
  rintro e w5 ⟨rfl, hb5⟩
  have hB5 : Below w.heap.size w w5 := below_after (by go_grown) hb5
  have hz5 := hb5.size
  try simp only [World.size_alloc, World.size_setCell, World.size_drew] at hz5
  have hw5 := hB5.size
  replace c_c0 : w5.cell? ⟨w.heap.size, 0, none⟩ = some (.int .i64 t) := kp hb5 (by go_cell)
  replace c_c1 : w5.cell? ⟨w.heap.size, 1, none⟩ = some (.int .i64 lo) := kp hb5 (by go_cell)
  replace c_c2 : w5.cell? ⟨w.heap.size, 2, none⟩ = some (.int .i64 hi) := kp hb5 (by go_cell)
  replace c_c3 : w5.cell? ⟨w.heap.size, 3, none⟩ = some (.int .i64 dr) := kp hb5 (by go_cell)
  replace c_n0 : w5.cell? ⟨w.heap.size + 1, 0, none⟩ = some (.int .i64 sl) := kp hb5 (by go_cell)
  replace c_n1 : w5.cell? ⟨w.heap.size + 1, 1, none⟩ = some (.int .i64 sh) := kp hb5 (by go_cell)
  replace c_d0 : w5.cell? ⟨w2.heap.size, 0, none⟩ = some (.int .i64 r) := kp hb5 (by go_cell)
  replace c_d1 : w5.cell? ⟨w2.heap.size, 1, none⟩ = some (.int .i64 ((m1 - r))) := kp hb5 (by go_cell)
  replace c_d2 : w5.cell? ⟨w2.heap.size, 2, none⟩ = some (.int .i64 ((m2 - r))) := kp hb5 (by go_cell)
  replace c_d3 : w5.cell? ⟨w2.heap.size, 3, none⟩ = some (.int .i64 dr) := kp hb5 (by go_cell)
  have c_s0 : w5.cell? ⟨w4.heap.size, 0, none⟩ = some (.int .i64 x) := kp hb5 (by go_cell)
  have c_s1 : w5.cell? ⟨w4.heap.size, 1, none⟩ = some (.int .i64 y) := kp hb5 (by go_cell)
  clear hb5 hB4
  go_wp2_with fail
  refine (H5.out _).mono ?_
  rintro e w6 ⟨rfl, hb6⟩
  have hB6 : Below w.heap.size w w6 := below_after (by go_grown) hb6
  have hz6 := hb6.size
  try simp only [World.size_alloc, World.size_setCell, World.size_drew] at hz6
  have hw6 := hB6.size
  replace c_c0 : w6.cell? ⟨w.heap.size, 0, none⟩ = some (.int .i64 t) := kp hb6 (by go_cell)
  replace c_c1 : w6.cell? ⟨w.heap.size, 1, none⟩ = some (.int .i64 lo) := kp hb6 (by go_cell)
  replace c_c2 : w6.cell? ⟨w.heap.size, 2, none⟩ = some (.int .i64 hi) := kp hb6 (by go_cell)
  replace c_c3 : w6.cell? ⟨w.heap.size, 3, none⟩ = some (.int .i64 dr) := kp hb6 (by go_cell)
  replace c_d0 : w6.cell? ⟨w2.heap.size, 0, none⟩ = some (.int .i64 r) := kp hb6 (by go_cell)
  replace c_d1 : w6.cell? ⟨w2.heap.size, 1, none⟩ = some (.int .i64 ((m1 - r))) := kp hb6 (by go_cell)
  replace c_d2 : w6.cell? ⟨w2.heap.size, 2, none⟩ = some (.int .i64 ((m2 - r))) := kp hb6 (by go_cell)
  replace c_d3 : w6.cell? ⟨w2.heap.size, 3, none⟩ = some (.int .i64 dr) := kp hb6 (by go_cell)
  have c_b0 : w6.cell? ⟨w5.heap.size, 0, none⟩ = some (.int .i64 m1) := kp hb6 (by go_cell)
  have c_b1 : w6.cell? ⟨w5.heap.size, 1, none⟩ = some (.int .i64 m2) := kp hb6 (by go_cell)
  clear hb6 hB5
  go_wp2_with fail
  refine (H6.out _).mono ?_
  rintro e w7 ⟨rfl, hb7⟩
  have hB7 : Below w.heap.size w w7 := below_after (by go_grown) hb7
  have hz7 := hb7.size
  try simp only [World.size_alloc, World.size_setCell, World.size_drew] at hz7
  have hw7 := hB7.size
  replace c_c0 : w7.cell? ⟨w.heap.size, 0, none⟩ = some (.int .i64 t) := kp hb7 (by go_cell)
  replace c_c1 : w7.cell? ⟨w.heap.size, 1, none⟩ = some (.int .i64 lo) := kp hb7 (by go_cell)
  replace c_c2 : w7.cell? ⟨w.heap.size, 2, none⟩ = some (.int .i64 hi) := kp hb7 (by go_cell)
  replace c_c3 : w7.cell? ⟨w.heap.size, 3, none⟩ = some (.int .i64 dr) := kp hb7 (by go_cell)
  replace c_d0 : w7.cell? ⟨w2.heap.size, 0, none⟩ = some (.int .i64 r) := kp hb7 (by go_cell)
  replace c_d1 : w7.cell? ⟨w2.heap.size, 1, none⟩ = some (.int .i64 ((m1 - r))) := kp hb7 (by go_cell)
  replace c_d2 : w7.cell? ⟨w2.heap.size, 2, none⟩ = some (.int .i64 ((m2 - r))) := kp hb7 (by go_cell)
  replace c_d3 : w7.cell? ⟨w2.heap.size, 3, none⟩ = some (.int .i64 dr) := kp hb7 (by go_cell)
  replace c_b0 : w7.cell? ⟨w5.heap.size, 0, none⟩ = some (.int .i64 m1) := kp hb7 (by go_cell)
  replace c_b1 : w7.cell? ⟨w5.heap.size, 1, none⟩ = some (.int .i64 m2) := kp hb7 (by go_cell)
  have c_e0 : w7.cell? ⟨w6.heap.size, 0, none⟩ = some (.int .i64 m1) := kp hb7 (by go_cell)
  have c_e1 : w7.cell? ⟨w6.heap.size, 1, none⟩ = some (.int .i64 m2) := kp hb7 (by go_cell)
  clear hb7 hB6
  go_wp2_with fail
  refine (H7.out _).mono ?_
  rintro e w8 ⟨rfl, hb8⟩
  have hB8 : Below w.heap.size w w8 := below_after (by go_grown) hb8
  have hz8 := hb8.size
  try simp only [World.size_alloc, World.size_setCell, World.size_drew] at hz8
  have hw8 := hB8.size
  replace c_c0 : w8.cell? ⟨w.heap.size, 0, none⟩ = some (.int .i64 t) := kp hb8 (by go_cell)
  replace c_c1 : w8.cell? ⟨w.heap.size, 1, none⟩ = some (.int .i64 lo) := kp hb8 (by go_cell)
  replace c_c2 : w8.cell? ⟨w.heap.size, 2, none⟩ = some (.int .i64 hi) := kp hb8 (by go_cell)
  replace c_c3 : w8.cell? ⟨w.heap.size, 3, none⟩ = some (.int .i64 dr) := kp hb8 (by go_cell)
  replace c_d0 : w8.cell? ⟨w2.heap.size, 0, none⟩ = some (.int .i64 r) := kp hb8 (by go_cell)
  replace c_d1 : w8.cell? ⟨w2.heap.size, 1, none⟩ = some (.int .i64 ((m1 - r))) := kp hb8 (by go_cell)
  replace c_d2 : w8.cell? ⟨w2.heap.size, 2, none⟩ = some (.int .i64 ((m2 - r))) := kp hb8 (by go_cell)
  replace c_d3 : w8.cell? ⟨w2.heap.size, 3, none⟩ = some (.int .i64 dr) := kp hb8 (by go_cell)
  replace c_b0 : w8.cell? ⟨w5.heap.size, 0, none⟩ = some (.int .i64 m1) := kp hb8 (by go_cell)
  replace c_b1 : w8.cell? ⟨w5.heap.size, 1, none⟩ = some (.int .i64 m2) := kp hb8 (by go_cell)
  clear hb8 hB7
  go_wp2_with fail
  go_ret
  exact ⟨rfl, by go_grown⟩

set_option maxHeartbeats 1600000 in
set_option maxRecDepth 100000 in
theorem sets_yes (t lo hi dr r sl sh o q n : Int) (w : World) (hq0 : 0 ≤ q) (hq1 : q ≤ 18446744073709551615) (hn0 : 0 ≤ n) (hn1 : n ≤ 18446744073709551615) (m1 m2 : Int) (h1 : clkB t lo hi dr = true) (h2 : readB r = true) (hp : setS t lo hi dr r sl sh = ((r, m1 - r, m2 - r, dr), true, 0)) (hm : meetS (atLo t lo dr r) (atHi t hi dr r) sl sh = (m1, m2, true, 0)) (hd : clkB r (m1 - r) (m2 - r) dr = true) (h3 : readB o = true) :
    Calls Try.prog 13 #[.agg #[.int .i64 t, .int .i64 lo, .int .i64 hi, .int .i64 dr], .int .i64 r, .agg #[.int .i64 sl, .int .i64 sh], .int .i64 o, .int .u64 q, .int .u64 n] w fun e w' => e = .returned (.bool true) ∧ Below w.heap.size w w' := by
  have v1 := fun w => Set_any t lo hi dr r sl sh w
  rw [hp] at v1
  have v2 := fun w => RCValid_any t lo hi dr w
  rw [h1] at v2
  have v3 := fun w => True_any t lo hi dr r w
  rw [trueS_ok (by rw [h1, h2]; rfl)] at v3
  have v4 := fun w => Meet_any (atLo t lo dr r) (atHi t hi dr r) sl sh w
  rw [hm] at v4
  have v5 := fun w => True_any r (m1 - r) (m2 - r) dr r w
  rw [trueS_own hd, show r + (m1 - r) = m1 by omega, show r + (m2 - r) = m2 by omega] at v5
  have v6 := fun w => CValid_any r (m1 - r) (m2 - r) dr w
  rw [hd] at v6
  have v7 := fun w => True_any r (m1 - r) (m2 - r) dr o w
  have kk := clkB_bounds hd
  obtain ⟨k1, k2, k3, k4, k5, k6, k7⟩ := kk
  have hle : ¬ m2 < m1 := by omega
  rw [trueS_ok (by rw [hd, h3]; rfl)] at v7
  obtain ⟨t1, t2, r1, r2, o1, o2, o3⟩ := clkB_bounds h1
  obtain ⟨q1, q2⟩ := readB_bounds h2
  obtain ⟨q3, q4⟩ := readB_bounds h3
  have v8 := fun w => follows_below dr r o n w hn0 hn1 r1 r2 q1 q2 q3 q4
  obtain ⟨p1, p2⟩ := prod_clk (d := dr) (g := max (r - o) (o - r)) r1 r2 (by omega) (by omega)
  obtain ⟨a1, a2⟩ := wrongI_bounds hd h3
  have a3 : dr * max (r - o) (o - r) / 1000000 ≤ wrongI r dr o := by
    rw [wrongI, show max (o - r) (r - o) = max (r - o) (o - r) by omega]; omega
  have a4 : 0 ≤ dr * max (r - o) (o - r) / 1000000 := by omega
  have el : atLo r (m1 - r) dr o = o + (m1 - r) - wrongI r dr o := rfl
  have eh : atHi r (m2 - r) dr o = o + (m2 - r) + wrongI r dr o := rfl
  generalize dr * max (r - o) (o - r) / 1000000 = d at *
  generalize wrongI r dr o = z at *
  have j1 : 0 ≤ n % (2 * d + 1) := Int.emod_nonneg _ (by omega)
  have j2 : n % (2 * d + 1) < 2 * d + 1 := Int.emod_lt_of_pos _ (by omega)
  have j3 : 0 ≤ q % (m2 - m1 + 1) := Int.emod_nonneg _ (by omega)
  have j4 : q % (m2 - m1 + 1) < m2 - m1 + 1 := Int.emod_lt_of_pos _ (by omega)
  generalize hp9 : q % (m2 - m1 + 1) = p at *
  have f1 : -1000000 ≤ n % (2 * d + 1) - d := by omega
  have f2 : n % (2 * d + 1) - d ≤ 1000000 := by omega
  have v9 := fun w => In_any (atLo r (m1 - r) dr o) (atHi r (m2 - r) dr o) (m1 + p + o - r + (n % (2 * d + 1) - d)) w
  rw [show (decide (atLo r (m1 - r) dr o ≤ m1 + p + o - r + (n % (2 * d + 1) - d)) && decide (m1 + p + o - r + (n % (2 * d + 1) - d) ≤ atHi r (m2 - r) dr o)) = true by simp; omega] at v9
  generalize n % (2 * d + 1) - d = fo at *
  generalize atLo r (m1 - r) dr o = X2 at *
  generalize atHi r (m2 - r) dr o = Y2 at *
  generalize atLo t lo dr r = x at *
  generalize atHi t hi dr r = y at *
  have H1 := Lib.hid v1
  have H2 := Lib.hid v2
  have H3 := Lib.hid v3
  have H4 := Lib.hid v4
  have H5 := Lib.hid v5
  have H6 := Lib.hid v6
  have H7 := Lib.hid v7
  have H8 := Lib.hid v8
  have H9 := Lib.hid v9
  clear v1 v2 v3 v4 v5 v6 v7 v8 v9 h1 h2 h3 hp hm hd el eh a3 a4 j1 j2
  go_enter Try.func13, Try.ntmps13
  go_wp2_with fail
  refine (head14_any _).mono ?_
  rintro e w1 ⟨rfl, hb1⟩
  have hB1 : Below w.heap.size w w1 := below_after (by go_grown) hb1
  have hz1 := hb1.size
  try simp only [World.size_alloc, World.size_setCell, World.size_drew] at hz1
  have hw1 := hB1.size
  have c_c0 : w1.cell? ⟨w.heap.size, 0, none⟩ = some (.int .i64 t) := kp hb1 (by go_cell)
  have c_c1 : w1.cell? ⟨w.heap.size, 1, none⟩ = some (.int .i64 lo) := kp hb1 (by go_cell)
  have c_c2 : w1.cell? ⟨w.heap.size, 2, none⟩ = some (.int .i64 hi) := kp hb1 (by go_cell)
  have c_c3 : w1.cell? ⟨w.heap.size, 3, none⟩ = some (.int .i64 dr) := kp hb1 (by go_cell)
  have c_n0 : w1.cell? ⟨w.heap.size + 1, 0, none⟩ = some (.int .i64 sl) := kp hb1 (by go_cell)
  have c_n1 : w1.cell? ⟨w.heap.size + 1, 1, none⟩ = some (.int .i64 sh) := kp hb1 (by go_cell)
  clear hb1
  go_wp2_with fail
  refine (H1.out _).mono ?_
  rintro e w2 ⟨rfl, hb2⟩
  have hB2 : Below w.heap.size w w2 := below_after (by go_grown) hb2
  have hz2 := hb2.size
  try simp only [World.size_alloc, World.size_setCell, World.size_drew] at hz2
  have hw2 := hB2.size
  replace c_c0 : w2.cell? ⟨w.heap.size, 0, none⟩ = some (.int .i64 t) := kp hb2 (by go_cell)
  replace c_c1 : w2.cell? ⟨w.heap.size, 1, none⟩ = some (.int .i64 lo) := kp hb2 (by go_cell)
  replace c_c2 : w2.cell? ⟨w.heap.size, 2, none⟩ = some (.int .i64 hi) := kp hb2 (by go_cell)
  replace c_c3 : w2.cell? ⟨w.heap.size, 3, none⟩ = some (.int .i64 dr) := kp hb2 (by go_cell)
  replace c_n0 : w2.cell? ⟨w.heap.size + 1, 0, none⟩ = some (.int .i64 sl) := kp hb2 (by go_cell)
  replace c_n1 : w2.cell? ⟨w.heap.size + 1, 1, none⟩ = some (.int .i64 sh) := kp hb2 (by go_cell)
  clear hb2 hB1
  go_wp2_with fail
  refine (H2.out _).mono ?_
  rintro e w3 ⟨rfl, hb3⟩
  have hB3 : Below w.heap.size w w3 := below_after (by go_grown) hb3
  have hz3 := hb3.size
  try simp only [World.size_alloc, World.size_setCell, World.size_drew] at hz3
  have hw3 := hB3.size
  replace c_c0 : w3.cell? ⟨w.heap.size, 0, none⟩ = some (.int .i64 t) := kp hb3 (by go_cell)
  replace c_c1 : w3.cell? ⟨w.heap.size, 1, none⟩ = some (.int .i64 lo) := kp hb3 (by go_cell)
  replace c_c2 : w3.cell? ⟨w.heap.size, 2, none⟩ = some (.int .i64 hi) := kp hb3 (by go_cell)
  replace c_c3 : w3.cell? ⟨w.heap.size, 3, none⟩ = some (.int .i64 dr) := kp hb3 (by go_cell)
  replace c_n0 : w3.cell? ⟨w.heap.size + 1, 0, none⟩ = some (.int .i64 sl) := kp hb3 (by go_cell)
  replace c_n1 : w3.cell? ⟨w.heap.size + 1, 1, none⟩ = some (.int .i64 sh) := kp hb3 (by go_cell)
  have c_d0 : w3.cell? ⟨w2.heap.size, 0, none⟩ = some (.int .i64 r) := kp hb3 (by go_cell)
  have c_d1 : w3.cell? ⟨w2.heap.size, 1, none⟩ = some (.int .i64 ((m1 - r))) := kp hb3 (by go_cell)
  have c_d2 : w3.cell? ⟨w2.heap.size, 2, none⟩ = some (.int .i64 ((m2 - r))) := kp hb3 (by go_cell)
  have c_d3 : w3.cell? ⟨w2.heap.size, 3, none⟩ = some (.int .i64 dr) := kp hb3 (by go_cell)
  clear hb3 hB2
  go_wp2_with fail
  refine (H3.out _).mono ?_
  rintro e w4 ⟨rfl, hb4⟩
  have hB4 : Below w.heap.size w w4 := below_after (by go_grown) hb4
  have hz4 := hb4.size
  try simp only [World.size_alloc, World.size_setCell, World.size_drew] at hz4
  have hw4 := hB4.size
  replace c_c0 : w4.cell? ⟨w.heap.size, 0, none⟩ = some (.int .i64 t) := kp hb4 (by go_cell)
  replace c_c1 : w4.cell? ⟨w.heap.size, 1, none⟩ = some (.int .i64 lo) := kp hb4 (by go_cell)
  replace c_c2 : w4.cell? ⟨w.heap.size, 2, none⟩ = some (.int .i64 hi) := kp hb4 (by go_cell)
  replace c_c3 : w4.cell? ⟨w.heap.size, 3, none⟩ = some (.int .i64 dr) := kp hb4 (by go_cell)
  replace c_n0 : w4.cell? ⟨w.heap.size + 1, 0, none⟩ = some (.int .i64 sl) := kp hb4 (by go_cell)
  replace c_n1 : w4.cell? ⟨w.heap.size + 1, 1, none⟩ = some (.int .i64 sh) := kp hb4 (by go_cell)
  replace c_d0 : w4.cell? ⟨w2.heap.size, 0, none⟩ = some (.int .i64 r) := kp hb4 (by go_cell)
  replace c_d1 : w4.cell? ⟨w2.heap.size, 1, none⟩ = some (.int .i64 ((m1 - r))) := kp hb4 (by go_cell)
  replace c_d2 : w4.cell? ⟨w2.heap.size, 2, none⟩ = some (.int .i64 ((m2 - r))) := kp hb4 (by go_cell)
  replace c_d3 : w4.cell? ⟨w2.heap.size, 3, none⟩ = some (.int .i64 dr) := kp hb4 (by go_cell)
  clear hb4 hB3
  go_wp2_with fail
  refine (H4.out _).mono ?_
  rintro e w5 ⟨rfl, hb5⟩
  have hB5 : Below w.heap.size w w5 := below_after (by go_grown) hb5
  have hz5 := hb5.size
  try simp only [World.size_alloc, World.size_setCell, World.size_drew] at hz5
  have hw5 := hB5.size
  replace c_c0 : w5.cell? ⟨w.heap.size, 0, none⟩ = some (.int .i64 t) := kp hb5 (by go_cell)
  replace c_c1 : w5.cell? ⟨w.heap.size, 1, none⟩ = some (.int .i64 lo) := kp hb5 (by go_cell)
  replace c_c2 : w5.cell? ⟨w.heap.size, 2, none⟩ = some (.int .i64 hi) := kp hb5 (by go_cell)
  replace c_c3 : w5.cell? ⟨w.heap.size, 3, none⟩ = some (.int .i64 dr) := kp hb5 (by go_cell)
  replace c_n0 : w5.cell? ⟨w.heap.size + 1, 0, none⟩ = some (.int .i64 sl) := kp hb5 (by go_cell)
  replace c_n1 : w5.cell? ⟨w.heap.size + 1, 1, none⟩ = some (.int .i64 sh) := kp hb5 (by go_cell)
  replace c_d0 : w5.cell? ⟨w2.heap.size, 0, none⟩ = some (.int .i64 r) := kp hb5 (by go_cell)
  replace c_d1 : w5.cell? ⟨w2.heap.size, 1, none⟩ = some (.int .i64 ((m1 - r))) := kp hb5 (by go_cell)
  replace c_d2 : w5.cell? ⟨w2.heap.size, 2, none⟩ = some (.int .i64 ((m2 - r))) := kp hb5 (by go_cell)
  replace c_d3 : w5.cell? ⟨w2.heap.size, 3, none⟩ = some (.int .i64 dr) := kp hb5 (by go_cell)
  have c_s0 : w5.cell? ⟨w4.heap.size, 0, none⟩ = some (.int .i64 x) := kp hb5 (by go_cell)
  have c_s1 : w5.cell? ⟨w4.heap.size, 1, none⟩ = some (.int .i64 y) := kp hb5 (by go_cell)
  clear hb5 hB4
  go_wp2_with fail
  refine (H5.out _).mono ?_
  rintro e w6 ⟨rfl, hb6⟩
  have hB6 : Below w.heap.size w w6 := below_after (by go_grown) hb6
  have hz6 := hb6.size
  try simp only [World.size_alloc, World.size_setCell, World.size_drew] at hz6
  have hw6 := hB6.size
  replace c_c0 : w6.cell? ⟨w.heap.size, 0, none⟩ = some (.int .i64 t) := kp hb6 (by go_cell)
  replace c_c1 : w6.cell? ⟨w.heap.size, 1, none⟩ = some (.int .i64 lo) := kp hb6 (by go_cell)
  replace c_c2 : w6.cell? ⟨w.heap.size, 2, none⟩ = some (.int .i64 hi) := kp hb6 (by go_cell)
  replace c_c3 : w6.cell? ⟨w.heap.size, 3, none⟩ = some (.int .i64 dr) := kp hb6 (by go_cell)
  replace c_d0 : w6.cell? ⟨w2.heap.size, 0, none⟩ = some (.int .i64 r) := kp hb6 (by go_cell)
  replace c_d1 : w6.cell? ⟨w2.heap.size, 1, none⟩ = some (.int .i64 ((m1 - r))) := kp hb6 (by go_cell)
  replace c_d2 : w6.cell? ⟨w2.heap.size, 2, none⟩ = some (.int .i64 ((m2 - r))) := kp hb6 (by go_cell)
  replace c_d3 : w6.cell? ⟨w2.heap.size, 3, none⟩ = some (.int .i64 dr) := kp hb6 (by go_cell)
  have c_b0 : w6.cell? ⟨w5.heap.size, 0, none⟩ = some (.int .i64 m1) := kp hb6 (by go_cell)
  have c_b1 : w6.cell? ⟨w5.heap.size, 1, none⟩ = some (.int .i64 m2) := kp hb6 (by go_cell)
  clear hb6 hB5
  go_wp2_with fail
  refine (H6.out _).mono ?_
  rintro e w7 ⟨rfl, hb7⟩
  have hB7 : Below w.heap.size w w7 := below_after (by go_grown) hb7
  have hz7 := hb7.size
  try simp only [World.size_alloc, World.size_setCell, World.size_drew] at hz7
  have hw7 := hB7.size
  replace c_c0 : w7.cell? ⟨w.heap.size, 0, none⟩ = some (.int .i64 t) := kp hb7 (by go_cell)
  replace c_c1 : w7.cell? ⟨w.heap.size, 1, none⟩ = some (.int .i64 lo) := kp hb7 (by go_cell)
  replace c_c2 : w7.cell? ⟨w.heap.size, 2, none⟩ = some (.int .i64 hi) := kp hb7 (by go_cell)
  replace c_c3 : w7.cell? ⟨w.heap.size, 3, none⟩ = some (.int .i64 dr) := kp hb7 (by go_cell)
  replace c_d0 : w7.cell? ⟨w2.heap.size, 0, none⟩ = some (.int .i64 r) := kp hb7 (by go_cell)
  replace c_d1 : w7.cell? ⟨w2.heap.size, 1, none⟩ = some (.int .i64 ((m1 - r))) := kp hb7 (by go_cell)
  replace c_d2 : w7.cell? ⟨w2.heap.size, 2, none⟩ = some (.int .i64 ((m2 - r))) := kp hb7 (by go_cell)
  replace c_d3 : w7.cell? ⟨w2.heap.size, 3, none⟩ = some (.int .i64 dr) := kp hb7 (by go_cell)
  replace c_b0 : w7.cell? ⟨w5.heap.size, 0, none⟩ = some (.int .i64 m1) := kp hb7 (by go_cell)
  replace c_b1 : w7.cell? ⟨w5.heap.size, 1, none⟩ = some (.int .i64 m2) := kp hb7 (by go_cell)
  have c_e0 : w7.cell? ⟨w6.heap.size, 0, none⟩ = some (.int .i64 m1) := kp hb7 (by go_cell)
  have c_e1 : w7.cell? ⟨w6.heap.size, 1, none⟩ = some (.int .i64 m2) := kp hb7 (by go_cell)
  clear hb7 hB6
  go_wp2_with fail
  refine (H7.out _).mono ?_
  rintro e w8 ⟨rfl, hb8⟩
  have hB8 : Below w.heap.size w w8 := below_after (by go_grown) hb8
  have hz8 := hb8.size
  try simp only [World.size_alloc, World.size_setCell, World.size_drew] at hz8
  have hw8 := hB8.size
  replace c_c0 : w8.cell? ⟨w.heap.size, 0, none⟩ = some (.int .i64 t) := kp hb8 (by go_cell)
  replace c_c1 : w8.cell? ⟨w.heap.size, 1, none⟩ = some (.int .i64 lo) := kp hb8 (by go_cell)
  replace c_c2 : w8.cell? ⟨w.heap.size, 2, none⟩ = some (.int .i64 hi) := kp hb8 (by go_cell)
  replace c_c3 : w8.cell? ⟨w.heap.size, 3, none⟩ = some (.int .i64 dr) := kp hb8 (by go_cell)
  replace c_d0 : w8.cell? ⟨w2.heap.size, 0, none⟩ = some (.int .i64 r) := kp hb8 (by go_cell)
  replace c_d1 : w8.cell? ⟨w2.heap.size, 1, none⟩ = some (.int .i64 ((m1 - r))) := kp hb8 (by go_cell)
  replace c_d2 : w8.cell? ⟨w2.heap.size, 2, none⟩ = some (.int .i64 ((m2 - r))) := kp hb8 (by go_cell)
  replace c_d3 : w8.cell? ⟨w2.heap.size, 3, none⟩ = some (.int .i64 dr) := kp hb8 (by go_cell)
  replace c_b0 : w8.cell? ⟨w5.heap.size, 0, none⟩ = some (.int .i64 m1) := kp hb8 (by go_cell)
  replace c_b1 : w8.cell? ⟨w5.heap.size, 1, none⟩ = some (.int .i64 m2) := kp hb8 (by go_cell)
  clear hb8 hB7
  go_wp2_with fail
  go_quiet (fail)
  have hB9 : Below w.heap.size w (World.drewN (w8.alloc (.cells #[.int .i64 X2, .int .i64 Y2] 23)) nq) := bdn (by go_grown) _
  have c_c0_q : (World.drewN (w8.alloc (.cells #[.int .i64 X2, .int .i64 Y2] 23)) nq).cell? ⟨w.heap.size, 0, none⟩ = some (.int .i64 t) := by go_cell
  have c_c1_q : (World.drewN (w8.alloc (.cells #[.int .i64 X2, .int .i64 Y2] 23)) nq).cell? ⟨w.heap.size, 1, none⟩ = some (.int .i64 lo) := by go_cell
  have c_c2_q : (World.drewN (w8.alloc (.cells #[.int .i64 X2, .int .i64 Y2] 23)) nq).cell? ⟨w.heap.size, 2, none⟩ = some (.int .i64 hi) := by go_cell
  have c_c3_q : (World.drewN (w8.alloc (.cells #[.int .i64 X2, .int .i64 Y2] 23)) nq).cell? ⟨w.heap.size, 3, none⟩ = some (.int .i64 dr) := by go_cell
  clear c_c0 c_c1 c_c2 c_c3
  have c_b0_q : (World.drewN (w8.alloc (.cells #[.int .i64 X2, .int .i64 Y2] 23)) nq).cell? ⟨w5.heap.size, 0, none⟩ = some (.int .i64 m1) := by go_cell
  have c_b1_q : (World.drewN (w8.alloc (.cells #[.int .i64 X2, .int .i64 Y2] 23)) nq).cell? ⟨w5.heap.size, 1, none⟩ = some (.int .i64 m2) := by go_cell
  clear c_b0 c_b1
  have c_u0_q : (World.drewN (w8.alloc (.cells #[.int .i64 X2, .int .i64 Y2] 23)) nq).cell? ⟨w8.heap.size, 0, none⟩ = some (.int .i64 X2) := by go_cell
  have c_u1_q : (World.drewN (w8.alloc (.cells #[.int .i64 X2, .int .i64 Y2] 23)) nq).cell? ⟨w8.heap.size, 1, none⟩ = some (.int .i64 Y2) := by go_cell
  generalize World.drewN (w8.alloc (.cells #[.int .i64 X2, .int .i64 Y2] 23)) nq = w9 at *
  have c_c0 := c_c0_q
  have c_c1 := c_c1_q
  have c_c2 := c_c2_q
  have c_c3 := c_c3_q
  clear c_c0_q c_c1_q c_c2_q c_c3_q
  have c_b0 := c_b0_q
  have c_b1 := c_b1_q
  clear c_b0_q c_b1_q
  have c_u0 := c_u0_q
  have c_u1 := c_u1_q
  clear c_u0_q c_u1_q
  have hw9 := hB9.size
  go_wp2_with fail
  have hwr0 : IntKind.i64.wrap (m1 + p + o) = m1 + p + o := IntWalk.i64_in _ (by omega)
  have hwr1 : IntKind.i64.wrap (m1 + p + o - r) = m1 + p + o - r := IntWalk.i64_in _ (by omega)
  have hwr2 : IntKind.i64.wrap (m1 + p + o - r + fo) = m1 + p + o - r + fo := IntWalk.i64_in _ (by omega)
  go_region_held3 (fun w' => Below w.heap.size w w' ∧ w'.cell? ⟨w.heap.size, 0, none⟩ = some (.int .i64 t) ∧ w'.cell? ⟨w.heap.size, 1, none⟩ = some (.int .i64 lo) ∧ w'.cell? ⟨w.heap.size, 2, none⟩ = some (.int .i64 hi) ∧ w'.cell? ⟨w.heap.size, 3, none⟩ = some (.int .i64 dr) ∧ w'.cell? ⟨w8.heap.size, 0, none⟩ = some (.int .i64 X2) ∧ w'.cell? ⟨w8.heap.size, 1, none⟩ = some (.int .i64 Y2))
    ((go_split_ands; refine ⟨?_, ?_, ?_, ?_, ?_, ?_, ?_⟩; (focus (first | (with_reducible assumption) | (go_grown; done) | (exact Below.drew (by go_grown)))); (focus (first | (with_reducible assumption) | go_cell | (go_simp; done))); (focus (first | (with_reducible assumption) | go_cell | (go_simp; done))); (focus (first | (with_reducible assumption) | go_cell | (go_simp; done))); (focus (first | (with_reducible assumption) | go_cell | (go_simp; done))); (focus (first | (with_reducible assumption) | go_cell | (go_simp; done))); (focus (first | (with_reducible assumption) | go_cell | (go_simp; done)))))
    (first | (go_at_call 56; (with_reducible refine (H8.out _).mono ?_); rintro e xa ⟨rfl, hba⟩; have hB_xa : Below w.heap.size w xa := below_after (by go_grown) hba; have hw_xa := hB_xa.size; have hz_xa := hba.size; (try simp only [World.size_alloc, World.size_setCell, World.size_drew] at hz_xa); have c_c0_xa : xa.cell? ⟨w.heap.size, 0, none⟩ = some (.int .i64 t) := kp hba (by go_cell); have c_c1_xa : xa.cell? ⟨w.heap.size, 1, none⟩ = some (.int .i64 lo) := kp hba (by go_cell); have c_c2_xa : xa.cell? ⟨w.heap.size, 2, none⟩ = some (.int .i64 hi) := kp hba (by go_cell); have c_c3_xa : xa.cell? ⟨w.heap.size, 3, none⟩ = some (.int .i64 dr) := kp hba (by go_cell); have c_u0_xa : xa.cell? ⟨w8.heap.size, 0, none⟩ = some (.int .i64 X2) := kp hba (by go_cell); have c_u1_xa : xa.cell? ⟨w8.heap.size, 1, none⟩ = some (.int .i64 Y2) := kp hba (by go_cell)) | (go_at_call 31; (with_reducible refine (H9.out _).mono ?_); rintro e xb ⟨rfl, hbb⟩; have hB_xb : Below w.heap.size w xb := below_after (by go_grown) hbb; have hw_xb := hB_xb.size; have hz_xb := hbb.size; (try simp only [World.size_alloc, World.size_setCell, World.size_drew] at hz_xb); have c_c0_xb : xb.cell? ⟨w.heap.size, 0, none⟩ = some (.int .i64 t) := kp hbb (by go_cell); have c_c1_xb : xb.cell? ⟨w.heap.size, 1, none⟩ = some (.int .i64 lo) := kp hbb (by go_cell); have c_c2_xb : xb.cell? ⟨w.heap.size, 2, none⟩ = some (.int .i64 hi) := kp hbb (by go_cell); have c_c3_xb : xb.cell? ⟨w.heap.size, 3, none⟩ = some (.int .i64 dr) := kp hbb (by go_cell); have c_u0_xb : xb.cell? ⟨w8.heap.size, 0, none⟩ = some (.int .i64 X2) := kp hbb (by go_cell); have c_u1_xb : xb.cell? ⟨w8.heap.size, 1, none⟩ = some (.int .i64 Y2) := kp hbb (by go_cell)))
  all_goals clear hwr0 hwr1 hwr2
  all_goals go_split_ands
  all_goals go_wp2_with fail
  all_goals go_ret
  all_goals exact ⟨rfl, by assumption⟩

theorem sets_walk (t lo hi dr r sl sh o q n : Int) (w : World) (hq0 : 0 ≤ q) (hq1 : q ≤ 18446744073709551615) (hn0 : 0 ≤ n) (hn1 : n ≤ 18446744073709551615) :
    Calls Try.prog 13 #[.agg #[.int .i64 t, .int .i64 lo, .int .i64 hi, .int .i64 dr], .int .i64 r, .agg #[.int .i64 sl, .int .i64 sh], .int .i64 o, .int .u64 q, .int .u64 n] w fun e w' => e = .returned (.bool true) ∧ Below w.heap.size w w' := by
  cases h : (clkB t lo hi dr && readB r && vld sl sh)
  · exact sets_no1 t lo hi dr r sl sh o q n w (by rw [setS, h]; rfl)
  · have h1 := and_left (and_left h)
    have h2 := and_right (and_left h)
    have h3 := and_right h
    have b := atLo_bounds h1 h2
    have b2 := vld_bounds h3
    by_cases hc : min (atHi t hi dr r) sh < max (atLo t lo dr r) sl
    · exact sets_no0 t lo hi dr r sl sh o q n w (by rw [setS, h, if_pos rfl, if_pos hc])
    · have hm : meetS (atLo t lo dr r) (atHi t hi dr r) sl sh = (max (atLo t lo dr r) sl, min (atHi t hi dr r) sh, true, 0) := by
        have hv : (vld (atLo t lo dr r) (atHi t hi dr r) && vld sl sh) = true := by rw [h3, Bool.and_true]; simp [vld]; omega
        rw [meetS, hv, if_pos rfl, if_neg hc]
      cases hn : clkB r (max (atLo t lo dr r) sl - r) (min (atHi t hi dr r) sh - r) dr
      · exact sets_no3 t lo hi dr r sl sh o q n w (by rw [setS, h, if_pos rfl, if_neg hc, hn]; rfl)
      · have hp : setS t lo hi dr r sl sh = ((r, max (atLo t lo dr r) sl - r, min (atHi t hi dr r) sh - r, dr), true, 0) := by rw [setS, h, if_pos rfl, if_neg hc, hn, if_pos rfl]
        cases h4 : readB o
        · exact sets_un t lo hi dr r sl sh o q n w _ _ h1 h2 hp hm hn h4
        · exact sets_yes t lo hi dr r sl sh o q n w hq0 hq1 hn0 hn1 _ _ h1 h2 hp hm hn h4
end Go.Proofs.Ytollpjdnahemeaa
