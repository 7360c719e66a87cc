import Derived.Test.YtollpjdnahemeaaQ16
namespace Go.Proofs.Ytollpjdnahemeaa
open Go.RowKit Go.Shelf
set_option linter.unusedSimpArgs false
set_option linter.unusedVariables false
attribute [local go_sem ↓] Go.wp_at_zero Go.wp_at_succ

theorem tmod4 (w : Int) : -3 ≤ w.tmod 4 ∧ w.tmod 4 ≤ 3 := by
  rcases Int.le_total 0 w with h | h
  · rw [Int.tmod_eq_emod_of_nonneg h]; omega
  · have e : w.tmod 4 = -((-w).tmod 4) := by rw [Int.neg_tmod, Int.neg_neg]
    rw [e, Int.tmod_eq_emod_of_nonneg (by omega)]; omega
theorem ans_plain {xs : List Wt} {ct clo chi cdr dl dh sent there back tlo thi dv r4 d : Int} (hs : (wValid xs && depB dl dh) = true) (hc : clkB ct clo chi cdr = true) (ht : timB tlo thi = true) (hse : readB sent = true)
    (a1 : 0 ≤ there) (a2 : there ≤ 20000) (b1 : 0 ≤ back) (b2 : back ≤ 20000) (v1 : tlo ≤ dv) (v2 : dv ≤ thi) (r1 : -3 ≤ r4) (r2 : r4 ≤ 3)
    (g1 : 0 ≤ there + back + dv + r4) (g2 : there + back + dv + r4 ≤ 1000000000) (w1 : -(cdr * (there + back + dv + r4) / 1000000) ≤ r4) (w2 : r4 ≤ cdr * (there + back + dv + r4) / 1000000)
    (d1 : max (-(-((speedP dl dh xs).1 * there) / 1000)) (-(-((speedP dl dh xs).1 * back) / 1000)) ≤ d) (d2 : d ≤ min ((speedP dl dh xs).2 * there / 1000) ((speedP dl dh xs).2 * back / 1000)) :
    (∃ e, twoS xs ct clo chi cdr dl dh sent (sent + (there + back + dv + r4)) tlo thi = (0, 0, e) ∧ (e = 3 ∨ (e = 1 ∧ 1000000000 < sent + (there + back + dv + r4)))) ∨
    ∃ x1 x2, twoS xs ct clo chi cdr dl dh sent (sent + (there + back + dv + r4)) tlo thi = (x1, x2, 0) ∧ x1 ≤ d ∧ d ≤ x2 := by
  have ⟨o1, o2, o3⟩ := speedP_ok (and_left hs) (and_right hs)
  have cb := clkB_bounds hc
  have tb := (timB_iff tlo thi).1 ht
  have sb := readB_bounds hse
  generalize hg : there + back + dv + r4 = g at *
  by_cases hmax : 1000000000 < sent + g
  · refine .inl ⟨1, twoS_no ?_, .inr ⟨rfl, hmax⟩⟩
    have : readB (sent + g) = false := by simp [readB]; omega
    simp [twoB, this]
  · have hrb : readB (sent + g) = true := by simp [readB]; omega
    have hle : decide (sent ≤ sent + g) = true := by simp; omega
    rw [twoS_ok (by simp only [twoB, hs, hc, hse, hrb, hle, ht, Bool.and_self]), show sent + g - sent = g by omega, twoR]
    have pc := prod_clk (d := cdr) (g := g) (by omega) (by omega) (by omega) (by omega)
    have hw : wrS cdr g = (cdr * g + 999999) / 1000000 := rfl
    generalize wrS cdr g = wr at *
    generalize cdr * g = P at *
    rw [if_neg (by omega)]
    unfold distsS
    split
    · exact .inl ⟨3, rfl, .inl rfl⟩
    · refine .inr ⟨_, _, rfl, ?_, ?_⟩
      · have e1 : (speedP dl dh xs).1 * max (max (g - wr) 0 - thi) 0 ≤ (speedP dl dh xs).1 * (there + back) := Int.mul_le_mul_of_nonneg_left (by omega) (by omega)
        rw [Int.mul_add] at e1
        generalize (speedP dl dh xs).1 * max (max (g - wr) 0 - thi) 0 = q at *
        generalize (speedP dl dh xs).1 * there = pa at *
        generalize (speedP dl dh xs).1 * back = pb at *
        omega
      · have e1 : (speedP dl dh xs).2 * (there + back) ≤ (speedP dl dh xs).2 * (g + wr - tlo) := Int.mul_le_mul_of_nonneg_left (by omega) (by omega)
        rw [Int.mul_add] at e1
        generalize (speedP dl dh xs).2 * (g + wr - tlo) = q at *
        generalize (speedP dl dh xs).2 * there = pa at *
        generalize (speedP dl dh xs).2 * back = pb at *
        omega
set_option maxHeartbeats 1600000 in
set_option maxRecDepth 100000 in
theorem ans_0 (A : Option Addr) (n c : Nat) (xs : List Wt) (ct clo chi cdr dl dh tlo thi sent there back wrong which : Int) (w : World)  (h0 : 25 < n) : Calls Try.prog 20 #[.slice A n c, .agg #[.int .i64 ct, .int .i64 clo, .int .i64 chi, .int .i64 cdr], .agg #[.int .i64 dl, .int .i64 dh], .agg #[.int .i64 tlo, .int .i64 thi], .int .i64 sent, .int .i64 there, .int .i64 back, .int .i64 wrong, .int .u64 which] w fun e w' => e = .returned (.bool true) ∧ Below w.heap.size w w' := by
  have hF := fun W => bel (Few_any A n c W)
  rw [show decide (n ≤ 25) = false by simp; omega] at hF
  have HF := Lib.hid hF
  clear hF
  go_enter Try.func20, Try.ntmps20
  go_wp2_with fail
  refine (head17_any _).mono ?_
  rintro e w1 ⟨rfl, hb1⟩
  have hB1 : Below w.heap.size w w1 := below_after (by go_grown) hb1
  have hz1 := hb1.size
  try simp only [World.size_alloc, World.size_setCell, World.size_drew] at hz1
  have hw1 := hB1.size
  have c_c0 : w1.cell? ⟨w.heap.size, 0, none⟩ = some (.int .i64 ct) := kp hb1 (by go_cell)
  have c_c1 : w1.cell? ⟨w.heap.size, 1, none⟩ = some (.int .i64 clo) := kp hb1 (by go_cell)
  have c_c2 : w1.cell? ⟨w.heap.size, 2, none⟩ = some (.int .i64 chi) := kp hb1 (by go_cell)
  have c_c3 : w1.cell? ⟨w.heap.size, 3, none⟩ = some (.int .i64 cdr) := kp hb1 (by go_cell)
  have c_d0 : w1.cell? ⟨w.heap.size + 1, 0, none⟩ = some (.int .i64 dl) := kp hb1 (by go_cell)
  have c_d1 : w1.cell? ⟨w.heap.size + 1, 1, none⟩ = some (.int .i64 dh) := kp hb1 (by go_cell)
  have c_y0 : w1.cell? ⟨w.heap.size + 1 + 1, 0, none⟩ = some (.int .i64 tlo) := kp hb1 (by go_cell)
  have c_y1 : w1.cell? ⟨w.heap.size + 1 + 1, 1, none⟩ = some (.int .i64 thi) := kp hb1 (by go_cell)
  clear hb1
  go_wp2_with fail
  refine (HF.out _).mono ?_
  rintro e w2 ⟨rfl, hb2⟩
  have hB2 : Below w.heap.size w w2 := below_after (by go_grown) hb2
  have hz2 := hb2.size
  try simp only [World.size_alloc, World.size_setCell, World.size_drew] at hz2
  have hw2 := hB2.size
  replace c_c0 : w2.cell? ⟨w.heap.size, 0, none⟩ = some (.int .i64 ct) := kp hb2 (by go_cell)
  replace c_c1 : w2.cell? ⟨w.heap.size, 1, none⟩ = some (.int .i64 clo) := kp hb2 (by go_cell)
  replace c_c2 : w2.cell? ⟨w.heap.size, 2, none⟩ = some (.int .i64 chi) := kp hb2 (by go_cell)
  replace c_c3 : w2.cell? ⟨w.heap.size, 3, none⟩ = some (.int .i64 cdr) := kp hb2 (by go_cell)
  replace c_d0 : w2.cell? ⟨w.heap.size + 1, 0, none⟩ = some (.int .i64 dl) := kp hb2 (by go_cell)
  replace c_d1 : w2.cell? ⟨w.heap.size + 1, 1, none⟩ = some (.int .i64 dh) := kp hb2 (by go_cell)
  replace c_y0 : w2.cell? ⟨w.heap.size + 1 + 1, 0, none⟩ = some (.int .i64 tlo) := kp hb2 (by go_cell)
  replace c_y1 : w2.cell? ⟨w.heap.size + 1 + 1, 1, none⟩ = some (.int .i64 thi) := kp hb2 (by go_cell)
  clear hb2 hB1
  go_wp2_with fail
  go_ret
  exact ⟨rfl, by go_grown⟩
set_option maxHeartbeats 1600000 in
set_option maxRecDepth 100000 in
theorem ans_1 (A : Option Addr) (n c : Nat) (xs : List Wt) (ct clo chi cdr dl dh tlo thi sent there back wrong which : Int) (w : World) (h0 : n ≤ 25) (h1 : clkB ct clo chi cdr = false) : Calls Try.prog 20 #[.slice A n c, .agg #[.int .i64 ct, .int .i64 clo, .int .i64 chi, .int .i64 cdr], .agg #[.int .i64 dl, .int .i64 dh], .agg #[.int .i64 tlo, .int .i64 thi], .int .i64 sent, .int .i64 there, .int .i64 back, .int .i64 wrong, .int .u64 which] w fun e w' => e = .returned (.bool true) ∧ Below w.heap.size w w' := by
  have hF := fun W => bel (Few_any A n c W)
  rw [show decide (n ≤ 25) = true by simp; omega] at hF
  have HF := Lib.hid hF
  have hA := fun W => RCValid_any ct clo chi cdr W
  rw [h1] at hA
  have HA := Lib.hid hA
  clear hF hA
  go_enter Try.func20, Try.ntmps20
  go_wp2_with fail
  refine (head17_any _).mono ?_
  rintro e w1 ⟨rfl, hb1⟩
  have hB1 : Below w.heap.size w w1 := below_after (by go_grown) hb1
  have hz1 := hb1.size
  try simp only [World.size_alloc, World.size_setCell, World.size_drew] at hz1
  have hw1 := hB1.size
  have c_c0 : w1.cell? ⟨w.heap.size, 0, none⟩ = some (.int .i64 ct) := kp hb1 (by go_cell)
  have c_c1 : w1.cell? ⟨w.heap.size, 1, none⟩ = some (.int .i64 clo) := kp hb1 (by go_cell)
  have c_c2 : w1.cell? ⟨w.heap.size, 2, none⟩ = some (.int .i64 chi) := kp hb1 (by go_cell)
  have c_c3 : w1.cell? ⟨w.heap.size, 3, none⟩ = some (.int .i64 cdr) := kp hb1 (by go_cell)
  have c_d0 : w1.cell? ⟨w.heap.size + 1, 0, none⟩ = some (.int .i64 dl) := kp hb1 (by go_cell)
  have c_d1 : w1.cell? ⟨w.heap.size + 1, 1, none⟩ = some (.int .i64 dh) := kp hb1 (by go_cell)
  have c_y0 : w1.cell? ⟨w.heap.size + 1 + 1, 0, none⟩ = some (.int .i64 tlo) := kp hb1 (by go_cell)
  have c_y1 : w1.cell? ⟨w.heap.size + 1 + 1, 1, none⟩ = some (.int .i64 thi) := kp hb1 (by go_cell)
  clear hb1
  go_wp2_with fail
  refine (HF.out _).mono ?_
  rintro e w2 ⟨rfl, hb2⟩
  have hB2 : Below w.heap.size w w2 := below_after (by go_grown) hb2
  have hz2 := hb2.size
  try simp only [World.size_alloc, World.size_setCell, World.size_drew] at hz2
  have hw2 := hB2.size
  replace c_c0 : w2.cell? ⟨w.heap.size, 0, none⟩ = some (.int .i64 ct) := kp hb2 (by go_cell)
  replace c_c1 : w2.cell? ⟨w.heap.size, 1, none⟩ = some (.int .i64 clo) := kp hb2 (by go_cell)
  replace c_c2 : w2.cell? ⟨w.heap.size, 2, none⟩ = some (.int .i64 chi) := kp hb2 (by go_cell)
  replace c_c3 : w2.cell? ⟨w.heap.size, 3, none⟩ = some (.int .i64 cdr) := kp hb2 (by go_cell)
  replace c_d0 : w2.cell? ⟨w.heap.size + 1, 0, none⟩ = some (.int .i64 dl) := kp hb2 (by go_cell)
  replace c_d1 : w2.cell? ⟨w.heap.size + 1, 1, none⟩ = some (.int .i64 dh) := kp hb2 (by go_cell)
  replace c_y0 : w2.cell? ⟨w.heap.size + 1 + 1, 0, none⟩ = some (.int .i64 tlo) := kp hb2 (by go_cell)
  replace c_y1 : w2.cell? ⟨w.heap.size + 1 + 1, 1, none⟩ = some (.int .i64 thi) := kp hb2 (by go_cell)
  clear hb2 hB1
  go_wp2_with fail
  refine (HA.out _).mono ?_
  rintro e w3 ⟨rfl, hb3⟩
  have hB3 : Below w.heap.size w w3 := below_after (by go_grown) hb3
  have hz3 := hb3.size
  try simp only [World.size_alloc, World.size_setCell, World.size_drew] at hz3
  have hw3 := hB3.size
  replace c_c0 : w3.cell? ⟨w.heap.size, 0, none⟩ = some (.int .i64 ct) := kp hb3 (by go_cell)
  replace c_c1 : w3.cell? ⟨w.heap.size, 1, none⟩ = some (.int .i64 clo) := kp hb3 (by go_cell)
  replace c_c2 : w3.cell? ⟨w.heap.size, 2, none⟩ = some (.int .i64 chi) := kp hb3 (by go_cell)
  replace c_c3 : w3.cell? ⟨w.heap.size, 3, none⟩ = some (.int .i64 cdr) := kp hb3 (by go_cell)
  replace c_d0 : w3.cell? ⟨w.heap.size + 1, 0, none⟩ = some (.int .i64 dl) := kp hb3 (by go_cell)
  replace c_d1 : w3.cell? ⟨w.heap.size + 1, 1, none⟩ = some (.int .i64 dh) := kp hb3 (by go_cell)
  replace c_y0 : w3.cell? ⟨w.heap.size + 1 + 1, 0, none⟩ = some (.int .i64 tlo) := kp hb3 (by go_cell)
  replace c_y1 : w3.cell? ⟨w.heap.size + 1 + 1, 1, none⟩ = some (.int .i64 thi) := kp hb3 (by go_cell)
  clear hb3 hB2
  go_wp2_with fail
  go_ret
  exact ⟨rfl, by go_grown⟩
set_option maxHeartbeats 1600000 in
set_option maxRecDepth 100000 in
theorem ans_2 (A : Option Addr) (n c : Nat) (xs : List Wt) (ct clo chi cdr dl dh tlo thi sent there back wrong which : Int) (w : World) (h0 : n ≤ 25) (h1 : clkB ct clo chi cdr = true) (h2 : timB tlo thi = false) : Calls Try.prog 20 #[.slice A n c, .agg #[.int .i64 ct, .int .i64 clo, .int .i64 chi, .int .i64 cdr], .agg #[.int .i64 dl, .int .i64 dh], .agg #[.int .i64 tlo, .int .i64 thi], .int .i64 sent, .int .i64 there, .int .i64 back, .int .i64 wrong, .int .u64 which] w fun e w' => e = .returned (.bool true) ∧ Below w.heap.size w w' := by
  have hF := fun W => bel (Few_any A n c W)
  rw [show decide (n ≤ 25) = true by simp; omega] at hF
  have HF := Lib.hid hF
  have hA := fun W => RCValid_any ct clo chi cdr W
  rw [h1] at hA
  have HA := Lib.hid hA
  have hB := fun W => RTimes17_any tlo thi W
  rw [h2] at hB
  have HB := Lib.hid hB
  clear hF hA hB
  go_enter Try.func20, Try.ntmps20
  go_wp2_with fail
  refine (head17_any _).mono ?_
  rintro e w1 ⟨rfl, hb1⟩
  have hB1 : Below w.heap.size w w1 := below_after (by go_grown) hb1
  have hz1 := hb1.size
  try simp only [World.size_alloc, World.size_setCell, World.size_drew] at hz1
  have hw1 := hB1.size
  have c_c0 : w1.cell? ⟨w.heap.size, 0, none⟩ = some (.int .i64 ct) := kp hb1 (by go_cell)
  have c_c1 : w1.cell? ⟨w.heap.size, 1, none⟩ = some (.int .i64 clo) := kp hb1 (by go_cell)
  have c_c2 : w1.cell? ⟨w.heap.size, 2, none⟩ = some (.int .i64 chi) := kp hb1 (by go_cell)
  have c_c3 : w1.cell? ⟨w.heap.size, 3, none⟩ = some (.int .i64 cdr) := kp hb1 (by go_cell)
  have c_d0 : w1.cell? ⟨w.heap.size + 1, 0, none⟩ = some (.int .i64 dl) := kp hb1 (by go_cell)
  have c_d1 : w1.cell? ⟨w.heap.size + 1, 1, none⟩ = some (.int .i64 dh) := kp hb1 (by go_cell)
  have c_y0 : w1.cell? ⟨w.heap.size + 1 + 1, 0, none⟩ = some (.int .i64 tlo) := kp hb1 (by go_cell)
  have c_y1 : w1.cell? ⟨w.heap.size + 1 + 1, 1, none⟩ = some (.int .i64 thi) := kp hb1 (by go_cell)
  clear hb1
  go_wp2_with fail
  refine (HF.out _).mono ?_
  rintro e w2 ⟨rfl, hb2⟩
  have hB2 : Below w.heap.size w w2 := below_after (by go_grown) hb2
  have hz2 := hb2.size
  try simp only [World.size_alloc, World.size_setCell, World.size_drew] at hz2
  have hw2 := hB2.size
  replace c_c0 : w2.cell? ⟨w.heap.size, 0, none⟩ = some (.int .i64 ct) := kp hb2 (by go_cell)
  replace c_c1 : w2.cell? ⟨w.heap.size, 1, none⟩ = some (.int .i64 clo) := kp hb2 (by go_cell)
  replace c_c2 : w2.cell? ⟨w.heap.size, 2, none⟩ = some (.int .i64 chi) := kp hb2 (by go_cell)
  replace c_c3 : w2.cell? ⟨w.heap.size, 3, none⟩ = some (.int .i64 cdr) := kp hb2 (by go_cell)
  replace c_d0 : w2.cell? ⟨w.heap.size + 1, 0, none⟩ = some (.int .i64 dl) := kp hb2 (by go_cell)
  replace c_d1 : w2.cell? ⟨w.heap.size + 1, 1, none⟩ = some (.int .i64 dh) := kp hb2 (by go_cell)
  replace c_y0 : w2.cell? ⟨w.heap.size + 1 + 1, 0, none⟩ = some (.int .i64 tlo) := kp hb2 (by go_cell)
  replace c_y1 : w2.cell? ⟨w.heap.size + 1 + 1, 1, none⟩ = some (.int .i64 thi) := kp hb2 (by go_cell)
  clear hb2 hB1
  go_wp2_with fail
  refine (HA.out _).mono ?_
  rintro e w3 ⟨rfl, hb3⟩
  have hB3 : Below w.heap.size w w3 := below_after (by go_grown) hb3
  have hz3 := hb3.size
  try simp only [World.size_alloc, World.size_setCell, World.size_drew] at hz3
  have hw3 := hB3.size
  replace c_c0 : w3.cell? ⟨w.heap.size, 0, none⟩ = some (.int .i64 ct) := kp hb3 (by go_cell)
  replace c_c1 : w3.cell? ⟨w.heap.size, 1, none⟩ = some (.int .i64 clo) := kp hb3 (by go_cell)
  replace c_c2 : w3.cell? ⟨w.heap.size, 2, none⟩ = some (.int .i64 chi) := kp hb3 (by go_cell)
  replace c_c3 : w3.cell? ⟨w.heap.size, 3, none⟩ = some (.int .i64 cdr) := kp hb3 (by go_cell)
  replace c_d0 : w3.cell? ⟨w.heap.size + 1, 0, none⟩ = some (.int .i64 dl) := kp hb3 (by go_cell)
  replace c_d1 : w3.cell? ⟨w.heap.size + 1, 1, none⟩ = some (.int .i64 dh) := kp hb3 (by go_cell)
  replace c_y0 : w3.cell? ⟨w.heap.size + 1 + 1, 0, none⟩ = some (.int .i64 tlo) := kp hb3 (by go_cell)
  replace c_y1 : w3.cell? ⟨w.heap.size + 1 + 1, 1, none⟩ = some (.int .i64 thi) := kp hb3 (by go_cell)
  clear hb3 hB2
  go_wp2_with fail
  refine (HB.out _).mono ?_
  rintro e w4 ⟨rfl, hb4⟩
  have hB4 : Below w.heap.size w w4 := below_after (by go_grown) hb4
  have hz4 := hb4.size
  try simp only [World.size_alloc, World.size_setCell, World.size_drew] at hz4
  have hw4 := hB4.size
  replace c_c0 : w4.cell? ⟨w.heap.size, 0, none⟩ = some (.int .i64 ct) := kp hb4 (by go_cell)
  replace c_c1 : w4.cell? ⟨w.heap.size, 1, none⟩ = some (.int .i64 clo) := kp hb4 (by go_cell)
  replace c_c2 : w4.cell? ⟨w.heap.size, 2, none⟩ = some (.int .i64 chi) := kp hb4 (by go_cell)
  replace c_c3 : w4.cell? ⟨w.heap.size, 3, none⟩ = some (.int .i64 cdr) := kp hb4 (by go_cell)
  replace c_d0 : w4.cell? ⟨w.heap.size + 1, 0, none⟩ = some (.int .i64 dl) := kp hb4 (by go_cell)
  replace c_d1 : w4.cell? ⟨w.heap.size + 1, 1, none⟩ = some (.int .i64 dh) := kp hb4 (by go_cell)
  replace c_y0 : w4.cell? ⟨w.heap.size + 1 + 1, 0, none⟩ = some (.int .i64 tlo) := kp hb4 (by go_cell)
  replace c_y1 : w4.cell? ⟨w.heap.size + 1 + 1, 1, none⟩ = some (.int .i64 thi) := kp hb4 (by go_cell)
  clear hb4 hB3
  go_wp2_with fail
  go_ret
  exact ⟨rfl, by go_grown⟩
set_option maxHeartbeats 1600000 in
set_option maxRecDepth 100000 in
theorem ans_3 (A : Option Addr) (n c : Nat) (xs : List Wt) (ct clo chi cdr dl dh tlo thi sent there back wrong which : Int) (w : World) (h0 : n ≤ 25) (h1 : clkB ct clo chi cdr = true) (h2 : timB tlo thi = true) (h3 : there < 0) : Calls Try.prog 20 #[.slice A n c, .agg #[.int .i64 ct, .int .i64 clo, .int .i64 chi, .int .i64 cdr], .agg #[.int .i64 dl, .int .i64 dh], .agg #[.int .i64 tlo, .int .i64 thi], .int .i64 sent, .int .i64 there, .int .i64 back, .int .i64 wrong, .int .u64 which] w fun e w' => e = .returned (.bool true) ∧ Below w.heap.size w w' := by
  have hF := fun W => bel (Few_any A n c W)
  rw [show decide (n ≤ 25) = true by simp; omega] at hF
  have HF := Lib.hid hF
  have hA := fun W => RCValid_any ct clo chi cdr W
  rw [h1] at hA
  have HA := Lib.hid hA
  have hB := fun W => RTimes17_any tlo thi W
  rw [h2] at hB
  have HB := Lib.hid hB
  clear hF hA hB
  go_enter Try.func20, Try.ntmps20
  go_wp2_with fail
  refine (head17_any _).mono ?_
  rintro e w1 ⟨rfl, hb1⟩
  have hB1 : Below w.heap.size w w1 := below_after (by go_grown) hb1
  have hz1 := hb1.size
  try simp only [World.size_alloc, World.size_setCell, World.size_drew] at hz1
  have hw1 := hB1.size
  have c_c0 : w1.cell? ⟨w.heap.size, 0, none⟩ = some (.int .i64 ct) := kp hb1 (by go_cell)
  have c_c1 : w1.cell? ⟨w.heap.size, 1, none⟩ = some (.int .i64 clo) := kp hb1 (by go_cell)
  have c_c2 : w1.cell? ⟨w.heap.size, 2, none⟩ = some (.int .i64 chi) := kp hb1 (by go_cell)
  have c_c3 : w1.cell? ⟨w.heap.size, 3, none⟩ = some (.int .i64 cdr) := kp hb1 (by go_cell)
  have c_d0 : w1.cell? ⟨w.heap.size + 1, 0, none⟩ = some (.int .i64 dl) := kp hb1 (by go_cell)
  have c_d1 : w1.cell? ⟨w.heap.size + 1, 1, none⟩ = some (.int .i64 dh) := kp hb1 (by go_cell)
  have c_y0 : w1.cell? ⟨w.heap.size + 1 + 1, 0, none⟩ = some (.int .i64 tlo) := kp hb1 (by go_cell)
  have c_y1 : w1.cell? ⟨w.heap.size + 1 + 1, 1, none⟩ = some (.int .i64 thi) := kp hb1 (by go_cell)
  clear hb1
  go_wp2_with fail
  refine (HF.out _).mono ?_
  rintro e w2 ⟨rfl, hb2⟩
  have hB2 : Below w.heap.size w w2 := below_after (by go_grown) hb2
  have hz2 := hb2.size
  try simp only [World.size_alloc, World.size_setCell, World.size_drew] at hz2
  have hw2 := hB2.size
  replace c_c0 : w2.cell? ⟨w.heap.size, 0, none⟩ = some (.int .i64 ct) := kp hb2 (by go_cell)
  replace c_c1 : w2.cell? ⟨w.heap.size, 1, none⟩ = some (.int .i64 clo) := kp hb2 (by go_cell)
  replace c_c2 : w2.cell? ⟨w.heap.size, 2, none⟩ = some (.int .i64 chi) := kp hb2 (by go_cell)
  replace c_c3 : w2.cell? ⟨w.heap.size, 3, none⟩ = some (.int .i64 cdr) := kp hb2 (by go_cell)
  replace c_d0 : w2.cell? ⟨w.heap.size + 1, 0, none⟩ = some (.int .i64 dl) := kp hb2 (by go_cell)
  replace c_d1 : w2.cell? ⟨w.heap.size + 1, 1, none⟩ = some (.int .i64 dh) := kp hb2 (by go_cell)
  replace c_y0 : w2.cell? ⟨w.heap.size + 1 + 1, 0, none⟩ = some (.int .i64 tlo) := kp hb2 (by go_cell)
  replace c_y1 : w2.cell? ⟨w.heap.size + 1 + 1, 1, none⟩ = some (.int .i64 thi) := kp hb2 (by go_cell)
  clear hb2 hB1
  go_wp2_with fail
  refine (HA.out _).mono ?_
  rintro e w3 ⟨rfl, hb3⟩
  have hB3 : Below w.heap.size w w3 := below_after (by go_grown) hb3
  have hz3 := hb3.size
  try simp only [World.size_alloc, World.size_setCell, World.size_drew] at hz3
  have hw3 := hB3.size
  replace c_c0 : w3.cell? ⟨w.heap.size, 0, none⟩ = some (.int .i64 ct) := kp hb3 (by go_cell)
  replace c_c1 : w3.cell? ⟨w.heap.size, 1, none⟩ = some (.int .i64 clo) := kp hb3 (by go_cell)
  replace c_c2 : w3.cell? ⟨w.heap.size, 2, none⟩ = some (.int .i64 chi) := kp hb3 (by go_cell)
  replace c_c3 : w3.cell? ⟨w.heap.size, 3, none⟩ = some (.int .i64 cdr) := kp hb3 (by go_cell)
  replace c_d0 : w3.cell? ⟨w.heap.size + 1, 0, none⟩ = some (.int .i64 dl) := kp hb3 (by go_cell)
  replace c_d1 : w3.cell? ⟨w.heap.size + 1, 1, none⟩ = some (.int .i64 dh) := kp hb3 (by go_cell)
  replace c_y0 : w3.cell? ⟨w.heap.size + 1 + 1, 0, none⟩ = some (.int .i64 tlo) := kp hb3 (by go_cell)
  replace c_y1 : w3.cell? ⟨w.heap.size + 1 + 1, 1, none⟩ = some (.int .i64 thi) := kp hb3 (by go_cell)
  clear hb3 hB2
  go_wp2_with fail
  refine (HB.out _).mono ?_
  rintro e w4 ⟨rfl, hb4⟩
  have hB4 : Below w.heap.size w w4 := below_after (by go_grown) hb4
  have hz4 := hb4.size
  try simp only [World.size_alloc, World.size_setCell, World.size_drew] at hz4
  have hw4 := hB4.size
  replace c_c0 : w4.cell? ⟨w.heap.size, 0, none⟩ = some (.int .i64 ct) := kp hb4 (by go_cell)
  replace c_c1 : w4.cell? ⟨w.heap.size, 1, none⟩ = some (.int .i64 clo) := kp hb4 (by go_cell)
  replace c_c2 : w4.cell? ⟨w.heap.size, 2, none⟩ = some (.int .i64 chi) := kp hb4 (by go_cell)
  replace c_c3 : w4.cell? ⟨w.heap.size, 3, none⟩ = some (.int .i64 cdr) := kp hb4 (by go_cell)
  replace c_d0 : w4.cell? ⟨w.heap.size + 1, 0, none⟩ = some (.int .i64 dl) := kp hb4 (by go_cell)
  replace c_d1 : w4.cell? ⟨w.heap.size + 1, 1, none⟩ = some (.int .i64 dh) := kp hb4 (by go_cell)
  replace c_y0 : w4.cell? ⟨w.heap.size + 1 + 1, 0, none⟩ = some (.int .i64 tlo) := kp hb4 (by go_cell)
  replace c_y1 : w4.cell? ⟨w.heap.size + 1 + 1, 1, none⟩ = some (.int .i64 thi) := kp hb4 (by go_cell)
  clear hb4 hB3
  go_wp2_with fail
  go_ret
  exact ⟨rfl, by go_grown⟩
set_option maxHeartbeats 1600000 in
set_option maxRecDepth 100000 in
theorem ans_4 (A : Option Addr) (n c : Nat) (xs : List Wt) (ct clo chi cdr dl dh tlo thi sent there back wrong which : Int) (w : World) (h0 : n ≤ 25) (h1 : clkB ct clo chi cdr = true) (h2 : timB tlo thi = true) (h3 : ¬ there < 0) (h4 : 20000 < there) : Calls Try.prog 20 #[.slice A n c, .agg #[.int .i64 ct, .int .i64 clo, .int .i64 chi, .int .i64 cdr], .agg #[.int .i64 dl, .int .i64 dh], .agg #[.int .i64 tlo, .int .i64 thi], .int .i64 sent, .int .i64 there, .int .i64 back, .int .i64 wrong, .int .u64 which] w fun e w' => e = .returned (.bool true) ∧ Below w.heap.size w w' := by
  have hF := fun W => bel (Few_any A n c W)
  rw [show decide (n ≤ 25) = true by simp; omega] at hF
  have HF := Lib.hid hF
  have hA := fun W => RCValid_any ct clo chi cdr W
  rw [h1] at hA
  have HA := Lib.hid hA
  have hB := fun W => RTimes17_any tlo thi W
  rw [h2] at hB
  have HB := Lib.hid hB
  clear hF hA hB
  go_enter Try.func20, Try.ntmps20
  go_wp2_with fail
  refine (head17_any _).mono ?_
  rintro e w1 ⟨rfl, hb1⟩
  have hB1 : Below w.heap.size w w1 := below_after (by go_grown) hb1
  have hz1 := hb1.size
  try simp only [World.size_alloc, World.size_setCell, World.size_drew] at hz1
  have hw1 := hB1.size
  have c_c0 : w1.cell? ⟨w.heap.size, 0, none⟩ = some (.int .i64 ct) := kp hb1 (by go_cell)
  have c_c1 : w1.cell? ⟨w.heap.size, 1, none⟩ = some (.int .i64 clo) := kp hb1 (by go_cell)
  have c_c2 : w1.cell? ⟨w.heap.size, 2, none⟩ = some (.int .i64 chi) := kp hb1 (by go_cell)
  have c_c3 : w1.cell? ⟨w.heap.size, 3, none⟩ = some (.int .i64 cdr) := kp hb1 (by go_cell)
  have c_d0 : w1.cell? ⟨w.heap.size + 1, 0, none⟩ = some (.int .i64 dl) := kp hb1 (by go_cell)
  have c_d1 : w1.cell? ⟨w.heap.size + 1, 1, none⟩ = some (.int .i64 dh) := kp hb1 (by go_cell)
  have c_y0 : w1.cell? ⟨w.heap.size + 1 + 1, 0, none⟩ = some (.int .i64 tlo) := kp hb1 (by go_cell)
  have c_y1 : w1.cell? ⟨w.heap.size + 1 + 1, 1, none⟩ = some (.int .i64 thi) := kp hb1 (by go_cell)
  clear hb1
  go_wp2_with fail
  refine (HF.out _).mono ?_
  rintro e w2 ⟨rfl, hb2⟩
  have hB2 : Below w.heap.size w w2 := below_after (by go_grown) hb2
  have hz2 := hb2.size
  try simp only [World.size_alloc, World.size_setCell, World.size_drew] at hz2
  have hw2 := hB2.size
  replace c_c0 : w2.cell? ⟨w.heap.size, 0, none⟩ = some (.int .i64 ct) := kp hb2 (by go_cell)
  replace c_c1 : w2.cell? ⟨w.heap.size, 1, none⟩ = some (.int .i64 clo) := kp hb2 (by go_cell)
  replace c_c2 : w2.cell? ⟨w.heap.size, 2, none⟩ = some (.int .i64 chi) := kp hb2 (by go_cell)
  replace c_c3 : w2.cell? ⟨w.heap.size, 3, none⟩ = some (.int .i64 cdr) := kp hb2 (by go_cell)
  replace c_d0 : w2.cell? ⟨w.heap.size + 1, 0, none⟩ = some (.int .i64 dl) := kp hb2 (by go_cell)
  replace c_d1 : w2.cell? ⟨w.heap.size + 1, 1, none⟩ = some (.int .i64 dh) := kp hb2 (by go_cell)
  replace c_y0 : w2.cell? ⟨w.heap.size + 1 + 1, 0, none⟩ = some (.int .i64 tlo) := kp hb2 (by go_cell)
  replace c_y1 : w2.cell? ⟨w.heap.size + 1 + 1, 1, none⟩ = some (.int .i64 thi) := kp hb2 (by go_cell)
  clear hb2 hB1
  go_wp2_with fail
  refine (HA.out _).mono ?_
  rintro e w3 ⟨rfl, hb3⟩
  have hB3 : Below w.heap.size w w3 := below_after (by go_grown) hb3
  have hz3 := hb3.size
  try simp only [World.size_alloc, World.size_setCell, World.size_drew] at hz3
  have hw3 := hB3.size
  replace c_c0 : w3.cell? ⟨w.heap.size, 0, none⟩ = some (.int .i64 ct) := kp hb3 (by go_cell)
  replace c_c1 : w3.cell? ⟨w.heap.size, 1, none⟩ = some (.int .i64 clo) := kp hb3 (by go_cell)
  replace c_c2 : w3.cell? ⟨w.heap.size, 2, none⟩ = some (.int .i64 chi) := kp hb3 (by go_cell)
  replace c_c3 : w3.cell? ⟨w.heap.size, 3, none⟩ = some (.int .i64 cdr) := kp hb3 (by go_cell)
  replace c_d0 : w3.cell? ⟨w.heap.size + 1, 0, none⟩ = some (.int .i64 dl) := kp hb3 (by go_cell)
  replace c_d1 : w3.cell? ⟨w.heap.size + 1, 1, none⟩ = some (.int .i64 dh) := kp hb3 (by go_cell)
  replace c_y0 : w3.cell? ⟨w.heap.size + 1 + 1, 0, none⟩ = some (.int .i64 tlo) := kp hb3 (by go_cell)
  replace c_y1 : w3.cell? ⟨w.heap.size + 1 + 1, 1, none⟩ = some (.int .i64 thi) := kp hb3 (by go_cell)
  clear hb3 hB2
  go_wp2_with fail
  refine (HB.out _).mono ?_
  rintro e w4 ⟨rfl, hb4⟩
  have hB4 : Below w.heap.size w w4 := below_after (by go_grown) hb4
  have hz4 := hb4.size
  try simp only [World.size_alloc, World.size_setCell, World.size_drew] at hz4
  have hw4 := hB4.size
  replace c_c0 : w4.cell? ⟨w.heap.size, 0, none⟩ = some (.int .i64 ct) := kp hb4 (by go_cell)
  replace c_c1 : w4.cell? ⟨w.heap.size, 1, none⟩ = some (.int .i64 clo) := kp hb4 (by go_cell)
  replace c_c2 : w4.cell? ⟨w.heap.size, 2, none⟩ = some (.int .i64 chi) := kp hb4 (by go_cell)
  replace c_c3 : w4.cell? ⟨w.heap.size, 3, none⟩ = some (.int .i64 cdr) := kp hb4 (by go_cell)
  replace c_d0 : w4.cell? ⟨w.heap.size + 1, 0, none⟩ = some (.int .i64 dl) := kp hb4 (by go_cell)
  replace c_d1 : w4.cell? ⟨w.heap.size + 1, 1, none⟩ = some (.int .i64 dh) := kp hb4 (by go_cell)
  replace c_y0 : w4.cell? ⟨w.heap.size + 1 + 1, 0, none⟩ = some (.int .i64 tlo) := kp hb4 (by go_cell)
  replace c_y1 : w4.cell? ⟨w.heap.size + 1 + 1, 1, none⟩ = some (.int .i64 thi) := kp hb4 (by go_cell)
  clear hb4 hB3
  go_wp2_with fail
  go_ret
  exact ⟨rfl, by go_grown⟩
set_option maxHeartbeats 1600000 in
set_option maxRecDepth 100000 in
theorem ans_5 (A : Option Addr) (n c : Nat) (xs : List Wt) (ct clo chi cdr dl dh tlo thi sent there back wrong which : Int) (w : World) (h0 : n ≤ 25) (h1 : clkB ct clo chi cdr = true) (h2 : timB tlo thi = true) (h3 : ¬ there < 0) (h4 : ¬ 20000 < there) (h5 : back < 0) : Calls Try.prog 20 #[.slice A n c, .agg #[.int .i64 ct, .int .i64 clo, .int .i64 chi, .int .i64 cdr], .agg #[.int .i64 dl, .int .i64 dh], .agg #[.int .i64 tlo, .int .i64 thi], .int .i64 sent, .int .i64 there, .int .i64 back, .int .i64 wrong, .int .u64 which] w fun e w' => e = .returned (.bool true) ∧ Below w.heap.size w w' := by
  have hF := fun W => bel (Few_any A n c W)
  rw [show decide (n ≤ 25) = true by simp; omega] at hF
  have HF := Lib.hid hF
  have hA := fun W => RCValid_any ct clo chi cdr W
  rw [h1] at hA
  have HA := Lib.hid hA
  have hB := fun W => RTimes17_any tlo thi W
  rw [h2] at hB
  have HB := Lib.hid hB
  clear hF hA hB
  go_enter Try.func20, Try.ntmps20
  go_wp2_with fail
  refine (head17_any _).mono ?_
  rintro e w1 ⟨rfl, hb1⟩
  have hB1 : Below w.heap.size w w1 := below_after (by go_grown) hb1
  have hz1 := hb1.size
  try simp only [World.size_alloc, World.size_setCell, World.size_drew] at hz1
  have hw1 := hB1.size
  have c_c0 : w1.cell? ⟨w.heap.size, 0, none⟩ = some (.int .i64 ct) := kp hb1 (by go_cell)
  have c_c1 : w1.cell? ⟨w.heap.size, 1, none⟩ = some (.int .i64 clo) := kp hb1 (by go_cell)
  have c_c2 : w1.cell? ⟨w.heap.size, 2, none⟩ = some (.int .i64 chi) := kp hb1 (by go_cell)
  have c_c3 : w1.cell? ⟨w.heap.size, 3, none⟩ = some (.int .i64 cdr) := kp hb1 (by go_cell)
  have c_d0 : w1.cell? ⟨w.heap.size + 1, 0, none⟩ = some (.int .i64 dl) := kp hb1 (by go_cell)
  have c_d1 : w1.cell? ⟨w.heap.size + 1, 1, none⟩ = some (.int .i64 dh) := kp hb1 (by go_cell)
  have c_y0 : w1.cell? ⟨w.heap.size + 1 + 1, 0, none⟩ = some (.int .i64 tlo) := kp hb1 (by go_cell)
  have c_y1 : w1.cell? ⟨w.heap.size + 1 + 1, 1, none⟩ = some (.int .i64 thi) := kp hb1 (by go_cell)
  clear hb1
  go_wp2_with fail
  refine (HF.out _).mono ?_
  rintro e w2 ⟨rfl, hb2⟩
  have hB2 : Below w.heap.size w w2 := below_after (by go_grown) hb2
  have hz2 := hb2.size
  try simp only [World.size_alloc, World.size_setCell, World.size_drew] at hz2
  have hw2 := hB2.size
  replace c_c0 : w2.cell? ⟨w.heap.size, 0, none⟩ = some (.int .i64 ct) := kp hb2 (by go_cell)
  replace c_c1 : w2.cell? ⟨w.heap.size, 1, none⟩ = some (.int .i64 clo) := kp hb2 (by go_cell)
  replace c_c2 : w2.cell? ⟨w.heap.size, 2, none⟩ = some (.int .i64 chi) := kp hb2 (by go_cell)
  replace c_c3 : w2.cell? ⟨w.heap.size, 3, none⟩ = some (.int .i64 cdr) := kp hb2 (by go_cell)
  replace c_d0 : w2.cell? ⟨w.heap.size + 1, 0, none⟩ = some (.int .i64 dl) := kp hb2 (by go_cell)
  replace c_d1 : w2.cell? ⟨w.heap.size + 1, 1, none⟩ = some (.int .i64 dh) := kp hb2 (by go_cell)
  replace c_y0 : w2.cell? ⟨w.heap.size + 1 + 1, 0, none⟩ = some (.int .i64 tlo) := kp hb2 (by go_cell)
  replace c_y1 : w2.cell? ⟨w.heap.size + 1 + 1, 1, none⟩ = some (.int .i64 thi) := kp hb2 (by go_cell)
  clear hb2 hB1
  go_wp2_with fail
  refine (HA.out _).mono ?_
  rintro e w3 ⟨rfl, hb3⟩
  have hB3 : Below w.heap.size w w3 := below_after (by go_grown) hb3
  have hz3 := hb3.size
  try simp only [World.size_alloc, World.size_setCell, World.size_drew] at hz3
  have hw3 := hB3.size
  replace c_c0 : w3.cell? ⟨w.heap.size, 0, none⟩ = some (.int .i64 ct) := kp hb3 (by go_cell)
  replace c_c1 : w3.cell? ⟨w.heap.size, 1, none⟩ = some (.int .i64 clo) := kp hb3 (by go_cell)
  replace c_c2 : w3.cell? ⟨w.heap.size, 2, none⟩ = some (.int .i64 chi) := kp hb3 (by go_cell)
  replace c_c3 : w3.cell? ⟨w.heap.size, 3, none⟩ = some (.int .i64 cdr) := kp hb3 (by go_cell)
  replace c_d0 : w3.cell? ⟨w.heap.size + 1, 0, none⟩ = some (.int .i64 dl) := kp hb3 (by go_cell)
  replace c_d1 : w3.cell? ⟨w.heap.size + 1, 1, none⟩ = some (.int .i64 dh) := kp hb3 (by go_cell)
  replace c_y0 : w3.cell? ⟨w.heap.size + 1 + 1, 0, none⟩ = some (.int .i64 tlo) := kp hb3 (by go_cell)
  replace c_y1 : w3.cell? ⟨w.heap.size + 1 + 1, 1, none⟩ = some (.int .i64 thi) := kp hb3 (by go_cell)
  clear hb3 hB2
  go_wp2_with fail
  refine (HB.out _).mono ?_
  rintro e w4 ⟨rfl, hb4⟩
  have hB4 : Below w.heap.size w w4 := below_after (by go_grown) hb4
  have hz4 := hb4.size
  try simp only [World.size_alloc, World.size_setCell, World.size_drew] at hz4
  have hw4 := hB4.size
  replace c_c0 : w4.cell? ⟨w.heap.size, 0, none⟩ = some (.int .i64 ct) := kp hb4 (by go_cell)
  replace c_c1 : w4.cell? ⟨w.heap.size, 1, none⟩ = some (.int .i64 clo) := kp hb4 (by go_cell)
  replace c_c2 : w4.cell? ⟨w.heap.size, 2, none⟩ = some (.int .i64 chi) := kp hb4 (by go_cell)
  replace c_c3 : w4.cell? ⟨w.heap.size, 3, none⟩ = some (.int .i64 cdr) := kp hb4 (by go_cell)
  replace c_d0 : w4.cell? ⟨w.heap.size + 1, 0, none⟩ = some (.int .i64 dl) := kp hb4 (by go_cell)
  replace c_d1 : w4.cell? ⟨w.heap.size + 1, 1, none⟩ = some (.int .i64 dh) := kp hb4 (by go_cell)
  replace c_y0 : w4.cell? ⟨w.heap.size + 1 + 1, 0, none⟩ = some (.int .i64 tlo) := kp hb4 (by go_cell)
  replace c_y1 : w4.cell? ⟨w.heap.size + 1 + 1, 1, none⟩ = some (.int .i64 thi) := kp hb4 (by go_cell)
  clear hb4 hB3
  go_wp2_with fail
  go_ret
  exact ⟨rfl, by go_grown⟩
set_option maxHeartbeats 1600000 in
set_option maxRecDepth 100000 in
theorem ans_6 (A : Option Addr) (n c : Nat) (xs : List Wt) (ct clo chi cdr dl dh tlo thi sent there back wrong which : Int) (w : World) (h0 : n ≤ 25) (h1 : clkB ct clo chi cdr = true) (h2 : timB tlo thi = true) (h3 : ¬ there < 0) (h4 : ¬ 20000 < there) (h5 : ¬ back < 0) (h6 : 20000 < back) : Calls Try.prog 20 #[.slice A n c, .agg #[.int .i64 ct, .int .i64 clo, .int .i64 chi, .int .i64 cdr], .agg #[.int .i64 dl, .int .i64 dh], .agg #[.int .i64 tlo, .int .i64 thi], .int .i64 sent, .int .i64 there, .int .i64 back, .int .i64 wrong, .int .u64 which] w fun e w' => e = .returned (.bool true) ∧ Below w.heap.size w w' := by
  have hF := fun W => bel (Few_any A n c W)
  rw [show decide (n ≤ 25) = true by simp; omega] at hF
  have HF := Lib.hid hF
  have hA := fun W => RCValid_any ct clo chi cdr W
  rw [h1] at hA
  have HA := Lib.hid hA
  have hB := fun W => RTimes17_any tlo thi W
  rw [h2] at hB
  have HB := Lib.hid hB
  clear hF hA hB
  go_enter Try.func20, Try.ntmps20
  go_wp2_with fail
  refine (head17_any _).mono ?_
  rintro e w1 ⟨rfl, hb1⟩
  have hB1 : Below w.heap.size w w1 := below_after (by go_grown) hb1
  have hz1 := hb1.size
  try simp only [World.size_alloc, World.size_setCell, World.size_drew] at hz1
  have hw1 := hB1.size
  have c_c0 : w1.cell? ⟨w.heap.size, 0, none⟩ = some (.int .i64 ct) := kp hb1 (by go_cell)
  have c_c1 : w1.cell? ⟨w.heap.size, 1, none⟩ = some (.int .i64 clo) := kp hb1 (by go_cell)
  have c_c2 : w1.cell? ⟨w.heap.size, 2, none⟩ = some (.int .i64 chi) := kp hb1 (by go_cell)
  have c_c3 : w1.cell? ⟨w.heap.size, 3, none⟩ = some (.int .i64 cdr) := kp hb1 (by go_cell)
  have c_d0 : w1.cell? ⟨w.heap.size + 1, 0, none⟩ = some (.int .i64 dl) := kp hb1 (by go_cell)
  have c_d1 : w1.cell? ⟨w.heap.size + 1, 1, none⟩ = some (.int .i64 dh) := kp hb1 (by go_cell)
  have c_y0 : w1.cell? ⟨w.heap.size + 1 + 1, 0, none⟩ = some (.int .i64 tlo) := kp hb1 (by go_cell)
  have c_y1 : w1.cell? ⟨w.heap.size + 1 + 1, 1, none⟩ = some (.int .i64 thi) := kp hb1 (by go_cell)
  clear hb1
  go_wp2_with fail
  refine (HF.out _).mono ?_
  rintro e w2 ⟨rfl, hb2⟩
  have hB2 : Below w.heap.size w w2 := below_after (by go_grown) hb2
  have hz2 := hb2.size
  try simp only [World.size_alloc, World.size_setCell, World.size_drew] at hz2
  have hw2 := hB2.size
  replace c_c0 : w2.cell? ⟨w.heap.size, 0, none⟩ = some (.int .i64 ct) := kp hb2 (by go_cell)
  replace c_c1 : w2.cell? ⟨w.heap.size, 1, none⟩ = some (.int .i64 clo) := kp hb2 (by go_cell)
  replace c_c2 : w2.cell? ⟨w.heap.size, 2, none⟩ = some (.int .i64 chi) := kp hb2 (by go_cell)
  replace c_c3 : w2.cell? ⟨w.heap.size, 3, none⟩ = some (.int .i64 cdr) := kp hb2 (by go_cell)
  replace c_d0 : w2.cell? ⟨w.heap.size + 1, 0, none⟩ = some (.int .i64 dl) := kp hb2 (by go_cell)
  replace c_d1 : w2.cell? ⟨w.heap.size + 1, 1, none⟩ = some (.int .i64 dh) := kp hb2 (by go_cell)
  replace c_y0 : w2.cell? ⟨w.heap.size + 1 + 1, 0, none⟩ = some (.int .i64 tlo) := kp hb2 (by go_cell)
  replace c_y1 : w2.cell? ⟨w.heap.size + 1 + 1, 1, none⟩ = some (.int .i64 thi) := kp hb2 (by go_cell)
  clear hb2 hB1
  go_wp2_with fail
  refine (HA.out _).mono ?_
  rintro e w3 ⟨rfl, hb3⟩
  have hB3 : Below w.heap.size w w3 := below_after (by go_grown) hb3
  have hz3 := hb3.size
  try simp only [World.size_alloc, World.size_setCell, World.size_drew] at hz3
  have hw3 := hB3.size
  replace c_c0 : w3.cell? ⟨w.heap.size, 0, none⟩ = some (.int .i64 ct) := kp hb3 (by go_cell)
  replace c_c1 : w3.cell? ⟨w.heap.size, 1, none⟩ = some (.int .i64 clo) := kp hb3 (by go_cell)
  replace c_c2 : w3.cell? ⟨w.heap.size, 2, none⟩ = some (.int .i64 chi) := kp hb3 (by go_cell)
  replace c_c3 : w3.cell? ⟨w.heap.size, 3, none⟩ = some (.int .i64 cdr) := kp hb3 (by go_cell)
  replace c_d0 : w3.cell? ⟨w.heap.size + 1, 0, none⟩ = some (.int .i64 dl) := kp hb3 (by go_cell)
  replace c_d1 : w3.cell? ⟨w.heap.size + 1, 1, none⟩ = some (.int .i64 dh) := kp hb3 (by go_cell)
  replace c_y0 : w3.cell? ⟨w.heap.size + 1 + 1, 0, none⟩ = some (.int .i64 tlo) := kp hb3 (by go_cell)
  replace c_y1 : w3.cell? ⟨w.heap.size + 1 + 1, 1, none⟩ = some (.int .i64 thi) := kp hb3 (by go_cell)
  clear hb3 hB2
  go_wp2_with fail
  refine (HB.out _).mono ?_
  rintro e w4 ⟨rfl, hb4⟩
  have hB4 : Below w.heap.size w w4 := below_after (by go_grown) hb4
  have hz4 := hb4.size
  try simp only [World.size_alloc, World.size_setCell, World.size_drew] at hz4
  have hw4 := hB4.size
  replace c_c0 : w4.cell? ⟨w.heap.size, 0, none⟩ = some (.int .i64 ct) := kp hb4 (by go_cell)
  replace c_c1 : w4.cell? ⟨w.heap.size, 1, none⟩ = some (.int .i64 clo) := kp hb4 (by go_cell)
  replace c_c2 : w4.cell? ⟨w.heap.size, 2, none⟩ = some (.int .i64 chi) := kp hb4 (by go_cell)
  replace c_c3 : w4.cell? ⟨w.heap.size, 3, none⟩ = some (.int .i64 cdr) := kp hb4 (by go_cell)
  replace c_d0 : w4.cell? ⟨w.heap.size + 1, 0, none⟩ = some (.int .i64 dl) := kp hb4 (by go_cell)
  replace c_d1 : w4.cell? ⟨w.heap.size + 1, 1, none⟩ = some (.int .i64 dh) := kp hb4 (by go_cell)
  replace c_y0 : w4.cell? ⟨w.heap.size + 1 + 1, 0, none⟩ = some (.int .i64 tlo) := kp hb4 (by go_cell)
  replace c_y1 : w4.cell? ⟨w.heap.size + 1 + 1, 1, none⟩ = some (.int .i64 thi) := kp hb4 (by go_cell)
  clear hb4 hB3
  go_wp2_with fail
  go_ret
  exact ⟨rfl, by go_grown⟩
set_option maxHeartbeats 1600000 in
set_option maxRecDepth 100000 in
theorem ans_7 (A : Option Addr) (n c : Nat) (xs : List Wt) (ct clo chi cdr dl dh tlo thi sent there back wrong which : Int) (w : World) (h0 : n ≤ 25) (h1 : clkB ct clo chi cdr = true) (h2 : timB tlo thi = true) (h3 : ¬ there < 0) (h4 : ¬ 20000 < there) (h5 : ¬ back < 0) (h6 : ¬ 20000 < back) (h7 : readB sent = false) : Calls Try.prog 20 #[.slice A n c, .agg #[.int .i64 ct, .int .i64 clo, .int .i64 chi, .int .i64 cdr], .agg #[.int .i64 dl, .int .i64 dh], .agg #[.int .i64 tlo, .int .i64 thi], .int .i64 sent, .int .i64 there, .int .i64 back, .int .i64 wrong, .int .u64 which] w fun e w' => e = .returned (.bool true) ∧ Below w.heap.size w w' := by
  have hF := fun W => bel (Few_any A n c W)
  rw [show decide (n ≤ 25) = true by simp; omega] at hF
  have HF := Lib.hid hF
  have hA := fun W => RCValid_any ct clo chi cdr W
  rw [h1] at hA
  have HA := Lib.hid hA
  have hB := fun W => RTimes17_any tlo thi W
  rw [h2] at hB
  have HB := Lib.hid hB
  have hC := fun W => bel (RTime_any sent W)
  rw [h7] at hC
  have HC := Lib.hid hC
  clear hF hA hB hC
  go_enter Try.func20, Try.ntmps20
  go_wp2_with fail
  refine (head17_any _).mono ?_
  rintro e w1 ⟨rfl, hb1⟩
  have hB1 : Below w.heap.size w w1 := below_after (by go_grown) hb1
  have hz1 := hb1.size
  try simp only [World.size_alloc, World.size_setCell, World.size_drew] at hz1
  have hw1 := hB1.size
  have c_c0 : w1.cell? ⟨w.heap.size, 0, none⟩ = some (.int .i64 ct) := kp hb1 (by go_cell)
  have c_c1 : w1.cell? ⟨w.heap.size, 1, none⟩ = some (.int .i64 clo) := kp hb1 (by go_cell)
  have c_c2 : w1.cell? ⟨w.heap.size, 2, none⟩ = some (.int .i64 chi) := kp hb1 (by go_cell)
  have c_c3 : w1.cell? ⟨w.heap.size, 3, none⟩ = some (.int .i64 cdr) := kp hb1 (by go_cell)
  have c_d0 : w1.cell? ⟨w.heap.size + 1, 0, none⟩ = some (.int .i64 dl) := kp hb1 (by go_cell)
  have c_d1 : w1.cell? ⟨w.heap.size + 1, 1, none⟩ = some (.int .i64 dh) := kp hb1 (by go_cell)
  have c_y0 : w1.cell? ⟨w.heap.size + 1 + 1, 0, none⟩ = some (.int .i64 tlo) := kp hb1 (by go_cell)
  have c_y1 : w1.cell? ⟨w.heap.size + 1 + 1, 1, none⟩ = some (.int .i64 thi) := kp hb1 (by go_cell)
  clear hb1
  go_wp2_with fail
  refine (HF.out _).mono ?_
  rintro e w2 ⟨rfl, hb2⟩
  have hB2 : Below w.heap.size w w2 := below_after (by go_grown) hb2
  have hz2 := hb2.size
  try simp only [World.size_alloc, World.size_setCell, World.size_drew] at hz2
  have hw2 := hB2.size
  replace c_c0 : w2.cell? ⟨w.heap.size, 0, none⟩ = some (.int .i64 ct) := kp hb2 (by go_cell)
  replace c_c1 : w2.cell? ⟨w.heap.size, 1, none⟩ = some (.int .i64 clo) := kp hb2 (by go_cell)
  replace c_c2 : w2.cell? ⟨w.heap.size, 2, none⟩ = some (.int .i64 chi) := kp hb2 (by go_cell)
  replace c_c3 : w2.cell? ⟨w.heap.size, 3, none⟩ = some (.int .i64 cdr) := kp hb2 (by go_cell)
  replace c_d0 : w2.cell? ⟨w.heap.size + 1, 0, none⟩ = some (.int .i64 dl) := kp hb2 (by go_cell)
  replace c_d1 : w2.cell? ⟨w.heap.size + 1, 1, none⟩ = some (.int .i64 dh) := kp hb2 (by go_cell)
  replace c_y0 : w2.cell? ⟨w.heap.size + 1 + 1, 0, none⟩ = some (.int .i64 tlo) := kp hb2 (by go_cell)
  replace c_y1 : w2.cell? ⟨w.heap.size + 1 + 1, 1, none⟩ = some (.int .i64 thi) := kp hb2 (by go_cell)
  clear hb2 hB1
  go_wp2_with fail
  refine (HA.out _).mono ?_
  rintro e w3 ⟨rfl, hb3⟩
  have hB3 : Below w.heap.size w w3 := below_after (by go_grown) hb3
  have hz3 := hb3.size
  try simp only [World.size_alloc, World.size_setCell, World.size_drew] at hz3
  have hw3 := hB3.size
  replace c_c0 : w3.cell? ⟨w.heap.size, 0, none⟩ = some (.int .i64 ct) := kp hb3 (by go_cell)
  replace c_c1 : w3.cell? ⟨w.heap.size, 1, none⟩ = some (.int .i64 clo) := kp hb3 (by go_cell)
  replace c_c2 : w3.cell? ⟨w.heap.size, 2, none⟩ = some (.int .i64 chi) := kp hb3 (by go_cell)
  replace c_c3 : w3.cell? ⟨w.heap.size, 3, none⟩ = some (.int .i64 cdr) := kp hb3 (by go_cell)
  replace c_d0 : w3.cell? ⟨w.heap.size + 1, 0, none⟩ = some (.int .i64 dl) := kp hb3 (by go_cell)
  replace c_d1 : w3.cell? ⟨w.heap.size + 1, 1, none⟩ = some (.int .i64 dh) := kp hb3 (by go_cell)
  replace c_y0 : w3.cell? ⟨w.heap.size + 1 + 1, 0, none⟩ = some (.int .i64 tlo) := kp hb3 (by go_cell)
  replace c_y1 : w3.cell? ⟨w.heap.size + 1 + 1, 1, none⟩ = some (.int .i64 thi) := kp hb3 (by go_cell)
  clear hb3 hB2
  go_wp2_with fail
  refine (HB.out _).mono ?_
  rintro e w4 ⟨rfl, hb4⟩
  have hB4 : Below w.heap.size w w4 := below_after (by go_grown) hb4
  have hz4 := hb4.size
  try simp only [World.size_alloc, World.size_setCell, World.size_drew] at hz4
  have hw4 := hB4.size
  replace c_c0 : w4.cell? ⟨w.heap.size, 0, none⟩ = some (.int .i64 ct) := kp hb4 (by go_cell)
  replace c_c1 : w4.cell? ⟨w.heap.size, 1, none⟩ = some (.int .i64 clo) := kp hb4 (by go_cell)
  replace c_c2 : w4.cell? ⟨w.heap.size, 2, none⟩ = some (.int .i64 chi) := kp hb4 (by go_cell)
  replace c_c3 : w4.cell? ⟨w.heap.size, 3, none⟩ = some (.int .i64 cdr) := kp hb4 (by go_cell)
  replace c_d0 : w4.cell? ⟨w.heap.size + 1, 0, none⟩ = some (.int .i64 dl) := kp hb4 (by go_cell)
  replace c_d1 : w4.cell? ⟨w.heap.size + 1, 1, none⟩ = some (.int .i64 dh) := kp hb4 (by go_cell)
  replace c_y0 : w4.cell? ⟨w.heap.size + 1 + 1, 0, none⟩ = some (.int .i64 tlo) := kp hb4 (by go_cell)
  replace c_y1 : w4.cell? ⟨w.heap.size + 1 + 1, 1, none⟩ = some (.int .i64 thi) := kp hb4 (by go_cell)
  clear hb4 hB3
  go_wp2_with fail
  refine (HC.out _).mono ?_
  rintro e w5 ⟨rfl, hb5⟩
  have hB5 : Below w.heap.size w w5 := below_after (by go_grown) hb5
  have hz5 := hb5.size
  try simp only [World.size_alloc, World.size_setCell, World.size_drew] at hz5
  have hw5 := hB5.size
  replace c_c0 : w5.cell? ⟨w.heap.size, 0, none⟩ = some (.int .i64 ct) := kp hb5 (by go_cell)
  replace c_c1 : w5.cell? ⟨w.heap.size, 1, none⟩ = some (.int .i64 clo) := kp hb5 (by go_cell)
  replace c_c2 : w5.cell? ⟨w.heap.size, 2, none⟩ = some (.int .i64 chi) := kp hb5 (by go_cell)
  replace c_c3 : w5.cell? ⟨w.heap.size, 3, none⟩ = some (.int .i64 cdr) := kp hb5 (by go_cell)
  replace c_d0 : w5.cell? ⟨w.heap.size + 1, 0, none⟩ = some (.int .i64 dl) := kp hb5 (by go_cell)
  replace c_d1 : w5.cell? ⟨w.heap.size + 1, 1, none⟩ = some (.int .i64 dh) := kp hb5 (by go_cell)
  replace c_y0 : w5.cell? ⟨w.heap.size + 1 + 1, 0, none⟩ = some (.int .i64 tlo) := kp hb5 (by go_cell)
  replace c_y1 : w5.cell? ⟨w.heap.size + 1 + 1, 1, none⟩ = some (.int .i64 thi) := kp hb5 (by go_cell)
  clear hb5 hB4
  go_wp2_with fail
  go_ret
  exact ⟨rfl, by go_grown⟩
set_option maxHeartbeats 1600000 in
set_option maxRecDepth 100000 in
theorem ans_sp (A : Option Addr) (n c : Nat) (xs : List Wt) (ct clo chi cdr dl dh tlo thi sent there back wrong which : Int) (w : World) (hn : xs.length = n) (hx : Wts? w.heap.size w A xs) (h0 : n ≤ 25) (h1 : clkB ct clo chi cdr = true) (h2 : timB tlo thi = true) (h3 : ¬ there < 0) (h4 : ¬ 20000 < there) (h5 : ¬ back < 0) (h6 : ¬ 20000 < back) (h7 : readB sent = true) (hs : (wValid xs && depB dl dh) = false) : Calls Try.prog 20 #[.slice A n c, .agg #[.int .i64 ct, .int .i64 clo, .int .i64 chi, .int .i64 cdr], .agg #[.int .i64 dl, .int .i64 dh], .agg #[.int .i64 tlo, .int .i64 thi], .int .i64 sent, .int .i64 there, .int .i64 back, .int .i64 wrong, .int .u64 which] w fun e w' => e = .returned (.bool true) ∧ Below w.heap.size w w' := by
  have HXS := Lib.hid (hxs_of hx)
  have hF := fun W => bel (Few_any A n c W)
  rw [show decide (n ≤ 25) = true by simp; omega] at hF
  have HF := Lib.hid hF
  have hA := fun W => RCValid_any ct clo chi cdr W
  rw [h1] at hA
  have HA := Lib.hid hA
  have hB := fun W => RTimes17_any tlo thi W
  rw [h2] at hB
  have HB := Lib.hid hB
  have hC := fun W => bel (RTime_any sent W)
  rw [h7] at hC
  have HC := Lib.hid hC
  have hS := fun W h => Speed_any A n c xs dl dh W hn (by omega) h
  rw [speedS_no hs] at hS
  have HS := Lib.hid hS
  clear hx hn hS hF hA hB hC
  go_enter Try.func20, Try.ntmps20
  go_wp2_with fail
  refine (head17_any _).mono ?_
  rintro e w1 ⟨rfl, hb1⟩
  have hB1 : Below w.heap.size w w1 := below_after (by go_grown) hb1
  have hz1 := hb1.size
  try simp only [World.size_alloc, World.size_setCell, World.size_drew] at hz1
  have hw1 := hB1.size
  have c_c0 : w1.cell? ⟨w.heap.size, 0, none⟩ = some (.int .i64 ct) := kp hb1 (by go_cell)
  have c_c1 : w1.cell? ⟨w.heap.size, 1, none⟩ = some (.int .i64 clo) := kp hb1 (by go_cell)
  have c_c2 : w1.cell? ⟨w.heap.size, 2, none⟩ = some (.int .i64 chi) := kp hb1 (by go_cell)
  have c_c3 : w1.cell? ⟨w.heap.size, 3, none⟩ = some (.int .i64 cdr) := kp hb1 (by go_cell)
  have c_d0 : w1.cell? ⟨w.heap.size + 1, 0, none⟩ = some (.int .i64 dl) := kp hb1 (by go_cell)
  have c_d1 : w1.cell? ⟨w.heap.size + 1, 1, none⟩ = some (.int .i64 dh) := kp hb1 (by go_cell)
  have c_y0 : w1.cell? ⟨w.heap.size + 1 + 1, 0, none⟩ = some (.int .i64 tlo) := kp hb1 (by go_cell)
  have c_y1 : w1.cell? ⟨w.heap.size + 1 + 1, 1, none⟩ = some (.int .i64 thi) := kp hb1 (by go_cell)
  clear hb1
  go_wp2_with fail
  refine (HF.out _).mono ?_
  rintro e w2 ⟨rfl, hb2⟩
  have hB2 : Below w.heap.size w w2 := below_after (by go_grown) hb2
  have hz2 := hb2.size
  try simp only [World.size_alloc, World.size_setCell, World.size_drew] at hz2
  have hw2 := hB2.size
  replace c_c0 : w2.cell? ⟨w.heap.size, 0, none⟩ = some (.int .i64 ct) := kp hb2 (by go_cell)
  replace c_c1 : w2.cell? ⟨w.heap.size, 1, none⟩ = some (.int .i64 clo) := kp hb2 (by go_cell)
  replace c_c2 : w2.cell? ⟨w.heap.size, 2, none⟩ = some (.int .i64 chi) := kp hb2 (by go_cell)
  replace c_c3 : w2.cell? ⟨w.heap.size, 3, none⟩ = some (.int .i64 cdr) := kp hb2 (by go_cell)
  replace c_d0 : w2.cell? ⟨w.heap.size + 1, 0, none⟩ = some (.int .i64 dl) := kp hb2 (by go_cell)
  replace c_d1 : w2.cell? ⟨w.heap.size + 1, 1, none⟩ = some (.int .i64 dh) := kp hb2 (by go_cell)
  replace c_y0 : w2.cell? ⟨w.heap.size + 1 + 1, 0, none⟩ = some (.int .i64 tlo) := kp hb2 (by go_cell)
  replace c_y1 : w2.cell? ⟨w.heap.size + 1 + 1, 1, none⟩ = some (.int .i64 thi) := kp hb2 (by go_cell)
  clear hb2 hB1
  go_wp2_with fail
  refine (HA.out _).mono ?_
  rintro e w3 ⟨rfl, hb3⟩
  have hB3 : Below w.heap.size w w3 := below_after (by go_grown) hb3
  have hz3 := hb3.size
  try simp only [World.size_alloc, World.size_setCell, World.size_drew] at hz3
  have hw3 := hB3.size
  replace c_c0 : w3.cell? ⟨w.heap.size, 0, none⟩ = some (.int .i64 ct) := kp hb3 (by go_cell)
  replace c_c1 : w3.cell? ⟨w.heap.size, 1, none⟩ = some (.int .i64 clo) := kp hb3 (by go_cell)
  replace c_c2 : w3.cell? ⟨w.heap.size, 2, none⟩ = some (.int .i64 chi) := kp hb3 (by go_cell)
  replace c_c3 : w3.cell? ⟨w.heap.size, 3, none⟩ = some (.int .i64 cdr) := kp hb3 (by go_cell)
  replace c_d0 : w3.cell? ⟨w.heap.size + 1, 0, none⟩ = some (.int .i64 dl) := kp hb3 (by go_cell)
  replace c_d1 : w3.cell? ⟨w.heap.size + 1, 1, none⟩ = some (.int .i64 dh) := kp hb3 (by go_cell)
  replace c_y0 : w3.cell? ⟨w.heap.size + 1 + 1, 0, none⟩ = some (.int .i64 tlo) := kp hb3 (by go_cell)
  replace c_y1 : w3.cell? ⟨w.heap.size + 1 + 1, 1, none⟩ = some (.int .i64 thi) := kp hb3 (by go_cell)
  clear hb3 hB2
  go_wp2_with fail
  refine (HB.out _).mono ?_
  rintro e w4 ⟨rfl, hb4⟩
  have hB4 : Below w.heap.size w w4 := below_after (by go_grown) hb4
  have hz4 := hb4.size
  try simp only [World.size_alloc, World.size_setCell, World.size_drew] at hz4
  have hw4 := hB4.size
  replace c_c0 : w4.cell? ⟨w.heap.size, 0, none⟩ = some (.int .i64 ct) := kp hb4 (by go_cell)
  replace c_c1 : w4.cell? ⟨w.heap.size, 1, none⟩ = some (.int .i64 clo) := kp hb4 (by go_cell)
  replace c_c2 : w4.cell? ⟨w.heap.size, 2, none⟩ = some (.int .i64 chi) := kp hb4 (by go_cell)
  replace c_c3 : w4.cell? ⟨w.heap.size, 3, none⟩ = some (.int .i64 cdr) := kp hb4 (by go_cell)
  replace c_d0 : w4.cell? ⟨w.heap.size + 1, 0, none⟩ = some (.int .i64 dl) := kp hb4 (by go_cell)
  replace c_d1 : w4.cell? ⟨w.heap.size + 1, 1, none⟩ = some (.int .i64 dh) := kp hb4 (by go_cell)
  replace c_y0 : w4.cell? ⟨w.heap.size + 1 + 1, 0, none⟩ = some (.int .i64 tlo) := kp hb4 (by go_cell)
  replace c_y1 : w4.cell? ⟨w.heap.size + 1 + 1, 1, none⟩ = some (.int .i64 thi) := kp hb4 (by go_cell)
  clear hb4 hB3
  go_wp2_with fail
  refine (HC.out _).mono ?_
  rintro e w5 ⟨rfl, hb5⟩
  have hB5 : Below w.heap.size w w5 := below_after (by go_grown) hb5
  have hz5 := hb5.size
  try simp only [World.size_alloc, World.size_setCell, World.size_drew] at hz5
  have hw5 := hB5.size
  replace c_c0 : w5.cell? ⟨w.heap.size, 0, none⟩ = some (.int .i64 ct) := kp hb5 (by go_cell)
  replace c_c1 : w5.cell? ⟨w.heap.size, 1, none⟩ = some (.int .i64 clo) := kp hb5 (by go_cell)
  replace c_c2 : w5.cell? ⟨w.heap.size, 2, none⟩ = some (.int .i64 chi) := kp hb5 (by go_cell)
  replace c_c3 : w5.cell? ⟨w.heap.size, 3, none⟩ = some (.int .i64 cdr) := kp hb5 (by go_cell)
  replace c_d0 : w5.cell? ⟨w.heap.size + 1, 0, none⟩ = some (.int .i64 dl) := kp hb5 (by go_cell)
  replace c_d1 : w5.cell? ⟨w.heap.size + 1, 1, none⟩ = some (.int .i64 dh) := kp hb5 (by go_cell)
  replace c_y0 : w5.cell? ⟨w.heap.size + 1 + 1, 0, none⟩ = some (.int .i64 tlo) := kp hb5 (by go_cell)
  replace c_y1 : w5.cell? ⟨w.heap.size + 1 + 1, 1, none⟩ = some (.int .i64 thi) := kp hb5 (by go_cell)
  clear hb5 hB4
  go_wp2_with fail
  refine (HS.out _ (HXS.out _ (by go_grown))).mono ?_
  rintro e w6 ⟨rfl, hb6⟩
  have hB6 : Below w.heap.size w w6 := below_after (by go_grown) hb6
  have hz6 := hb6.size
  try simp only [World.size_alloc, World.size_setCell, World.size_drew] at hz6
  have hw6 := hB6.size
  replace c_c0 : w6.cell? ⟨w.heap.size, 0, none⟩ = some (.int .i64 ct) := kp hb6 (by go_cell)
  replace c_c1 : w6.cell? ⟨w.heap.size, 1, none⟩ = some (.int .i64 clo) := kp hb6 (by go_cell)
  replace c_c2 : w6.cell? ⟨w.heap.size, 2, none⟩ = some (.int .i64 chi) := kp hb6 (by go_cell)
  replace c_c3 : w6.cell? ⟨w.heap.size, 3, none⟩ = some (.int .i64 cdr) := kp hb6 (by go_cell)
  replace c_d0 : w6.cell? ⟨w.heap.size + 1, 0, none⟩ = some (.int .i64 dl) := kp hb6 (by go_cell)
  replace c_d1 : w6.cell? ⟨w.heap.size + 1, 1, none⟩ = some (.int .i64 dh) := kp hb6 (by go_cell)
  replace c_y0 : w6.cell? ⟨w.heap.size + 1 + 1, 0, none⟩ = some (.int .i64 tlo) := kp hb6 (by go_cell)
  replace c_y1 : w6.cell? ⟨w.heap.size + 1 + 1, 1, none⟩ = some (.int .i64 thi) := kp hb6 (by go_cell)
  clear hb6 hB5
  go_wp2_with fail
  go_ret
  exact ⟨rfl, by go_grown⟩
end Go.Proofs.Ytollpjdnahemeaa
