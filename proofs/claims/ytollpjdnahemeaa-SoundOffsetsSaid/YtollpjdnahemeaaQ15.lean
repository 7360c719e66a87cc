import Derived.Test.YtollpjdnahemeaaQ14
import Derived.Deep.RegionHeld3
import Derived.Deep.DeepCutAuto
namespace Go.Proofs.Ytollpjdnahemeaa
open Go.RowKit Go.Shelf
set_option linter.unusedSimpArgs false
set_option linter.unusedVariables false
attribute [local go_sem ↓] Go.wp_at_zero Go.wp_at_succ
set_option maxHeartbeats 1600000 in
set_option maxRecDepth 100000 in
theorem match17_many (A : Option Addr) (n c : Nat) (xs : List Wt) (ct clo chi cdr dl dh tlo thi sent got : Int) (w : World) (h25 : 25 < n) : Calls Try.prog 17 #[.slice A n c, .agg #[.int .i64 ct, .int .i64 clo, .int .i64 chi, .int .i64 cdr], .agg #[.int .i64 dl, .int .i64 dh], .agg #[.int .i64 tlo, .int .i64 thi], .int .i64 sent, .int .i64 got] w fun e w' => e = .returned (.bool true) ∧ Below w.heap.size w w' := by
  have hF := fun W => bel (Few_any A n c W)
  rw [show decide (n ≤ 25) = false by simp; omega] at hF
  have HF := Lib.hid hF
  clear hF
  go_enter Try.func17, Try.ntmps17
  go_wp2_with fail
  refine (head17_any _).mono ?_
  rintro e w1 ⟨rfl, hb1⟩
  have hB1 : Below w.heap.size w w1 := below_after (by go_grown) hb1
  have hz1 := hb1.size
  try simp only [World.size_alloc, World.size_setCell, World.size_drew] at hz1
  have hw1 := hB1.size
  have c_c0 : w1.cell? ⟨w.heap.size, 0, none⟩ = some (.int .i64 ct) := kp hb1 (by go_cell)
  have c_c1 : w1.cell? ⟨w.heap.size, 1, none⟩ = some (.int .i64 clo) := kp hb1 (by go_cell)
  have c_c2 : w1.cell? ⟨w.heap.size, 2, none⟩ = some (.int .i64 chi) := kp hb1 (by go_cell)
  have c_c3 : w1.cell? ⟨w.heap.size, 3, none⟩ = some (.int .i64 cdr) := kp hb1 (by go_cell)
  have c_d0 : w1.cell? ⟨w.heap.size + 1, 0, none⟩ = some (.int .i64 dl) := kp hb1 (by go_cell)
  have c_d1 : w1.cell? ⟨w.heap.size + 1, 1, none⟩ = some (.int .i64 dh) := kp hb1 (by go_cell)
  have c_t0 : w1.cell? ⟨w.heap.size + 1 + 1, 0, none⟩ = some (.int .i64 tlo) := kp hb1 (by go_cell)
  have c_t1 : w1.cell? ⟨w.heap.size + 1 + 1, 1, none⟩ = some (.int .i64 thi) := kp hb1 (by go_cell)
  clear hb1
  go_wp2_with fail
  refine (HF.out _).mono ?_
  rintro e w2 ⟨rfl, hb2⟩
  have hB2 : Below w.heap.size w w2 := below_after (by go_grown) hb2
  have hz2 := hb2.size
  try simp only [World.size_alloc, World.size_setCell, World.size_drew] at hz2
  have hw2 := hB2.size
  replace c_c0 : w2.cell? ⟨w.heap.size, 0, none⟩ = some (.int .i64 ct) := kp hb2 (by go_cell)
  replace c_c1 : w2.cell? ⟨w.heap.size, 1, none⟩ = some (.int .i64 clo) := kp hb2 (by go_cell)
  replace c_c2 : w2.cell? ⟨w.heap.size, 2, none⟩ = some (.int .i64 chi) := kp hb2 (by go_cell)
  replace c_c3 : w2.cell? ⟨w.heap.size, 3, none⟩ = some (.int .i64 cdr) := kp hb2 (by go_cell)
  replace c_d0 : w2.cell? ⟨w.heap.size + 1, 0, none⟩ = some (.int .i64 dl) := kp hb2 (by go_cell)
  replace c_d1 : w2.cell? ⟨w.heap.size + 1, 1, none⟩ = some (.int .i64 dh) := kp hb2 (by go_cell)
  replace c_t0 : w2.cell? ⟨w.heap.size + 1 + 1, 0, none⟩ = some (.int .i64 tlo) := kp hb2 (by go_cell)
  replace c_t1 : w2.cell? ⟨w.heap.size + 1 + 1, 1, none⟩ = some (.int .i64 thi) := kp hb2 (by go_cell)
  clear hb2 hB1
  go_wp2_with fail
  go_ret
  exact ⟨rfl, by go_grown⟩
set_option maxHeartbeats 1600000 in
set_option maxRecDepth 100000 in
theorem match17_go (A : Option Addr) (n c : Nat) (xs : List Wt) (ct clo chi cdr dl dh tlo thi sent got : Int) (w : World) (hn : xs.length = n) (hx : Wts? w.heap.size w A xs) (h25 : n ≤ 25) : Calls Try.prog 17 #[.slice A n c, .agg #[.int .i64 ct, .int .i64 clo, .int .i64 chi, .int .i64 cdr], .agg #[.int .i64 dl, .int .i64 dh], .agg #[.int .i64 tlo, .int .i64 thi], .int .i64 sent, .int .i64 got] w fun e w' => e = .returned (.bool true) ∧ Below w.heap.size w w' := by
  have HXS := Lib.hid (hxs_of hx)
  have hF := fun W => bel (Few_any A n c W)
  rw [show decide (n ≤ 25) = true by simp; omega] at hF
  have HF := Lib.hid hF
  have hHA := fun W h => Speed_any A n c xs dl dh W hn (by omega) h
  have hHB := fun W h => RSpeed_any A n c xs dl dh W hn (by omega) h
  have hHV := fun W h => SValid_any A n c xs W hn h
  have hHW := fun W h => RValid17_any A n c xs W hn h
  have hHC := fun W h => Dist_any A n c xs dl dh tlo thi W hn (by omega) h
  have hHD := fun W h => RDist_any A n c xs dl dh tlo thi W hn (by omega) h
  have hHE := fun W h => Two_any A n c xs ct clo chi cdr dl dh sent got tlo thi W hn (by omega) h
  have hHG := fun W h => RTwo_any A n c xs ct clo chi cdr dl dh sent got tlo thi W hn (by omega) h
  generalize speedS xs dl dh = P at hHA hHB
  obtain ⟨P1, P2, P3⟩ := P
  generalize distS xs dl dh tlo thi = Q at hHC hHD
  obtain ⟨Q1, Q2, Q3⟩ := Q
  generalize twoS xs ct clo chi cdr dl dh sent got tlo thi = R at hHE hHG
  obtain ⟨R1, R2, R3⟩ := R
  generalize wValid xs = V at hHV hHW
  have HA := Lib.hid hHA
  have HB := Lib.hid hHB
  have HV := Lib.hid hHV
  have HW := Lib.hid hHW
  have HC := Lib.hid hHC
  have HD := Lib.hid hHD
  have HE := Lib.hid hHE
  have HG := Lib.hid hHG
  clear hx hn hF hHA hHB hHV hHW hHC hHD hHE hHG
  go_enter Try.func17, Try.ntmps17
  go_wp2_with fail
  refine (head17_any _).mono ?_
  rintro e w1 ⟨rfl, hb1⟩
  have hB1 : Below w.heap.size w w1 := below_after (by go_grown) hb1
  have hz1 := hb1.size
  try simp only [World.size_alloc, World.size_setCell, World.size_drew] at hz1
  have hw1 := hB1.size
  have c_c0 : w1.cell? ⟨w.heap.size, 0, none⟩ = some (.int .i64 ct) := kp hb1 (by go_cell)
  have c_c1 : w1.cell? ⟨w.heap.size, 1, none⟩ = some (.int .i64 clo) := kp hb1 (by go_cell)
  have c_c2 : w1.cell? ⟨w.heap.size, 2, none⟩ = some (.int .i64 chi) := kp hb1 (by go_cell)
  have c_c3 : w1.cell? ⟨w.heap.size, 3, none⟩ = some (.int .i64 cdr) := kp hb1 (by go_cell)
  have c_d0 : w1.cell? ⟨w.heap.size + 1, 0, none⟩ = some (.int .i64 dl) := kp hb1 (by go_cell)
  have c_d1 : w1.cell? ⟨w.heap.size + 1, 1, none⟩ = some (.int .i64 dh) := kp hb1 (by go_cell)
  have c_t0 : w1.cell? ⟨w.heap.size + 1 + 1, 0, none⟩ = some (.int .i64 tlo) := kp hb1 (by go_cell)
  have c_t1 : w1.cell? ⟨w.heap.size + 1 + 1, 1, none⟩ = some (.int .i64 thi) := kp hb1 (by go_cell)
  clear hb1
  go_wp2_with fail
  refine (HF.out _).mono ?_
  rintro e w2 ⟨rfl, hb2⟩
  have hB2 : Below w.heap.size w w2 := below_after (by go_grown) hb2
  have hz2 := hb2.size
  try simp only [World.size_alloc, World.size_setCell, World.size_drew] at hz2
  have hw2 := hB2.size
  replace c_c0 : w2.cell? ⟨w.heap.size, 0, none⟩ = some (.int .i64 ct) := kp hb2 (by go_cell)
  replace c_c1 : w2.cell? ⟨w.heap.size, 1, none⟩ = some (.int .i64 clo) := kp hb2 (by go_cell)
  replace c_c2 : w2.cell? ⟨w.heap.size, 2, none⟩ = some (.int .i64 chi) := kp hb2 (by go_cell)
  replace c_c3 : w2.cell? ⟨w.heap.size, 3, none⟩ = some (.int .i64 cdr) := kp hb2 (by go_cell)
  replace c_d0 : w2.cell? ⟨w.heap.size + 1, 0, none⟩ = some (.int .i64 dl) := kp hb2 (by go_cell)
  replace c_d1 : w2.cell? ⟨w.heap.size + 1, 1, none⟩ = some (.int .i64 dh) := kp hb2 (by go_cell)
  replace c_t0 : w2.cell? ⟨w.heap.size + 1 + 1, 0, none⟩ = some (.int .i64 tlo) := kp hb2 (by go_cell)
  replace c_t1 : w2.cell? ⟨w.heap.size + 1 + 1, 1, none⟩ = some (.int .i64 thi) := kp hb2 (by go_cell)
  clear hb2 hB1
  go_wp2_with fail
  refine (HA.out _ (HXS.out _ (by go_grown))).mono ?_
  rintro e w3 ⟨rfl, hb3⟩
  have hB3 : Below w.heap.size w w3 := below_after (by go_grown) hb3
  have hz3 := hb3.size
  try simp only [World.size_alloc, World.size_setCell, World.size_drew] at hz3
  have hw3 := hB3.size
  replace c_c0 : w3.cell? ⟨w.heap.size, 0, none⟩ = some (.int .i64 ct) := kp hb3 (by go_cell)
  replace c_c1 : w3.cell? ⟨w.heap.size, 1, none⟩ = some (.int .i64 clo) := kp hb3 (by go_cell)
  replace c_c2 : w3.cell? ⟨w.heap.size, 2, none⟩ = some (.int .i64 chi) := kp hb3 (by go_cell)
  replace c_c3 : w3.cell? ⟨w.heap.size, 3, none⟩ = some (.int .i64 cdr) := kp hb3 (by go_cell)
  replace c_d0 : w3.cell? ⟨w.heap.size + 1, 0, none⟩ = some (.int .i64 dl) := kp hb3 (by go_cell)
  replace c_d1 : w3.cell? ⟨w.heap.size + 1, 1, none⟩ = some (.int .i64 dh) := kp hb3 (by go_cell)
  replace c_t0 : w3.cell? ⟨w.heap.size + 1 + 1, 0, none⟩ = some (.int .i64 tlo) := kp hb3 (by go_cell)
  replace c_t1 : w3.cell? ⟨w.heap.size + 1 + 1, 1, none⟩ = some (.int .i64 thi) := kp hb3 (by go_cell)
  clear hb3 hB2
  go_wp2_with fail
  refine (HB.out _ (HXS.out _ (by go_grown))).mono ?_
  rintro e w4 ⟨rfl, hb4⟩
  have hB4 : Below w.heap.size w w4 := below_after (by go_grown) hb4
  have hz4 := hb4.size
  try simp only [World.size_alloc, World.size_setCell, World.size_drew] at hz4
  have hw4 := hB4.size
  replace c_c0 : w4.cell? ⟨w.heap.size, 0, none⟩ = some (.int .i64 ct) := kp hb4 (by go_cell)
  replace c_c1 : w4.cell? ⟨w.heap.size, 1, none⟩ = some (.int .i64 clo) := kp hb4 (by go_cell)
  replace c_c2 : w4.cell? ⟨w.heap.size, 2, none⟩ = some (.int .i64 chi) := kp hb4 (by go_cell)
  replace c_c3 : w4.cell? ⟨w.heap.size, 3, none⟩ = some (.int .i64 cdr) := kp hb4 (by go_cell)
  replace c_d0 : w4.cell? ⟨w.heap.size + 1, 0, none⟩ = some (.int .i64 dl) := kp hb4 (by go_cell)
  replace c_d1 : w4.cell? ⟨w.heap.size + 1, 1, none⟩ = some (.int .i64 dh) := kp hb4 (by go_cell)
  replace c_t0 : w4.cell? ⟨w.heap.size + 1 + 1, 0, none⟩ = some (.int .i64 tlo) := kp hb4 (by go_cell)
  replace c_t1 : w4.cell? ⟨w.heap.size + 1 + 1, 1, none⟩ = some (.int .i64 thi) := kp hb4 (by go_cell)
  have f_s0 : w4.frozen? ⟨w3.heap.size, 0, none⟩ = false := kf hb4 (by go_simp) (by go_simp)
  have f_s1 : w4.frozen? ⟨w3.heap.size, 1, none⟩ = false := kf hb4 (by go_simp) (by go_simp)
  have c_s0 : w4.cell? ⟨w3.heap.size, 0, none⟩ = some (.int .i64 P1) := kp hb4 (by go_cell)
  have c_s1 : w4.cell? ⟨w3.heap.size, 1, none⟩ = some (.int .i64 P2) := kp hb4 (by go_cell)
  clear hb4 hB3
  go_wp2_with fail
  refine (HV.out _ (HXS.out _ (by go_grown))).mono ?_
  rintro e w5 ⟨rfl, hb5⟩
  have hB5 : Below w.heap.size w w5 := below_after (by go_grown) hb5
  have hz5 := hb5.size
  try simp only [World.size_alloc, World.size_setCell, World.size_drew] at hz5
  have hw5 := hB5.size
  replace c_c0 : w5.cell? ⟨w.heap.size, 0, none⟩ = some (.int .i64 ct) := kp hb5 (by go_cell)
  replace c_c1 : w5.cell? ⟨w.heap.size, 1, none⟩ = some (.int .i64 clo) := kp hb5 (by go_cell)
  replace c_c2 : w5.cell? ⟨w.heap.size, 2, none⟩ = some (.int .i64 chi) := kp hb5 (by go_cell)
  replace c_c3 : w5.cell? ⟨w.heap.size, 3, none⟩ = some (.int .i64 cdr) := kp hb5 (by go_cell)
  replace c_d0 : w5.cell? ⟨w.heap.size + 1, 0, none⟩ = some (.int .i64 dl) := kp hb5 (by go_cell)
  replace c_d1 : w5.cell? ⟨w.heap.size + 1, 1, none⟩ = some (.int .i64 dh) := kp hb5 (by go_cell)
  replace c_t0 : w5.cell? ⟨w.heap.size + 1 + 1, 0, none⟩ = some (.int .i64 tlo) := kp hb5 (by go_cell)
  replace c_t1 : w5.cell? ⟨w.heap.size + 1 + 1, 1, none⟩ = some (.int .i64 thi) := kp hb5 (by go_cell)
  replace f_s0 : w5.frozen? ⟨w3.heap.size, 0, none⟩ = false := kf hb5 (by go_simp) (by go_simp)
  replace f_s1 : w5.frozen? ⟨w3.heap.size, 1, none⟩ = false := kf hb5 (by go_simp) (by go_simp)
  replace c_s0 : w5.cell? ⟨w3.heap.size, 0, none⟩ = some (.int .i64 P1) := kp hb5 (by go_cell)
  replace c_s1 : w5.cell? ⟨w3.heap.size, 1, none⟩ = some (.int .i64 P2) := kp hb5 (by go_cell)
  have f_u0 : w5.frozen? ⟨w4.heap.size, 0, none⟩ = false := kf hb5 (by go_simp) (by go_simp)
  have f_u1 : w5.frozen? ⟨w4.heap.size, 1, none⟩ = false := kf hb5 (by go_simp) (by go_simp)
  have c_u0 : w5.cell? ⟨w4.heap.size, 0, none⟩ = some (.int .i64 P1) := kp hb5 (by go_cell)
  have c_u1 : w5.cell? ⟨w4.heap.size, 1, none⟩ = some (.int .i64 P2) := kp hb5 (by go_cell)
  clear hb5 hB4
  go_wp2_with fail
  refine (HW.out _ (HXS.out _ (by go_grown))).mono ?_
  rintro e w6 ⟨rfl, hb6⟩
  have hB6 : Below w.heap.size w w6 := below_after (by go_grown) hb6
  have hz6 := hb6.size
  try simp only [World.size_alloc, World.size_setCell, World.size_drew] at hz6
  have hw6 := hB6.size
  replace c_c0 : w6.cell? ⟨w.heap.size, 0, none⟩ = some (.int .i64 ct) := kp hb6 (by go_cell)
  replace c_c1 : w6.cell? ⟨w.heap.size, 1, none⟩ = some (.int .i64 clo) := kp hb6 (by go_cell)
  replace c_c2 : w6.cell? ⟨w.heap.size, 2, none⟩ = some (.int .i64 chi) := kp hb6 (by go_cell)
  replace c_c3 : w6.cell? ⟨w.heap.size, 3, none⟩ = some (.int .i64 cdr) := kp hb6 (by go_cell)
  replace c_d0 : w6.cell? ⟨w.heap.size + 1, 0, none⟩ = some (.int .i64 dl) := kp hb6 (by go_cell)
  replace c_d1 : w6.cell? ⟨w.heap.size + 1, 1, none⟩ = some (.int .i64 dh) := kp hb6 (by go_cell)
  replace c_t0 : w6.cell? ⟨w.heap.size + 1 + 1, 0, none⟩ = some (.int .i64 tlo) := kp hb6 (by go_cell)
  replace c_t1 : w6.cell? ⟨w.heap.size + 1 + 1, 1, none⟩ = some (.int .i64 thi) := kp hb6 (by go_cell)
  replace f_s0 : w6.frozen? ⟨w3.heap.size, 0, none⟩ = false := kf hb6 (by go_simp) (by go_simp)
  replace f_s1 : w6.frozen? ⟨w3.heap.size, 1, none⟩ = false := kf hb6 (by go_simp) (by go_simp)
  replace c_s0 : w6.cell? ⟨w3.heap.size, 0, none⟩ = some (.int .i64 P1) := kp hb6 (by go_cell)
  replace c_s1 : w6.cell? ⟨w3.heap.size, 1, none⟩ = some (.int .i64 P2) := kp hb6 (by go_cell)
  replace f_u0 : w6.frozen? ⟨w4.heap.size, 0, none⟩ = false := kf hb6 (by go_simp) (by go_simp)
  replace f_u1 : w6.frozen? ⟨w4.heap.size, 1, none⟩ = false := kf hb6 (by go_simp) (by go_simp)
  replace c_u0 : w6.cell? ⟨w4.heap.size, 0, none⟩ = some (.int .i64 P1) := kp hb6 (by go_cell)
  replace c_u1 : w6.cell? ⟨w4.heap.size, 1, none⟩ = some (.int .i64 P2) := kp hb6 (by go_cell)
  clear hb6 hB5
  go_wp2_with fail
  refine (HC.out _ (HXS.out _ (by go_grown))).mono ?_
  rintro e w7 ⟨rfl, hb7⟩
  have hB7 : Below w.heap.size w w7 := below_after (by go_grown) hb7
  have hz7 := hb7.size
  try simp only [World.size_alloc, World.size_setCell, World.size_drew] at hz7
  have hw7 := hB7.size
  replace c_c0 : w7.cell? ⟨w.heap.size, 0, none⟩ = some (.int .i64 ct) := kp hb7 (by go_cell)
  replace c_c1 : w7.cell? ⟨w.heap.size, 1, none⟩ = some (.int .i64 clo) := kp hb7 (by go_cell)
  replace c_c2 : w7.cell? ⟨w.heap.size, 2, none⟩ = some (.int .i64 chi) := kp hb7 (by go_cell)
  replace c_c3 : w7.cell? ⟨w.heap.size, 3, none⟩ = some (.int .i64 cdr) := kp hb7 (by go_cell)
  replace c_d0 : w7.cell? ⟨w.heap.size + 1, 0, none⟩ = some (.int .i64 dl) := kp hb7 (by go_cell)
  replace c_d1 : w7.cell? ⟨w.heap.size + 1, 1, none⟩ = some (.int .i64 dh) := kp hb7 (by go_cell)
  replace c_t0 : w7.cell? ⟨w.heap.size + 1 + 1, 0, none⟩ = some (.int .i64 tlo) := kp hb7 (by go_cell)
  replace c_t1 : w7.cell? ⟨w.heap.size + 1 + 1, 1, none⟩ = some (.int .i64 thi) := kp hb7 (by go_cell)
  replace f_s0 : w7.frozen? ⟨w3.heap.size, 0, none⟩ = false := kf hb7 (by go_simp) (by go_simp)
  replace f_s1 : w7.frozen? ⟨w3.heap.size, 1, none⟩ = false := kf hb7 (by go_simp) (by go_simp)
  replace c_s0 : w7.cell? ⟨w3.heap.size, 0, none⟩ = some (.int .i64 P1) := kp hb7 (by go_cell)
  replace c_s1 : w7.cell? ⟨w3.heap.size, 1, none⟩ = some (.int .i64 P2) := kp hb7 (by go_cell)
  replace f_u0 : w7.frozen? ⟨w4.heap.size, 0, none⟩ = false := kf hb7 (by go_simp) (by go_simp)
  replace f_u1 : w7.frozen? ⟨w4.heap.size, 1, none⟩ = false := kf hb7 (by go_simp) (by go_simp)
  replace c_u0 : w7.cell? ⟨w4.heap.size, 0, none⟩ = some (.int .i64 P1) := kp hb7 (by go_cell)
  replace c_u1 : w7.cell? ⟨w4.heap.size, 1, none⟩ = some (.int .i64 P2) := kp hb7 (by go_cell)
  clear hb7 hB6
  go_wp2_with fail
  refine (HD.out _ (HXS.out _ (by go_grown))).mono ?_
  rintro e w8 ⟨rfl, hb8⟩
  have hB8 : Below w.heap.size w w8 := below_after (by go_grown) hb8
  have hz8 := hb8.size
  try simp only [World.size_alloc, World.size_setCell, World.size_drew] at hz8
  have hw8 := hB8.size
  replace c_c0 : w8.cell? ⟨w.heap.size, 0, none⟩ = some (.int .i64 ct) := kp hb8 (by go_cell)
  replace c_c1 : w8.cell? ⟨w.heap.size, 1, none⟩ = some (.int .i64 clo) := kp hb8 (by go_cell)
  replace c_c2 : w8.cell? ⟨w.heap.size, 2, none⟩ = some (.int .i64 chi) := kp hb8 (by go_cell)
  replace c_c3 : w8.cell? ⟨w.heap.size, 3, none⟩ = some (.int .i64 cdr) := kp hb8 (by go_cell)
  replace c_d0 : w8.cell? ⟨w.heap.size + 1, 0, none⟩ = some (.int .i64 dl) := kp hb8 (by go_cell)
  replace c_d1 : w8.cell? ⟨w.heap.size + 1, 1, none⟩ = some (.int .i64 dh) := kp hb8 (by go_cell)
  replace c_t0 : w8.cell? ⟨w.heap.size + 1 + 1, 0, none⟩ = some (.int .i64 tlo) := kp hb8 (by go_cell)
  replace c_t1 : w8.cell? ⟨w.heap.size + 1 + 1, 1, none⟩ = some (.int .i64 thi) := kp hb8 (by go_cell)
  replace f_s0 : w8.frozen? ⟨w3.heap.size, 0, none⟩ = false := kf hb8 (by go_simp) (by go_simp)
  replace f_s1 : w8.frozen? ⟨w3.heap.size, 1, none⟩ = false := kf hb8 (by go_simp) (by go_simp)
  replace c_s0 : w8.cell? ⟨w3.heap.size, 0, none⟩ = some (.int .i64 Q1) := kp hb8 (by go_cell)
  replace c_s1 : w8.cell? ⟨w3.heap.size, 1, none⟩ = some (.int .i64 Q2) := kp hb8 (by go_cell)
  replace f_u0 : w8.frozen? ⟨w4.heap.size, 0, none⟩ = false := kf hb8 (by go_simp) (by go_simp)
  replace f_u1 : w8.frozen? ⟨w4.heap.size, 1, none⟩ = false := kf hb8 (by go_simp) (by go_simp)
  replace c_u0 : w8.cell? ⟨w4.heap.size, 0, none⟩ = some (.int .i64 P1) := kp hb8 (by go_cell)
  replace c_u1 : w8.cell? ⟨w4.heap.size, 1, none⟩ = some (.int .i64 P2) := kp hb8 (by go_cell)
  clear hb8 hB7
  go_wp2_with fail
  refine (HE.out _ (HXS.out _ (by go_grown))).mono ?_
  rintro e w9 ⟨rfl, hb9⟩
  have hB9 : Below w.heap.size w w9 := below_after (by go_grown) hb9
  have hz9 := hb9.size
  try simp only [World.size_alloc, World.size_setCell, World.size_drew] at hz9
  have hw9 := hB9.size
  replace c_c0 : w9.cell? ⟨w.heap.size, 0, none⟩ = some (.int .i64 ct) := kp hb9 (by go_cell)
  replace c_c1 : w9.cell? ⟨w.heap.size, 1, none⟩ = some (.int .i64 clo) := kp hb9 (by go_cell)
  replace c_c2 : w9.cell? ⟨w.heap.size, 2, none⟩ = some (.int .i64 chi) := kp hb9 (by go_cell)
  replace c_c3 : w9.cell? ⟨w.heap.size, 3, none⟩ = some (.int .i64 cdr) := kp hb9 (by go_cell)
  replace c_d0 : w9.cell? ⟨w.heap.size + 1, 0, none⟩ = some (.int .i64 dl) := kp hb9 (by go_cell)
  replace c_d1 : w9.cell? ⟨w.heap.size + 1, 1, none⟩ = some (.int .i64 dh) := kp hb9 (by go_cell)
  replace c_t0 : w9.cell? ⟨w.heap.size + 1 + 1, 0, none⟩ = some (.int .i64 tlo) := kp hb9 (by go_cell)
  replace c_t1 : w9.cell? ⟨w.heap.size + 1 + 1, 1, none⟩ = some (.int .i64 thi) := kp hb9 (by go_cell)
  replace f_s0 : w9.frozen? ⟨w3.heap.size, 0, none⟩ = false := kf hb9 (by go_simp) (by go_simp)
  replace f_s1 : w9.frozen? ⟨w3.heap.size, 1, none⟩ = false := kf hb9 (by go_simp) (by go_simp)
  replace c_s0 : w9.cell? ⟨w3.heap.size, 0, none⟩ = some (.int .i64 Q1) := kp hb9 (by go_cell)
  replace c_s1 : w9.cell? ⟨w3.heap.size, 1, none⟩ = some (.int .i64 Q2) := kp hb9 (by go_cell)
  replace f_u0 : w9.frozen? ⟨w4.heap.size, 0, none⟩ = false := kf hb9 (by go_simp) (by go_simp)
  replace f_u1 : w9.frozen? ⟨w4.heap.size, 1, none⟩ = false := kf hb9 (by go_simp) (by go_simp)
  replace c_u0 : w9.cell? ⟨w4.heap.size, 0, none⟩ = some (.int .i64 Q1) := kp hb9 (by go_cell)
  replace c_u1 : w9.cell? ⟨w4.heap.size, 1, none⟩ = some (.int .i64 Q2) := kp hb9 (by go_cell)
  clear hb9 hB8
  go_wp2_with fail
  refine (HG.out _ (HXS.out _ (by go_grown))).mono ?_
  rintro e w10 ⟨rfl, hb10⟩
  have hB10 : Below w.heap.size w w10 := below_after (by go_grown) hb10
  have hz10 := hb10.size
  try simp only [World.size_alloc, World.size_setCell, World.size_drew] at hz10
  have hw10 := hB10.size
  replace c_c0 : w10.cell? ⟨w.heap.size, 0, none⟩ = some (.int .i64 ct) := kp hb10 (by go_cell)
  replace c_c1 : w10.cell? ⟨w.heap.size, 1, none⟩ = some (.int .i64 clo) := kp hb10 (by go_cell)
  replace c_c2 : w10.cell? ⟨w.heap.size, 2, none⟩ = some (.int .i64 chi) := kp hb10 (by go_cell)
  replace c_c3 : w10.cell? ⟨w.heap.size, 3, none⟩ = some (.int .i64 cdr) := kp hb10 (by go_cell)
  replace c_d0 : w10.cell? ⟨w.heap.size + 1, 0, none⟩ = some (.int .i64 dl) := kp hb10 (by go_cell)
  replace c_d1 : w10.cell? ⟨w.heap.size + 1, 1, none⟩ = some (.int .i64 dh) := kp hb10 (by go_cell)
  replace c_t0 : w10.cell? ⟨w.heap.size + 1 + 1, 0, none⟩ = some (.int .i64 tlo) := kp hb10 (by go_cell)
  replace c_t1 : w10.cell? ⟨w.heap.size + 1 + 1, 1, none⟩ = some (.int .i64 thi) := kp hb10 (by go_cell)
  replace f_s0 : w10.frozen? ⟨w3.heap.size, 0, none⟩ = false := kf hb10 (by go_simp) (by go_simp)
  replace f_s1 : w10.frozen? ⟨w3.heap.size, 1, none⟩ = false := kf hb10 (by go_simp) (by go_simp)
  replace c_s0 : w10.cell? ⟨w3.heap.size, 0, none⟩ = some (.int .i64 R1) := kp hb10 (by go_cell)
  replace c_s1 : w10.cell? ⟨w3.heap.size, 1, none⟩ = some (.int .i64 R2) := kp hb10 (by go_cell)
  replace f_u0 : w10.frozen? ⟨w4.heap.size, 0, none⟩ = false := kf hb10 (by go_simp) (by go_simp)
  replace f_u1 : w10.frozen? ⟨w4.heap.size, 1, none⟩ = false := kf hb10 (by go_simp) (by go_simp)
  replace c_u0 : w10.cell? ⟨w4.heap.size, 0, none⟩ = some (.int .i64 Q1) := kp hb10 (by go_cell)
  replace c_u1 : w10.cell? ⟨w4.heap.size, 1, none⟩ = some (.int .i64 Q2) := kp hb10 (by go_cell)
  clear hb10 hB9
  go_wp2_with fail
  go_ret
  exact ⟨rfl, by go_grown⟩
theorem match17_walk (A : Option Addr) (n c : Nat) (xs : List Wt) (ct clo chi cdr dl dh tlo thi sent got : Int) (w : World) (hn : xs.length = n) (hx : Wts? w.heap.size w A xs) : Calls Try.prog 17 #[.slice A n c, .agg #[.int .i64 ct, .int .i64 clo, .int .i64 chi, .int .i64 cdr], .agg #[.int .i64 dl, .int .i64 dh], .agg #[.int .i64 tlo, .int .i64 thi], .int .i64 sent, .int .i64 got] w fun e w' => e = .returned (.bool true) ∧ Below w.heap.size w w' := by
  by_cases h25 : n ≤ 25
  · exact match17_go A n c xs ct clo chi cdr dl dh tlo thi sent got w hn hx h25
  · exact match17_many A n c xs ct clo chi cdr dl dh tlo thi sent got w (by omega)
set_option maxHeartbeats 1600000 in
set_option maxRecDepth 100000 in
theorem offs_0 (A : Option Addr) (n c : Nat) (xs : List Wt) (ct clo chi cdr et elo ehi edr dl dh tlo thi sent got later : Int) (w : World) (h0 : 25 < n) : Calls Try.prog 23 #[.slice A n c, .agg #[.int .i64 ct, .int .i64 clo, .int .i64 chi, .int .i64 cdr], .agg #[.int .i64 et, .int .i64 elo, .int .i64 ehi, .int .i64 edr], .agg #[.int .i64 dl, .int .i64 dh], .agg #[.int .i64 tlo, .int .i64 thi], .int .i64 sent, .int .i64 got, .int .i64 later] w fun e w' => e = .returned (.bool true) ∧ Below w.heap.size w w' := by
  have hF := fun W => bel (Few_any A n c W)
  rw [show decide (n ≤ 25) = false by simp; omega] at hF
  have HF := Lib.hid hF
  clear hF
  go_enter Try.func23, Try.ntmps23
  go_wp2_with fail
  refine (head17_any _).mono ?_
  rintro e w1 ⟨rfl, hb1⟩
  have hB1 : Below w.heap.size w w1 := below_after (by go_grown) hb1
  have hz1 := hb1.size
  try simp only [World.size_alloc, World.size_setCell, World.size_drew] at hz1
  have hw1 := hB1.size
  have c_c0 : w1.cell? ⟨w.heap.size, 0, none⟩ = some (.int .i64 ct) := kp hb1 (by go_cell)
  have c_c1 : w1.cell? ⟨w.heap.size, 1, none⟩ = some (.int .i64 clo) := kp hb1 (by go_cell)
  have c_c2 : w1.cell? ⟨w.heap.size, 2, none⟩ = some (.int .i64 chi) := kp hb1 (by go_cell)
  have c_c3 : w1.cell? ⟨w.heap.size, 3, none⟩ = some (.int .i64 cdr) := kp hb1 (by go_cell)
  have f_e0 : w1.frozen? ⟨w.heap.size + 1, 0, none⟩ = false := kf hb1 (by go_simp) (by go_simp)
  have f_e1 : w1.frozen? ⟨w.heap.size + 1, 1, none⟩ = false := kf hb1 (by go_simp) (by go_simp)
  have f_e2 : w1.frozen? ⟨w.heap.size + 1, 2, none⟩ = false := kf hb1 (by go_simp) (by go_simp)
  have f_e3 : w1.frozen? ⟨w.heap.size + 1, 3, none⟩ = false := kf hb1 (by go_simp) (by go_simp)
  have c_e0 : w1.cell? ⟨w.heap.size + 1, 0, none⟩ = some (.int .i64 et) := kp hb1 (by go_cell)
  have c_e1 : w1.cell? ⟨w.heap.size + 1, 1, none⟩ = some (.int .i64 elo) := kp hb1 (by go_cell)
  have c_e2 : w1.cell? ⟨w.heap.size + 1, 2, none⟩ = some (.int .i64 ehi) := kp hb1 (by go_cell)
  have c_e3 : w1.cell? ⟨w.heap.size + 1, 3, none⟩ = some (.int .i64 edr) := kp hb1 (by go_cell)
  have c_d0 : w1.cell? ⟨w.heap.size + 1 + 1, 0, none⟩ = some (.int .i64 dl) := kp hb1 (by go_cell)
  have c_d1 : w1.cell? ⟨w.heap.size + 1 + 1, 1, none⟩ = some (.int .i64 dh) := kp hb1 (by go_cell)
  have c_t0 : w1.cell? ⟨w.heap.size + 1 + 1 + 1, 0, none⟩ = some (.int .i64 tlo) := kp hb1 (by go_cell)
  have c_t1 : w1.cell? ⟨w.heap.size + 1 + 1 + 1, 1, none⟩ = some (.int .i64 thi) := kp hb1 (by go_cell)
  clear hb1
  go_wp2_with fail
  refine (HF.out _).mono ?_
  rintro e w2 ⟨rfl, hb2⟩
  have hB2 : Below w.heap.size w w2 := below_after (by go_grown) hb2
  have hz2 := hb2.size
  try simp only [World.size_alloc, World.size_setCell, World.size_drew] at hz2
  have hw2 := hB2.size
  replace c_c0 : w2.cell? ⟨w.heap.size, 0, none⟩ = some (.int .i64 ct) := kp hb2 (by go_cell)
  replace c_c1 : w2.cell? ⟨w.heap.size, 1, none⟩ = some (.int .i64 clo) := kp hb2 (by go_cell)
  replace c_c2 : w2.cell? ⟨w.heap.size, 2, none⟩ = some (.int .i64 chi) := kp hb2 (by go_cell)
  replace c_c3 : w2.cell? ⟨w.heap.size, 3, none⟩ = some (.int .i64 cdr) := kp hb2 (by go_cell)
  replace f_e0 : w2.frozen? ⟨w.heap.size + 1, 0, none⟩ = false := kf hb2 (by go_simp) (by go_simp)
  replace f_e1 : w2.frozen? ⟨w.heap.size + 1, 1, none⟩ = false := kf hb2 (by go_simp) (by go_simp)
  replace f_e2 : w2.frozen? ⟨w.heap.size + 1, 2, none⟩ = false := kf hb2 (by go_simp) (by go_simp)
  replace f_e3 : w2.frozen? ⟨w.heap.size + 1, 3, none⟩ = false := kf hb2 (by go_simp) (by go_simp)
  replace c_e0 : w2.cell? ⟨w.heap.size + 1, 0, none⟩ = some (.int .i64 et) := kp hb2 (by go_cell)
  replace c_e1 : w2.cell? ⟨w.heap.size + 1, 1, none⟩ = some (.int .i64 elo) := kp hb2 (by go_cell)
  replace c_e2 : w2.cell? ⟨w.heap.size + 1, 2, none⟩ = some (.int .i64 ehi) := kp hb2 (by go_cell)
  replace c_e3 : w2.cell? ⟨w.heap.size + 1, 3, none⟩ = some (.int .i64 cdr) := kp hb2 (by go_cell)
  replace c_d0 : w2.cell? ⟨w.heap.size + 1 + 1, 0, none⟩ = some (.int .i64 dl) := kp hb2 (by go_cell)
  replace c_d1 : w2.cell? ⟨w.heap.size + 1 + 1, 1, none⟩ = some (.int .i64 dh) := kp hb2 (by go_cell)
  replace c_t0 : w2.cell? ⟨w.heap.size + 1 + 1 + 1, 0, none⟩ = some (.int .i64 tlo) := kp hb2 (by go_cell)
  replace c_t1 : w2.cell? ⟨w.heap.size + 1 + 1 + 1, 1, none⟩ = some (.int .i64 thi) := kp hb2 (by go_cell)
  clear hb2 hB1
  go_wp2_with fail
  go_ret
  exact ⟨rfl, by go_grown⟩
set_option maxHeartbeats 1600000 in
set_option maxRecDepth 100000 in
theorem offs_1 (A : Option Addr) (n c : Nat) (xs : List Wt) (ct clo chi cdr et elo ehi edr dl dh tlo thi sent got later : Int) (w : World) (h0 : n ≤ 25) (h1 : clkB ct clo chi cdr = false) : Calls Try.prog 23 #[.slice A n c, .agg #[.int .i64 ct, .int .i64 clo, .int .i64 chi, .int .i64 cdr], .agg #[.int .i64 et, .int .i64 elo, .int .i64 ehi, .int .i64 edr], .agg #[.int .i64 dl, .int .i64 dh], .agg #[.int .i64 tlo, .int .i64 thi], .int .i64 sent, .int .i64 got, .int .i64 later] w fun e w' => e = .returned (.bool true) ∧ Below w.heap.size w w' := by
  have hF := fun W => bel (Few_any A n c W)
  rw [show decide (n ≤ 25) = true by simp; omega] at hF
  have HF := Lib.hid hF
  have hA := fun W => RCValid_any ct clo chi cdr W
  rw [h1] at hA
  have HA := Lib.hid hA
  clear hF hA
  go_enter Try.func23, Try.ntmps23
  go_wp2_with fail
  refine (head17_any _).mono ?_
  rintro e w1 ⟨rfl, hb1⟩
  have hB1 : Below w.heap.size w w1 := below_after (by go_grown) hb1
  have hz1 := hb1.size
  try simp only [World.size_alloc, World.size_setCell, World.size_drew] at hz1
  have hw1 := hB1.size
  have c_c0 : w1.cell? ⟨w.heap.size, 0, none⟩ = some (.int .i64 ct) := kp hb1 (by go_cell)
  have c_c1 : w1.cell? ⟨w.heap.size, 1, none⟩ = some (.int .i64 clo) := kp hb1 (by go_cell)
  have c_c2 : w1.cell? ⟨w.heap.size, 2, none⟩ = some (.int .i64 chi) := kp hb1 (by go_cell)
  have c_c3 : w1.cell? ⟨w.heap.size, 3, none⟩ = some (.int .i64 cdr) := kp hb1 (by go_cell)
  have f_e0 : w1.frozen? ⟨w.heap.size + 1, 0, none⟩ = false := kf hb1 (by go_simp) (by go_simp)
  have f_e1 : w1.frozen? ⟨w.heap.size + 1, 1, none⟩ = false := kf hb1 (by go_simp) (by go_simp)
  have f_e2 : w1.frozen? ⟨w.heap.size + 1, 2, none⟩ = false := kf hb1 (by go_simp) (by go_simp)
  have f_e3 : w1.frozen? ⟨w.heap.size + 1, 3, none⟩ = false := kf hb1 (by go_simp) (by go_simp)
  have c_e0 : w1.cell? ⟨w.heap.size + 1, 0, none⟩ = some (.int .i64 et) := kp hb1 (by go_cell)
  have c_e1 : w1.cell? ⟨w.heap.size + 1, 1, none⟩ = some (.int .i64 elo) := kp hb1 (by go_cell)
  have c_e2 : w1.cell? ⟨w.heap.size + 1, 2, none⟩ = some (.int .i64 ehi) := kp hb1 (by go_cell)
  have c_e3 : w1.cell? ⟨w.heap.size + 1, 3, none⟩ = some (.int .i64 edr) := kp hb1 (by go_cell)
  have c_d0 : w1.cell? ⟨w.heap.size + 1 + 1, 0, none⟩ = some (.int .i64 dl) := kp hb1 (by go_cell)
  have c_d1 : w1.cell? ⟨w.heap.size + 1 + 1, 1, none⟩ = some (.int .i64 dh) := kp hb1 (by go_cell)
  have c_t0 : w1.cell? ⟨w.heap.size + 1 + 1 + 1, 0, none⟩ = some (.int .i64 tlo) := kp hb1 (by go_cell)
  have c_t1 : w1.cell? ⟨w.heap.size + 1 + 1 + 1, 1, none⟩ = some (.int .i64 thi) := kp hb1 (by go_cell)
  clear hb1
  go_wp2_with fail
  refine (HF.out _).mono ?_
  rintro e w2 ⟨rfl, hb2⟩
  have hB2 : Below w.heap.size w w2 := below_after (by go_grown) hb2
  have hz2 := hb2.size
  try simp only [World.size_alloc, World.size_setCell, World.size_drew] at hz2
  have hw2 := hB2.size
  replace c_c0 : w2.cell? ⟨w.heap.size, 0, none⟩ = some (.int .i64 ct) := kp hb2 (by go_cell)
  replace c_c1 : w2.cell? ⟨w.heap.size, 1, none⟩ = some (.int .i64 clo) := kp hb2 (by go_cell)
  replace c_c2 : w2.cell? ⟨w.heap.size, 2, none⟩ = some (.int .i64 chi) := kp hb2 (by go_cell)
  replace c_c3 : w2.cell? ⟨w.heap.size, 3, none⟩ = some (.int .i64 cdr) := kp hb2 (by go_cell)
  replace f_e0 : w2.frozen? ⟨w.heap.size + 1, 0, none⟩ = false := kf hb2 (by go_simp) (by go_simp)
  replace f_e1 : w2.frozen? ⟨w.heap.size + 1, 1, none⟩ = false := kf hb2 (by go_simp) (by go_simp)
  replace f_e2 : w2.frozen? ⟨w.heap.size + 1, 2, none⟩ = false := kf hb2 (by go_simp) (by go_simp)
  replace f_e3 : w2.frozen? ⟨w.heap.size + 1, 3, none⟩ = false := kf hb2 (by go_simp) (by go_simp)
  replace c_e0 : w2.cell? ⟨w.heap.size + 1, 0, none⟩ = some (.int .i64 et) := kp hb2 (by go_cell)
  replace c_e1 : w2.cell? ⟨w.heap.size + 1, 1, none⟩ = some (.int .i64 elo) := kp hb2 (by go_cell)
  replace c_e2 : w2.cell? ⟨w.heap.size + 1, 2, none⟩ = some (.int .i64 ehi) := kp hb2 (by go_cell)
  replace c_e3 : w2.cell? ⟨w.heap.size + 1, 3, none⟩ = some (.int .i64 cdr) := kp hb2 (by go_cell)
  replace c_d0 : w2.cell? ⟨w.heap.size + 1 + 1, 0, none⟩ = some (.int .i64 dl) := kp hb2 (by go_cell)
  replace c_d1 : w2.cell? ⟨w.heap.size + 1 + 1, 1, none⟩ = some (.int .i64 dh) := kp hb2 (by go_cell)
  replace c_t0 : w2.cell? ⟨w.heap.size + 1 + 1 + 1, 0, none⟩ = some (.int .i64 tlo) := kp hb2 (by go_cell)
  replace c_t1 : w2.cell? ⟨w.heap.size + 1 + 1 + 1, 1, none⟩ = some (.int .i64 thi) := kp hb2 (by go_cell)
  clear hb2 hB1
  go_wp2_with fail
  refine (HA.out _).mono ?_
  rintro e w3 ⟨rfl, hb3⟩
  have hB3 : Below w.heap.size w w3 := below_after (by go_grown) hb3
  have hz3 := hb3.size
  try simp only [World.size_alloc, World.size_setCell, World.size_drew] at hz3
  have hw3 := hB3.size
  replace c_c0 : w3.cell? ⟨w.heap.size, 0, none⟩ = some (.int .i64 ct) := kp hb3 (by go_cell)
  replace c_c1 : w3.cell? ⟨w.heap.size, 1, none⟩ = some (.int .i64 clo) := kp hb3 (by go_cell)
  replace c_c2 : w3.cell? ⟨w.heap.size, 2, none⟩ = some (.int .i64 chi) := kp hb3 (by go_cell)
  replace c_c3 : w3.cell? ⟨w.heap.size, 3, none⟩ = some (.int .i64 cdr) := kp hb3 (by go_cell)
  replace f_e0 : w3.frozen? ⟨w.heap.size + 1, 0, none⟩ = false := kf hb3 (by go_simp) (by go_simp)
  replace f_e1 : w3.frozen? ⟨w.heap.size + 1, 1, none⟩ = false := kf hb3 (by go_simp) (by go_simp)
  replace f_e2 : w3.frozen? ⟨w.heap.size + 1, 2, none⟩ = false := kf hb3 (by go_simp) (by go_simp)
  replace f_e3 : w3.frozen? ⟨w.heap.size + 1, 3, none⟩ = false := kf hb3 (by go_simp) (by go_simp)
  replace c_e0 : w3.cell? ⟨w.heap.size + 1, 0, none⟩ = some (.int .i64 et) := kp hb3 (by go_cell)
  replace c_e1 : w3.cell? ⟨w.heap.size + 1, 1, none⟩ = some (.int .i64 elo) := kp hb3 (by go_cell)
  replace c_e2 : w3.cell? ⟨w.heap.size + 1, 2, none⟩ = some (.int .i64 ehi) := kp hb3 (by go_cell)
  replace c_e3 : w3.cell? ⟨w.heap.size + 1, 3, none⟩ = some (.int .i64 cdr) := kp hb3 (by go_cell)
  replace c_d0 : w3.cell? ⟨w.heap.size + 1 + 1, 0, none⟩ = some (.int .i64 dl) := kp hb3 (by go_cell)
  replace c_d1 : w3.cell? ⟨w.heap.size + 1 + 1, 1, none⟩ = some (.int .i64 dh) := kp hb3 (by go_cell)
  replace c_t0 : w3.cell? ⟨w.heap.size + 1 + 1 + 1, 0, none⟩ = some (.int .i64 tlo) := kp hb3 (by go_cell)
  replace c_t1 : w3.cell? ⟨w.heap.size + 1 + 1 + 1, 1, none⟩ = some (.int .i64 thi) := kp hb3 (by go_cell)
  clear hb3 hB2
  go_wp2_with fail
  go_ret
  exact ⟨rfl, by go_grown⟩
set_option maxHeartbeats 1600000 in
set_option maxRecDepth 100000 in
theorem offs_2 (A : Option Addr) (n c : Nat) (xs : List Wt) (ct clo chi cdr et elo ehi edr dl dh tlo thi sent got later : Int) (w : World) (h0 : n ≤ 25) (h1 : clkB ct clo chi cdr = true) (h2 : clkB et elo ehi cdr = false) : Calls Try.prog 23 #[.slice A n c, .agg #[.int .i64 ct, .int .i64 clo, .int .i64 chi, .int .i64 cdr], .agg #[.int .i64 et, .int .i64 elo, .int .i64 ehi, .int .i64 edr], .agg #[.int .i64 dl, .int .i64 dh], .agg #[.int .i64 tlo, .int .i64 thi], .int .i64 sent, .int .i64 got, .int .i64 later] w fun e w' => e = .returned (.bool true) ∧ Below w.heap.size w w' := by
  have hF := fun W => bel (Few_any A n c W)
  rw [show decide (n ≤ 25) = true by simp; omega] at hF
  have HF := Lib.hid hF
  have hA := fun W => RCValid_any ct clo chi cdr W
  rw [h1] at hA
  have HA := Lib.hid hA
  have hB := fun W => RCValid_any et elo ehi cdr W
  rw [h2] at hB
  have HB := Lib.hid hB
  clear hF hA hB
  go_enter Try.func23, Try.ntmps23
  go_wp2_with fail
  refine (head17_any _).mono ?_
  rintro e w1 ⟨rfl, hb1⟩
  have hB1 : Below w.heap.size w w1 := below_after (by go_grown) hb1
  have hz1 := hb1.size
  try simp only [World.size_alloc, World.size_setCell, World.size_drew] at hz1
  have hw1 := hB1.size
  have c_c0 : w1.cell? ⟨w.heap.size, 0, none⟩ = some (.int .i64 ct) := kp hb1 (by go_cell)
  have c_c1 : w1.cell? ⟨w.heap.size, 1, none⟩ = some (.int .i64 clo) := kp hb1 (by go_cell)
  have c_c2 : w1.cell? ⟨w.heap.size, 2, none⟩ = some (.int .i64 chi) := kp hb1 (by go_cell)
  have c_c3 : w1.cell? ⟨w.heap.size, 3, none⟩ = some (.int .i64 cdr) := kp hb1 (by go_cell)
  have f_e0 : w1.frozen? ⟨w.heap.size + 1, 0, none⟩ = false := kf hb1 (by go_simp) (by go_simp)
  have f_e1 : w1.frozen? ⟨w.heap.size + 1, 1, none⟩ = false := kf hb1 (by go_simp) (by go_simp)
  have f_e2 : w1.frozen? ⟨w.heap.size + 1, 2, none⟩ = false := kf hb1 (by go_simp) (by go_simp)
  have f_e3 : w1.frozen? ⟨w.heap.size + 1, 3, none⟩ = false := kf hb1 (by go_simp) (by go_simp)
  have c_e0 : w1.cell? ⟨w.heap.size + 1, 0, none⟩ = some (.int .i64 et) := kp hb1 (by go_cell)
  have c_e1 : w1.cell? ⟨w.heap.size + 1, 1, none⟩ = some (.int .i64 elo) := kp hb1 (by go_cell)
  have c_e2 : w1.cell? ⟨w.heap.size + 1, 2, none⟩ = some (.int .i64 ehi) := kp hb1 (by go_cell)
  have c_e3 : w1.cell? ⟨w.heap.size + 1, 3, none⟩ = some (.int .i64 edr) := kp hb1 (by go_cell)
  have c_d0 : w1.cell? ⟨w.heap.size + 1 + 1, 0, none⟩ = some (.int .i64 dl) := kp hb1 (by go_cell)
  have c_d1 : w1.cell? ⟨w.heap.size + 1 + 1, 1, none⟩ = some (.int .i64 dh) := kp hb1 (by go_cell)
  have c_t0 : w1.cell? ⟨w.heap.size + 1 + 1 + 1, 0, none⟩ = some (.int .i64 tlo) := kp hb1 (by go_cell)
  have c_t1 : w1.cell? ⟨w.heap.size + 1 + 1 + 1, 1, none⟩ = some (.int .i64 thi) := kp hb1 (by go_cell)
  clear hb1
  go_wp2_with fail
  refine (HF.out _).mono ?_
  rintro e w2 ⟨rfl, hb2⟩
  have hB2 : Below w.heap.size w w2 := below_after (by go_grown) hb2
  have hz2 := hb2.size
  try simp only [World.size_alloc, World.size_setCell, World.size_drew] at hz2
  have hw2 := hB2.size
  replace c_c0 : w2.cell? ⟨w.heap.size, 0, none⟩ = some (.int .i64 ct) := kp hb2 (by go_cell)
  replace c_c1 : w2.cell? ⟨w.heap.size, 1, none⟩ = some (.int .i64 clo) := kp hb2 (by go_cell)
  replace c_c2 : w2.cell? ⟨w.heap.size, 2, none⟩ = some (.int .i64 chi) := kp hb2 (by go_cell)
  replace c_c3 : w2.cell? ⟨w.heap.size, 3, none⟩ = some (.int .i64 cdr) := kp hb2 (by go_cell)
  replace f_e0 : w2.frozen? ⟨w.heap.size + 1, 0, none⟩ = false := kf hb2 (by go_simp) (by go_simp)
  replace f_e1 : w2.frozen? ⟨w.heap.size + 1, 1, none⟩ = false := kf hb2 (by go_simp) (by go_simp)
  replace f_e2 : w2.frozen? ⟨w.heap.size + 1, 2, none⟩ = false := kf hb2 (by go_simp) (by go_simp)
  replace f_e3 : w2.frozen? ⟨w.heap.size + 1, 3, none⟩ = false := kf hb2 (by go_simp) (by go_simp)
  replace c_e0 : w2.cell? ⟨w.heap.size + 1, 0, none⟩ = some (.int .i64 et) := kp hb2 (by go_cell)
  replace c_e1 : w2.cell? ⟨w.heap.size + 1, 1, none⟩ = some (.int .i64 elo) := kp hb2 (by go_cell)
  replace c_e2 : w2.cell? ⟨w.heap.size + 1, 2, none⟩ = some (.int .i64 ehi) := kp hb2 (by go_cell)
  replace c_e3 : w2.cell? ⟨w.heap.size + 1, 3, none⟩ = some (.int .i64 cdr) := kp hb2 (by go_cell)
  replace c_d0 : w2.cell? ⟨w.heap.size + 1 + 1, 0, none⟩ = some (.int .i64 dl) := kp hb2 (by go_cell)
  replace c_d1 : w2.cell? ⟨w.heap.size + 1 + 1, 1, none⟩ = some (.int .i64 dh) := kp hb2 (by go_cell)
  replace c_t0 : w2.cell? ⟨w.heap.size + 1 + 1 + 1, 0, none⟩ = some (.int .i64 tlo) := kp hb2 (by go_cell)
  replace c_t1 : w2.cell? ⟨w.heap.size + 1 + 1 + 1, 1, none⟩ = some (.int .i64 thi) := kp hb2 (by go_cell)
  clear hb2 hB1
  go_wp2_with fail
  refine (HA.out _).mono ?_
  rintro e w3 ⟨rfl, hb3⟩
  have hB3 : Below w.heap.size w w3 := below_after (by go_grown) hb3
  have hz3 := hb3.size
  try simp only [World.size_alloc, World.size_setCell, World.size_drew] at hz3
  have hw3 := hB3.size
  replace c_c0 : w3.cell? ⟨w.heap.size, 0, none⟩ = some (.int .i64 ct) := kp hb3 (by go_cell)
  replace c_c1 : w3.cell? ⟨w.heap.size, 1, none⟩ = some (.int .i64 clo) := kp hb3 (by go_cell)
  replace c_c2 : w3.cell? ⟨w.heap.size, 2, none⟩ = some (.int .i64 chi) := kp hb3 (by go_cell)
  replace c_c3 : w3.cell? ⟨w.heap.size, 3, none⟩ = some (.int .i64 cdr) := kp hb3 (by go_cell)
  replace f_e0 : w3.frozen? ⟨w.heap.size + 1, 0, none⟩ = false := kf hb3 (by go_simp) (by go_simp)
  replace f_e1 : w3.frozen? ⟨w.heap.size + 1, 1, none⟩ = false := kf hb3 (by go_simp) (by go_simp)
  replace f_e2 : w3.frozen? ⟨w.heap.size + 1, 2, none⟩ = false := kf hb3 (by go_simp) (by go_simp)
  replace f_e3 : w3.frozen? ⟨w.heap.size + 1, 3, none⟩ = false := kf hb3 (by go_simp) (by go_simp)
  replace c_e0 : w3.cell? ⟨w.heap.size + 1, 0, none⟩ = some (.int .i64 et) := kp hb3 (by go_cell)
  replace c_e1 : w3.cell? ⟨w.heap.size + 1, 1, none⟩ = some (.int .i64 elo) := kp hb3 (by go_cell)
  replace c_e2 : w3.cell? ⟨w.heap.size + 1, 2, none⟩ = some (.int .i64 ehi) := kp hb3 (by go_cell)
  replace c_e3 : w3.cell? ⟨w.heap.size + 1, 3, none⟩ = some (.int .i64 cdr) := kp hb3 (by go_cell)
  replace c_d0 : w3.cell? ⟨w.heap.size + 1 + 1, 0, none⟩ = some (.int .i64 dl) := kp hb3 (by go_cell)
  replace c_d1 : w3.cell? ⟨w.heap.size + 1 + 1, 1, none⟩ = some (.int .i64 dh) := kp hb3 (by go_cell)
  replace c_t0 : w3.cell? ⟨w.heap.size + 1 + 1 + 1, 0, none⟩ = some (.int .i64 tlo) := kp hb3 (by go_cell)
  replace c_t1 : w3.cell? ⟨w.heap.size + 1 + 1 + 1, 1, none⟩ = some (.int .i64 thi) := kp hb3 (by go_cell)
  clear hb3 hB2
  go_wp2_with fail
  refine (HB.out _).mono ?_
  rintro e w4 ⟨rfl, hb4⟩
  have hB4 : Below w.heap.size w w4 := below_after (by go_grown) hb4
  have hz4 := hb4.size
  try simp only [World.size_alloc, World.size_setCell, World.size_drew] at hz4
  have hw4 := hB4.size
  replace c_c0 : w4.cell? ⟨w.heap.size, 0, none⟩ = some (.int .i64 ct) := kp hb4 (by go_cell)
  replace c_c1 : w4.cell? ⟨w.heap.size, 1, none⟩ = some (.int .i64 clo) := kp hb4 (by go_cell)
  replace c_c2 : w4.cell? ⟨w.heap.size, 2, none⟩ = some (.int .i64 chi) := kp hb4 (by go_cell)
  replace c_c3 : w4.cell? ⟨w.heap.size, 3, none⟩ = some (.int .i64 cdr) := kp hb4 (by go_cell)
  replace f_e0 : w4.frozen? ⟨w.heap.size + 1, 0, none⟩ = false := kf hb4 (by go_simp) (by go_simp)
  replace f_e1 : w4.frozen? ⟨w.heap.size + 1, 1, none⟩ = false := kf hb4 (by go_simp) (by go_simp)
  replace f_e2 : w4.frozen? ⟨w.heap.size + 1, 2, none⟩ = false := kf hb4 (by go_simp) (by go_simp)
  replace f_e3 : w4.frozen? ⟨w.heap.size + 1, 3, none⟩ = false := kf hb4 (by go_simp) (by go_simp)
  replace c_e0 : w4.cell? ⟨w.heap.size + 1, 0, none⟩ = some (.int .i64 et) := kp hb4 (by go_cell)
  replace c_e1 : w4.cell? ⟨w.heap.size + 1, 1, none⟩ = some (.int .i64 elo) := kp hb4 (by go_cell)
  replace c_e2 : w4.cell? ⟨w.heap.size + 1, 2, none⟩ = some (.int .i64 ehi) := kp hb4 (by go_cell)
  replace c_e3 : w4.cell? ⟨w.heap.size + 1, 3, none⟩ = some (.int .i64 cdr) := kp hb4 (by go_cell)
  replace c_d0 : w4.cell? ⟨w.heap.size + 1 + 1, 0, none⟩ = some (.int .i64 dl) := kp hb4 (by go_cell)
  replace c_d1 : w4.cell? ⟨w.heap.size + 1 + 1, 1, none⟩ = some (.int .i64 dh) := kp hb4 (by go_cell)
  replace c_t0 : w4.cell? ⟨w.heap.size + 1 + 1 + 1, 0, none⟩ = some (.int .i64 tlo) := kp hb4 (by go_cell)
  replace c_t1 : w4.cell? ⟨w.heap.size + 1 + 1 + 1, 1, none⟩ = some (.int .i64 thi) := kp hb4 (by go_cell)
  clear hb4 hB3
  go_wp2_with fail
  go_ret
  exact ⟨rfl, by go_grown⟩
set_option maxHeartbeats 1600000 in
set_option maxRecDepth 100000 in
theorem offs_3 (A : Option Addr) (n c : Nat) (xs : List Wt) (ct clo chi cdr et elo ehi edr dl dh tlo thi sent got later : Int) (w : World) (h0 : n ≤ 25) (h1 : clkB ct clo chi cdr = true) (h2 : clkB et elo ehi cdr = true) (h3 : readB sent = false) : Calls Try.prog 23 #[.slice A n c, .agg #[.int .i64 ct, .int .i64 clo, .int .i64 chi, .int .i64 cdr], .agg #[.int .i64 et, .int .i64 elo, .int .i64 ehi, .int .i64 edr], .agg #[.int .i64 dl, .int .i64 dh], .agg #[.int .i64 tlo, .int .i64 thi], .int .i64 sent, .int .i64 got, .int .i64 later] w fun e w' => e = .returned (.bool true) ∧ Below w.heap.size w w' := by
  have hF := fun W => bel (Few_any A n c W)
  rw [show decide (n ≤ 25) = true by simp; omega] at hF
  have HF := Lib.hid hF
  have hA := fun W => RCValid_any ct clo chi cdr W
  rw [h1] at hA
  have HA := Lib.hid hA
  have hB := fun W => RCValid_any et elo ehi cdr W
  rw [h2] at hB
  have HB := Lib.hid hB
  have hC := fun W => bel (RTime_any sent W)
  rw [h3] at hC
  have HC := Lib.hid hC
  clear hF hA hB hC
  go_enter Try.func23, Try.ntmps23
  go_wp2_with fail
  refine (head17_any _).mono ?_
  rintro e w1 ⟨rfl, hb1⟩
  have hB1 : Below w.heap.size w w1 := below_after (by go_grown) hb1
  have hz1 := hb1.size
  try simp only [World.size_alloc, World.size_setCell, World.size_drew] at hz1
  have hw1 := hB1.size
  have c_c0 : w1.cell? ⟨w.heap.size, 0, none⟩ = some (.int .i64 ct) := kp hb1 (by go_cell)
  have c_c1 : w1.cell? ⟨w.heap.size, 1, none⟩ = some (.int .i64 clo) := kp hb1 (by go_cell)
  have c_c2 : w1.cell? ⟨w.heap.size, 2, none⟩ = some (.int .i64 chi) := kp hb1 (by go_cell)
  have c_c3 : w1.cell? ⟨w.heap.size, 3, none⟩ = some (.int .i64 cdr) := kp hb1 (by go_cell)
  have f_e0 : w1.frozen? ⟨w.heap.size + 1, 0, none⟩ = false := kf hb1 (by go_simp) (by go_simp)
  have f_e1 : w1.frozen? ⟨w.heap.size + 1, 1, none⟩ = false := kf hb1 (by go_simp) (by go_simp)
  have f_e2 : w1.frozen? ⟨w.heap.size + 1, 2, none⟩ = false := kf hb1 (by go_simp) (by go_simp)
  have f_e3 : w1.frozen? ⟨w.heap.size + 1, 3, none⟩ = false := kf hb1 (by go_simp) (by go_simp)
  have c_e0 : w1.cell? ⟨w.heap.size + 1, 0, none⟩ = some (.int .i64 et) := kp hb1 (by go_cell)
  have c_e1 : w1.cell? ⟨w.heap.size + 1, 1, none⟩ = some (.int .i64 elo) := kp hb1 (by go_cell)
  have c_e2 : w1.cell? ⟨w.heap.size + 1, 2, none⟩ = some (.int .i64 ehi) := kp hb1 (by go_cell)
  have c_e3 : w1.cell? ⟨w.heap.size + 1, 3, none⟩ = some (.int .i64 edr) := kp hb1 (by go_cell)
  have c_d0 : w1.cell? ⟨w.heap.size + 1 + 1, 0, none⟩ = some (.int .i64 dl) := kp hb1 (by go_cell)
  have c_d1 : w1.cell? ⟨w.heap.size + 1 + 1, 1, none⟩ = some (.int .i64 dh) := kp hb1 (by go_cell)
  have c_t0 : w1.cell? ⟨w.heap.size + 1 + 1 + 1, 0, none⟩ = some (.int .i64 tlo) := kp hb1 (by go_cell)
  have c_t1 : w1.cell? ⟨w.heap.size + 1 + 1 + 1, 1, none⟩ = some (.int .i64 thi) := kp hb1 (by go_cell)
  clear hb1
  go_wp2_with fail
  refine (HF.out _).mono ?_
  rintro e w2 ⟨rfl, hb2⟩
  have hB2 : Below w.heap.size w w2 := below_after (by go_grown) hb2
  have hz2 := hb2.size
  try simp only [World.size_alloc, World.size_setCell, World.size_drew] at hz2
  have hw2 := hB2.size
  replace c_c0 : w2.cell? ⟨w.heap.size, 0, none⟩ = some (.int .i64 ct) := kp hb2 (by go_cell)
  replace c_c1 : w2.cell? ⟨w.heap.size, 1, none⟩ = some (.int .i64 clo) := kp hb2 (by go_cell)
  replace c_c2 : w2.cell? ⟨w.heap.size, 2, none⟩ = some (.int .i64 chi) := kp hb2 (by go_cell)
  replace c_c3 : w2.cell? ⟨w.heap.size, 3, none⟩ = some (.int .i64 cdr) := kp hb2 (by go_cell)
  replace f_e0 : w2.frozen? ⟨w.heap.size + 1, 0, none⟩ = false := kf hb2 (by go_simp) (by go_simp)
  replace f_e1 : w2.frozen? ⟨w.heap.size + 1, 1, none⟩ = false := kf hb2 (by go_simp) (by go_simp)
  replace f_e2 : w2.frozen? ⟨w.heap.size + 1, 2, none⟩ = false := kf hb2 (by go_simp) (by go_simp)
  replace f_e3 : w2.frozen? ⟨w.heap.size + 1, 3, none⟩ = false := kf hb2 (by go_simp) (by go_simp)
  replace c_e0 : w2.cell? ⟨w.heap.size + 1, 0, none⟩ = some (.int .i64 et) := kp hb2 (by go_cell)
  replace c_e1 : w2.cell? ⟨w.heap.size + 1, 1, none⟩ = some (.int .i64 elo) := kp hb2 (by go_cell)
  replace c_e2 : w2.cell? ⟨w.heap.size + 1, 2, none⟩ = some (.int .i64 ehi) := kp hb2 (by go_cell)
  replace c_e3 : w2.cell? ⟨w.heap.size + 1, 3, none⟩ = some (.int .i64 cdr) := kp hb2 (by go_cell)
  replace c_d0 : w2.cell? ⟨w.heap.size + 1 + 1, 0, none⟩ = some (.int .i64 dl) := kp hb2 (by go_cell)
  replace c_d1 : w2.cell? ⟨w.heap.size + 1 + 1, 1, none⟩ = some (.int .i64 dh) := kp hb2 (by go_cell)
  replace c_t0 : w2.cell? ⟨w.heap.size + 1 + 1 + 1, 0, none⟩ = some (.int .i64 tlo) := kp hb2 (by go_cell)
  replace c_t1 : w2.cell? ⟨w.heap.size + 1 + 1 + 1, 1, none⟩ = some (.int .i64 thi) := kp hb2 (by go_cell)
  clear hb2 hB1
  go_wp2_with fail
  refine (HA.out _).mono ?_
  rintro e w3 ⟨rfl, hb3⟩
  have hB3 : Below w.heap.size w w3 := below_after (by go_grown) hb3
  have hz3 := hb3.size
  try simp only [World.size_alloc, World.size_setCell, World.size_drew] at hz3
  have hw3 := hB3.size
  replace c_c0 : w3.cell? ⟨w.heap.size, 0, none⟩ = some (.int .i64 ct) := kp hb3 (by go_cell)
  replace c_c1 : w3.cell? ⟨w.heap.size, 1, none⟩ = some (.int .i64 clo) := kp hb3 (by go_cell)
  replace c_c2 : w3.cell? ⟨w.heap.size, 2, none⟩ = some (.int .i64 chi) := kp hb3 (by go_cell)
  replace c_c3 : w3.cell? ⟨w.heap.size, 3, none⟩ = some (.int .i64 cdr) := kp hb3 (by go_cell)
  replace f_e0 : w3.frozen? ⟨w.heap.size + 1, 0, none⟩ = false := kf hb3 (by go_simp) (by go_simp)
  replace f_e1 : w3.frozen? ⟨w.heap.size + 1, 1, none⟩ = false := kf hb3 (by go_simp) (by go_simp)
  replace f_e2 : w3.frozen? ⟨w.heap.size + 1, 2, none⟩ = false := kf hb3 (by go_simp) (by go_simp)
  replace f_e3 : w3.frozen? ⟨w.heap.size + 1, 3, none⟩ = false := kf hb3 (by go_simp) (by go_simp)
  replace c_e0 : w3.cell? ⟨w.heap.size + 1, 0, none⟩ = some (.int .i64 et) := kp hb3 (by go_cell)
  replace c_e1 : w3.cell? ⟨w.heap.size + 1, 1, none⟩ = some (.int .i64 elo) := kp hb3 (by go_cell)
  replace c_e2 : w3.cell? ⟨w.heap.size + 1, 2, none⟩ = some (.int .i64 ehi) := kp hb3 (by go_cell)
  replace c_e3 : w3.cell? ⟨w.heap.size + 1, 3, none⟩ = some (.int .i64 cdr) := kp hb3 (by go_cell)
  replace c_d0 : w3.cell? ⟨w.heap.size + 1 + 1, 0, none⟩ = some (.int .i64 dl) := kp hb3 (by go_cell)
  replace c_d1 : w3.cell? ⟨w.heap.size + 1 + 1, 1, none⟩ = some (.int .i64 dh) := kp hb3 (by go_cell)
  replace c_t0 : w3.cell? ⟨w.heap.size + 1 + 1 + 1, 0, none⟩ = some (.int .i64 tlo) := kp hb3 (by go_cell)
  replace c_t1 : w3.cell? ⟨w.heap.size + 1 + 1 + 1, 1, none⟩ = some (.int .i64 thi) := kp hb3 (by go_cell)
  clear hb3 hB2
  go_wp2_with fail
  refine (HB.out _).mono ?_
  rintro e w4 ⟨rfl, hb4⟩
  have hB4 : Below w.heap.size w w4 := below_after (by go_grown) hb4
  have hz4 := hb4.size
  try simp only [World.size_alloc, World.size_setCell, World.size_drew] at hz4
  have hw4 := hB4.size
  replace c_c0 : w4.cell? ⟨w.heap.size, 0, none⟩ = some (.int .i64 ct) := kp hb4 (by go_cell)
  replace c_c1 : w4.cell? ⟨w.heap.size, 1, none⟩ = some (.int .i64 clo) := kp hb4 (by go_cell)
  replace c_c2 : w4.cell? ⟨w.heap.size, 2, none⟩ = some (.int .i64 chi) := kp hb4 (by go_cell)
  replace c_c3 : w4.cell? ⟨w.heap.size, 3, none⟩ = some (.int .i64 cdr) := kp hb4 (by go_cell)
  replace f_e0 : w4.frozen? ⟨w.heap.size + 1, 0, none⟩ = false := kf hb4 (by go_simp) (by go_simp)
  replace f_e1 : w4.frozen? ⟨w.heap.size + 1, 1, none⟩ = false := kf hb4 (by go_simp) (by go_simp)
  replace f_e2 : w4.frozen? ⟨w.heap.size + 1, 2, none⟩ = false := kf hb4 (by go_simp) (by go_simp)
  replace f_e3 : w4.frozen? ⟨w.heap.size + 1, 3, none⟩ = false := kf hb4 (by go_simp) (by go_simp)
  replace c_e0 : w4.cell? ⟨w.heap.size + 1, 0, none⟩ = some (.int .i64 et) := kp hb4 (by go_cell)
  replace c_e1 : w4.cell? ⟨w.heap.size + 1, 1, none⟩ = some (.int .i64 elo) := kp hb4 (by go_cell)
  replace c_e2 : w4.cell? ⟨w.heap.size + 1, 2, none⟩ = some (.int .i64 ehi) := kp hb4 (by go_cell)
  replace c_e3 : w4.cell? ⟨w.heap.size + 1, 3, none⟩ = some (.int .i64 cdr) := kp hb4 (by go_cell)
  replace c_d0 : w4.cell? ⟨w.heap.size + 1 + 1, 0, none⟩ = some (.int .i64 dl) := kp hb4 (by go_cell)
  replace c_d1 : w4.cell? ⟨w.heap.size + 1 + 1, 1, none⟩ = some (.int .i64 dh) := kp hb4 (by go_cell)
  replace c_t0 : w4.cell? ⟨w.heap.size + 1 + 1 + 1, 0, none⟩ = some (.int .i64 tlo) := kp hb4 (by go_cell)
  replace c_t1 : w4.cell? ⟨w.heap.size + 1 + 1 + 1, 1, none⟩ = some (.int .i64 thi) := kp hb4 (by go_cell)
  clear hb4 hB3
  go_wp2_with fail
  refine (HC.out _).mono ?_
  rintro e w5 ⟨rfl, hb5⟩
  have hB5 : Below w.heap.size w w5 := below_after (by go_grown) hb5
  have hz5 := hb5.size
  try simp only [World.size_alloc, World.size_setCell, World.size_drew] at hz5
  have hw5 := hB5.size
  replace c_c0 : w5.cell? ⟨w.heap.size, 0, none⟩ = some (.int .i64 ct) := kp hb5 (by go_cell)
  replace c_c1 : w5.cell? ⟨w.heap.size, 1, none⟩ = some (.int .i64 clo) := kp hb5 (by go_cell)
  replace c_c2 : w5.cell? ⟨w.heap.size, 2, none⟩ = some (.int .i64 chi) := kp hb5 (by go_cell)
  replace c_c3 : w5.cell? ⟨w.heap.size, 3, none⟩ = some (.int .i64 cdr) := kp hb5 (by go_cell)
  replace f_e0 : w5.frozen? ⟨w.heap.size + 1, 0, none⟩ = false := kf hb5 (by go_simp) (by go_simp)
  replace f_e1 : w5.frozen? ⟨w.heap.size + 1, 1, none⟩ = false := kf hb5 (by go_simp) (by go_simp)
  replace f_e2 : w5.frozen? ⟨w.heap.size + 1, 2, none⟩ = false := kf hb5 (by go_simp) (by go_simp)
  replace f_e3 : w5.frozen? ⟨w.heap.size + 1, 3, none⟩ = false := kf hb5 (by go_simp) (by go_simp)
  replace c_e0 : w5.cell? ⟨w.heap.size + 1, 0, none⟩ = some (.int .i64 et) := kp hb5 (by go_cell)
  replace c_e1 : w5.cell? ⟨w.heap.size + 1, 1, none⟩ = some (.int .i64 elo) := kp hb5 (by go_cell)
  replace c_e2 : w5.cell? ⟨w.heap.size + 1, 2, none⟩ = some (.int .i64 ehi) := kp hb5 (by go_cell)
  replace c_e3 : w5.cell? ⟨w.heap.size + 1, 3, none⟩ = some (.int .i64 cdr) := kp hb5 (by go_cell)
  replace c_d0 : w5.cell? ⟨w.heap.size + 1 + 1, 0, none⟩ = some (.int .i64 dl) := kp hb5 (by go_cell)
  replace c_d1 : w5.cell? ⟨w.heap.size + 1 + 1, 1, none⟩ = some (.int .i64 dh) := kp hb5 (by go_cell)
  replace c_t0 : w5.cell? ⟨w.heap.size + 1 + 1 + 1, 0, none⟩ = some (.int .i64 tlo) := kp hb5 (by go_cell)
  replace c_t1 : w5.cell? ⟨w.heap.size + 1 + 1 + 1, 1, none⟩ = some (.int .i64 thi) := kp hb5 (by go_cell)
  clear hb5 hB4
  go_wp2_with fail
  go_ret
  exact ⟨rfl, by go_grown⟩
set_option maxHeartbeats 1600000 in
set_option maxRecDepth 100000 in
theorem offs_4 (A : Option Addr) (n c : Nat) (xs : List Wt) (ct clo chi cdr et elo ehi edr dl dh tlo thi sent got later : Int) (w : World) (h0 : n ≤ 25) (h1 : clkB ct clo chi cdr = true) (h2 : clkB et elo ehi cdr = true) (h3 : readB sent = true) (h4 : readB got = false) : Calls Try.prog 23 #[.slice A n c, .agg #[.int .i64 ct, .int .i64 clo, .int .i64 chi, .int .i64 cdr], .agg #[.int .i64 et, .int .i64 elo, .int .i64 ehi, .int .i64 edr], .agg #[.int .i64 dl, .int .i64 dh], .agg #[.int .i64 tlo, .int .i64 thi], .int .i64 sent, .int .i64 got, .int .i64 later] w fun e w' => e = .returned (.bool true) ∧ Below w.heap.size w w' := by
  have hF := fun W => bel (Few_any A n c W)
  rw [show decide (n ≤ 25) = true by simp; omega] at hF
  have HF := Lib.hid hF
  have hA := fun W => RCValid_any ct clo chi cdr W
  rw [h1] at hA
  have HA := Lib.hid hA
  have hB := fun W => RCValid_any et elo ehi cdr W
  rw [h2] at hB
  have HB := Lib.hid hB
  have hC := fun W => bel (RTime_any sent W)
  rw [h3] at hC
  have HC := Lib.hid hC
  have hD := fun W => bel (RTime_any got W)
  rw [h4] at hD
  have HD := Lib.hid hD
  clear hF hA hB hC hD
  go_enter Try.func23, Try.ntmps23
  go_wp2_with fail
  refine (head17_any _).mono ?_
  rintro e w1 ⟨rfl, hb1⟩
  have hB1 : Below w.heap.size w w1 := below_after (by go_grown) hb1
  have hz1 := hb1.size
  try simp only [World.size_alloc, World.size_setCell, World.size_drew] at hz1
  have hw1 := hB1.size
  have c_c0 : w1.cell? ⟨w.heap.size, 0, none⟩ = some (.int .i64 ct) := kp hb1 (by go_cell)
  have c_c1 : w1.cell? ⟨w.heap.size, 1, none⟩ = some (.int .i64 clo) := kp hb1 (by go_cell)
  have c_c2 : w1.cell? ⟨w.heap.size, 2, none⟩ = some (.int .i64 chi) := kp hb1 (by go_cell)
  have c_c3 : w1.cell? ⟨w.heap.size, 3, none⟩ = some (.int .i64 cdr) := kp hb1 (by go_cell)
  have f_e0 : w1.frozen? ⟨w.heap.size + 1, 0, none⟩ = false := kf hb1 (by go_simp) (by go_simp)
  have f_e1 : w1.frozen? ⟨w.heap.size + 1, 1, none⟩ = false := kf hb1 (by go_simp) (by go_simp)
  have f_e2 : w1.frozen? ⟨w.heap.size + 1, 2, none⟩ = false := kf hb1 (by go_simp) (by go_simp)
  have f_e3 : w1.frozen? ⟨w.heap.size + 1, 3, none⟩ = false := kf hb1 (by go_simp) (by go_simp)
  have c_e0 : w1.cell? ⟨w.heap.size + 1, 0, none⟩ = some (.int .i64 et) := kp hb1 (by go_cell)
  have c_e1 : w1.cell? ⟨w.heap.size + 1, 1, none⟩ = some (.int .i64 elo) := kp hb1 (by go_cell)
  have c_e2 : w1.cell? ⟨w.heap.size + 1, 2, none⟩ = some (.int .i64 ehi) := kp hb1 (by go_cell)
  have c_e3 : w1.cell? ⟨w.heap.size + 1, 3, none⟩ = some (.int .i64 edr) := kp hb1 (by go_cell)
  have c_d0 : w1.cell? ⟨w.heap.size + 1 + 1, 0, none⟩ = some (.int .i64 dl) := kp hb1 (by go_cell)
  have c_d1 : w1.cell? ⟨w.heap.size + 1 + 1, 1, none⟩ = some (.int .i64 dh) := kp hb1 (by go_cell)
  have c_t0 : w1.cell? ⟨w.heap.size + 1 + 1 + 1, 0, none⟩ = some (.int .i64 tlo) := kp hb1 (by go_cell)
  have c_t1 : w1.cell? ⟨w.heap.size + 1 + 1 + 1, 1, none⟩ = some (.int .i64 thi) := kp hb1 (by go_cell)
  clear hb1
  go_wp2_with fail
  refine (HF.out _).mono ?_
  rintro e w2 ⟨rfl, hb2⟩
  have hB2 : Below w.heap.size w w2 := below_after (by go_grown) hb2
  have hz2 := hb2.size
  try simp only [World.size_alloc, World.size_setCell, World.size_drew] at hz2
  have hw2 := hB2.size
  replace c_c0 : w2.cell? ⟨w.heap.size, 0, none⟩ = some (.int .i64 ct) := kp hb2 (by go_cell)
  replace c_c1 : w2.cell? ⟨w.heap.size, 1, none⟩ = some (.int .i64 clo) := kp hb2 (by go_cell)
  replace c_c2 : w2.cell? ⟨w.heap.size, 2, none⟩ = some (.int .i64 chi) := kp hb2 (by go_cell)
  replace c_c3 : w2.cell? ⟨w.heap.size, 3, none⟩ = some (.int .i64 cdr) := kp hb2 (by go_cell)
  replace f_e0 : w2.frozen? ⟨w.heap.size + 1, 0, none⟩ = false := kf hb2 (by go_simp) (by go_simp)
  replace f_e1 : w2.frozen? ⟨w.heap.size + 1, 1, none⟩ = false := kf hb2 (by go_simp) (by go_simp)
  replace f_e2 : w2.frozen? ⟨w.heap.size + 1, 2, none⟩ = false := kf hb2 (by go_simp) (by go_simp)
  replace f_e3 : w2.frozen? ⟨w.heap.size + 1, 3, none⟩ = false := kf hb2 (by go_simp) (by go_simp)
  replace c_e0 : w2.cell? ⟨w.heap.size + 1, 0, none⟩ = some (.int .i64 et) := kp hb2 (by go_cell)
  replace c_e1 : w2.cell? ⟨w.heap.size + 1, 1, none⟩ = some (.int .i64 elo) := kp hb2 (by go_cell)
  replace c_e2 : w2.cell? ⟨w.heap.size + 1, 2, none⟩ = some (.int .i64 ehi) := kp hb2 (by go_cell)
  replace c_e3 : w2.cell? ⟨w.heap.size + 1, 3, none⟩ = some (.int .i64 cdr) := kp hb2 (by go_cell)
  replace c_d0 : w2.cell? ⟨w.heap.size + 1 + 1, 0, none⟩ = some (.int .i64 dl) := kp hb2 (by go_cell)
  replace c_d1 : w2.cell? ⟨w.heap.size + 1 + 1, 1, none⟩ = some (.int .i64 dh) := kp hb2 (by go_cell)
  replace c_t0 : w2.cell? ⟨w.heap.size + 1 + 1 + 1, 0, none⟩ = some (.int .i64 tlo) := kp hb2 (by go_cell)
  replace c_t1 : w2.cell? ⟨w.heap.size + 1 + 1 + 1, 1, none⟩ = some (.int .i64 thi) := kp hb2 (by go_cell)
  clear hb2 hB1
  go_wp2_with fail
  refine (HA.out _).mono ?_
  rintro e w3 ⟨rfl, hb3⟩
  have hB3 : Below w.heap.size w w3 := below_after (by go_grown) hb3
  have hz3 := hb3.size
  try simp only [World.size_alloc, World.size_setCell, World.size_drew] at hz3
  have hw3 := hB3.size
  replace c_c0 : w3.cell? ⟨w.heap.size, 0, none⟩ = some (.int .i64 ct) := kp hb3 (by go_cell)
  replace c_c1 : w3.cell? ⟨w.heap.size, 1, none⟩ = some (.int .i64 clo) := kp hb3 (by go_cell)
  replace c_c2 : w3.cell? ⟨w.heap.size, 2, none⟩ = some (.int .i64 chi) := kp hb3 (by go_cell)
  replace c_c3 : w3.cell? ⟨w.heap.size, 3, none⟩ = some (.int .i64 cdr) := kp hb3 (by go_cell)
  replace f_e0 : w3.frozen? ⟨w.heap.size + 1, 0, none⟩ = false := kf hb3 (by go_simp) (by go_simp)
  replace f_e1 : w3.frozen? ⟨w.heap.size + 1, 1, none⟩ = false := kf hb3 (by go_simp) (by go_simp)
  replace f_e2 : w3.frozen? ⟨w.heap.size + 1, 2, none⟩ = false := kf hb3 (by go_simp) (by go_simp)
  replace f_e3 : w3.frozen? ⟨w.heap.size + 1, 3, none⟩ = false := kf hb3 (by go_simp) (by go_simp)
  replace c_e0 : w3.cell? ⟨w.heap.size + 1, 0, none⟩ = some (.int .i64 et) := kp hb3 (by go_cell)
  replace c_e1 : w3.cell? ⟨w.heap.size + 1, 1, none⟩ = some (.int .i64 elo) := kp hb3 (by go_cell)
  replace c_e2 : w3.cell? ⟨w.heap.size + 1, 2, none⟩ = some (.int .i64 ehi) := kp hb3 (by go_cell)
  replace c_e3 : w3.cell? ⟨w.heap.size + 1, 3, none⟩ = some (.int .i64 cdr) := kp hb3 (by go_cell)
  replace c_d0 : w3.cell? ⟨w.heap.size + 1 + 1, 0, none⟩ = some (.int .i64 dl) := kp hb3 (by go_cell)
  replace c_d1 : w3.cell? ⟨w.heap.size + 1 + 1, 1, none⟩ = some (.int .i64 dh) := kp hb3 (by go_cell)
  replace c_t0 : w3.cell? ⟨w.heap.size + 1 + 1 + 1, 0, none⟩ = some (.int .i64 tlo) := kp hb3 (by go_cell)
  replace c_t1 : w3.cell? ⟨w.heap.size + 1 + 1 + 1, 1, none⟩ = some (.int .i64 thi) := kp hb3 (by go_cell)
  clear hb3 hB2
  go_wp2_with fail
  refine (HB.out _).mono ?_
  rintro e w4 ⟨rfl, hb4⟩
  have hB4 : Below w.heap.size w w4 := below_after (by go_grown) hb4
  have hz4 := hb4.size
  try simp only [World.size_alloc, World.size_setCell, World.size_drew] at hz4
  have hw4 := hB4.size
  replace c_c0 : w4.cell? ⟨w.heap.size, 0, none⟩ = some (.int .i64 ct) := kp hb4 (by go_cell)
  replace c_c1 : w4.cell? ⟨w.heap.size, 1, none⟩ = some (.int .i64 clo) := kp hb4 (by go_cell)
  replace c_c2 : w4.cell? ⟨w.heap.size, 2, none⟩ = some (.int .i64 chi) := kp hb4 (by go_cell)
  replace c_c3 : w4.cell? ⟨w.heap.size, 3, none⟩ = some (.int .i64 cdr) := kp hb4 (by go_cell)
  replace f_e0 : w4.frozen? ⟨w.heap.size + 1, 0, none⟩ = false := kf hb4 (by go_simp) (by go_simp)
  replace f_e1 : w4.frozen? ⟨w.heap.size + 1, 1, none⟩ = false := kf hb4 (by go_simp) (by go_simp)
  replace f_e2 : w4.frozen? ⟨w.heap.size + 1, 2, none⟩ = false := kf hb4 (by go_simp) (by go_simp)
  replace f_e3 : w4.frozen? ⟨w.heap.size + 1, 3, none⟩ = false := kf hb4 (by go_simp) (by go_simp)
  replace c_e0 : w4.cell? ⟨w.heap.size + 1, 0, none⟩ = some (.int .i64 et) := kp hb4 (by go_cell)
  replace c_e1 : w4.cell? ⟨w.heap.size + 1, 1, none⟩ = some (.int .i64 elo) := kp hb4 (by go_cell)
  replace c_e2 : w4.cell? ⟨w.heap.size + 1, 2, none⟩ = some (.int .i64 ehi) := kp hb4 (by go_cell)
  replace c_e3 : w4.cell? ⟨w.heap.size + 1, 3, none⟩ = some (.int .i64 cdr) := kp hb4 (by go_cell)
  replace c_d0 : w4.cell? ⟨w.heap.size + 1 + 1, 0, none⟩ = some (.int .i64 dl) := kp hb4 (by go_cell)
  replace c_d1 : w4.cell? ⟨w.heap.size + 1 + 1, 1, none⟩ = some (.int .i64 dh) := kp hb4 (by go_cell)
  replace c_t0 : w4.cell? ⟨w.heap.size + 1 + 1 + 1, 0, none⟩ = some (.int .i64 tlo) := kp hb4 (by go_cell)
  replace c_t1 : w4.cell? ⟨w.heap.size + 1 + 1 + 1, 1, none⟩ = some (.int .i64 thi) := kp hb4 (by go_cell)
  clear hb4 hB3
  go_wp2_with fail
  refine (HC.out _).mono ?_
  rintro e w5 ⟨rfl, hb5⟩
  have hB5 : Below w.heap.size w w5 := below_after (by go_grown) hb5
  have hz5 := hb5.size
  try simp only [World.size_alloc, World.size_setCell, World.size_drew] at hz5
  have hw5 := hB5.size
  replace c_c0 : w5.cell? ⟨w.heap.size, 0, none⟩ = some (.int .i64 ct) := kp hb5 (by go_cell)
  replace c_c1 : w5.cell? ⟨w.heap.size, 1, none⟩ = some (.int .i64 clo) := kp hb5 (by go_cell)
  replace c_c2 : w5.cell? ⟨w.heap.size, 2, none⟩ = some (.int .i64 chi) := kp hb5 (by go_cell)
  replace c_c3 : w5.cell? ⟨w.heap.size, 3, none⟩ = some (.int .i64 cdr) := kp hb5 (by go_cell)
  replace f_e0 : w5.frozen? ⟨w.heap.size + 1, 0, none⟩ = false := kf hb5 (by go_simp) (by go_simp)
  replace f_e1 : w5.frozen? ⟨w.heap.size + 1, 1, none⟩ = false := kf hb5 (by go_simp) (by go_simp)
  replace f_e2 : w5.frozen? ⟨w.heap.size + 1, 2, none⟩ = false := kf hb5 (by go_simp) (by go_simp)
  replace f_e3 : w5.frozen? ⟨w.heap.size + 1, 3, none⟩ = false := kf hb5 (by go_simp) (by go_simp)
  replace c_e0 : w5.cell? ⟨w.heap.size + 1, 0, none⟩ = some (.int .i64 et) := kp hb5 (by go_cell)
  replace c_e1 : w5.cell? ⟨w.heap.size + 1, 1, none⟩ = some (.int .i64 elo) := kp hb5 (by go_cell)
  replace c_e2 : w5.cell? ⟨w.heap.size + 1, 2, none⟩ = some (.int .i64 ehi) := kp hb5 (by go_cell)
  replace c_e3 : w5.cell? ⟨w.heap.size + 1, 3, none⟩ = some (.int .i64 cdr) := kp hb5 (by go_cell)
  replace c_d0 : w5.cell? ⟨w.heap.size + 1 + 1, 0, none⟩ = some (.int .i64 dl) := kp hb5 (by go_cell)
  replace c_d1 : w5.cell? ⟨w.heap.size + 1 + 1, 1, none⟩ = some (.int .i64 dh) := kp hb5 (by go_cell)
  replace c_t0 : w5.cell? ⟨w.heap.size + 1 + 1 + 1, 0, none⟩ = some (.int .i64 tlo) := kp hb5 (by go_cell)
  replace c_t1 : w5.cell? ⟨w.heap.size + 1 + 1 + 1, 1, none⟩ = some (.int .i64 thi) := kp hb5 (by go_cell)
  clear hb5 hB4
  go_wp2_with fail
  refine (HD.out _).mono ?_
  rintro e w6 ⟨rfl, hb6⟩
  have hB6 : Below w.heap.size w w6 := below_after (by go_grown) hb6
  have hz6 := hb6.size
  try simp only [World.size_alloc, World.size_setCell, World.size_drew] at hz6
  have hw6 := hB6.size
  replace c_c0 : w6.cell? ⟨w.heap.size, 0, none⟩ = some (.int .i64 ct) := kp hb6 (by go_cell)
  replace c_c1 : w6.cell? ⟨w.heap.size, 1, none⟩ = some (.int .i64 clo) := kp hb6 (by go_cell)
  replace c_c2 : w6.cell? ⟨w.heap.size, 2, none⟩ = some (.int .i64 chi) := kp hb6 (by go_cell)
  replace c_c3 : w6.cell? ⟨w.heap.size, 3, none⟩ = some (.int .i64 cdr) := kp hb6 (by go_cell)
  replace f_e0 : w6.frozen? ⟨w.heap.size + 1, 0, none⟩ = false := kf hb6 (by go_simp) (by go_simp)
  replace f_e1 : w6.frozen? ⟨w.heap.size + 1, 1, none⟩ = false := kf hb6 (by go_simp) (by go_simp)
  replace f_e2 : w6.frozen? ⟨w.heap.size + 1, 2, none⟩ = false := kf hb6 (by go_simp) (by go_simp)
  replace f_e3 : w6.frozen? ⟨w.heap.size + 1, 3, none⟩ = false := kf hb6 (by go_simp) (by go_simp)
  replace c_e0 : w6.cell? ⟨w.heap.size + 1, 0, none⟩ = some (.int .i64 et) := kp hb6 (by go_cell)
  replace c_e1 : w6.cell? ⟨w.heap.size + 1, 1, none⟩ = some (.int .i64 elo) := kp hb6 (by go_cell)
  replace c_e2 : w6.cell? ⟨w.heap.size + 1, 2, none⟩ = some (.int .i64 ehi) := kp hb6 (by go_cell)
  replace c_e3 : w6.cell? ⟨w.heap.size + 1, 3, none⟩ = some (.int .i64 cdr) := kp hb6 (by go_cell)
  replace c_d0 : w6.cell? ⟨w.heap.size + 1 + 1, 0, none⟩ = some (.int .i64 dl) := kp hb6 (by go_cell)
  replace c_d1 : w6.cell? ⟨w.heap.size + 1 + 1, 1, none⟩ = some (.int .i64 dh) := kp hb6 (by go_cell)
  replace c_t0 : w6.cell? ⟨w.heap.size + 1 + 1 + 1, 0, none⟩ = some (.int .i64 tlo) := kp hb6 (by go_cell)
  replace c_t1 : w6.cell? ⟨w.heap.size + 1 + 1 + 1, 1, none⟩ = some (.int .i64 thi) := kp hb6 (by go_cell)
  clear hb6 hB5
  go_wp2_with fail
  go_ret
  exact ⟨rfl, by go_grown⟩
set_option maxHeartbeats 1600000 in
set_option maxRecDepth 100000 in
theorem offs_5 (A : Option Addr) (n c : Nat) (xs : List Wt) (ct clo chi cdr et elo ehi edr dl dh tlo thi sent got later : Int) (w : World) (h0 : n ≤ 25) (h1 : clkB ct clo chi cdr = true) (h2 : clkB et elo ehi cdr = true) (h3 : readB sent = true) (h4 : readB got = true) (h5 : readB later = false) : Calls Try.prog 23 #[.slice A n c, .agg #[.int .i64 ct, .int .i64 clo, .int .i64 chi, .int .i64 cdr], .agg #[.int .i64 et, .int .i64 elo, .int .i64 ehi, .int .i64 edr], .agg #[.int .i64 dl, .int .i64 dh], .agg #[.int .i64 tlo, .int .i64 thi], .int .i64 sent, .int .i64 got, .int .i64 later] w fun e w' => e = .returned (.bool true) ∧ Below w.heap.size w w' := by
  have hF := fun W => bel (Few_any A n c W)
  rw [show decide (n ≤ 25) = true by simp; omega] at hF
  have HF := Lib.hid hF
  have hA := fun W => RCValid_any ct clo chi cdr W
  rw [h1] at hA
  have HA := Lib.hid hA
  have hB := fun W => RCValid_any et elo ehi cdr W
  rw [h2] at hB
  have HB := Lib.hid hB
  have hC := fun W => bel (RTime_any sent W)
  rw [h3] at hC
  have HC := Lib.hid hC
  have hD := fun W => bel (RTime_any got W)
  rw [h4] at hD
  have HD := Lib.hid hD
  have hE := fun W => bel (RTime_any later W)
  rw [h5] at hE
  have HE := Lib.hid hE
  clear hF hA hB hC hD hE
  go_enter Try.func23, Try.ntmps23
  go_wp2_with fail
  refine (head17_any _).mono ?_
  rintro e w1 ⟨rfl, hb1⟩
  have hB1 : Below w.heap.size w w1 := below_after (by go_grown) hb1
  have hz1 := hb1.size
  try simp only [World.size_alloc, World.size_setCell, World.size_drew] at hz1
  have hw1 := hB1.size
  have c_c0 : w1.cell? ⟨w.heap.size, 0, none⟩ = some (.int .i64 ct) := kp hb1 (by go_cell)
  have c_c1 : w1.cell? ⟨w.heap.size, 1, none⟩ = some (.int .i64 clo) := kp hb1 (by go_cell)
  have c_c2 : w1.cell? ⟨w.heap.size, 2, none⟩ = some (.int .i64 chi) := kp hb1 (by go_cell)
  have c_c3 : w1.cell? ⟨w.heap.size, 3, none⟩ = some (.int .i64 cdr) := kp hb1 (by go_cell)
  have f_e0 : w1.frozen? ⟨w.heap.size + 1, 0, none⟩ = false := kf hb1 (by go_simp) (by go_simp)
  have f_e1 : w1.frozen? ⟨w.heap.size + 1, 1, none⟩ = false := kf hb1 (by go_simp) (by go_simp)
  have f_e2 : w1.frozen? ⟨w.heap.size + 1, 2, none⟩ = false := kf hb1 (by go_simp) (by go_simp)
  have f_e3 : w1.frozen? ⟨w.heap.size + 1, 3, none⟩ = false := kf hb1 (by go_simp) (by go_simp)
  have c_e0 : w1.cell? ⟨w.heap.size + 1, 0, none⟩ = some (.int .i64 et) := kp hb1 (by go_cell)
  have c_e1 : w1.cell? ⟨w.heap.size + 1, 1, none⟩ = some (.int .i64 elo) := kp hb1 (by go_cell)
  have c_e2 : w1.cell? ⟨w.heap.size + 1, 2, none⟩ = some (.int .i64 ehi) := kp hb1 (by go_cell)
  have c_e3 : w1.cell? ⟨w.heap.size + 1, 3, none⟩ = some (.int .i64 edr) := kp hb1 (by go_cell)
  have c_d0 : w1.cell? ⟨w.heap.size + 1 + 1, 0, none⟩ = some (.int .i64 dl) := kp hb1 (by go_cell)
  have c_d1 : w1.cell? ⟨w.heap.size + 1 + 1, 1, none⟩ = some (.int .i64 dh) := kp hb1 (by go_cell)
  have c_t0 : w1.cell? ⟨w.heap.size + 1 + 1 + 1, 0, none⟩ = some (.int .i64 tlo) := kp hb1 (by go_cell)
  have c_t1 : w1.cell? ⟨w.heap.size + 1 + 1 + 1, 1, none⟩ = some (.int .i64 thi) := kp hb1 (by go_cell)
  clear hb1
  go_wp2_with fail
  refine (HF.out _).mono ?_
  rintro e w2 ⟨rfl, hb2⟩
  have hB2 : Below w.heap.size w w2 := below_after (by go_grown) hb2
  have hz2 := hb2.size
  try simp only [World.size_alloc, World.size_setCell, World.size_drew] at hz2
  have hw2 := hB2.size
  replace c_c0 : w2.cell? ⟨w.heap.size, 0, none⟩ = some (.int .i64 ct) := kp hb2 (by go_cell)
  replace c_c1 : w2.cell? ⟨w.heap.size, 1, none⟩ = some (.int .i64 clo) := kp hb2 (by go_cell)
  replace c_c2 : w2.cell? ⟨w.heap.size, 2, none⟩ = some (.int .i64 chi) := kp hb2 (by go_cell)
  replace c_c3 : w2.cell? ⟨w.heap.size, 3, none⟩ = some (.int .i64 cdr) := kp hb2 (by go_cell)
  replace f_e0 : w2.frozen? ⟨w.heap.size + 1, 0, none⟩ = false := kf hb2 (by go_simp) (by go_simp)
  replace f_e1 : w2.frozen? ⟨w.heap.size + 1, 1, none⟩ = false := kf hb2 (by go_simp) (by go_simp)
  replace f_e2 : w2.frozen? ⟨w.heap.size + 1, 2, none⟩ = false := kf hb2 (by go_simp) (by go_simp)
  replace f_e3 : w2.frozen? ⟨w.heap.size + 1, 3, none⟩ = false := kf hb2 (by go_simp) (by go_simp)
  replace c_e0 : w2.cell? ⟨w.heap.size + 1, 0, none⟩ = some (.int .i64 et) := kp hb2 (by go_cell)
  replace c_e1 : w2.cell? ⟨w.heap.size + 1, 1, none⟩ = some (.int .i64 elo) := kp hb2 (by go_cell)
  replace c_e2 : w2.cell? ⟨w.heap.size + 1, 2, none⟩ = some (.int .i64 ehi) := kp hb2 (by go_cell)
  replace c_e3 : w2.cell? ⟨w.heap.size + 1, 3, none⟩ = some (.int .i64 cdr) := kp hb2 (by go_cell)
  replace c_d0 : w2.cell? ⟨w.heap.size + 1 + 1, 0, none⟩ = some (.int .i64 dl) := kp hb2 (by go_cell)
  replace c_d1 : w2.cell? ⟨w.heap.size + 1 + 1, 1, none⟩ = some (.int .i64 dh) := kp hb2 (by go_cell)
  replace c_t0 : w2.cell? ⟨w.heap.size + 1 + 1 + 1, 0, none⟩ = some (.int .i64 tlo) := kp hb2 (by go_cell)
  replace c_t1 : w2.cell? ⟨w.heap.size + 1 + 1 + 1, 1, none⟩ = some (.int .i64 thi) := kp hb2 (by go_cell)
  clear hb2 hB1
  go_wp2_with fail
  refine (HA.out _).mono ?_
  rintro e w3 ⟨rfl, hb3⟩
  have hB3 : Below w.heap.size w w3 := below_after (by go_grown) hb3
  have hz3 := hb3.size
  try simp only [World.size_alloc, World.size_setCell, World.size_drew] at hz3
  have hw3 := hB3.size
  replace c_c0 : w3.cell? ⟨w.heap.size, 0, none⟩ = some (.int .i64 ct) := kp hb3 (by go_cell)
  replace c_c1 : w3.cell? ⟨w.heap.size, 1, none⟩ = some (.int .i64 clo) := kp hb3 (by go_cell)
  replace c_c2 : w3.cell? ⟨w.heap.size, 2, none⟩ = some (.int .i64 chi) := kp hb3 (by go_cell)
  replace c_c3 : w3.cell? ⟨w.heap.size, 3, none⟩ = some (.int .i64 cdr) := kp hb3 (by go_cell)
  replace f_e0 : w3.frozen? ⟨w.heap.size + 1, 0, none⟩ = false := kf hb3 (by go_simp) (by go_simp)
  replace f_e1 : w3.frozen? ⟨w.heap.size + 1, 1, none⟩ = false := kf hb3 (by go_simp) (by go_simp)
  replace f_e2 : w3.frozen? ⟨w.heap.size + 1, 2, none⟩ = false := kf hb3 (by go_simp) (by go_simp)
  replace f_e3 : w3.frozen? ⟨w.heap.size + 1, 3, none⟩ = false := kf hb3 (by go_simp) (by go_simp)
  replace c_e0 : w3.cell? ⟨w.heap.size + 1, 0, none⟩ = some (.int .i64 et) := kp hb3 (by go_cell)
  replace c_e1 : w3.cell? ⟨w.heap.size + 1, 1, none⟩ = some (.int .i64 elo) := kp hb3 (by go_cell)
  replace c_e2 : w3.cell? ⟨w.heap.size + 1, 2, none⟩ = some (.int .i64 ehi) := kp hb3 (by go_cell)
  replace c_e3 : w3.cell? ⟨w.heap.size + 1, 3, none⟩ = some (.int .i64 cdr) := kp hb3 (by go_cell)
  replace c_d0 : w3.cell? ⟨w.heap.size + 1 + 1, 0, none⟩ = some (.int .i64 dl) := kp hb3 (by go_cell)
  replace c_d1 : w3.cell? ⟨w.heap.size + 1 + 1, 1, none⟩ = some (.int .i64 dh) := kp hb3 (by go_cell)
  replace c_t0 : w3.cell? ⟨w.heap.size + 1 + 1 + 1, 0, none⟩ = some (.int .i64 tlo) := kp hb3 (by go_cell)
  replace c_t1 : w3.cell? ⟨w.heap.size + 1 + 1 + 1, 1, none⟩ = some (.int .i64 thi) := kp hb3 (by go_cell)
  clear hb3 hB2
  go_wp2_with fail
  refine (HB.out _).mono ?_
  rintro e w4 ⟨rfl, hb4⟩
  have hB4 : Below w.heap.size w w4 := below_after (by go_grown) hb4
  have hz4 := hb4.size
  try simp only [World.size_alloc, World.size_setCell, World.size_drew] at hz4
  have hw4 := hB4.size
  replace c_c0 : w4.cell? ⟨w.heap.size, 0, none⟩ = some (.int .i64 ct) := kp hb4 (by go_cell)
  replace c_c1 : w4.cell? ⟨w.heap.size, 1, none⟩ = some (.int .i64 clo) := kp hb4 (by go_cell)
  replace c_c2 : w4.cell? ⟨w.heap.size, 2, none⟩ = some (.int .i64 chi) := kp hb4 (by go_cell)
  replace c_c3 : w4.cell? ⟨w.heap.size, 3, none⟩ = some (.int .i64 cdr) := kp hb4 (by go_cell)
  replace f_e0 : w4.frozen? ⟨w.heap.size + 1, 0, none⟩ = false := kf hb4 (by go_simp) (by go_simp)
  replace f_e1 : w4.frozen? ⟨w.heap.size + 1, 1, none⟩ = false := kf hb4 (by go_simp) (by go_simp)
  replace f_e2 : w4.frozen? ⟨w.heap.size + 1, 2, none⟩ = false := kf hb4 (by go_simp) (by go_simp)
  replace f_e3 : w4.frozen? ⟨w.heap.size + 1, 3, none⟩ = false := kf hb4 (by go_simp) (by go_simp)
  replace c_e0 : w4.cell? ⟨w.heap.size + 1, 0, none⟩ = some (.int .i64 et) := kp hb4 (by go_cell)
  replace c_e1 : w4.cell? ⟨w.heap.size + 1, 1, none⟩ = some (.int .i64 elo) := kp hb4 (by go_cell)
  replace c_e2 : w4.cell? ⟨w.heap.size + 1, 2, none⟩ = some (.int .i64 ehi) := kp hb4 (by go_cell)
  replace c_e3 : w4.cell? ⟨w.heap.size + 1, 3, none⟩ = some (.int .i64 cdr) := kp hb4 (by go_cell)
  replace c_d0 : w4.cell? ⟨w.heap.size + 1 + 1, 0, none⟩ = some (.int .i64 dl) := kp hb4 (by go_cell)
  replace c_d1 : w4.cell? ⟨w.heap.size + 1 + 1, 1, none⟩ = some (.int .i64 dh) := kp hb4 (by go_cell)
  replace c_t0 : w4.cell? ⟨w.heap.size + 1 + 1 + 1, 0, none⟩ = some (.int .i64 tlo) := kp hb4 (by go_cell)
  replace c_t1 : w4.cell? ⟨w.heap.size + 1 + 1 + 1, 1, none⟩ = some (.int .i64 thi) := kp hb4 (by go_cell)
  clear hb4 hB3
  go_wp2_with fail
  refine (HC.out _).mono ?_
  rintro e w5 ⟨rfl, hb5⟩
  have hB5 : Below w.heap.size w w5 := below_after (by go_grown) hb5
  have hz5 := hb5.size
  try simp only [World.size_alloc, World.size_setCell, World.size_drew] at hz5
  have hw5 := hB5.size
  replace c_c0 : w5.cell? ⟨w.heap.size, 0, none⟩ = some (.int .i64 ct) := kp hb5 (by go_cell)
  replace c_c1 : w5.cell? ⟨w.heap.size, 1, none⟩ = some (.int .i64 clo) := kp hb5 (by go_cell)
  replace c_c2 : w5.cell? ⟨w.heap.size, 2, none⟩ = some (.int .i64 chi) := kp hb5 (by go_cell)
  replace c_c3 : w5.cell? ⟨w.heap.size, 3, none⟩ = some (.int .i64 cdr) := kp hb5 (by go_cell)
  replace f_e0 : w5.frozen? ⟨w.heap.size + 1, 0, none⟩ = false := kf hb5 (by go_simp) (by go_simp)
  replace f_e1 : w5.frozen? ⟨w.heap.size + 1, 1, none⟩ = false := kf hb5 (by go_simp) (by go_simp)
  replace f_e2 : w5.frozen? ⟨w.heap.size + 1, 2, none⟩ = false := kf hb5 (by go_simp) (by go_simp)
  replace f_e3 : w5.frozen? ⟨w.heap.size + 1, 3, none⟩ = false := kf hb5 (by go_simp) (by go_simp)
  replace c_e0 : w5.cell? ⟨w.heap.size + 1, 0, none⟩ = some (.int .i64 et) := kp hb5 (by go_cell)
  replace c_e1 : w5.cell? ⟨w.heap.size + 1, 1, none⟩ = some (.int .i64 elo) := kp hb5 (by go_cell)
  replace c_e2 : w5.cell? ⟨w.heap.size + 1, 2, none⟩ = some (.int .i64 ehi) := kp hb5 (by go_cell)
  replace c_e3 : w5.cell? ⟨w.heap.size + 1, 3, none⟩ = some (.int .i64 cdr) := kp hb5 (by go_cell)
  replace c_d0 : w5.cell? ⟨w.heap.size + 1 + 1, 0, none⟩ = some (.int .i64 dl) := kp hb5 (by go_cell)
  replace c_d1 : w5.cell? ⟨w.heap.size + 1 + 1, 1, none⟩ = some (.int .i64 dh) := kp hb5 (by go_cell)
  replace c_t0 : w5.cell? ⟨w.heap.size + 1 + 1 + 1, 0, none⟩ = some (.int .i64 tlo) := kp hb5 (by go_cell)
  replace c_t1 : w5.cell? ⟨w.heap.size + 1 + 1 + 1, 1, none⟩ = some (.int .i64 thi) := kp hb5 (by go_cell)
  clear hb5 hB4
  go_wp2_with fail
  refine (HD.out _).mono ?_
  rintro e w6 ⟨rfl, hb6⟩
  have hB6 : Below w.heap.size w w6 := below_after (by go_grown) hb6
  have hz6 := hb6.size
  try simp only [World.size_alloc, World.size_setCell, World.size_drew] at hz6
  have hw6 := hB6.size
  replace c_c0 : w6.cell? ⟨w.heap.size, 0, none⟩ = some (.int .i64 ct) := kp hb6 (by go_cell)
  replace c_c1 : w6.cell? ⟨w.heap.size, 1, none⟩ = some (.int .i64 clo) := kp hb6 (by go_cell)
  replace c_c2 : w6.cell? ⟨w.heap.size, 2, none⟩ = some (.int .i64 chi) := kp hb6 (by go_cell)
  replace c_c3 : w6.cell? ⟨w.heap.size, 3, none⟩ = some (.int .i64 cdr) := kp hb6 (by go_cell)
  replace f_e0 : w6.frozen? ⟨w.heap.size + 1, 0, none⟩ = false := kf hb6 (by go_simp) (by go_simp)
  replace f_e1 : w6.frozen? ⟨w.heap.size + 1, 1, none⟩ = false := kf hb6 (by go_simp) (by go_simp)
  replace f_e2 : w6.frozen? ⟨w.heap.size + 1, 2, none⟩ = false := kf hb6 (by go_simp) (by go_simp)
  replace f_e3 : w6.frozen? ⟨w.heap.size + 1, 3, none⟩ = false := kf hb6 (by go_simp) (by go_simp)
  replace c_e0 : w6.cell? ⟨w.heap.size + 1, 0, none⟩ = some (.int .i64 et) := kp hb6 (by go_cell)
  replace c_e1 : w6.cell? ⟨w.heap.size + 1, 1, none⟩ = some (.int .i64 elo) := kp hb6 (by go_cell)
  replace c_e2 : w6.cell? ⟨w.heap.size + 1, 2, none⟩ = some (.int .i64 ehi) := kp hb6 (by go_cell)
  replace c_e3 : w6.cell? ⟨w.heap.size + 1, 3, none⟩ = some (.int .i64 cdr) := kp hb6 (by go_cell)
  replace c_d0 : w6.cell? ⟨w.heap.size + 1 + 1, 0, none⟩ = some (.int .i64 dl) := kp hb6 (by go_cell)
  replace c_d1 : w6.cell? ⟨w.heap.size + 1 + 1, 1, none⟩ = some (.int .i64 dh) := kp hb6 (by go_cell)
  replace c_t0 : w6.cell? ⟨w.heap.size + 1 + 1 + 1, 0, none⟩ = some (.int .i64 tlo) := kp hb6 (by go_cell)
  replace c_t1 : w6.cell? ⟨w.heap.size + 1 + 1 + 1, 1, none⟩ = some (.int .i64 thi) := kp hb6 (by go_cell)
  clear hb6 hB5
  go_wp2_with fail
  refine (HE.out _).mono ?_
  rintro e w7 ⟨rfl, hb7⟩
  have hB7 : Below w.heap.size w w7 := below_after (by go_grown) hb7
  have hz7 := hb7.size
  try simp only [World.size_alloc, World.size_setCell, World.size_drew] at hz7
  have hw7 := hB7.size
  replace c_c0 : w7.cell? ⟨w.heap.size, 0, none⟩ = some (.int .i64 ct) := kp hb7 (by go_cell)
  replace c_c1 : w7.cell? ⟨w.heap.size, 1, none⟩ = some (.int .i64 clo) := kp hb7 (by go_cell)
  replace c_c2 : w7.cell? ⟨w.heap.size, 2, none⟩ = some (.int .i64 chi) := kp hb7 (by go_cell)
  replace c_c3 : w7.cell? ⟨w.heap.size, 3, none⟩ = some (.int .i64 cdr) := kp hb7 (by go_cell)
  replace f_e0 : w7.frozen? ⟨w.heap.size + 1, 0, none⟩ = false := kf hb7 (by go_simp) (by go_simp)
  replace f_e1 : w7.frozen? ⟨w.heap.size + 1, 1, none⟩ = false := kf hb7 (by go_simp) (by go_simp)
  replace f_e2 : w7.frozen? ⟨w.heap.size + 1, 2, none⟩ = false := kf hb7 (by go_simp) (by go_simp)
  replace f_e3 : w7.frozen? ⟨w.heap.size + 1, 3, none⟩ = false := kf hb7 (by go_simp) (by go_simp)
  replace c_e0 : w7.cell? ⟨w.heap.size + 1, 0, none⟩ = some (.int .i64 et) := kp hb7 (by go_cell)
  replace c_e1 : w7.cell? ⟨w.heap.size + 1, 1, none⟩ = some (.int .i64 elo) := kp hb7 (by go_cell)
  replace c_e2 : w7.cell? ⟨w.heap.size + 1, 2, none⟩ = some (.int .i64 ehi) := kp hb7 (by go_cell)
  replace c_e3 : w7.cell? ⟨w.heap.size + 1, 3, none⟩ = some (.int .i64 cdr) := kp hb7 (by go_cell)
  replace c_d0 : w7.cell? ⟨w.heap.size + 1 + 1, 0, none⟩ = some (.int .i64 dl) := kp hb7 (by go_cell)
  replace c_d1 : w7.cell? ⟨w.heap.size + 1 + 1, 1, none⟩ = some (.int .i64 dh) := kp hb7 (by go_cell)
  replace c_t0 : w7.cell? ⟨w.heap.size + 1 + 1 + 1, 0, none⟩ = some (.int .i64 tlo) := kp hb7 (by go_cell)
  replace c_t1 : w7.cell? ⟨w.heap.size + 1 + 1 + 1, 1, none⟩ = some (.int .i64 thi) := kp hb7 (by go_cell)
  clear hb7 hB6
  go_wp2_with fail
  go_ret
  exact ⟨rfl, by go_grown⟩
set_option maxHeartbeats 1600000 in
set_option maxRecDepth 100000 in
theorem offs_6 (A : Option Addr) (n c : Nat) (xs : List Wt) (ct clo chi cdr et elo ehi edr dl dh tlo thi sent got later : Int) (w : World) (h0 : n ≤ 25) (h1 : clkB ct clo chi cdr = true) (h2 : clkB et elo ehi cdr = true) (h3 : readB sent = true) (h4 : readB got = true) (h5 : readB later = true) (h6 : got < sent) : Calls Try.prog 23 #[.slice A n c, .agg #[.int .i64 ct, .int .i64 clo, .int .i64 chi, .int .i64 cdr], .agg #[.int .i64 et, .int .i64 elo, .int .i64 ehi, .int .i64 edr], .agg #[.int .i64 dl, .int .i64 dh], .agg #[.int .i64 tlo, .int .i64 thi], .int .i64 sent, .int .i64 got, .int .i64 later] w fun e w' => e = .returned (.bool true) ∧ Below w.heap.size w w' := by
  have hF := fun W => bel (Few_any A n c W)
  rw [show decide (n ≤ 25) = true by simp; omega] at hF
  have HF := Lib.hid hF
  have hA := fun W => RCValid_any ct clo chi cdr W
  rw [h1] at hA
  have HA := Lib.hid hA
  have hB := fun W => RCValid_any et elo ehi cdr W
  rw [h2] at hB
  have HB := Lib.hid hB
  have hC := fun W => bel (RTime_any sent W)
  rw [h3] at hC
  have HC := Lib.hid hC
  have hD := fun W => bel (RTime_any got W)
  rw [h4] at hD
  have HD := Lib.hid hD
  have hE := fun W => bel (RTime_any later W)
  rw [h5] at hE
  have HE := Lib.hid hE
  have b3 := readB_bounds h3
  have b4 := readB_bounds h4
  have b5 := readB_bounds h5
  clear hF hA hB hC hD hE h3 h4 h5
  go_enter Try.func23, Try.ntmps23
  go_wp2_with fail
  refine (head17_any _).mono ?_
  rintro e w1 ⟨rfl, hb1⟩
  have hB1 : Below w.heap.size w w1 := below_after (by go_grown) hb1
  have hz1 := hb1.size
  try simp only [World.size_alloc, World.size_setCell, World.size_drew] at hz1
  have hw1 := hB1.size
  have c_c0 : w1.cell? ⟨w.heap.size, 0, none⟩ = some (.int .i64 ct) := kp hb1 (by go_cell)
  have c_c1 : w1.cell? ⟨w.heap.size, 1, none⟩ = some (.int .i64 clo) := kp hb1 (by go_cell)
  have c_c2 : w1.cell? ⟨w.heap.size, 2, none⟩ = some (.int .i64 chi) := kp hb1 (by go_cell)
  have c_c3 : w1.cell? ⟨w.heap.size, 3, none⟩ = some (.int .i64 cdr) := kp hb1 (by go_cell)
  have f_e0 : w1.frozen? ⟨w.heap.size + 1, 0, none⟩ = false := kf hb1 (by go_simp) (by go_simp)
  have f_e1 : w1.frozen? ⟨w.heap.size + 1, 1, none⟩ = false := kf hb1 (by go_simp) (by go_simp)
  have f_e2 : w1.frozen? ⟨w.heap.size + 1, 2, none⟩ = false := kf hb1 (by go_simp) (by go_simp)
  have f_e3 : w1.frozen? ⟨w.heap.size + 1, 3, none⟩ = false := kf hb1 (by go_simp) (by go_simp)
  have c_e0 : w1.cell? ⟨w.heap.size + 1, 0, none⟩ = some (.int .i64 et) := kp hb1 (by go_cell)
  have c_e1 : w1.cell? ⟨w.heap.size + 1, 1, none⟩ = some (.int .i64 elo) := kp hb1 (by go_cell)
  have c_e2 : w1.cell? ⟨w.heap.size + 1, 2, none⟩ = some (.int .i64 ehi) := kp hb1 (by go_cell)
  have c_e3 : w1.cell? ⟨w.heap.size + 1, 3, none⟩ = some (.int .i64 edr) := kp hb1 (by go_cell)
  have c_d0 : w1.cell? ⟨w.heap.size + 1 + 1, 0, none⟩ = some (.int .i64 dl) := kp hb1 (by go_cell)
  have c_d1 : w1.cell? ⟨w.heap.size + 1 + 1, 1, none⟩ = some (.int .i64 dh) := kp hb1 (by go_cell)
  have c_t0 : w1.cell? ⟨w.heap.size + 1 + 1 + 1, 0, none⟩ = some (.int .i64 tlo) := kp hb1 (by go_cell)
  have c_t1 : w1.cell? ⟨w.heap.size + 1 + 1 + 1, 1, none⟩ = some (.int .i64 thi) := kp hb1 (by go_cell)
  clear hb1
  go_wp2_with fail
  refine (HF.out _).mono ?_
  rintro e w2 ⟨rfl, hb2⟩
  have hB2 : Below w.heap.size w w2 := below_after (by go_grown) hb2
  have hz2 := hb2.size
  try simp only [World.size_alloc, World.size_setCell, World.size_drew] at hz2
  have hw2 := hB2.size
  replace c_c0 : w2.cell? ⟨w.heap.size, 0, none⟩ = some (.int .i64 ct) := kp hb2 (by go_cell)
  replace c_c1 : w2.cell? ⟨w.heap.size, 1, none⟩ = some (.int .i64 clo) := kp hb2 (by go_cell)
  replace c_c2 : w2.cell? ⟨w.heap.size, 2, none⟩ = some (.int .i64 chi) := kp hb2 (by go_cell)
  replace c_c3 : w2.cell? ⟨w.heap.size, 3, none⟩ = some (.int .i64 cdr) := kp hb2 (by go_cell)
  replace f_e0 : w2.frozen? ⟨w.heap.size + 1, 0, none⟩ = false := kf hb2 (by go_simp) (by go_simp)
  replace f_e1 : w2.frozen? ⟨w.heap.size + 1, 1, none⟩ = false := kf hb2 (by go_simp) (by go_simp)
  replace f_e2 : w2.frozen? ⟨w.heap.size + 1, 2, none⟩ = false := kf hb2 (by go_simp) (by go_simp)
  replace f_e3 : w2.frozen? ⟨w.heap.size + 1, 3, none⟩ = false := kf hb2 (by go_simp) (by go_simp)
  replace c_e0 : w2.cell? ⟨w.heap.size + 1, 0, none⟩ = some (.int .i64 et) := kp hb2 (by go_cell)
  replace c_e1 : w2.cell? ⟨w.heap.size + 1, 1, none⟩ = some (.int .i64 elo) := kp hb2 (by go_cell)
  replace c_e2 : w2.cell? ⟨w.heap.size + 1, 2, none⟩ = some (.int .i64 ehi) := kp hb2 (by go_cell)
  replace c_e3 : w2.cell? ⟨w.heap.size + 1, 3, none⟩ = some (.int .i64 cdr) := kp hb2 (by go_cell)
  replace c_d0 : w2.cell? ⟨w.heap.size + 1 + 1, 0, none⟩ = some (.int .i64 dl) := kp hb2 (by go_cell)
  replace c_d1 : w2.cell? ⟨w.heap.size + 1 + 1, 1, none⟩ = some (.int .i64 dh) := kp hb2 (by go_cell)
  replace c_t0 : w2.cell? ⟨w.heap.size + 1 + 1 + 1, 0, none⟩ = some (.int .i64 tlo) := kp hb2 (by go_cell)
  replace c_t1 : w2.cell? ⟨w.heap.size + 1 + 1 + 1, 1, none⟩ = some (.int .i64 thi) := kp hb2 (by go_cell)
  clear hb2 hB1
  go_wp2_with fail
  refine (HA.out _).mono ?_
  rintro e w3 ⟨rfl, hb3⟩
  have hB3 : Below w.heap.size w w3 := below_after (by go_grown) hb3
  have hz3 := hb3.size
  try simp only [World.size_alloc, World.size_setCell, World.size_drew] at hz3
  have hw3 := hB3.size
  replace c_c0 : w3.cell? ⟨w.heap.size, 0, none⟩ = some (.int .i64 ct) := kp hb3 (by go_cell)
  replace c_c1 : w3.cell? ⟨w.heap.size, 1, none⟩ = some (.int .i64 clo) := kp hb3 (by go_cell)
  replace c_c2 : w3.cell? ⟨w.heap.size, 2, none⟩ = some (.int .i64 chi) := kp hb3 (by go_cell)
  replace c_c3 : w3.cell? ⟨w.heap.size, 3, none⟩ = some (.int .i64 cdr) := kp hb3 (by go_cell)
  replace f_e0 : w3.frozen? ⟨w.heap.size + 1, 0, none⟩ = false := kf hb3 (by go_simp) (by go_simp)
  replace f_e1 : w3.frozen? ⟨w.heap.size + 1, 1, none⟩ = false := kf hb3 (by go_simp) (by go_simp)
  replace f_e2 : w3.frozen? ⟨w.heap.size + 1, 2, none⟩ = false := kf hb3 (by go_simp) (by go_simp)
  replace f_e3 : w3.frozen? ⟨w.heap.size + 1, 3, none⟩ = false := kf hb3 (by go_simp) (by go_simp)
  replace c_e0 : w3.cell? ⟨w.heap.size + 1, 0, none⟩ = some (.int .i64 et) := kp hb3 (by go_cell)
  replace c_e1 : w3.cell? ⟨w.heap.size + 1, 1, none⟩ = some (.int .i64 elo) := kp hb3 (by go_cell)
  replace c_e2 : w3.cell? ⟨w.heap.size + 1, 2, none⟩ = some (.int .i64 ehi) := kp hb3 (by go_cell)
  replace c_e3 : w3.cell? ⟨w.heap.size + 1, 3, none⟩ = some (.int .i64 cdr) := kp hb3 (by go_cell)
  replace c_d0 : w3.cell? ⟨w.heap.size + 1 + 1, 0, none⟩ = some (.int .i64 dl) := kp hb3 (by go_cell)
  replace c_d1 : w3.cell? ⟨w.heap.size + 1 + 1, 1, none⟩ = some (.int .i64 dh) := kp hb3 (by go_cell)
  replace c_t0 : w3.cell? ⟨w.heap.size + 1 + 1 + 1, 0, none⟩ = some (.int .i64 tlo) := kp hb3 (by go_cell)
  replace c_t1 : w3.cell? ⟨w.heap.size + 1 + 1 + 1, 1, none⟩ = some (.int .i64 thi) := kp hb3 (by go_cell)
  clear hb3 hB2
  go_wp2_with fail
  refine (HB.out _).mono ?_
  rintro e w4 ⟨rfl, hb4⟩
  have hB4 : Below w.heap.size w w4 := below_after (by go_grown) hb4
  have hz4 := hb4.size
  try simp only [World.size_alloc, World.size_setCell, World.size_drew] at hz4
  have hw4 := hB4.size
  replace c_c0 : w4.cell? ⟨w.heap.size, 0, none⟩ = some (.int .i64 ct) := kp hb4 (by go_cell)
  replace c_c1 : w4.cell? ⟨w.heap.size, 1, none⟩ = some (.int .i64 clo) := kp hb4 (by go_cell)
  replace c_c2 : w4.cell? ⟨w.heap.size, 2, none⟩ = some (.int .i64 chi) := kp hb4 (by go_cell)
  replace c_c3 : w4.cell? ⟨w.heap.size, 3, none⟩ = some (.int .i64 cdr) := kp hb4 (by go_cell)
  replace f_e0 : w4.frozen? ⟨w.heap.size + 1, 0, none⟩ = false := kf hb4 (by go_simp) (by go_simp)
  replace f_e1 : w4.frozen? ⟨w.heap.size + 1, 1, none⟩ = false := kf hb4 (by go_simp) (by go_simp)
  replace f_e2 : w4.frozen? ⟨w.heap.size + 1, 2, none⟩ = false := kf hb4 (by go_simp) (by go_simp)
  replace f_e3 : w4.frozen? ⟨w.heap.size + 1, 3, none⟩ = false := kf hb4 (by go_simp) (by go_simp)
  replace c_e0 : w4.cell? ⟨w.heap.size + 1, 0, none⟩ = some (.int .i64 et) := kp hb4 (by go_cell)
  replace c_e1 : w4.cell? ⟨w.heap.size + 1, 1, none⟩ = some (.int .i64 elo) := kp hb4 (by go_cell)
  replace c_e2 : w4.cell? ⟨w.heap.size + 1, 2, none⟩ = some (.int .i64 ehi) := kp hb4 (by go_cell)
  replace c_e3 : w4.cell? ⟨w.heap.size + 1, 3, none⟩ = some (.int .i64 cdr) := kp hb4 (by go_cell)
  replace c_d0 : w4.cell? ⟨w.heap.size + 1 + 1, 0, none⟩ = some (.int .i64 dl) := kp hb4 (by go_cell)
  replace c_d1 : w4.cell? ⟨w.heap.size + 1 + 1, 1, none⟩ = some (.int .i64 dh) := kp hb4 (by go_cell)
  replace c_t0 : w4.cell? ⟨w.heap.size + 1 + 1 + 1, 0, none⟩ = some (.int .i64 tlo) := kp hb4 (by go_cell)
  replace c_t1 : w4.cell? ⟨w.heap.size + 1 + 1 + 1, 1, none⟩ = some (.int .i64 thi) := kp hb4 (by go_cell)
  clear hb4 hB3
  go_wp2_with fail
  refine (HC.out _).mono ?_
  rintro e w5 ⟨rfl, hb5⟩
  have hB5 : Below w.heap.size w w5 := below_after (by go_grown) hb5
  have hz5 := hb5.size
  try simp only [World.size_alloc, World.size_setCell, World.size_drew] at hz5
  have hw5 := hB5.size
  replace c_c0 : w5.cell? ⟨w.heap.size, 0, none⟩ = some (.int .i64 ct) := kp hb5 (by go_cell)
  replace c_c1 : w5.cell? ⟨w.heap.size, 1, none⟩ = some (.int .i64 clo) := kp hb5 (by go_cell)
  replace c_c2 : w5.cell? ⟨w.heap.size, 2, none⟩ = some (.int .i64 chi) := kp hb5 (by go_cell)
  replace c_c3 : w5.cell? ⟨w.heap.size, 3, none⟩ = some (.int .i64 cdr) := kp hb5 (by go_cell)
  replace f_e0 : w5.frozen? ⟨w.heap.size + 1, 0, none⟩ = false := kf hb5 (by go_simp) (by go_simp)
  replace f_e1 : w5.frozen? ⟨w.heap.size + 1, 1, none⟩ = false := kf hb5 (by go_simp) (by go_simp)
  replace f_e2 : w5.frozen? ⟨w.heap.size + 1, 2, none⟩ = false := kf hb5 (by go_simp) (by go_simp)
  replace f_e3 : w5.frozen? ⟨w.heap.size + 1, 3, none⟩ = false := kf hb5 (by go_simp) (by go_simp)
  replace c_e0 : w5.cell? ⟨w.heap.size + 1, 0, none⟩ = some (.int .i64 et) := kp hb5 (by go_cell)
  replace c_e1 : w5.cell? ⟨w.heap.size + 1, 1, none⟩ = some (.int .i64 elo) := kp hb5 (by go_cell)
  replace c_e2 : w5.cell? ⟨w.heap.size + 1, 2, none⟩ = some (.int .i64 ehi) := kp hb5 (by go_cell)
  replace c_e3 : w5.cell? ⟨w.heap.size + 1, 3, none⟩ = some (.int .i64 cdr) := kp hb5 (by go_cell)
  replace c_d0 : w5.cell? ⟨w.heap.size + 1 + 1, 0, none⟩ = some (.int .i64 dl) := kp hb5 (by go_cell)
  replace c_d1 : w5.cell? ⟨w.heap.size + 1 + 1, 1, none⟩ = some (.int .i64 dh) := kp hb5 (by go_cell)
  replace c_t0 : w5.cell? ⟨w.heap.size + 1 + 1 + 1, 0, none⟩ = some (.int .i64 tlo) := kp hb5 (by go_cell)
  replace c_t1 : w5.cell? ⟨w.heap.size + 1 + 1 + 1, 1, none⟩ = some (.int .i64 thi) := kp hb5 (by go_cell)
  clear hb5 hB4
  go_wp2_with fail
  refine (HD.out _).mono ?_
  rintro e w6 ⟨rfl, hb6⟩
  have hB6 : Below w.heap.size w w6 := below_after (by go_grown) hb6
  have hz6 := hb6.size
  try simp only [World.size_alloc, World.size_setCell, World.size_drew] at hz6
  have hw6 := hB6.size
  replace c_c0 : w6.cell? ⟨w.heap.size, 0, none⟩ = some (.int .i64 ct) := kp hb6 (by go_cell)
  replace c_c1 : w6.cell? ⟨w.heap.size, 1, none⟩ = some (.int .i64 clo) := kp hb6 (by go_cell)
  replace c_c2 : w6.cell? ⟨w.heap.size, 2, none⟩ = some (.int .i64 chi) := kp hb6 (by go_cell)
  replace c_c3 : w6.cell? ⟨w.heap.size, 3, none⟩ = some (.int .i64 cdr) := kp hb6 (by go_cell)
  replace f_e0 : w6.frozen? ⟨w.heap.size + 1, 0, none⟩ = false := kf hb6 (by go_simp) (by go_simp)
  replace f_e1 : w6.frozen? ⟨w.heap.size + 1, 1, none⟩ = false := kf hb6 (by go_simp) (by go_simp)
  replace f_e2 : w6.frozen? ⟨w.heap.size + 1, 2, none⟩ = false := kf hb6 (by go_simp) (by go_simp)
  replace f_e3 : w6.frozen? ⟨w.heap.size + 1, 3, none⟩ = false := kf hb6 (by go_simp) (by go_simp)
  replace c_e0 : w6.cell? ⟨w.heap.size + 1, 0, none⟩ = some (.int .i64 et) := kp hb6 (by go_cell)
  replace c_e1 : w6.cell? ⟨w.heap.size + 1, 1, none⟩ = some (.int .i64 elo) := kp hb6 (by go_cell)
  replace c_e2 : w6.cell? ⟨w.heap.size + 1, 2, none⟩ = some (.int .i64 ehi) := kp hb6 (by go_cell)
  replace c_e3 : w6.cell? ⟨w.heap.size + 1, 3, none⟩ = some (.int .i64 cdr) := kp hb6 (by go_cell)
  replace c_d0 : w6.cell? ⟨w.heap.size + 1 + 1, 0, none⟩ = some (.int .i64 dl) := kp hb6 (by go_cell)
  replace c_d1 : w6.cell? ⟨w.heap.size + 1 + 1, 1, none⟩ = some (.int .i64 dh) := kp hb6 (by go_cell)
  replace c_t0 : w6.cell? ⟨w.heap.size + 1 + 1 + 1, 0, none⟩ = some (.int .i64 tlo) := kp hb6 (by go_cell)
  replace c_t1 : w6.cell? ⟨w.heap.size + 1 + 1 + 1, 1, none⟩ = some (.int .i64 thi) := kp hb6 (by go_cell)
  clear hb6 hB5
  go_wp2_with fail
  refine (HE.out _).mono ?_
  rintro e w7 ⟨rfl, hb7⟩
  have hB7 : Below w.heap.size w w7 := below_after (by go_grown) hb7
  have hz7 := hb7.size
  try simp only [World.size_alloc, World.size_setCell, World.size_drew] at hz7
  have hw7 := hB7.size
  replace c_c0 : w7.cell? ⟨w.heap.size, 0, none⟩ = some (.int .i64 ct) := kp hb7 (by go_cell)
  replace c_c1 : w7.cell? ⟨w.heap.size, 1, none⟩ = some (.int .i64 clo) := kp hb7 (by go_cell)
  replace c_c2 : w7.cell? ⟨w.heap.size, 2, none⟩ = some (.int .i64 chi) := kp hb7 (by go_cell)
  replace c_c3 : w7.cell? ⟨w.heap.size, 3, none⟩ = some (.int .i64 cdr) := kp hb7 (by go_cell)
  replace f_e0 : w7.frozen? ⟨w.heap.size + 1, 0, none⟩ = false := kf hb7 (by go_simp) (by go_simp)
  replace f_e1 : w7.frozen? ⟨w.heap.size + 1, 1, none⟩ = false := kf hb7 (by go_simp) (by go_simp)
  replace f_e2 : w7.frozen? ⟨w.heap.size + 1, 2, none⟩ = false := kf hb7 (by go_simp) (by go_simp)
  replace f_e3 : w7.frozen? ⟨w.heap.size + 1, 3, none⟩ = false := kf hb7 (by go_simp) (by go_simp)
  replace c_e0 : w7.cell? ⟨w.heap.size + 1, 0, none⟩ = some (.int .i64 et) := kp hb7 (by go_cell)
  replace c_e1 : w7.cell? ⟨w.heap.size + 1, 1, none⟩ = some (.int .i64 elo) := kp hb7 (by go_cell)
  replace c_e2 : w7.cell? ⟨w.heap.size + 1, 2, none⟩ = some (.int .i64 ehi) := kp hb7 (by go_cell)
  replace c_e3 : w7.cell? ⟨w.heap.size + 1, 3, none⟩ = some (.int .i64 cdr) := kp hb7 (by go_cell)
  replace c_d0 : w7.cell? ⟨w.heap.size + 1 + 1, 0, none⟩ = some (.int .i64 dl) := kp hb7 (by go_cell)
  replace c_d1 : w7.cell? ⟨w.heap.size + 1 + 1, 1, none⟩ = some (.int .i64 dh) := kp hb7 (by go_cell)
  replace c_t0 : w7.cell? ⟨w.heap.size + 1 + 1 + 1, 0, none⟩ = some (.int .i64 tlo) := kp hb7 (by go_cell)
  replace c_t1 : w7.cell? ⟨w.heap.size + 1 + 1 + 1, 1, none⟩ = some (.int .i64 thi) := kp hb7 (by go_cell)
  clear hb7 hB6
  go_wp2_with fail
  go_ret
  exact ⟨rfl, by go_grown⟩
set_option maxHeartbeats 1600000 in
set_option maxRecDepth 100000 in
theorem offs_7 (A : Option Addr) (n c : Nat) (xs : List Wt) (ct clo chi cdr et elo ehi edr dl dh tlo thi sent got later : Int) (w : World) (h0 : n ≤ 25) (h1 : clkB ct clo chi cdr = true) (h2 : clkB et elo ehi cdr = true) (h3 : readB sent = true) (h4 : readB got = true) (h5 : readB later = true) (h6 : ¬ got < sent) (h7 : 1000000000 < later + got - sent) : Calls Try.prog 23 #[.slice A n c, .agg #[.int .i64 ct, .int .i64 clo, .int .i64 chi, .int .i64 cdr], .agg #[.int .i64 et, .int .i64 elo, .int .i64 ehi, .int .i64 edr], .agg #[.int .i64 dl, .int .i64 dh], .agg #[.int .i64 tlo, .int .i64 thi], .int .i64 sent, .int .i64 got, .int .i64 later] w fun e w' => e = .returned (.bool true) ∧ Below w.heap.size w w' := by
  have hF := fun W => bel (Few_any A n c W)
  rw [show decide (n ≤ 25) = true by simp; omega] at hF
  have HF := Lib.hid hF
  have hA := fun W => RCValid_any ct clo chi cdr W
  rw [h1] at hA
  have HA := Lib.hid hA
  have hB := fun W => RCValid_any et elo ehi cdr W
  rw [h2] at hB
  have HB := Lib.hid hB
  have hC := fun W => bel (RTime_any sent W)
  rw [h3] at hC
  have HC := Lib.hid hC
  have hD := fun W => bel (RTime_any got W)
  rw [h4] at hD
  have HD := Lib.hid hD
  have hE := fun W => bel (RTime_any later W)
  rw [h5] at hE
  have HE := Lib.hid hE
  have b3 := readB_bounds h3
  have b4 := readB_bounds h4
  have b5 := readB_bounds h5
  clear hF hA hB hC hD hE h3 h4 h5
  go_enter Try.func23, Try.ntmps23
  go_wp2_with fail
  refine (head17_any _).mono ?_
  rintro e w1 ⟨rfl, hb1⟩
  have hB1 : Below w.heap.size w w1 := below_after (by go_grown) hb1
  have hz1 := hb1.size
  try simp only [World.size_alloc, World.size_setCell, World.size_drew] at hz1
  have hw1 := hB1.size
  have c_c0 : w1.cell? ⟨w.heap.size, 0, none⟩ = some (.int .i64 ct) := kp hb1 (by go_cell)
  have c_c1 : w1.cell? ⟨w.heap.size, 1, none⟩ = some (.int .i64 clo) := kp hb1 (by go_cell)
  have c_c2 : w1.cell? ⟨w.heap.size, 2, none⟩ = some (.int .i64 chi) := kp hb1 (by go_cell)
  have c_c3 : w1.cell? ⟨w.heap.size, 3, none⟩ = some (.int .i64 cdr) := kp hb1 (by go_cell)
  have f_e0 : w1.frozen? ⟨w.heap.size + 1, 0, none⟩ = false := kf hb1 (by go_simp) (by go_simp)
  have f_e1 : w1.frozen? ⟨w.heap.size + 1, 1, none⟩ = false := kf hb1 (by go_simp) (by go_simp)
  have f_e2 : w1.frozen? ⟨w.heap.size + 1, 2, none⟩ = false := kf hb1 (by go_simp) (by go_simp)
  have f_e3 : w1.frozen? ⟨w.heap.size + 1, 3, none⟩ = false := kf hb1 (by go_simp) (by go_simp)
  have c_e0 : w1.cell? ⟨w.heap.size + 1, 0, none⟩ = some (.int .i64 et) := kp hb1 (by go_cell)
  have c_e1 : w1.cell? ⟨w.heap.size + 1, 1, none⟩ = some (.int .i64 elo) := kp hb1 (by go_cell)
  have c_e2 : w1.cell? ⟨w.heap.size + 1, 2, none⟩ = some (.int .i64 ehi) := kp hb1 (by go_cell)
  have c_e3 : w1.cell? ⟨w.heap.size + 1, 3, none⟩ = some (.int .i64 edr) := kp hb1 (by go_cell)
  have c_d0 : w1.cell? ⟨w.heap.size + 1 + 1, 0, none⟩ = some (.int .i64 dl) := kp hb1 (by go_cell)
  have c_d1 : w1.cell? ⟨w.heap.size + 1 + 1, 1, none⟩ = some (.int .i64 dh) := kp hb1 (by go_cell)
  have c_t0 : w1.cell? ⟨w.heap.size + 1 + 1 + 1, 0, none⟩ = some (.int .i64 tlo) := kp hb1 (by go_cell)
  have c_t1 : w1.cell? ⟨w.heap.size + 1 + 1 + 1, 1, none⟩ = some (.int .i64 thi) := kp hb1 (by go_cell)
  clear hb1
  go_wp2_with fail
  refine (HF.out _).mono ?_
  rintro e w2 ⟨rfl, hb2⟩
  have hB2 : Below w.heap.size w w2 := below_after (by go_grown) hb2
  have hz2 := hb2.size
  try simp only [World.size_alloc, World.size_setCell, World.size_drew] at hz2
  have hw2 := hB2.size
  replace c_c0 : w2.cell? ⟨w.heap.size, 0, none⟩ = some (.int .i64 ct) := kp hb2 (by go_cell)
  replace c_c1 : w2.cell? ⟨w.heap.size, 1, none⟩ = some (.int .i64 clo) := kp hb2 (by go_cell)
  replace c_c2 : w2.cell? ⟨w.heap.size, 2, none⟩ = some (.int .i64 chi) := kp hb2 (by go_cell)
  replace c_c3 : w2.cell? ⟨w.heap.size, 3, none⟩ = some (.int .i64 cdr) := kp hb2 (by go_cell)
  replace f_e0 : w2.frozen? ⟨w.heap.size + 1, 0, none⟩ = false := kf hb2 (by go_simp) (by go_simp)
  replace f_e1 : w2.frozen? ⟨w.heap.size + 1, 1, none⟩ = false := kf hb2 (by go_simp) (by go_simp)
  replace f_e2 : w2.frozen? ⟨w.heap.size + 1, 2, none⟩ = false := kf hb2 (by go_simp) (by go_simp)
  replace f_e3 : w2.frozen? ⟨w.heap.size + 1, 3, none⟩ = false := kf hb2 (by go_simp) (by go_simp)
  replace c_e0 : w2.cell? ⟨w.heap.size + 1, 0, none⟩ = some (.int .i64 et) := kp hb2 (by go_cell)
  replace c_e1 : w2.cell? ⟨w.heap.size + 1, 1, none⟩ = some (.int .i64 elo) := kp hb2 (by go_cell)
  replace c_e2 : w2.cell? ⟨w.heap.size + 1, 2, none⟩ = some (.int .i64 ehi) := kp hb2 (by go_cell)
  replace c_e3 : w2.cell? ⟨w.heap.size + 1, 3, none⟩ = some (.int .i64 cdr) := kp hb2 (by go_cell)
  replace c_d0 : w2.cell? ⟨w.heap.size + 1 + 1, 0, none⟩ = some (.int .i64 dl) := kp hb2 (by go_cell)
  replace c_d1 : w2.cell? ⟨w.heap.size + 1 + 1, 1, none⟩ = some (.int .i64 dh) := kp hb2 (by go_cell)
  replace c_t0 : w2.cell? ⟨w.heap.size + 1 + 1 + 1, 0, none⟩ = some (.int .i64 tlo) := kp hb2 (by go_cell)
  replace c_t1 : w2.cell? ⟨w.heap.size + 1 + 1 + 1, 1, none⟩ = some (.int .i64 thi) := kp hb2 (by go_cell)
  clear hb2 hB1
  go_wp2_with fail
  refine (HA.out _).mono ?_
  rintro e w3 ⟨rfl, hb3⟩
  have hB3 : Below w.heap.size w w3 := below_after (by go_grown) hb3
  have hz3 := hb3.size
  try simp only [World.size_alloc, World.size_setCell, World.size_drew] at hz3
  have hw3 := hB3.size
  replace c_c0 : w3.cell? ⟨w.heap.size, 0, none⟩ = some (.int .i64 ct) := kp hb3 (by go_cell)
  replace c_c1 : w3.cell? ⟨w.heap.size, 1, none⟩ = some (.int .i64 clo) := kp hb3 (by go_cell)
  replace c_c2 : w3.cell? ⟨w.heap.size, 2, none⟩ = some (.int .i64 chi) := kp hb3 (by go_cell)
  replace c_c3 : w3.cell? ⟨w.heap.size, 3, none⟩ = some (.int .i64 cdr) := kp hb3 (by go_cell)
  replace f_e0 : w3.frozen? ⟨w.heap.size + 1, 0, none⟩ = false := kf hb3 (by go_simp) (by go_simp)
  replace f_e1 : w3.frozen? ⟨w.heap.size + 1, 1, none⟩ = false := kf hb3 (by go_simp) (by go_simp)
  replace f_e2 : w3.frozen? ⟨w.heap.size + 1, 2, none⟩ = false := kf hb3 (by go_simp) (by go_simp)
  replace f_e3 : w3.frozen? ⟨w.heap.size + 1, 3, none⟩ = false := kf hb3 (by go_simp) (by go_simp)
  replace c_e0 : w3.cell? ⟨w.heap.size + 1, 0, none⟩ = some (.int .i64 et) := kp hb3 (by go_cell)
  replace c_e1 : w3.cell? ⟨w.heap.size + 1, 1, none⟩ = some (.int .i64 elo) := kp hb3 (by go_cell)
  replace c_e2 : w3.cell? ⟨w.heap.size + 1, 2, none⟩ = some (.int .i64 ehi) := kp hb3 (by go_cell)
  replace c_e3 : w3.cell? ⟨w.heap.size + 1, 3, none⟩ = some (.int .i64 cdr) := kp hb3 (by go_cell)
  replace c_d0 : w3.cell? ⟨w.heap.size + 1 + 1, 0, none⟩ = some (.int .i64 dl) := kp hb3 (by go_cell)
  replace c_d1 : w3.cell? ⟨w.heap.size + 1 + 1, 1, none⟩ = some (.int .i64 dh) := kp hb3 (by go_cell)
  replace c_t0 : w3.cell? ⟨w.heap.size + 1 + 1 + 1, 0, none⟩ = some (.int .i64 tlo) := kp hb3 (by go_cell)
  replace c_t1 : w3.cell? ⟨w.heap.size + 1 + 1 + 1, 1, none⟩ = some (.int .i64 thi) := kp hb3 (by go_cell)
  clear hb3 hB2
  go_wp2_with fail
  refine (HB.out _).mono ?_
  rintro e w4 ⟨rfl, hb4⟩
  have hB4 : Below w.heap.size w w4 := below_after (by go_grown) hb4
  have hz4 := hb4.size
  try simp only [World.size_alloc, World.size_setCell, World.size_drew] at hz4
  have hw4 := hB4.size
  replace c_c0 : w4.cell? ⟨w.heap.size, 0, none⟩ = some (.int .i64 ct) := kp hb4 (by go_cell)
  replace c_c1 : w4.cell? ⟨w.heap.size, 1, none⟩ = some (.int .i64 clo) := kp hb4 (by go_cell)
  replace c_c2 : w4.cell? ⟨w.heap.size, 2, none⟩ = some (.int .i64 chi) := kp hb4 (by go_cell)
  replace c_c3 : w4.cell? ⟨w.heap.size, 3, none⟩ = some (.int .i64 cdr) := kp hb4 (by go_cell)
  replace f_e0 : w4.frozen? ⟨w.heap.size + 1, 0, none⟩ = false := kf hb4 (by go_simp) (by go_simp)
  replace f_e1 : w4.frozen? ⟨w.heap.size + 1, 1, none⟩ = false := kf hb4 (by go_simp) (by go_simp)
  replace f_e2 : w4.frozen? ⟨w.heap.size + 1, 2, none⟩ = false := kf hb4 (by go_simp) (by go_simp)
  replace f_e3 : w4.frozen? ⟨w.heap.size + 1, 3, none⟩ = false := kf hb4 (by go_simp) (by go_simp)
  replace c_e0 : w4.cell? ⟨w.heap.size + 1, 0, none⟩ = some (.int .i64 et) := kp hb4 (by go_cell)
  replace c_e1 : w4.cell? ⟨w.heap.size + 1, 1, none⟩ = some (.int .i64 elo) := kp hb4 (by go_cell)
  replace c_e2 : w4.cell? ⟨w.heap.size + 1, 2, none⟩ = some (.int .i64 ehi) := kp hb4 (by go_cell)
  replace c_e3 : w4.cell? ⟨w.heap.size + 1, 3, none⟩ = some (.int .i64 cdr) := kp hb4 (by go_cell)
  replace c_d0 : w4.cell? ⟨w.heap.size + 1 + 1, 0, none⟩ = some (.int .i64 dl) := kp hb4 (by go_cell)
  replace c_d1 : w4.cell? ⟨w.heap.size + 1 + 1, 1, none⟩ = some (.int .i64 dh) := kp hb4 (by go_cell)
  replace c_t0 : w4.cell? ⟨w.heap.size + 1 + 1 + 1, 0, none⟩ = some (.int .i64 tlo) := kp hb4 (by go_cell)
  replace c_t1 : w4.cell? ⟨w.heap.size + 1 + 1 + 1, 1, none⟩ = some (.int .i64 thi) := kp hb4 (by go_cell)
  clear hb4 hB3
  go_wp2_with fail
  refine (HC.out _).mono ?_
  rintro e w5 ⟨rfl, hb5⟩
  have hB5 : Below w.heap.size w w5 := below_after (by go_grown) hb5
  have hz5 := hb5.size
  try simp only [World.size_alloc, World.size_setCell, World.size_drew] at hz5
  have hw5 := hB5.size
  replace c_c0 : w5.cell? ⟨w.heap.size, 0, none⟩ = some (.int .i64 ct) := kp hb5 (by go_cell)
  replace c_c1 : w5.cell? ⟨w.heap.size, 1, none⟩ = some (.int .i64 clo) := kp hb5 (by go_cell)
  replace c_c2 : w5.cell? ⟨w.heap.size, 2, none⟩ = some (.int .i64 chi) := kp hb5 (by go_cell)
  replace c_c3 : w5.cell? ⟨w.heap.size, 3, none⟩ = some (.int .i64 cdr) := kp hb5 (by go_cell)
  replace f_e0 : w5.frozen? ⟨w.heap.size + 1, 0, none⟩ = false := kf hb5 (by go_simp) (by go_simp)
  replace f_e1 : w5.frozen? ⟨w.heap.size + 1, 1, none⟩ = false := kf hb5 (by go_simp) (by go_simp)
  replace f_e2 : w5.frozen? ⟨w.heap.size + 1, 2, none⟩ = false := kf hb5 (by go_simp) (by go_simp)
  replace f_e3 : w5.frozen? ⟨w.heap.size + 1, 3, none⟩ = false := kf hb5 (by go_simp) (by go_simp)
  replace c_e0 : w5.cell? ⟨w.heap.size + 1, 0, none⟩ = some (.int .i64 et) := kp hb5 (by go_cell)
  replace c_e1 : w5.cell? ⟨w.heap.size + 1, 1, none⟩ = some (.int .i64 elo) := kp hb5 (by go_cell)
  replace c_e2 : w5.cell? ⟨w.heap.size + 1, 2, none⟩ = some (.int .i64 ehi) := kp hb5 (by go_cell)
  replace c_e3 : w5.cell? ⟨w.heap.size + 1, 3, none⟩ = some (.int .i64 cdr) := kp hb5 (by go_cell)
  replace c_d0 : w5.cell? ⟨w.heap.size + 1 + 1, 0, none⟩ = some (.int .i64 dl) := kp hb5 (by go_cell)
  replace c_d1 : w5.cell? ⟨w.heap.size + 1 + 1, 1, none⟩ = some (.int .i64 dh) := kp hb5 (by go_cell)
  replace c_t0 : w5.cell? ⟨w.heap.size + 1 + 1 + 1, 0, none⟩ = some (.int .i64 tlo) := kp hb5 (by go_cell)
  replace c_t1 : w5.cell? ⟨w.heap.size + 1 + 1 + 1, 1, none⟩ = some (.int .i64 thi) := kp hb5 (by go_cell)
  clear hb5 hB4
  go_wp2_with fail
  refine (HD.out _).mono ?_
  rintro e w6 ⟨rfl, hb6⟩
  have hB6 : Below w.heap.size w w6 := below_after (by go_grown) hb6
  have hz6 := hb6.size
  try simp only [World.size_alloc, World.size_setCell, World.size_drew] at hz6
  have hw6 := hB6.size
  replace c_c0 : w6.cell? ⟨w.heap.size, 0, none⟩ = some (.int .i64 ct) := kp hb6 (by go_cell)
  replace c_c1 : w6.cell? ⟨w.heap.size, 1, none⟩ = some (.int .i64 clo) := kp hb6 (by go_cell)
  replace c_c2 : w6.cell? ⟨w.heap.size, 2, none⟩ = some (.int .i64 chi) := kp hb6 (by go_cell)
  replace c_c3 : w6.cell? ⟨w.heap.size, 3, none⟩ = some (.int .i64 cdr) := kp hb6 (by go_cell)
  replace f_e0 : w6.frozen? ⟨w.heap.size + 1, 0, none⟩ = false := kf hb6 (by go_simp) (by go_simp)
  replace f_e1 : w6.frozen? ⟨w.heap.size + 1, 1, none⟩ = false := kf hb6 (by go_simp) (by go_simp)
  replace f_e2 : w6.frozen? ⟨w.heap.size + 1, 2, none⟩ = false := kf hb6 (by go_simp) (by go_simp)
  replace f_e3 : w6.frozen? ⟨w.heap.size + 1, 3, none⟩ = false := kf hb6 (by go_simp) (by go_simp)
  replace c_e0 : w6.cell? ⟨w.heap.size + 1, 0, none⟩ = some (.int .i64 et) := kp hb6 (by go_cell)
  replace c_e1 : w6.cell? ⟨w.heap.size + 1, 1, none⟩ = some (.int .i64 elo) := kp hb6 (by go_cell)
  replace c_e2 : w6.cell? ⟨w.heap.size + 1, 2, none⟩ = some (.int .i64 ehi) := kp hb6 (by go_cell)
  replace c_e3 : w6.cell? ⟨w.heap.size + 1, 3, none⟩ = some (.int .i64 cdr) := kp hb6 (by go_cell)
  replace c_d0 : w6.cell? ⟨w.heap.size + 1 + 1, 0, none⟩ = some (.int .i64 dl) := kp hb6 (by go_cell)
  replace c_d1 : w6.cell? ⟨w.heap.size + 1 + 1, 1, none⟩ = some (.int .i64 dh) := kp hb6 (by go_cell)
  replace c_t0 : w6.cell? ⟨w.heap.size + 1 + 1 + 1, 0, none⟩ = some (.int .i64 tlo) := kp hb6 (by go_cell)
  replace c_t1 : w6.cell? ⟨w.heap.size + 1 + 1 + 1, 1, none⟩ = some (.int .i64 thi) := kp hb6 (by go_cell)
  clear hb6 hB5
  go_wp2_with fail
  refine (HE.out _).mono ?_
  rintro e w7 ⟨rfl, hb7⟩
  have hB7 : Below w.heap.size w w7 := below_after (by go_grown) hb7
  have hz7 := hb7.size
  try simp only [World.size_alloc, World.size_setCell, World.size_drew] at hz7
  have hw7 := hB7.size
  replace c_c0 : w7.cell? ⟨w.heap.size, 0, none⟩ = some (.int .i64 ct) := kp hb7 (by go_cell)
  replace c_c1 : w7.cell? ⟨w.heap.size, 1, none⟩ = some (.int .i64 clo) := kp hb7 (by go_cell)
  replace c_c2 : w7.cell? ⟨w.heap.size, 2, none⟩ = some (.int .i64 chi) := kp hb7 (by go_cell)
  replace c_c3 : w7.cell? ⟨w.heap.size, 3, none⟩ = some (.int .i64 cdr) := kp hb7 (by go_cell)
  replace f_e0 : w7.frozen? ⟨w.heap.size + 1, 0, none⟩ = false := kf hb7 (by go_simp) (by go_simp)
  replace f_e1 : w7.frozen? ⟨w.heap.size + 1, 1, none⟩ = false := kf hb7 (by go_simp) (by go_simp)
  replace f_e2 : w7.frozen? ⟨w.heap.size + 1, 2, none⟩ = false := kf hb7 (by go_simp) (by go_simp)
  replace f_e3 : w7.frozen? ⟨w.heap.size + 1, 3, none⟩ = false := kf hb7 (by go_simp) (by go_simp)
  replace c_e0 : w7.cell? ⟨w.heap.size + 1, 0, none⟩ = some (.int .i64 et) := kp hb7 (by go_cell)
  replace c_e1 : w7.cell? ⟨w.heap.size + 1, 1, none⟩ = some (.int .i64 elo) := kp hb7 (by go_cell)
  replace c_e2 : w7.cell? ⟨w.heap.size + 1, 2, none⟩ = some (.int .i64 ehi) := kp hb7 (by go_cell)
  replace c_e3 : w7.cell? ⟨w.heap.size + 1, 3, none⟩ = some (.int .i64 cdr) := kp hb7 (by go_cell)
  replace c_d0 : w7.cell? ⟨w.heap.size + 1 + 1, 0, none⟩ = some (.int .i64 dl) := kp hb7 (by go_cell)
  replace c_d1 : w7.cell? ⟨w.heap.size + 1 + 1, 1, none⟩ = some (.int .i64 dh) := kp hb7 (by go_cell)
  replace c_t0 : w7.cell? ⟨w.heap.size + 1 + 1 + 1, 0, none⟩ = some (.int .i64 tlo) := kp hb7 (by go_cell)
  replace c_t1 : w7.cell? ⟨w.heap.size + 1 + 1 + 1, 1, none⟩ = some (.int .i64 thi) := kp hb7 (by go_cell)
  clear hb7 hB6
  go_wp2_with fail
  go_ret
  exact ⟨rfl, by go_grown⟩
theorem twoS_offs {xs : List Wt} {ct clo chi cdr et elo ehi dl dh tlo thi sent got later : Int} (h1 : clkB ct clo chi cdr = true) (h2 : clkB et elo ehi cdr = true) (h3 : readB sent = true) (h4 : readB got = true) (h5 : readB later = true) (h6 : ¬ got < sent) (h7 : ¬ 1000000000 < later + got - sent) :
    twoS xs et elo ehi cdr dl dh later (later + got - sent) tlo thi = twoS xs ct clo chi cdr dl dh sent got tlo thi := by
  have b3 := readB_bounds h3
  have b4 := readB_bounds h4
  have b5 := readB_bounds h5
  have e1 : readB (later + got - sent) = true := by simp [readB]; omega
  have e2 : decide (later ≤ later + got - sent) = true := by simp; omega
  have e3 : decide (sent ≤ got) = true := by simp; omega
  unfold twoS twoB
  rw [h1, h2, h3, h4, h5, e1, e2, e3, show later + got - sent - later = got - sent by omega]
set_option maxHeartbeats 1600000 in
set_option maxRecDepth 100000 in
theorem offs_go (A : Option Addr) (n c : Nat) (xs : List Wt) (ct clo chi cdr et elo ehi edr dl dh tlo thi sent got later : Int) (w : World) (hn : xs.length = n) (hx : Wts? w.heap.size w A xs) (h0 : n ≤ 25) (h1 : clkB ct clo chi cdr = true) (h2 : clkB et elo ehi cdr = true) (h3 : readB sent = true) (h4 : readB got = true) (h5 : readB later = true) (h6 : ¬ got < sent) (h7 : ¬ 1000000000 < later + got - sent) : Calls Try.prog 23 #[.slice A n c, .agg #[.int .i64 ct, .int .i64 clo, .int .i64 chi, .int .i64 cdr], .agg #[.int .i64 et, .int .i64 elo, .int .i64 ehi, .int .i64 edr], .agg #[.int .i64 dl, .int .i64 dh], .agg #[.int .i64 tlo, .int .i64 thi], .int .i64 sent, .int .i64 got, .int .i64 later] w fun e w' => e = .returned (.bool true) ∧ Below w.heap.size w w' := by
  have HXS := Lib.hid (hxs_of hx)
  have hF := fun W => bel (Few_any A n c W)
  rw [show decide (n ≤ 25) = true by simp; omega] at hF
  have HF := Lib.hid hF
  have hA := fun W => RCValid_any ct clo chi cdr W
  rw [h1] at hA
  have HA := Lib.hid hA
  have hB := fun W => RCValid_any et elo ehi cdr W
  rw [h2] at hB
  have HB := Lib.hid hB
  have hC := fun W => bel (RTime_any sent W)
  rw [h3] at hC
  have HC := Lib.hid hC
  have hD := fun W => bel (RTime_any got W)
  rw [h4] at hD
  have HD := Lib.hid hD
  have hE := fun W => bel (RTime_any later W)
  rw [h5] at hE
  have HE := Lib.hid hE
  have b3 := readB_bounds h3
  have b4 := readB_bounds h4
  have b5 := readB_bounds h5
  have hG := fun W h => Two_any A n c xs ct clo chi cdr dl dh sent got tlo thi W hn (by omega) h
  have hI := fun W h => Two_any A n c xs et elo ehi cdr dl dh later (later + got - sent) tlo thi W hn (by omega) h
  rw [twoS_offs h1 h2 h3 h4 h5 h6 h7] at hI
  generalize twoS xs ct clo chi cdr dl dh sent got tlo thi = R at hG hI
  obtain ⟨R1, R2, R3⟩ := R
  have HG := Lib.hid hG
  have HI := Lib.hid hI
  clear hx hn hG hI hF hA hB hC hD hE h1 h2 h3 h4 h5
  go_enter Try.func23, Try.ntmps23
  go_wp2_with fail
  refine (head17_any _).mono ?_
  rintro e w1 ⟨rfl, hb1⟩
  have hB1 : Below w.heap.size w w1 := below_after (by go_grown) hb1
  have hz1 := hb1.size
  try simp only [World.size_alloc, World.size_setCell, World.size_drew] at hz1
  have hw1 := hB1.size
  have c_c0 : w1.cell? ⟨w.heap.size, 0, none⟩ = some (.int .i64 ct) := kp hb1 (by go_cell)
  have c_c1 : w1.cell? ⟨w.heap.size, 1, none⟩ = some (.int .i64 clo) := kp hb1 (by go_cell)
  have c_c2 : w1.cell? ⟨w.heap.size, 2, none⟩ = some (.int .i64 chi) := kp hb1 (by go_cell)
  have c_c3 : w1.cell? ⟨w.heap.size, 3, none⟩ = some (.int .i64 cdr) := kp hb1 (by go_cell)
  have f_e0 : w1.frozen? ⟨w.heap.size + 1, 0, none⟩ = false := kf hb1 (by go_simp) (by go_simp)
  have f_e1 : w1.frozen? ⟨w.heap.size + 1, 1, none⟩ = false := kf hb1 (by go_simp) (by go_simp)
  have f_e2 : w1.frozen? ⟨w.heap.size + 1, 2, none⟩ = false := kf hb1 (by go_simp) (by go_simp)
  have f_e3 : w1.frozen? ⟨w.heap.size + 1, 3, none⟩ = false := kf hb1 (by go_simp) (by go_simp)
  have c_e0 : w1.cell? ⟨w.heap.size + 1, 0, none⟩ = some (.int .i64 et) := kp hb1 (by go_cell)
  have c_e1 : w1.cell? ⟨w.heap.size + 1, 1, none⟩ = some (.int .i64 elo) := kp hb1 (by go_cell)
  have c_e2 : w1.cell? ⟨w.heap.size + 1, 2, none⟩ = some (.int .i64 ehi) := kp hb1 (by go_cell)
  have c_e3 : w1.cell? ⟨w.heap.size + 1, 3, none⟩ = some (.int .i64 edr) := kp hb1 (by go_cell)
  have c_d0 : w1.cell? ⟨w.heap.size + 1 + 1, 0, none⟩ = some (.int .i64 dl) := kp hb1 (by go_cell)
  have c_d1 : w1.cell? ⟨w.heap.size + 1 + 1, 1, none⟩ = some (.int .i64 dh) := kp hb1 (by go_cell)
  have c_t0 : w1.cell? ⟨w.heap.size + 1 + 1 + 1, 0, none⟩ = some (.int .i64 tlo) := kp hb1 (by go_cell)
  have c_t1 : w1.cell? ⟨w.heap.size + 1 + 1 + 1, 1, none⟩ = some (.int .i64 thi) := kp hb1 (by go_cell)
  clear hb1
  go_wp2_with fail
  refine (HF.out _).mono ?_
  rintro e w2 ⟨rfl, hb2⟩
  have hB2 : Below w.heap.size w w2 := below_after (by go_grown) hb2
  have hz2 := hb2.size
  try simp only [World.size_alloc, World.size_setCell, World.size_drew] at hz2
  have hw2 := hB2.size
  replace c_c0 : w2.cell? ⟨w.heap.size, 0, none⟩ = some (.int .i64 ct) := kp hb2 (by go_cell)
  replace c_c1 : w2.cell? ⟨w.heap.size, 1, none⟩ = some (.int .i64 clo) := kp hb2 (by go_cell)
  replace c_c2 : w2.cell? ⟨w.heap.size, 2, none⟩ = some (.int .i64 chi) := kp hb2 (by go_cell)
  replace c_c3 : w2.cell? ⟨w.heap.size, 3, none⟩ = some (.int .i64 cdr) := kp hb2 (by go_cell)
  replace f_e0 : w2.frozen? ⟨w.heap.size + 1, 0, none⟩ = false := kf hb2 (by go_simp) (by go_simp)
  replace f_e1 : w2.frozen? ⟨w.heap.size + 1, 1, none⟩ = false := kf hb2 (by go_simp) (by go_simp)
  replace f_e2 : w2.frozen? ⟨w.heap.size + 1, 2, none⟩ = false := kf hb2 (by go_simp) (by go_simp)
  replace f_e3 : w2.frozen? ⟨w.heap.size + 1, 3, none⟩ = false := kf hb2 (by go_simp) (by go_simp)
  replace c_e0 : w2.cell? ⟨w.heap.size + 1, 0, none⟩ = some (.int .i64 et) := kp hb2 (by go_cell)
  replace c_e1 : w2.cell? ⟨w.heap.size + 1, 1, none⟩ = some (.int .i64 elo) := kp hb2 (by go_cell)
  replace c_e2 : w2.cell? ⟨w.heap.size + 1, 2, none⟩ = some (.int .i64 ehi) := kp hb2 (by go_cell)
  replace c_e3 : w2.cell? ⟨w.heap.size + 1, 3, none⟩ = some (.int .i64 cdr) := kp hb2 (by go_cell)
  replace c_d0 : w2.cell? ⟨w.heap.size + 1 + 1, 0, none⟩ = some (.int .i64 dl) := kp hb2 (by go_cell)
  replace c_d1 : w2.cell? ⟨w.heap.size + 1 + 1, 1, none⟩ = some (.int .i64 dh) := kp hb2 (by go_cell)
  replace c_t0 : w2.cell? ⟨w.heap.size + 1 + 1 + 1, 0, none⟩ = some (.int .i64 tlo) := kp hb2 (by go_cell)
  replace c_t1 : w2.cell? ⟨w.heap.size + 1 + 1 + 1, 1, none⟩ = some (.int .i64 thi) := kp hb2 (by go_cell)
  clear hb2 hB1
  go_wp2_with fail
  refine (HA.out _).mono ?_
  rintro e w3 ⟨rfl, hb3⟩
  have hB3 : Below w.heap.size w w3 := below_after (by go_grown) hb3
  have hz3 := hb3.size
  try simp only [World.size_alloc, World.size_setCell, World.size_drew] at hz3
  have hw3 := hB3.size
  replace c_c0 : w3.cell? ⟨w.heap.size, 0, none⟩ = some (.int .i64 ct) := kp hb3 (by go_cell)
  replace c_c1 : w3.cell? ⟨w.heap.size, 1, none⟩ = some (.int .i64 clo) := kp hb3 (by go_cell)
  replace c_c2 : w3.cell? ⟨w.heap.size, 2, none⟩ = some (.int .i64 chi) := kp hb3 (by go_cell)
  replace c_c3 : w3.cell? ⟨w.heap.size, 3, none⟩ = some (.int .i64 cdr) := kp hb3 (by go_cell)
  replace f_e0 : w3.frozen? ⟨w.heap.size + 1, 0, none⟩ = false := kf hb3 (by go_simp) (by go_simp)
  replace f_e1 : w3.frozen? ⟨w.heap.size + 1, 1, none⟩ = false := kf hb3 (by go_simp) (by go_simp)
  replace f_e2 : w3.frozen? ⟨w.heap.size + 1, 2, none⟩ = false := kf hb3 (by go_simp) (by go_simp)
  replace f_e3 : w3.frozen? ⟨w.heap.size + 1, 3, none⟩ = false := kf hb3 (by go_simp) (by go_simp)
  replace c_e0 : w3.cell? ⟨w.heap.size + 1, 0, none⟩ = some (.int .i64 et) := kp hb3 (by go_cell)
  replace c_e1 : w3.cell? ⟨w.heap.size + 1, 1, none⟩ = some (.int .i64 elo) := kp hb3 (by go_cell)
  replace c_e2 : w3.cell? ⟨w.heap.size + 1, 2, none⟩ = some (.int .i64 ehi) := kp hb3 (by go_cell)
  replace c_e3 : w3.cell? ⟨w.heap.size + 1, 3, none⟩ = some (.int .i64 cdr) := kp hb3 (by go_cell)
  replace c_d0 : w3.cell? ⟨w.heap.size + 1 + 1, 0, none⟩ = some (.int .i64 dl) := kp hb3 (by go_cell)
  replace c_d1 : w3.cell? ⟨w.heap.size + 1 + 1, 1, none⟩ = some (.int .i64 dh) := kp hb3 (by go_cell)
  replace c_t0 : w3.cell? ⟨w.heap.size + 1 + 1 + 1, 0, none⟩ = some (.int .i64 tlo) := kp hb3 (by go_cell)
  replace c_t1 : w3.cell? ⟨w.heap.size + 1 + 1 + 1, 1, none⟩ = some (.int .i64 thi) := kp hb3 (by go_cell)
  clear hb3 hB2
  go_wp2_with fail
  refine (HB.out _).mono ?_
  rintro e w4 ⟨rfl, hb4⟩
  have hB4 : Below w.heap.size w w4 := below_after (by go_grown) hb4
  have hz4 := hb4.size
  try simp only [World.size_alloc, World.size_setCell, World.size_drew] at hz4
  have hw4 := hB4.size
  replace c_c0 : w4.cell? ⟨w.heap.size, 0, none⟩ = some (.int .i64 ct) := kp hb4 (by go_cell)
  replace c_c1 : w4.cell? ⟨w.heap.size, 1, none⟩ = some (.int .i64 clo) := kp hb4 (by go_cell)
  replace c_c2 : w4.cell? ⟨w.heap.size, 2, none⟩ = some (.int .i64 chi) := kp hb4 (by go_cell)
  replace c_c3 : w4.cell? ⟨w.heap.size, 3, none⟩ = some (.int .i64 cdr) := kp hb4 (by go_cell)
  replace f_e0 : w4.frozen? ⟨w.heap.size + 1, 0, none⟩ = false := kf hb4 (by go_simp) (by go_simp)
  replace f_e1 : w4.frozen? ⟨w.heap.size + 1, 1, none⟩ = false := kf hb4 (by go_simp) (by go_simp)
  replace f_e2 : w4.frozen? ⟨w.heap.size + 1, 2, none⟩ = false := kf hb4 (by go_simp) (by go_simp)
  replace f_e3 : w4.frozen? ⟨w.heap.size + 1, 3, none⟩ = false := kf hb4 (by go_simp) (by go_simp)
  replace c_e0 : w4.cell? ⟨w.heap.size + 1, 0, none⟩ = some (.int .i64 et) := kp hb4 (by go_cell)
  replace c_e1 : w4.cell? ⟨w.heap.size + 1, 1, none⟩ = some (.int .i64 elo) := kp hb4 (by go_cell)
  replace c_e2 : w4.cell? ⟨w.heap.size + 1, 2, none⟩ = some (.int .i64 ehi) := kp hb4 (by go_cell)
  replace c_e3 : w4.cell? ⟨w.heap.size + 1, 3, none⟩ = some (.int .i64 cdr) := kp hb4 (by go_cell)
  replace c_d0 : w4.cell? ⟨w.heap.size + 1 + 1, 0, none⟩ = some (.int .i64 dl) := kp hb4 (by go_cell)
  replace c_d1 : w4.cell? ⟨w.heap.size + 1 + 1, 1, none⟩ = some (.int .i64 dh) := kp hb4 (by go_cell)
  replace c_t0 : w4.cell? ⟨w.heap.size + 1 + 1 + 1, 0, none⟩ = some (.int .i64 tlo) := kp hb4 (by go_cell)
  replace c_t1 : w4.cell? ⟨w.heap.size + 1 + 1 + 1, 1, none⟩ = some (.int .i64 thi) := kp hb4 (by go_cell)
  clear hb4 hB3
  go_wp2_with fail
  refine (HC.out _).mono ?_
  rintro e w5 ⟨rfl, hb5⟩
  have hB5 : Below w.heap.size w w5 := below_after (by go_grown) hb5
  have hz5 := hb5.size
  try simp only [World.size_alloc, World.size_setCell, World.size_drew] at hz5
  have hw5 := hB5.size
  replace c_c0 : w5.cell? ⟨w.heap.size, 0, none⟩ = some (.int .i64 ct) := kp hb5 (by go_cell)
  replace c_c1 : w5.cell? ⟨w.heap.size, 1, none⟩ = some (.int .i64 clo) := kp hb5 (by go_cell)
  replace c_c2 : w5.cell? ⟨w.heap.size, 2, none⟩ = some (.int .i64 chi) := kp hb5 (by go_cell)
  replace c_c3 : w5.cell? ⟨w.heap.size, 3, none⟩ = some (.int .i64 cdr) := kp hb5 (by go_cell)
  replace f_e0 : w5.frozen? ⟨w.heap.size + 1, 0, none⟩ = false := kf hb5 (by go_simp) (by go_simp)
  replace f_e1 : w5.frozen? ⟨w.heap.size + 1, 1, none⟩ = false := kf hb5 (by go_simp) (by go_simp)
  replace f_e2 : w5.frozen? ⟨w.heap.size + 1, 2, none⟩ = false := kf hb5 (by go_simp) (by go_simp)
  replace f_e3 : w5.frozen? ⟨w.heap.size + 1, 3, none⟩ = false := kf hb5 (by go_simp) (by go_simp)
  replace c_e0 : w5.cell? ⟨w.heap.size + 1, 0, none⟩ = some (.int .i64 et) := kp hb5 (by go_cell)
  replace c_e1 : w5.cell? ⟨w.heap.size + 1, 1, none⟩ = some (.int .i64 elo) := kp hb5 (by go_cell)
  replace c_e2 : w5.cell? ⟨w.heap.size + 1, 2, none⟩ = some (.int .i64 ehi) := kp hb5 (by go_cell)
  replace c_e3 : w5.cell? ⟨w.heap.size + 1, 3, none⟩ = some (.int .i64 cdr) := kp hb5 (by go_cell)
  replace c_d0 : w5.cell? ⟨w.heap.size + 1 + 1, 0, none⟩ = some (.int .i64 dl) := kp hb5 (by go_cell)
  replace c_d1 : w5.cell? ⟨w.heap.size + 1 + 1, 1, none⟩ = some (.int .i64 dh) := kp hb5 (by go_cell)
  replace c_t0 : w5.cell? ⟨w.heap.size + 1 + 1 + 1, 0, none⟩ = some (.int .i64 tlo) := kp hb5 (by go_cell)
  replace c_t1 : w5.cell? ⟨w.heap.size + 1 + 1 + 1, 1, none⟩ = some (.int .i64 thi) := kp hb5 (by go_cell)
  clear hb5 hB4
  go_wp2_with fail
  refine (HD.out _).mono ?_
  rintro e w6 ⟨rfl, hb6⟩
  have hB6 : Below w.heap.size w w6 := below_after (by go_grown) hb6
  have hz6 := hb6.size
  try simp only [World.size_alloc, World.size_setCell, World.size_drew] at hz6
  have hw6 := hB6.size
  replace c_c0 : w6.cell? ⟨w.heap.size, 0, none⟩ = some (.int .i64 ct) := kp hb6 (by go_cell)
  replace c_c1 : w6.cell? ⟨w.heap.size, 1, none⟩ = some (.int .i64 clo) := kp hb6 (by go_cell)
  replace c_c2 : w6.cell? ⟨w.heap.size, 2, none⟩ = some (.int .i64 chi) := kp hb6 (by go_cell)
  replace c_c3 : w6.cell? ⟨w.heap.size, 3, none⟩ = some (.int .i64 cdr) := kp hb6 (by go_cell)
  replace f_e0 : w6.frozen? ⟨w.heap.size + 1, 0, none⟩ = false := kf hb6 (by go_simp) (by go_simp)
  replace f_e1 : w6.frozen? ⟨w.heap.size + 1, 1, none⟩ = false := kf hb6 (by go_simp) (by go_simp)
  replace f_e2 : w6.frozen? ⟨w.heap.size + 1, 2, none⟩ = false := kf hb6 (by go_simp) (by go_simp)
  replace f_e3 : w6.frozen? ⟨w.heap.size + 1, 3, none⟩ = false := kf hb6 (by go_simp) (by go_simp)
  replace c_e0 : w6.cell? ⟨w.heap.size + 1, 0, none⟩ = some (.int .i64 et) := kp hb6 (by go_cell)
  replace c_e1 : w6.cell? ⟨w.heap.size + 1, 1, none⟩ = some (.int .i64 elo) := kp hb6 (by go_cell)
  replace c_e2 : w6.cell? ⟨w.heap.size + 1, 2, none⟩ = some (.int .i64 ehi) := kp hb6 (by go_cell)
  replace c_e3 : w6.cell? ⟨w.heap.size + 1, 3, none⟩ = some (.int .i64 cdr) := kp hb6 (by go_cell)
  replace c_d0 : w6.cell? ⟨w.heap.size + 1 + 1, 0, none⟩ = some (.int .i64 dl) := kp hb6 (by go_cell)
  replace c_d1 : w6.cell? ⟨w.heap.size + 1 + 1, 1, none⟩ = some (.int .i64 dh) := kp hb6 (by go_cell)
  replace c_t0 : w6.cell? ⟨w.heap.size + 1 + 1 + 1, 0, none⟩ = some (.int .i64 tlo) := kp hb6 (by go_cell)
  replace c_t1 : w6.cell? ⟨w.heap.size + 1 + 1 + 1, 1, none⟩ = some (.int .i64 thi) := kp hb6 (by go_cell)
  clear hb6 hB5
  go_wp2_with fail
  refine (HE.out _).mono ?_
  rintro e w7 ⟨rfl, hb7⟩
  have hB7 : Below w.heap.size w w7 := below_after (by go_grown) hb7
  have hz7 := hb7.size
  try simp only [World.size_alloc, World.size_setCell, World.size_drew] at hz7
  have hw7 := hB7.size
  replace c_c0 : w7.cell? ⟨w.heap.size, 0, none⟩ = some (.int .i64 ct) := kp hb7 (by go_cell)
  replace c_c1 : w7.cell? ⟨w.heap.size, 1, none⟩ = some (.int .i64 clo) := kp hb7 (by go_cell)
  replace c_c2 : w7.cell? ⟨w.heap.size, 2, none⟩ = some (.int .i64 chi) := kp hb7 (by go_cell)
  replace c_c3 : w7.cell? ⟨w.heap.size, 3, none⟩ = some (.int .i64 cdr) := kp hb7 (by go_cell)
  replace f_e0 : w7.frozen? ⟨w.heap.size + 1, 0, none⟩ = false := kf hb7 (by go_simp) (by go_simp)
  replace f_e1 : w7.frozen? ⟨w.heap.size + 1, 1, none⟩ = false := kf hb7 (by go_simp) (by go_simp)
  replace f_e2 : w7.frozen? ⟨w.heap.size + 1, 2, none⟩ = false := kf hb7 (by go_simp) (by go_simp)
  replace f_e3 : w7.frozen? ⟨w.heap.size + 1, 3, none⟩ = false := kf hb7 (by go_simp) (by go_simp)
  replace c_e0 : w7.cell? ⟨w.heap.size + 1, 0, none⟩ = some (.int .i64 et) := kp hb7 (by go_cell)
  replace c_e1 : w7.cell? ⟨w.heap.size + 1, 1, none⟩ = some (.int .i64 elo) := kp hb7 (by go_cell)
  replace c_e2 : w7.cell? ⟨w.heap.size + 1, 2, none⟩ = some (.int .i64 ehi) := kp hb7 (by go_cell)
  replace c_e3 : w7.cell? ⟨w.heap.size + 1, 3, none⟩ = some (.int .i64 cdr) := kp hb7 (by go_cell)
  replace c_d0 : w7.cell? ⟨w.heap.size + 1 + 1, 0, none⟩ = some (.int .i64 dl) := kp hb7 (by go_cell)
  replace c_d1 : w7.cell? ⟨w.heap.size + 1 + 1, 1, none⟩ = some (.int .i64 dh) := kp hb7 (by go_cell)
  replace c_t0 : w7.cell? ⟨w.heap.size + 1 + 1 + 1, 0, none⟩ = some (.int .i64 tlo) := kp hb7 (by go_cell)
  replace c_t1 : w7.cell? ⟨w.heap.size + 1 + 1 + 1, 1, none⟩ = some (.int .i64 thi) := kp hb7 (by go_cell)
  clear hb7 hB6
  go_wp2_with fail
  refine (HG.out _ (HXS.out _ (by go_grown))).mono ?_
  rintro e w8 ⟨rfl, hb8⟩
  have hB8 : Below w.heap.size w w8 := below_after (by go_grown) hb8
  have hz8 := hb8.size
  try simp only [World.size_alloc, World.size_setCell, World.size_drew] at hz8
  have hw8 := hB8.size
  replace c_c0 : w8.cell? ⟨w.heap.size, 0, none⟩ = some (.int .i64 ct) := kp hb8 (by go_cell)
  replace c_c1 : w8.cell? ⟨w.heap.size, 1, none⟩ = some (.int .i64 clo) := kp hb8 (by go_cell)
  replace c_c2 : w8.cell? ⟨w.heap.size, 2, none⟩ = some (.int .i64 chi) := kp hb8 (by go_cell)
  replace c_c3 : w8.cell? ⟨w.heap.size, 3, none⟩ = some (.int .i64 cdr) := kp hb8 (by go_cell)
  replace f_e0 : w8.frozen? ⟨w.heap.size + 1, 0, none⟩ = false := kf hb8 (by go_simp) (by go_simp)
  replace f_e1 : w8.frozen? ⟨w.heap.size + 1, 1, none⟩ = false := kf hb8 (by go_simp) (by go_simp)
  replace f_e2 : w8.frozen? ⟨w.heap.size + 1, 2, none⟩ = false := kf hb8 (by go_simp) (by go_simp)
  replace f_e3 : w8.frozen? ⟨w.heap.size + 1, 3, none⟩ = false := kf hb8 (by go_simp) (by go_simp)
  replace c_e0 : w8.cell? ⟨w.heap.size + 1, 0, none⟩ = some (.int .i64 et) := kp hb8 (by go_cell)
  replace c_e1 : w8.cell? ⟨w.heap.size + 1, 1, none⟩ = some (.int .i64 elo) := kp hb8 (by go_cell)
  replace c_e2 : w8.cell? ⟨w.heap.size + 1, 2, none⟩ = some (.int .i64 ehi) := kp hb8 (by go_cell)
  replace c_e3 : w8.cell? ⟨w.heap.size + 1, 3, none⟩ = some (.int .i64 cdr) := kp hb8 (by go_cell)
  replace c_d0 : w8.cell? ⟨w.heap.size + 1 + 1, 0, none⟩ = some (.int .i64 dl) := kp hb8 (by go_cell)
  replace c_d1 : w8.cell? ⟨w.heap.size + 1 + 1, 1, none⟩ = some (.int .i64 dh) := kp hb8 (by go_cell)
  replace c_t0 : w8.cell? ⟨w.heap.size + 1 + 1 + 1, 0, none⟩ = some (.int .i64 tlo) := kp hb8 (by go_cell)
  replace c_t1 : w8.cell? ⟨w.heap.size + 1 + 1 + 1, 1, none⟩ = some (.int .i64 thi) := kp hb8 (by go_cell)
  clear hb8 hB7
  go_wp2_with fail
  refine (HI.out _ (HXS.out _ (by go_grown))).mono ?_
  rintro e w9 ⟨rfl, hb9⟩
  have hB9 : Below w.heap.size w w9 := below_after (by go_grown) hb9
  have hz9 := hb9.size
  try simp only [World.size_alloc, World.size_setCell, World.size_drew] at hz9
  have hw9 := hB9.size
  replace c_c0 : w9.cell? ⟨w.heap.size, 0, none⟩ = some (.int .i64 ct) := kp hb9 (by go_cell)
  replace c_c1 : w9.cell? ⟨w.heap.size, 1, none⟩ = some (.int .i64 clo) := kp hb9 (by go_cell)
  replace c_c2 : w9.cell? ⟨w.heap.size, 2, none⟩ = some (.int .i64 chi) := kp hb9 (by go_cell)
  replace c_c3 : w9.cell? ⟨w.heap.size, 3, none⟩ = some (.int .i64 cdr) := kp hb9 (by go_cell)
  replace f_e0 : w9.frozen? ⟨w.heap.size + 1, 0, none⟩ = false := kf hb9 (by go_simp) (by go_simp)
  replace f_e1 : w9.frozen? ⟨w.heap.size + 1, 1, none⟩ = false := kf hb9 (by go_simp) (by go_simp)
  replace f_e2 : w9.frozen? ⟨w.heap.size + 1, 2, none⟩ = false := kf hb9 (by go_simp) (by go_simp)
  replace f_e3 : w9.frozen? ⟨w.heap.size + 1, 3, none⟩ = false := kf hb9 (by go_simp) (by go_simp)
  replace c_e0 : w9.cell? ⟨w.heap.size + 1, 0, none⟩ = some (.int .i64 et) := kp hb9 (by go_cell)
  replace c_e1 : w9.cell? ⟨w.heap.size + 1, 1, none⟩ = some (.int .i64 elo) := kp hb9 (by go_cell)
  replace c_e2 : w9.cell? ⟨w.heap.size + 1, 2, none⟩ = some (.int .i64 ehi) := kp hb9 (by go_cell)
  replace c_e3 : w9.cell? ⟨w.heap.size + 1, 3, none⟩ = some (.int .i64 cdr) := kp hb9 (by go_cell)
  replace c_d0 : w9.cell? ⟨w.heap.size + 1 + 1, 0, none⟩ = some (.int .i64 dl) := kp hb9 (by go_cell)
  replace c_d1 : w9.cell? ⟨w.heap.size + 1 + 1, 1, none⟩ = some (.int .i64 dh) := kp hb9 (by go_cell)
  replace c_t0 : w9.cell? ⟨w.heap.size + 1 + 1 + 1, 0, none⟩ = some (.int .i64 tlo) := kp hb9 (by go_cell)
  replace c_t1 : w9.cell? ⟨w.heap.size + 1 + 1 + 1, 1, none⟩ = some (.int .i64 thi) := kp hb9 (by go_cell)
  have c_s0 : w9.cell? ⟨w8.heap.size, 0, none⟩ = some (.int .i64 R1) := kp hb9 (by go_cell)
  have c_s1 : w9.cell? ⟨w8.heap.size, 1, none⟩ = some (.int .i64 R2) := kp hb9 (by go_cell)
  clear hb9 hB8
  go_wp2_with fail
  go_ret
  exact ⟨rfl, by go_grown⟩
theorem offs_walk (A : Option Addr) (n c : Nat) (xs : List Wt) (ct clo chi cdr et elo ehi edr dl dh tlo thi sent got later : Int) (w : World) (hn : xs.length = n) (hx : Wts? w.heap.size w A xs) : Calls Try.prog 23 #[.slice A n c, .agg #[.int .i64 ct, .int .i64 clo, .int .i64 chi, .int .i64 cdr], .agg #[.int .i64 et, .int .i64 elo, .int .i64 ehi, .int .i64 edr], .agg #[.int .i64 dl, .int .i64 dh], .agg #[.int .i64 tlo, .int .i64 thi], .int .i64 sent, .int .i64 got, .int .i64 later] w fun e w' => e = .returned (.bool true) ∧ Below w.heap.size w w' := by
  by_cases h0 : n ≤ 25
  · cases h1 : clkB ct clo chi cdr with
    | false => exact offs_1 A n c xs ct clo chi cdr et elo ehi edr dl dh tlo thi sent got later w h0 h1
    | true =>
      cases h2 : clkB et elo ehi cdr with
      | false => exact offs_2 A n c xs ct clo chi cdr et elo ehi edr dl dh tlo thi sent got later w h0 h1 h2
      | true =>
        cases h3 : readB sent with
        | false => exact offs_3 A n c xs ct clo chi cdr et elo ehi edr dl dh tlo thi sent got later w h0 h1 h2 h3
        | true =>
          cases h4 : readB got with
          | false => exact offs_4 A n c xs ct clo chi cdr et elo ehi edr dl dh tlo thi sent got later w h0 h1 h2 h3 h4
          | true =>
            cases h5 : readB later with
            | false => exact offs_5 A n c xs ct clo chi cdr et elo ehi edr dl dh tlo thi sent got later w h0 h1 h2 h3 h4 h5
            | true =>
              by_cases h6 : got < sent
              · exact offs_6 A n c xs ct clo chi cdr et elo ehi edr dl dh tlo thi sent got later w h0 h1 h2 h3 h4 h5 h6
              · by_cases h7 : 1000000000 < later + got - sent
                · exact offs_7 A n c xs ct clo chi cdr et elo ehi edr dl dh tlo thi sent got later w h0 h1 h2 h3 h4 h5 h6 h7
                · exact offs_go A n c xs ct clo chi cdr et elo ehi edr dl dh tlo thi sent got later w hn hx h0 h1 h2 h3 h4 h5 h6 h7
  · exact offs_0 A n c xs ct clo chi cdr et elo ehi edr dl dh tlo thi sent got later w (by omega)
end Go.Proofs.Ytollpjdnahemeaa
