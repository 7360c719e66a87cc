import Derived.Test.YtollpjdnahemeaaQ11
import Derived.Deep.RegionHeld3
import Derived.Deep.DeepCutAuto
namespace Go.Proofs.Ytollpjdnahemeaa
open Go.RowKit Go.Shelf
set_option linter.unusedSimpArgs false
set_option linter.unusedVariables false
attribute [local go_sem ↓] Go.wp_at_zero Go.wp_at_succ
theorem twoS_no {xs : List Wt} {ct clo chi cdr dl dh sent got tlo thi : Int} (h : twoB xs ct clo chi cdr dl dh sent got tlo thi = false) : twoS xs ct clo chi cdr dl dh sent got tlo thi = (0, 0, 1) := by rw [twoS, h]; rfl
theorem twoS_ok {xs : List Wt} {ct clo chi cdr dl dh sent got tlo thi : Int} (h : twoB xs ct clo chi cdr dl dh sent got tlo thi = true) : twoS xs ct clo chi cdr dl dh sent got tlo thi = twoR (speedP dl dh xs) cdr (got - sent) tlo thi := by rw [twoS, h]; rfl
set_option maxHeartbeats 1600000 in
set_option maxRecDepth 100000 in
theorem Two_0 (A : Option Addr) (n c : Nat) (xs : List Wt) (ct clo chi cdr dl dh sent got tlo thi : Int) (w : World) (hn : xs.length = n) (hbig : n ≤ 1000000) (hx : Wts? w.heap.size w A xs) (hs : (wValid xs && depB dl dh) = false) :
    Calls Try.prog 65 #[.slice A n c, .agg #[.int .i64 ct, .int .i64 clo, .int .i64 chi, .int .i64 cdr], .agg #[.int .i64 dl, .int .i64 dh], .int .i64 sent, .int .i64 got, .agg #[.int .i64 tlo, .int .i64 thi]] w fun e w' => e = .returned (.tuple #[.agg #[.int .i64 0, .int .i64 0], .int .i64 1]) ∧ Below w.heap.size w w' := by
  have HXS := Lib.hid (hxs_of hx)
  have hS := fun W h => Speed_any A n c xs dl dh W hn hbig h
  rw [speedS_no hs] at hS
  have HS := Lib.hid hS
  clear hx hn hS
  go_enter Try.func65, Try.ntmps65
  go_wp2_with fail
  refine (HS.out _ (HXS.out _ (by go_grown))).mono ?_
  rintro e w1 ⟨rfl, hb1⟩
  have hB1 : Below w.heap.size w w1 := below_after (by go_grown) hb1
  have hz1 := hb1.size
  try simp only [World.size_alloc, World.size_setCell, World.size_drew] at hz1
  have hw1 := hB1.size
  have c_c0 : w1.cell? ⟨w.heap.size, 0, none⟩ = some (.int .i64 ct) := kp hb1 (by go_cell)
  have c_c1 : w1.cell? ⟨w.heap.size, 1, none⟩ = some (.int .i64 clo) := kp hb1 (by go_cell)
  have c_c2 : w1.cell? ⟨w.heap.size, 2, none⟩ = some (.int .i64 chi) := kp hb1 (by go_cell)
  have c_c3 : w1.cell? ⟨w.heap.size, 3, none⟩ = some (.int .i64 cdr) := kp hb1 (by go_cell)
  have c_d0 : w1.cell? ⟨w.heap.size + 1, 0, none⟩ = some (.int .i64 dl) := kp hb1 (by go_cell)
  have c_d1 : w1.cell? ⟨w.heap.size + 1, 1, none⟩ = some (.int .i64 dh) := kp hb1 (by go_cell)
  have c_t0 : w1.cell? ⟨w.heap.size + 1 + 1, 0, none⟩ = some (.int .i64 tlo) := kp hb1 (by go_cell)
  have c_t1 : w1.cell? ⟨w.heap.size + 1 + 1, 1, none⟩ = some (.int .i64 thi) := kp hb1 (by go_cell)
  have f_r0 : w1.frozen? ⟨w.heap.size + 1 + 1 + 1, 0, none⟩ = false := kf hb1 (by go_simp) (by go_simp)
  have f_r1 : w1.frozen? ⟨w.heap.size + 1 + 1 + 1, 1, none⟩ = false := kf hb1 (by go_simp) (by go_simp)
  have c_r0 : w1.cell? ⟨w.heap.size + 1 + 1 + 1, 0, none⟩ = some (.int .i64 0) := kp hb1 (by go_cell)
  have c_r1 : w1.cell? ⟨w.heap.size + 1 + 1 + 1, 1, none⟩ = some (.int .i64 0) := kp hb1 (by go_cell)
  clear hb1
  go_wp2_with fail
  first | (refine ret_span rfl rfl rfl (set2s _ _ (by go_simp) (by go_simp)) ⟨rfl, by go_grown⟩) | (refine ret_span rfl rfl rfl ⟨by go_cell, by go_cell⟩ ⟨rfl, by go_grown⟩)
set_option maxHeartbeats 1600000 in
set_option maxRecDepth 100000 in
theorem Two_1 (A : Option Addr) (n c : Nat) (xs : List Wt) (ct clo chi cdr dl dh sent got tlo thi : Int) (w : World) (hn : xs.length = n) (hbig : n ≤ 1000000) (hx : Wts? w.heap.size w A xs) (hs : (wValid xs && depB dl dh) = true) (hc : clkB ct clo chi cdr = false) :
    Calls Try.prog 65 #[.slice A n c, .agg #[.int .i64 ct, .int .i64 clo, .int .i64 chi, .int .i64 cdr], .agg #[.int .i64 dl, .int .i64 dh], .int .i64 sent, .int .i64 got, .agg #[.int .i64 tlo, .int .i64 thi]] w fun e w' => e = .returned (.tuple #[.agg #[.int .i64 0, .int .i64 0], .int .i64 1]) ∧ Below w.heap.size w w' := by
  have HXS := Lib.hid (hxs_of hx)
  have hS := fun W h => Speed_any A n c xs dl dh W hn hbig h
  rw [speedS_ok hs] at hS
  have hC := fun W => CValid_any ct clo chi cdr W
  rw [hc] at hC
  generalize (speedP dl dh xs).1 = s1 at *
  generalize (speedP dl dh xs).2 = s2 at *
  have HS := Lib.hid hS
  have HC := Lib.hid hC
  clear hx hn hS hC
  go_enter Try.func65, Try.ntmps65
  go_wp2_with fail
  refine (HS.out _ (HXS.out _ (by go_grown))).mono ?_
  rintro e w1 ⟨rfl, hb1⟩
  have hB1 : Below w.heap.size w w1 := below_after (by go_grown) hb1
  have hz1 := hb1.size
  try simp only [World.size_alloc, World.size_setCell, World.size_drew] at hz1
  have hw1 := hB1.size
  have c_c0 : w1.cell? ⟨w.heap.size, 0, none⟩ = some (.int .i64 ct) := kp hb1 (by go_cell)
  have c_c1 : w1.cell? ⟨w.heap.size, 1, none⟩ = some (.int .i64 clo) := kp hb1 (by go_cell)
  have c_c2 : w1.cell? ⟨w.heap.size, 2, none⟩ = some (.int .i64 chi) := kp hb1 (by go_cell)
  have c_c3 : w1.cell? ⟨w.heap.size, 3, none⟩ = some (.int .i64 cdr) := kp hb1 (by go_cell)
  have c_d0 : w1.cell? ⟨w.heap.size + 1, 0, none⟩ = some (.int .i64 dl) := kp hb1 (by go_cell)
  have c_d1 : w1.cell? ⟨w.heap.size + 1, 1, none⟩ = some (.int .i64 dh) := kp hb1 (by go_cell)
  have c_t0 : w1.cell? ⟨w.heap.size + 1 + 1, 0, none⟩ = some (.int .i64 tlo) := kp hb1 (by go_cell)
  have c_t1 : w1.cell? ⟨w.heap.size + 1 + 1, 1, none⟩ = some (.int .i64 thi) := kp hb1 (by go_cell)
  have f_r0 : w1.frozen? ⟨w.heap.size + 1 + 1 + 1, 0, none⟩ = false := kf hb1 (by go_simp) (by go_simp)
  have f_r1 : w1.frozen? ⟨w.heap.size + 1 + 1 + 1, 1, none⟩ = false := kf hb1 (by go_simp) (by go_simp)
  have c_r0 : w1.cell? ⟨w.heap.size + 1 + 1 + 1, 0, none⟩ = some (.int .i64 0) := kp hb1 (by go_cell)
  have c_r1 : w1.cell? ⟨w.heap.size + 1 + 1 + 1, 1, none⟩ = some (.int .i64 0) := kp hb1 (by go_cell)
  clear hb1
  go_wp2_with fail
  refine (HC.out _).mono ?_
  rintro e w2 ⟨rfl, hb2⟩
  have hB2 : Below w.heap.size w w2 := below_after (by go_grown) hb2
  have hz2 := hb2.size
  try simp only [World.size_alloc, World.size_setCell, World.size_drew] at hz2
  have hw2 := hB2.size
  replace c_c0 : w2.cell? ⟨w.heap.size, 0, none⟩ = some (.int .i64 ct) := kp hb2 (by go_cell)
  replace c_c1 : w2.cell? ⟨w.heap.size, 1, none⟩ = some (.int .i64 clo) := kp hb2 (by go_cell)
  replace c_c2 : w2.cell? ⟨w.heap.size, 2, none⟩ = some (.int .i64 chi) := kp hb2 (by go_cell)
  replace c_c3 : w2.cell? ⟨w.heap.size, 3, none⟩ = some (.int .i64 cdr) := kp hb2 (by go_cell)
  replace c_d0 : w2.cell? ⟨w.heap.size + 1, 0, none⟩ = some (.int .i64 dl) := kp hb2 (by go_cell)
  replace c_d1 : w2.cell? ⟨w.heap.size + 1, 1, none⟩ = some (.int .i64 dh) := kp hb2 (by go_cell)
  replace c_t0 : w2.cell? ⟨w.heap.size + 1 + 1, 0, none⟩ = some (.int .i64 tlo) := kp hb2 (by go_cell)
  replace c_t1 : w2.cell? ⟨w.heap.size + 1 + 1, 1, none⟩ = some (.int .i64 thi) := kp hb2 (by go_cell)
  replace f_r0 : w2.frozen? ⟨w.heap.size + 1 + 1 + 1, 0, none⟩ = false := kf hb2 (by go_simp) (by go_simp)
  replace f_r1 : w2.frozen? ⟨w.heap.size + 1 + 1 + 1, 1, none⟩ = false := kf hb2 (by go_simp) (by go_simp)
  replace c_r0 : w2.cell? ⟨w.heap.size + 1 + 1 + 1, 0, none⟩ = some (.int .i64 0) := kp hb2 (by go_cell)
  replace c_r1 : w2.cell? ⟨w.heap.size + 1 + 1 + 1, 1, none⟩ = some (.int .i64 0) := kp hb2 (by go_cell)
  have c_s0 : w2.cell? ⟨w1.heap.size, 0, none⟩ = some (.int .i64 s1) := kp hb2 (by go_cell)
  have c_s1 : w2.cell? ⟨w1.heap.size, 1, none⟩ = some (.int .i64 s2) := kp hb2 (by go_cell)
  clear hb2 hB1
  go_wp2_with fail
  first | (refine ret_span rfl rfl rfl (set2s _ _ (by go_simp) (by go_simp)) ⟨rfl, by go_grown⟩) | (refine ret_span rfl rfl rfl ⟨by go_cell, by go_cell⟩ ⟨rfl, by go_grown⟩)
set_option maxHeartbeats 1600000 in
set_option maxRecDepth 100000 in
theorem Two_2 (A : Option Addr) (n c : Nat) (xs : List Wt) (ct clo chi cdr dl dh sent got tlo thi : Int) (w : World) (hn : xs.length = n) (hbig : n ≤ 1000000) (hx : Wts? w.heap.size w A xs) (hs : (wValid xs && depB dl dh) = true) (hc : clkB ct clo chi cdr = true) (h1 : readB sent = false) :
    Calls Try.prog 65 #[.slice A n c, .agg #[.int .i64 ct, .int .i64 clo, .int .i64 chi, .int .i64 cdr], .agg #[.int .i64 dl, .int .i64 dh], .int .i64 sent, .int .i64 got, .agg #[.int .i64 tlo, .int .i64 thi]] w fun e w' => e = .returned (.tuple #[.agg #[.int .i64 0, .int .i64 0], .int .i64 1]) ∧ Below w.heap.size w w' := by
  have HXS := Lib.hid (hxs_of hx)
  have hS := fun W h => Speed_any A n c xs dl dh W hn hbig h
  rw [speedS_ok hs] at hS
  have hC := fun W => CValid_any ct clo chi cdr W
  rw [hc] at hC
  have hI := fun W => bel (isReading17_any sent W)
  rw [h1] at hI
  generalize (speedP dl dh xs).1 = s1 at *
  generalize (speedP dl dh xs).2 = s2 at *
  have HS := Lib.hid hS
  have HC := Lib.hid hC
  have HI := Lib.hid hI
  clear hx hn hS hC hI
  go_enter Try.func65, Try.ntmps65
  go_wp2_with fail
  refine (HS.out _ (HXS.out _ (by go_grown))).mono ?_
  rintro e w1 ⟨rfl, hb1⟩
  have hB1 : Below w.heap.size w w1 := below_after (by go_grown) hb1
  have hz1 := hb1.size
  try simp only [World.size_alloc, World.size_setCell, World.size_drew] at hz1
  have hw1 := hB1.size
  have c_c0 : w1.cell? ⟨w.heap.size, 0, none⟩ = some (.int .i64 ct) := kp hb1 (by go_cell)
  have c_c1 : w1.cell? ⟨w.heap.size, 1, none⟩ = some (.int .i64 clo) := kp hb1 (by go_cell)
  have c_c2 : w1.cell? ⟨w.heap.size, 2, none⟩ = some (.int .i64 chi) := kp hb1 (by go_cell)
  have c_c3 : w1.cell? ⟨w.heap.size, 3, none⟩ = some (.int .i64 cdr) := kp hb1 (by go_cell)
  have c_d0 : w1.cell? ⟨w.heap.size + 1, 0, none⟩ = some (.int .i64 dl) := kp hb1 (by go_cell)
  have c_d1 : w1.cell? ⟨w.heap.size + 1, 1, none⟩ = some (.int .i64 dh) := kp hb1 (by go_cell)
  have c_t0 : w1.cell? ⟨w.heap.size + 1 + 1, 0, none⟩ = some (.int .i64 tlo) := kp hb1 (by go_cell)
  have c_t1 : w1.cell? ⟨w.heap.size + 1 + 1, 1, none⟩ = some (.int .i64 thi) := kp hb1 (by go_cell)
  have f_r0 : w1.frozen? ⟨w.heap.size + 1 + 1 + 1, 0, none⟩ = false := kf hb1 (by go_simp) (by go_simp)
  have f_r1 : w1.frozen? ⟨w.heap.size + 1 + 1 + 1, 1, none⟩ = false := kf hb1 (by go_simp) (by go_simp)
  have c_r0 : w1.cell? ⟨w.heap.size + 1 + 1 + 1, 0, none⟩ = some (.int .i64 0) := kp hb1 (by go_cell)
  have c_r1 : w1.cell? ⟨w.heap.size + 1 + 1 + 1, 1, none⟩ = some (.int .i64 0) := kp hb1 (by go_cell)
  clear hb1
  go_wp2_with fail
  refine (HC.out _).mono ?_
  rintro e w2 ⟨rfl, hb2⟩
  have hB2 : Below w.heap.size w w2 := below_after (by go_grown) hb2
  have hz2 := hb2.size
  try simp only [World.size_alloc, World.size_setCell, World.size_drew] at hz2
  have hw2 := hB2.size
  replace c_c0 : w2.cell? ⟨w.heap.size, 0, none⟩ = some (.int .i64 ct) := kp hb2 (by go_cell)
  replace c_c1 : w2.cell? ⟨w.heap.size, 1, none⟩ = some (.int .i64 clo) := kp hb2 (by go_cell)
  replace c_c2 : w2.cell? ⟨w.heap.size, 2, none⟩ = some (.int .i64 chi) := kp hb2 (by go_cell)
  replace c_c3 : w2.cell? ⟨w.heap.size, 3, none⟩ = some (.int .i64 cdr) := kp hb2 (by go_cell)
  replace c_d0 : w2.cell? ⟨w.heap.size + 1, 0, none⟩ = some (.int .i64 dl) := kp hb2 (by go_cell)
  replace c_d1 : w2.cell? ⟨w.heap.size + 1, 1, none⟩ = some (.int .i64 dh) := kp hb2 (by go_cell)
  replace c_t0 : w2.cell? ⟨w.heap.size + 1 + 1, 0, none⟩ = some (.int .i64 tlo) := kp hb2 (by go_cell)
  replace c_t1 : w2.cell? ⟨w.heap.size + 1 + 1, 1, none⟩ = some (.int .i64 thi) := kp hb2 (by go_cell)
  replace f_r0 : w2.frozen? ⟨w.heap.size + 1 + 1 + 1, 0, none⟩ = false := kf hb2 (by go_simp) (by go_simp)
  replace f_r1 : w2.frozen? ⟨w.heap.size + 1 + 1 + 1, 1, none⟩ = false := kf hb2 (by go_simp) (by go_simp)
  replace c_r0 : w2.cell? ⟨w.heap.size + 1 + 1 + 1, 0, none⟩ = some (.int .i64 0) := kp hb2 (by go_cell)
  replace c_r1 : w2.cell? ⟨w.heap.size + 1 + 1 + 1, 1, none⟩ = some (.int .i64 0) := kp hb2 (by go_cell)
  have c_s0 : w2.cell? ⟨w1.heap.size, 0, none⟩ = some (.int .i64 s1) := kp hb2 (by go_cell)
  have c_s1 : w2.cell? ⟨w1.heap.size, 1, none⟩ = some (.int .i64 s2) := kp hb2 (by go_cell)
  clear hb2 hB1
  go_wp2_with fail
  refine (HI.out _).mono ?_
  rintro e w3 ⟨rfl, hb3⟩
  have hB3 : Below w.heap.size w w3 := below_after (by go_grown) hb3
  have hz3 := hb3.size
  try simp only [World.size_alloc, World.size_setCell, World.size_drew] at hz3
  have hw3 := hB3.size
  replace c_c0 : w3.cell? ⟨w.heap.size, 0, none⟩ = some (.int .i64 ct) := kp hb3 (by go_cell)
  replace c_c1 : w3.cell? ⟨w.heap.size, 1, none⟩ = some (.int .i64 clo) := kp hb3 (by go_cell)
  replace c_c2 : w3.cell? ⟨w.heap.size, 2, none⟩ = some (.int .i64 chi) := kp hb3 (by go_cell)
  replace c_c3 : w3.cell? ⟨w.heap.size, 3, none⟩ = some (.int .i64 cdr) := kp hb3 (by go_cell)
  replace c_d0 : w3.cell? ⟨w.heap.size + 1, 0, none⟩ = some (.int .i64 dl) := kp hb3 (by go_cell)
  replace c_d1 : w3.cell? ⟨w.heap.size + 1, 1, none⟩ = some (.int .i64 dh) := kp hb3 (by go_cell)
  replace c_t0 : w3.cell? ⟨w.heap.size + 1 + 1, 0, none⟩ = some (.int .i64 tlo) := kp hb3 (by go_cell)
  replace c_t1 : w3.cell? ⟨w.heap.size + 1 + 1, 1, none⟩ = some (.int .i64 thi) := kp hb3 (by go_cell)
  replace f_r0 : w3.frozen? ⟨w.heap.size + 1 + 1 + 1, 0, none⟩ = false := kf hb3 (by go_simp) (by go_simp)
  replace f_r1 : w3.frozen? ⟨w.heap.size + 1 + 1 + 1, 1, none⟩ = false := kf hb3 (by go_simp) (by go_simp)
  replace c_r0 : w3.cell? ⟨w.heap.size + 1 + 1 + 1, 0, none⟩ = some (.int .i64 0) := kp hb3 (by go_cell)
  replace c_r1 : w3.cell? ⟨w.heap.size + 1 + 1 + 1, 1, none⟩ = some (.int .i64 0) := kp hb3 (by go_cell)
  replace c_s0 : w3.cell? ⟨w1.heap.size, 0, none⟩ = some (.int .i64 s1) := kp hb3 (by go_cell)
  replace c_s1 : w3.cell? ⟨w1.heap.size, 1, none⟩ = some (.int .i64 s2) := kp hb3 (by go_cell)
  clear hb3 hB2
  go_wp2_with fail
  first | (refine ret_span rfl rfl rfl (set2s _ _ (by go_simp) (by go_simp)) ⟨rfl, by go_grown⟩) | (refine ret_span rfl rfl rfl ⟨by go_cell, by go_cell⟩ ⟨rfl, by go_grown⟩)
set_option maxHeartbeats 1600000 in
set_option maxRecDepth 100000 in
theorem Two_3 (A : Option Addr) (n c : Nat) (xs : List Wt) (ct clo chi cdr dl dh sent got tlo thi : Int) (w : World) (hn : xs.length = n) (hbig : n ≤ 1000000) (hx : Wts? w.heap.size w A xs) (hs : (wValid xs && depB dl dh) = true) (hc : clkB ct clo chi cdr = true) (h1 : readB sent = true) (h2 : readB got = false) :
    Calls Try.prog 65 #[.slice A n c, .agg #[.int .i64 ct, .int .i64 clo, .int .i64 chi, .int .i64 cdr], .agg #[.int .i64 dl, .int .i64 dh], .int .i64 sent, .int .i64 got, .agg #[.int .i64 tlo, .int .i64 thi]] w fun e w' => e = .returned (.tuple #[.agg #[.int .i64 0, .int .i64 0], .int .i64 1]) ∧ Below w.heap.size w w' := by
  have HXS := Lib.hid (hxs_of hx)
  have hS := fun W h => Speed_any A n c xs dl dh W hn hbig h
  rw [speedS_ok hs] at hS
  have hC := fun W => CValid_any ct clo chi cdr W
  rw [hc] at hC
  have hI := fun W => bel (isReading17_any sent W)
  rw [h1] at hI
  have hJ := fun W => bel (isReading17_any got W)
  rw [h2] at hJ
  generalize (speedP dl dh xs).1 = s1 at *
  generalize (speedP dl dh xs).2 = s2 at *
  have HS := Lib.hid hS
  have HC := Lib.hid hC
  have HI := Lib.hid hI
  have HJ := Lib.hid hJ
  clear hx hn hS hC hI hJ
  go_enter Try.func65, Try.ntmps65
  go_wp2_with fail
  refine (HS.out _ (HXS.out _ (by go_grown))).mono ?_
  rintro e w1 ⟨rfl, hb1⟩
  have hB1 : Below w.heap.size w w1 := below_after (by go_grown) hb1
  have hz1 := hb1.size
  try simp only [World.size_alloc, World.size_setCell, World.size_drew] at hz1
  have hw1 := hB1.size
  have c_c0 : w1.cell? ⟨w.heap.size, 0, none⟩ = some (.int .i64 ct) := kp hb1 (by go_cell)
  have c_c1 : w1.cell? ⟨w.heap.size, 1, none⟩ = some (.int .i64 clo) := kp hb1 (by go_cell)
  have c_c2 : w1.cell? ⟨w.heap.size, 2, none⟩ = some (.int .i64 chi) := kp hb1 (by go_cell)
  have c_c3 : w1.cell? ⟨w.heap.size, 3, none⟩ = some (.int .i64 cdr) := kp hb1 (by go_cell)
  have c_d0 : w1.cell? ⟨w.heap.size + 1, 0, none⟩ = some (.int .i64 dl) := kp hb1 (by go_cell)
  have c_d1 : w1.cell? ⟨w.heap.size + 1, 1, none⟩ = some (.int .i64 dh) := kp hb1 (by go_cell)
  have c_t0 : w1.cell? ⟨w.heap.size + 1 + 1, 0, none⟩ = some (.int .i64 tlo) := kp hb1 (by go_cell)
  have c_t1 : w1.cell? ⟨w.heap.size + 1 + 1, 1, none⟩ = some (.int .i64 thi) := kp hb1 (by go_cell)
  have f_r0 : w1.frozen? ⟨w.heap.size + 1 + 1 + 1, 0, none⟩ = false := kf hb1 (by go_simp) (by go_simp)
  have f_r1 : w1.frozen? ⟨w.heap.size + 1 + 1 + 1, 1, none⟩ = false := kf hb1 (by go_simp) (by go_simp)
  have c_r0 : w1.cell? ⟨w.heap.size + 1 + 1 + 1, 0, none⟩ = some (.int .i64 0) := kp hb1 (by go_cell)
  have c_r1 : w1.cell? ⟨w.heap.size + 1 + 1 + 1, 1, none⟩ = some (.int .i64 0) := kp hb1 (by go_cell)
  clear hb1
  go_wp2_with fail
  refine (HC.out _).mono ?_
  rintro e w2 ⟨rfl, hb2⟩
  have hB2 : Below w.heap.size w w2 := below_after (by go_grown) hb2
  have hz2 := hb2.size
  try simp only [World.size_alloc, World.size_setCell, World.size_drew] at hz2
  have hw2 := hB2.size
  replace c_c0 : w2.cell? ⟨w.heap.size, 0, none⟩ = some (.int .i64 ct) := kp hb2 (by go_cell)
  replace c_c1 : w2.cell? ⟨w.heap.size, 1, none⟩ = some (.int .i64 clo) := kp hb2 (by go_cell)
  replace c_c2 : w2.cell? ⟨w.heap.size, 2, none⟩ = some (.int .i64 chi) := kp hb2 (by go_cell)
  replace c_c3 : w2.cell? ⟨w.heap.size, 3, none⟩ = some (.int .i64 cdr) := kp hb2 (by go_cell)
  replace c_d0 : w2.cell? ⟨w.heap.size + 1, 0, none⟩ = some (.int .i64 dl) := kp hb2 (by go_cell)
  replace c_d1 : w2.cell? ⟨w.heap.size + 1, 1, none⟩ = some (.int .i64 dh) := kp hb2 (by go_cell)
  replace c_t0 : w2.cell? ⟨w.heap.size + 1 + 1, 0, none⟩ = some (.int .i64 tlo) := kp hb2 (by go_cell)
  replace c_t1 : w2.cell? ⟨w.heap.size + 1 + 1, 1, none⟩ = some (.int .i64 thi) := kp hb2 (by go_cell)
  replace f_r0 : w2.frozen? ⟨w.heap.size + 1 + 1 + 1, 0, none⟩ = false := kf hb2 (by go_simp) (by go_simp)
  replace f_r1 : w2.frozen? ⟨w.heap.size + 1 + 1 + 1, 1, none⟩ = false := kf hb2 (by go_simp) (by go_simp)
  replace c_r0 : w2.cell? ⟨w.heap.size + 1 + 1 + 1, 0, none⟩ = some (.int .i64 0) := kp hb2 (by go_cell)
  replace c_r1 : w2.cell? ⟨w.heap.size + 1 + 1 + 1, 1, none⟩ = some (.int .i64 0) := kp hb2 (by go_cell)
  have c_s0 : w2.cell? ⟨w1.heap.size, 0, none⟩ = some (.int .i64 s1) := kp hb2 (by go_cell)
  have c_s1 : w2.cell? ⟨w1.heap.size, 1, none⟩ = some (.int .i64 s2) := kp hb2 (by go_cell)
  clear hb2 hB1
  go_wp2_with fail
  refine (HI.out _).mono ?_
  rintro e w3 ⟨rfl, hb3⟩
  have hB3 : Below w.heap.size w w3 := below_after (by go_grown) hb3
  have hz3 := hb3.size
  try simp only [World.size_alloc, World.size_setCell, World.size_drew] at hz3
  have hw3 := hB3.size
  replace c_c0 : w3.cell? ⟨w.heap.size, 0, none⟩ = some (.int .i64 ct) := kp hb3 (by go_cell)
  replace c_c1 : w3.cell? ⟨w.heap.size, 1, none⟩ = some (.int .i64 clo) := kp hb3 (by go_cell)
  replace c_c2 : w3.cell? ⟨w.heap.size, 2, none⟩ = some (.int .i64 chi) := kp hb3 (by go_cell)
  replace c_c3 : w3.cell? ⟨w.heap.size, 3, none⟩ = some (.int .i64 cdr) := kp hb3 (by go_cell)
  replace c_d0 : w3.cell? ⟨w.heap.size + 1, 0, none⟩ = some (.int .i64 dl) := kp hb3 (by go_cell)
  replace c_d1 : w3.cell? ⟨w.heap.size + 1, 1, none⟩ = some (.int .i64 dh) := kp hb3 (by go_cell)
  replace c_t0 : w3.cell? ⟨w.heap.size + 1 + 1, 0, none⟩ = some (.int .i64 tlo) := kp hb3 (by go_cell)
  replace c_t1 : w3.cell? ⟨w.heap.size + 1 + 1, 1, none⟩ = some (.int .i64 thi) := kp hb3 (by go_cell)
  replace f_r0 : w3.frozen? ⟨w.heap.size + 1 + 1 + 1, 0, none⟩ = false := kf hb3 (by go_simp) (by go_simp)
  replace f_r1 : w3.frozen? ⟨w.heap.size + 1 + 1 + 1, 1, none⟩ = false := kf hb3 (by go_simp) (by go_simp)
  replace c_r0 : w3.cell? ⟨w.heap.size + 1 + 1 + 1, 0, none⟩ = some (.int .i64 0) := kp hb3 (by go_cell)
  replace c_r1 : w3.cell? ⟨w.heap.size + 1 + 1 + 1, 1, none⟩ = some (.int .i64 0) := kp hb3 (by go_cell)
  replace c_s0 : w3.cell? ⟨w1.heap.size, 0, none⟩ = some (.int .i64 s1) := kp hb3 (by go_cell)
  replace c_s1 : w3.cell? ⟨w1.heap.size, 1, none⟩ = some (.int .i64 s2) := kp hb3 (by go_cell)
  clear hb3 hB2
  go_wp2_with fail
  refine (HJ.out _).mono ?_
  rintro e w4 ⟨rfl, hb4⟩
  have hB4 : Below w.heap.size w w4 := below_after (by go_grown) hb4
  have hz4 := hb4.size
  try simp only [World.size_alloc, World.size_setCell, World.size_drew] at hz4
  have hw4 := hB4.size
  replace c_c0 : w4.cell? ⟨w.heap.size, 0, none⟩ = some (.int .i64 ct) := kp hb4 (by go_cell)
  replace c_c1 : w4.cell? ⟨w.heap.size, 1, none⟩ = some (.int .i64 clo) := kp hb4 (by go_cell)
  replace c_c2 : w4.cell? ⟨w.heap.size, 2, none⟩ = some (.int .i64 chi) := kp hb4 (by go_cell)
  replace c_c3 : w4.cell? ⟨w.heap.size, 3, none⟩ = some (.int .i64 cdr) := kp hb4 (by go_cell)
  replace c_d0 : w4.cell? ⟨w.heap.size + 1, 0, none⟩ = some (.int .i64 dl) := kp hb4 (by go_cell)
  replace c_d1 : w4.cell? ⟨w.heap.size + 1, 1, none⟩ = some (.int .i64 dh) := kp hb4 (by go_cell)
  replace c_t0 : w4.cell? ⟨w.heap.size + 1 + 1, 0, none⟩ = some (.int .i64 tlo) := kp hb4 (by go_cell)
  replace c_t1 : w4.cell? ⟨w.heap.size + 1 + 1, 1, none⟩ = some (.int .i64 thi) := kp hb4 (by go_cell)
  replace f_r0 : w4.frozen? ⟨w.heap.size + 1 + 1 + 1, 0, none⟩ = false := kf hb4 (by go_simp) (by go_simp)
  replace f_r1 : w4.frozen? ⟨w.heap.size + 1 + 1 + 1, 1, none⟩ = false := kf hb4 (by go_simp) (by go_simp)
  replace c_r0 : w4.cell? ⟨w.heap.size + 1 + 1 + 1, 0, none⟩ = some (.int .i64 0) := kp hb4 (by go_cell)
  replace c_r1 : w4.cell? ⟨w.heap.size + 1 + 1 + 1, 1, none⟩ = some (.int .i64 0) := kp hb4 (by go_cell)
  replace c_s0 : w4.cell? ⟨w1.heap.size, 0, none⟩ = some (.int .i64 s1) := kp hb4 (by go_cell)
  replace c_s1 : w4.cell? ⟨w1.heap.size, 1, none⟩ = some (.int .i64 s2) := kp hb4 (by go_cell)
  clear hb4 hB3
  go_wp2_with fail
  first | (refine ret_span rfl rfl rfl (set2s _ _ (by go_simp) (by go_simp)) ⟨rfl, by go_grown⟩) | (refine ret_span rfl rfl rfl ⟨by go_cell, by go_cell⟩ ⟨rfl, by go_grown⟩)
set_option maxHeartbeats 1600000 in
set_option maxRecDepth 100000 in
theorem Two_4 (A : Option Addr) (n c : Nat) (xs : List Wt) (ct clo chi cdr dl dh sent got tlo thi : Int) (w : World) (hn : xs.length = n) (hbig : n ≤ 1000000) (hx : Wts? w.heap.size w A xs) (hs : (wValid xs && depB dl dh) = true) (hc : clkB ct clo chi cdr = true) (h1 : readB sent = true) (h2 : readB got = true) (h3 : decide (sent ≤ got) = false) :
    Calls Try.prog 65 #[.slice A n c, .agg #[.int .i64 ct, .int .i64 clo, .int .i64 chi, .int .i64 cdr], .agg #[.int .i64 dl, .int .i64 dh], .int .i64 sent, .int .i64 got, .agg #[.int .i64 tlo, .int .i64 thi]] w fun e w' => e = .returned (.tuple #[.agg #[.int .i64 0, .int .i64 0], .int .i64 1]) ∧ Below w.heap.size w w' := by
  have HXS := Lib.hid (hxs_of hx)
  have hS := fun W h => Speed_any A n c xs dl dh W hn hbig h
  rw [speedS_ok hs] at hS
  have hC := fun W => CValid_any ct clo chi cdr W
  rw [hc] at hC
  have hI := fun W => bel (isReading17_any sent W)
  rw [h1] at hI
  have hJ := fun W => bel (isReading17_any got W)
  rw [h2] at hJ
  have hle : got < sent := by have h9 := h3; simp only [decide_eq_false_iff_not] at h9; omega
  generalize (speedP dl dh xs).1 = s1 at *
  generalize (speedP dl dh xs).2 = s2 at *
  have HS := Lib.hid hS
  have HC := Lib.hid hC
  have HI := Lib.hid hI
  have HJ := Lib.hid hJ
  clear hx hn hS hC hI hJ
  go_enter Try.func65, Try.ntmps65
  go_wp2_with fail
  refine (HS.out _ (HXS.out _ (by go_grown))).mono ?_
  rintro e w1 ⟨rfl, hb1⟩
  have hB1 : Below w.heap.size w w1 := below_after (by go_grown) hb1
  have hz1 := hb1.size
  try simp only [World.size_alloc, World.size_setCell, World.size_drew] at hz1
  have hw1 := hB1.size
  have c_c0 : w1.cell? ⟨w.heap.size, 0, none⟩ = some (.int .i64 ct) := kp hb1 (by go_cell)
  have c_c1 : w1.cell? ⟨w.heap.size, 1, none⟩ = some (.int .i64 clo) := kp hb1 (by go_cell)
  have c_c2 : w1.cell? ⟨w.heap.size, 2, none⟩ = some (.int .i64 chi) := kp hb1 (by go_cell)
  have c_c3 : w1.cell? ⟨w.heap.size, 3, none⟩ = some (.int .i64 cdr) := kp hb1 (by go_cell)
  have c_d0 : w1.cell? ⟨w.heap.size + 1, 0, none⟩ = some (.int .i64 dl) := kp hb1 (by go_cell)
  have c_d1 : w1.cell? ⟨w.heap.size + 1, 1, none⟩ = some (.int .i64 dh) := kp hb1 (by go_cell)
  have c_t0 : w1.cell? ⟨w.heap.size + 1 + 1, 0, none⟩ = some (.int .i64 tlo) := kp hb1 (by go_cell)
  have c_t1 : w1.cell? ⟨w.heap.size + 1 + 1, 1, none⟩ = some (.int .i64 thi) := kp hb1 (by go_cell)
  have f_r0 : w1.frozen? ⟨w.heap.size + 1 + 1 + 1, 0, none⟩ = false := kf hb1 (by go_simp) (by go_simp)
  have f_r1 : w1.frozen? ⟨w.heap.size + 1 + 1 + 1, 1, none⟩ = false := kf hb1 (by go_simp) (by go_simp)
  have c_r0 : w1.cell? ⟨w.heap.size + 1 + 1 + 1, 0, none⟩ = some (.int .i64 0) := kp hb1 (by go_cell)
  have c_r1 : w1.cell? ⟨w.heap.size + 1 + 1 + 1, 1, none⟩ = some (.int .i64 0) := kp hb1 (by go_cell)
  clear hb1
  go_wp2_with fail
  refine (HC.out _).mono ?_
  rintro e w2 ⟨rfl, hb2⟩
  have hB2 : Below w.heap.size w w2 := below_after (by go_grown) hb2
  have hz2 := hb2.size
  try simp only [World.size_alloc, World.size_setCell, World.size_drew] at hz2
  have hw2 := hB2.size
  replace c_c0 : w2.cell? ⟨w.heap.size, 0, none⟩ = some (.int .i64 ct) := kp hb2 (by go_cell)
  replace c_c1 : w2.cell? ⟨w.heap.size, 1, none⟩ = some (.int .i64 clo) := kp hb2 (by go_cell)
  replace c_c2 : w2.cell? ⟨w.heap.size, 2, none⟩ = some (.int .i64 chi) := kp hb2 (by go_cell)
  replace c_c3 : w2.cell? ⟨w.heap.size, 3, none⟩ = some (.int .i64 cdr) := kp hb2 (by go_cell)
  replace c_d0 : w2.cell? ⟨w.heap.size + 1, 0, none⟩ = some (.int .i64 dl) := kp hb2 (by go_cell)
  replace c_d1 : w2.cell? ⟨w.heap.size + 1, 1, none⟩ = some (.int .i64 dh) := kp hb2 (by go_cell)
  replace c_t0 : w2.cell? ⟨w.heap.size + 1 + 1, 0, none⟩ = some (.int .i64 tlo) := kp hb2 (by go_cell)
  replace c_t1 : w2.cell? ⟨w.heap.size + 1 + 1, 1, none⟩ = some (.int .i64 thi) := kp hb2 (by go_cell)
  replace f_r0 : w2.frozen? ⟨w.heap.size + 1 + 1 + 1, 0, none⟩ = false := kf hb2 (by go_simp) (by go_simp)
  replace f_r1 : w2.frozen? ⟨w.heap.size + 1 + 1 + 1, 1, none⟩ = false := kf hb2 (by go_simp) (by go_simp)
  replace c_r0 : w2.cell? ⟨w.heap.size + 1 + 1 + 1, 0, none⟩ = some (.int .i64 0) := kp hb2 (by go_cell)
  replace c_r1 : w2.cell? ⟨w.heap.size + 1 + 1 + 1, 1, none⟩ = some (.int .i64 0) := kp hb2 (by go_cell)
  have c_s0 : w2.cell? ⟨w1.heap.size, 0, none⟩ = some (.int .i64 s1) := kp hb2 (by go_cell)
  have c_s1 : w2.cell? ⟨w1.heap.size, 1, none⟩ = some (.int .i64 s2) := kp hb2 (by go_cell)
  clear hb2 hB1
  go_wp2_with fail
  refine (HI.out _).mono ?_
  rintro e w3 ⟨rfl, hb3⟩
  have hB3 : Below w.heap.size w w3 := below_after (by go_grown) hb3
  have hz3 := hb3.size
  try simp only [World.size_alloc, World.size_setCell, World.size_drew] at hz3
  have hw3 := hB3.size
  replace c_c0 : w3.cell? ⟨w.heap.size, 0, none⟩ = some (.int .i64 ct) := kp hb3 (by go_cell)
  replace c_c1 : w3.cell? ⟨w.heap.size, 1, none⟩ = some (.int .i64 clo) := kp hb3 (by go_cell)
  replace c_c2 : w3.cell? ⟨w.heap.size, 2, none⟩ = some (.int .i64 chi) := kp hb3 (by go_cell)
  replace c_c3 : w3.cell? ⟨w.heap.size, 3, none⟩ = some (.int .i64 cdr) := kp hb3 (by go_cell)
  replace c_d0 : w3.cell? ⟨w.heap.size + 1, 0, none⟩ = some (.int .i64 dl) := kp hb3 (by go_cell)
  replace c_d1 : w3.cell? ⟨w.heap.size + 1, 1, none⟩ = some (.int .i64 dh) := kp hb3 (by go_cell)
  replace c_t0 : w3.cell? ⟨w.heap.size + 1 + 1, 0, none⟩ = some (.int .i64 tlo) := kp hb3 (by go_cell)
  replace c_t1 : w3.cell? ⟨w.heap.size + 1 + 1, 1, none⟩ = some (.int .i64 thi) := kp hb3 (by go_cell)
  replace f_r0 : w3.frozen? ⟨w.heap.size + 1 + 1 + 1, 0, none⟩ = false := kf hb3 (by go_simp) (by go_simp)
  replace f_r1 : w3.frozen? ⟨w.heap.size + 1 + 1 + 1, 1, none⟩ = false := kf hb3 (by go_simp) (by go_simp)
  replace c_r0 : w3.cell? ⟨w.heap.size + 1 + 1 + 1, 0, none⟩ = some (.int .i64 0) := kp hb3 (by go_cell)
  replace c_r1 : w3.cell? ⟨w.heap.size + 1 + 1 + 1, 1, none⟩ = some (.int .i64 0) := kp hb3 (by go_cell)
  replace c_s0 : w3.cell? ⟨w1.heap.size, 0, none⟩ = some (.int .i64 s1) := kp hb3 (by go_cell)
  replace c_s1 : w3.cell? ⟨w1.heap.size, 1, none⟩ = some (.int .i64 s2) := kp hb3 (by go_cell)
  clear hb3 hB2
  go_wp2_with fail
  refine (HJ.out _).mono ?_
  rintro e w4 ⟨rfl, hb4⟩
  have hB4 : Below w.heap.size w w4 := below_after (by go_grown) hb4
  have hz4 := hb4.size
  try simp only [World.size_alloc, World.size_setCell, World.size_drew] at hz4
  have hw4 := hB4.size
  replace c_c0 : w4.cell? ⟨w.heap.size, 0, none⟩ = some (.int .i64 ct) := kp hb4 (by go_cell)
  replace c_c1 : w4.cell? ⟨w.heap.size, 1, none⟩ = some (.int .i64 clo) := kp hb4 (by go_cell)
  replace c_c2 : w4.cell? ⟨w.heap.size, 2, none⟩ = some (.int .i64 chi) := kp hb4 (by go_cell)
  replace c_c3 : w4.cell? ⟨w.heap.size, 3, none⟩ = some (.int .i64 cdr) := kp hb4 (by go_cell)
  replace c_d0 : w4.cell? ⟨w.heap.size + 1, 0, none⟩ = some (.int .i64 dl) := kp hb4 (by go_cell)
  replace c_d1 : w4.cell? ⟨w.heap.size + 1, 1, none⟩ = some (.int .i64 dh) := kp hb4 (by go_cell)
  replace c_t0 : w4.cell? ⟨w.heap.size + 1 + 1, 0, none⟩ = some (.int .i64 tlo) := kp hb4 (by go_cell)
  replace c_t1 : w4.cell? ⟨w.heap.size + 1 + 1, 1, none⟩ = some (.int .i64 thi) := kp hb4 (by go_cell)
  replace f_r0 : w4.frozen? ⟨w.heap.size + 1 + 1 + 1, 0, none⟩ = false := kf hb4 (by go_simp) (by go_simp)
  replace f_r1 : w4.frozen? ⟨w.heap.size + 1 + 1 + 1, 1, none⟩ = false := kf hb4 (by go_simp) (by go_simp)
  replace c_r0 : w4.cell? ⟨w.heap.size + 1 + 1 + 1, 0, none⟩ = some (.int .i64 0) := kp hb4 (by go_cell)
  replace c_r1 : w4.cell? ⟨w.heap.size + 1 + 1 + 1, 1, none⟩ = some (.int .i64 0) := kp hb4 (by go_cell)
  replace c_s0 : w4.cell? ⟨w1.heap.size, 0, none⟩ = some (.int .i64 s1) := kp hb4 (by go_cell)
  replace c_s1 : w4.cell? ⟨w1.heap.size, 1, none⟩ = some (.int .i64 s2) := kp hb4 (by go_cell)
  clear hb4 hB3
  go_wp2_with fail
  first | (refine ret_span rfl rfl rfl (set2s _ _ (by go_simp) (by go_simp)) ⟨rfl, by go_grown⟩) | (refine ret_span rfl rfl rfl ⟨by go_cell, by go_cell⟩ ⟨rfl, by go_grown⟩)
set_option maxHeartbeats 1600000 in
set_option maxRecDepth 100000 in
theorem Two_5 (A : Option Addr) (n c : Nat) (xs : List Wt) (ct clo chi cdr dl dh sent got tlo thi : Int) (w : World) (hn : xs.length = n) (hbig : n ≤ 1000000) (hx : Wts? w.heap.size w A xs) (hs : (wValid xs && depB dl dh) = true) (hc : clkB ct clo chi cdr = true) (h1 : readB sent = true) (h2 : readB got = true) (h3 : decide (sent ≤ got) = true) (h4 : timB tlo thi = false) :
    Calls Try.prog 65 #[.slice A n c, .agg #[.int .i64 ct, .int .i64 clo, .int .i64 chi, .int .i64 cdr], .agg #[.int .i64 dl, .int .i64 dh], .int .i64 sent, .int .i64 got, .agg #[.int .i64 tlo, .int .i64 thi]] w fun e w' => e = .returned (.tuple #[.agg #[.int .i64 0, .int .i64 0], .int .i64 1]) ∧ Below w.heap.size w w' := by
  have HXS := Lib.hid (hxs_of hx)
  have hS := fun W h => Speed_any A n c xs dl dh W hn hbig h
  rw [speedS_ok hs] at hS
  have hC := fun W => CValid_any ct clo chi cdr W
  rw [hc] at hC
  have hI := fun W => bel (isReading17_any sent W)
  rw [h1] at hI
  have hJ := fun W => bel (isReading17_any got W)
  rw [h2] at hJ
  have hle : ¬ got < sent := by have h9 := h3; simp only [decide_eq_true_eq] at h9; omega
  have hU := fun W => upTo_any tlo thi 1000000000 W
  rw [show (decide (0 ≤ tlo) && decide (tlo ≤ thi) && decide (thi ≤ 1000000000)) = false from h4] at hU
  generalize (speedP dl dh xs).1 = s1 at *
  generalize (speedP dl dh xs).2 = s2 at *
  have HS := Lib.hid hS
  have HC := Lib.hid hC
  have HI := Lib.hid hI
  have HJ := Lib.hid hJ
  have HU := Lib.hid hU
  clear hx hn hS hC hI hJ hU
  go_enter Try.func65, Try.ntmps65
  go_wp2_with fail
  refine (HS.out _ (HXS.out _ (by go_grown))).mono ?_
  rintro e w1 ⟨rfl, hb1⟩
  have hB1 : Below w.heap.size w w1 := below_after (by go_grown) hb1
  have hz1 := hb1.size
  try simp only [World.size_alloc, World.size_setCell, World.size_drew] at hz1
  have hw1 := hB1.size
  have c_c0 : w1.cell? ⟨w.heap.size, 0, none⟩ = some (.int .i64 ct) := kp hb1 (by go_cell)
  have c_c1 : w1.cell? ⟨w.heap.size, 1, none⟩ = some (.int .i64 clo) := kp hb1 (by go_cell)
  have c_c2 : w1.cell? ⟨w.heap.size, 2, none⟩ = some (.int .i64 chi) := kp hb1 (by go_cell)
  have c_c3 : w1.cell? ⟨w.heap.size, 3, none⟩ = some (.int .i64 cdr) := kp hb1 (by go_cell)
  have c_d0 : w1.cell? ⟨w.heap.size + 1, 0, none⟩ = some (.int .i64 dl) := kp hb1 (by go_cell)
  have c_d1 : w1.cell? ⟨w.heap.size + 1, 1, none⟩ = some (.int .i64 dh) := kp hb1 (by go_cell)
  have c_t0 : w1.cell? ⟨w.heap.size + 1 + 1, 0, none⟩ = some (.int .i64 tlo) := kp hb1 (by go_cell)
  have c_t1 : w1.cell? ⟨w.heap.size + 1 + 1, 1, none⟩ = some (.int .i64 thi) := kp hb1 (by go_cell)
  have f_r0 : w1.frozen? ⟨w.heap.size + 1 + 1 + 1, 0, none⟩ = false := kf hb1 (by go_simp) (by go_simp)
  have f_r1 : w1.frozen? ⟨w.heap.size + 1 + 1 + 1, 1, none⟩ = false := kf hb1 (by go_simp) (by go_simp)
  have c_r0 : w1.cell? ⟨w.heap.size + 1 + 1 + 1, 0, none⟩ = some (.int .i64 0) := kp hb1 (by go_cell)
  have c_r1 : w1.cell? ⟨w.heap.size + 1 + 1 + 1, 1, none⟩ = some (.int .i64 0) := kp hb1 (by go_cell)
  clear hb1
  go_wp2_with fail
  refine (HC.out _).mono ?_
  rintro e w2 ⟨rfl, hb2⟩
  have hB2 : Below w.heap.size w w2 := below_after (by go_grown) hb2
  have hz2 := hb2.size
  try simp only [World.size_alloc, World.size_setCell, World.size_drew] at hz2
  have hw2 := hB2.size
  replace c_c0 : w2.cell? ⟨w.heap.size, 0, none⟩ = some (.int .i64 ct) := kp hb2 (by go_cell)
  replace c_c1 : w2.cell? ⟨w.heap.size, 1, none⟩ = some (.int .i64 clo) := kp hb2 (by go_cell)
  replace c_c2 : w2.cell? ⟨w.heap.size, 2, none⟩ = some (.int .i64 chi) := kp hb2 (by go_cell)
  replace c_c3 : w2.cell? ⟨w.heap.size, 3, none⟩ = some (.int .i64 cdr) := kp hb2 (by go_cell)
  replace c_d0 : w2.cell? ⟨w.heap.size + 1, 0, none⟩ = some (.int .i64 dl) := kp hb2 (by go_cell)
  replace c_d1 : w2.cell? ⟨w.heap.size + 1, 1, none⟩ = some (.int .i64 dh) := kp hb2 (by go_cell)
  replace c_t0 : w2.cell? ⟨w.heap.size + 1 + 1, 0, none⟩ = some (.int .i64 tlo) := kp hb2 (by go_cell)
  replace c_t1 : w2.cell? ⟨w.heap.size + 1 + 1, 1, none⟩ = some (.int .i64 thi) := kp hb2 (by go_cell)
  replace f_r0 : w2.frozen? ⟨w.heap.size + 1 + 1 + 1, 0, none⟩ = false := kf hb2 (by go_simp) (by go_simp)
  replace f_r1 : w2.frozen? ⟨w.heap.size + 1 + 1 + 1, 1, none⟩ = false := kf hb2 (by go_simp) (by go_simp)
  replace c_r0 : w2.cell? ⟨w.heap.size + 1 + 1 + 1, 0, none⟩ = some (.int .i64 0) := kp hb2 (by go_cell)
  replace c_r1 : w2.cell? ⟨w.heap.size + 1 + 1 + 1, 1, none⟩ = some (.int .i64 0) := kp hb2 (by go_cell)
  have c_s0 : w2.cell? ⟨w1.heap.size, 0, none⟩ = some (.int .i64 s1) := kp hb2 (by go_cell)
  have c_s1 : w2.cell? ⟨w1.heap.size, 1, none⟩ = some (.int .i64 s2) := kp hb2 (by go_cell)
  clear hb2 hB1
  go_wp2_with fail
  refine (HI.out _).mono ?_
  rintro e w3 ⟨rfl, hb3⟩
  have hB3 : Below w.heap.size w w3 := below_after (by go_grown) hb3
  have hz3 := hb3.size
  try simp only [World.size_alloc, World.size_setCell, World.size_drew] at hz3
  have hw3 := hB3.size
  replace c_c0 : w3.cell? ⟨w.heap.size, 0, none⟩ = some (.int .i64 ct) := kp hb3 (by go_cell)
  replace c_c1 : w3.cell? ⟨w.heap.size, 1, none⟩ = some (.int .i64 clo) := kp hb3 (by go_cell)
  replace c_c2 : w3.cell? ⟨w.heap.size, 2, none⟩ = some (.int .i64 chi) := kp hb3 (by go_cell)
  replace c_c3 : w3.cell? ⟨w.heap.size, 3, none⟩ = some (.int .i64 cdr) := kp hb3 (by go_cell)
  replace c_d0 : w3.cell? ⟨w.heap.size + 1, 0, none⟩ = some (.int .i64 dl) := kp hb3 (by go_cell)
  replace c_d1 : w3.cell? ⟨w.heap.size + 1, 1, none⟩ = some (.int .i64 dh) := kp hb3 (by go_cell)
  replace c_t0 : w3.cell? ⟨w.heap.size + 1 + 1, 0, none⟩ = some (.int .i64 tlo) := kp hb3 (by go_cell)
  replace c_t1 : w3.cell? ⟨w.heap.size + 1 + 1, 1, none⟩ = some (.int .i64 thi) := kp hb3 (by go_cell)
  replace f_r0 : w3.frozen? ⟨w.heap.size + 1 + 1 + 1, 0, none⟩ = false := kf hb3 (by go_simp) (by go_simp)
  replace f_r1 : w3.frozen? ⟨w.heap.size + 1 + 1 + 1, 1, none⟩ = false := kf hb3 (by go_simp) (by go_simp)
  replace c_r0 : w3.cell? ⟨w.heap.size + 1 + 1 + 1, 0, none⟩ = some (.int .i64 0) := kp hb3 (by go_cell)
  replace c_r1 : w3.cell? ⟨w.heap.size + 1 + 1 + 1, 1, none⟩ = some (.int .i64 0) := kp hb3 (by go_cell)
  replace c_s0 : w3.cell? ⟨w1.heap.size, 0, none⟩ = some (.int .i64 s1) := kp hb3 (by go_cell)
  replace c_s1 : w3.cell? ⟨w1.heap.size, 1, none⟩ = some (.int .i64 s2) := kp hb3 (by go_cell)
  clear hb3 hB2
  go_wp2_with fail
  refine (HJ.out _).mono ?_
  rintro e w4 ⟨rfl, hb4⟩
  have hB4 : Below w.heap.size w w4 := below_after (by go_grown) hb4
  have hz4 := hb4.size
  try simp only [World.size_alloc, World.size_setCell, World.size_drew] at hz4
  have hw4 := hB4.size
  replace c_c0 : w4.cell? ⟨w.heap.size, 0, none⟩ = some (.int .i64 ct) := kp hb4 (by go_cell)
  replace c_c1 : w4.cell? ⟨w.heap.size, 1, none⟩ = some (.int .i64 clo) := kp hb4 (by go_cell)
  replace c_c2 : w4.cell? ⟨w.heap.size, 2, none⟩ = some (.int .i64 chi) := kp hb4 (by go_cell)
  replace c_c3 : w4.cell? ⟨w.heap.size, 3, none⟩ = some (.int .i64 cdr) := kp hb4 (by go_cell)
  replace c_d0 : w4.cell? ⟨w.heap.size + 1, 0, none⟩ = some (.int .i64 dl) := kp hb4 (by go_cell)
  replace c_d1 : w4.cell? ⟨w.heap.size + 1, 1, none⟩ = some (.int .i64 dh) := kp hb4 (by go_cell)
  replace c_t0 : w4.cell? ⟨w.heap.size + 1 + 1, 0, none⟩ = some (.int .i64 tlo) := kp hb4 (by go_cell)
  replace c_t1 : w4.cell? ⟨w.heap.size + 1 + 1, 1, none⟩ = some (.int .i64 thi) := kp hb4 (by go_cell)
  replace f_r0 : w4.frozen? ⟨w.heap.size + 1 + 1 + 1, 0, none⟩ = false := kf hb4 (by go_simp) (by go_simp)
  replace f_r1 : w4.frozen? ⟨w.heap.size + 1 + 1 + 1, 1, none⟩ = false := kf hb4 (by go_simp) (by go_simp)
  replace c_r0 : w4.cell? ⟨w.heap.size + 1 + 1 + 1, 0, none⟩ = some (.int .i64 0) := kp hb4 (by go_cell)
  replace c_r1 : w4.cell? ⟨w.heap.size + 1 + 1 + 1, 1, none⟩ = some (.int .i64 0) := kp hb4 (by go_cell)
  replace c_s0 : w4.cell? ⟨w1.heap.size, 0, none⟩ = some (.int .i64 s1) := kp hb4 (by go_cell)
  replace c_s1 : w4.cell? ⟨w1.heap.size, 1, none⟩ = some (.int .i64 s2) := kp hb4 (by go_cell)
  clear hb4 hB3
  go_wp2_with fail
  refine (HU.out _).mono ?_
  rintro e w5 ⟨rfl, hb5⟩
  have hB5 : Below w.heap.size w w5 := below_after (by go_grown) hb5
  have hz5 := hb5.size
  try simp only [World.size_alloc, World.size_setCell, World.size_drew] at hz5
  have hw5 := hB5.size
  replace c_c0 : w5.cell? ⟨w.heap.size, 0, none⟩ = some (.int .i64 ct) := kp hb5 (by go_cell)
  replace c_c1 : w5.cell? ⟨w.heap.size, 1, none⟩ = some (.int .i64 clo) := kp hb5 (by go_cell)
  replace c_c2 : w5.cell? ⟨w.heap.size, 2, none⟩ = some (.int .i64 chi) := kp hb5 (by go_cell)
  replace c_c3 : w5.cell? ⟨w.heap.size, 3, none⟩ = some (.int .i64 cdr) := kp hb5 (by go_cell)
  replace c_d0 : w5.cell? ⟨w.heap.size + 1, 0, none⟩ = some (.int .i64 dl) := kp hb5 (by go_cell)
  replace c_d1 : w5.cell? ⟨w.heap.size + 1, 1, none⟩ = some (.int .i64 dh) := kp hb5 (by go_cell)
  replace c_t0 : w5.cell? ⟨w.heap.size + 1 + 1, 0, none⟩ = some (.int .i64 tlo) := kp hb5 (by go_cell)
  replace c_t1 : w5.cell? ⟨w.heap.size + 1 + 1, 1, none⟩ = some (.int .i64 thi) := kp hb5 (by go_cell)
  replace f_r0 : w5.frozen? ⟨w.heap.size + 1 + 1 + 1, 0, none⟩ = false := kf hb5 (by go_simp) (by go_simp)
  replace f_r1 : w5.frozen? ⟨w.heap.size + 1 + 1 + 1, 1, none⟩ = false := kf hb5 (by go_simp) (by go_simp)
  replace c_r0 : w5.cell? ⟨w.heap.size + 1 + 1 + 1, 0, none⟩ = some (.int .i64 0) := kp hb5 (by go_cell)
  replace c_r1 : w5.cell? ⟨w.heap.size + 1 + 1 + 1, 1, none⟩ = some (.int .i64 0) := kp hb5 (by go_cell)
  replace c_s0 : w5.cell? ⟨w1.heap.size, 0, none⟩ = some (.int .i64 s1) := kp hb5 (by go_cell)
  replace c_s1 : w5.cell? ⟨w1.heap.size, 1, none⟩ = some (.int .i64 s2) := kp hb5 (by go_cell)
  clear hb5 hB4
  go_wp2_with fail
  first | (refine ret_span rfl rfl rfl (set2s _ _ (by go_simp) (by go_simp)) ⟨rfl, by go_grown⟩) | (refine ret_span rfl rfl rfl ⟨by go_cell, by go_cell⟩ ⟨rfl, by go_grown⟩)
set_option maxHeartbeats 1600000 in
set_option maxRecDepth 100000 in
theorem Two_n02 (A : Option Addr) (n c : Nat) (xs : List Wt) (ct clo chi cdr dl dh sent got tlo thi : Int) (w : World) (hn : xs.length = n) (hbig : n ≤ 1000000) (hx : Wts? w.heap.size w A xs) (hs : (wValid xs && depB dl dh) = true) (hc : clkB ct clo chi cdr = true) (h1 : readB sent = true) (h2 : readB got = true) (h3 : decide (sent ≤ got) = true) (h4 : timB tlo thi = true) (hm1 : got - sent - wrS cdr (got - sent) < 0)  (hn0 : got - sent + wrS cdr (got - sent) - tlo < 0) :
    Calls Try.prog 65 #[.slice A n c, .agg #[.int .i64 ct, .int .i64 clo, .int .i64 chi, .int .i64 cdr], .agg #[.int .i64 dl, .int .i64 dh], .int .i64 sent, .int .i64 got, .agg #[.int .i64 tlo, .int .i64 thi]] w fun e w' => e = .returned (.tuple #[.agg #[.int .i64 0, .int .i64 0], .int .i64 4]) ∧ Below w.heap.size w w' := by
  have HXS := Lib.hid (hxs_of hx)
  obtain ⟨ct1, ct2, cr1, cr2, co1, co2, co3⟩ := clkB_bounds hc
  obtain ⟨se1, se2⟩ := readB_bounds h1
  obtain ⟨go1, go2⟩ := readB_bounds h2
  obtain ⟨ti1, ti2, ti3⟩ := (timB_iff tlo thi).1 h4
  obtain ⟨sa, sb, sc⟩ := speedP_ok (and_left hs) (and_right hs)
  have hle9 : sent ≤ got := of_decide_eq_true h3
  have hS := fun W h => Speed_any A n c xs dl dh W hn hbig h
  rw [speedS_ok hs] at hS
  have hC := fun W => CValid_any ct clo chi cdr W
  rw [hc] at hC
  have hI := fun W => bel (isReading17_any sent W)
  rw [h1] at hI
  have hJ := fun W => bel (isReading17_any got W)
  rw [h2] at hJ
  have hle : ¬ got < sent := by have h9 := h3; simp only [decide_eq_true_eq] at h9; omega
  have hU := fun W => upTo_any tlo thi 1000000000 W
  rw [show (decide (0 ≤ tlo) && decide (tlo ≤ thi) && decide (thi ≤ 1000000000)) = true from h4] at hU
  have pc := prod_clk (d := cdr) (g := got - sent) cr1 cr2 (by omega) (by omega)
  have hwr : (cdr * (got - sent) + 1000000 - 1).tdiv 1000000 = wrS cdr (got - sent) := by unfold wrS; rw [Int.tdiv_eq_ediv_of_nonneg (by omega)]; omega
  have b1 : 0 ≤ wrS cdr (got - sent) := by unfold wrS; omega
  have b2 : wrS cdr (got - sent) ≤ 1000001 := by unfold wrS; omega
  obtain ⟨L, hL⟩ : ∃ L, 0 - thi = L := ⟨_, rfl⟩
  generalize (speedP dl dh xs).1 = s1 at *
  generalize (speedP dl dh xs).2 = s2 at *
  have hg0 : 0 ≤ got - sent := by omega
  have hg1 : got - sent ≤ 1000000000 := by omega
  generalize wrS cdr (got - sent) = wr at *
  generalize hg : got - sent = g at *
  generalize hp : cdr * g = P at *
  have hB := fun W => Sub_any 0 (g + wr) tlo thi W
  rw [show subS 0 (g + wr) tlo thi = (L, g + wr - tlo, 0) by
    rw [← hL]
    have e1 : (vld 0 (g + wr) && vld tlo thi) = true := by simp [vld]; omega
    have e2 : vld (0 - thi) (g + wr - tlo) = true := by simp [vld]; omega
    rw [subS, if_pos e1, leastS, if_pos e2]] at hB
  have HS := Lib.hid hS
  have HC := Lib.hid hC
  have HI := Lib.hid hI
  have HJ := Lib.hid hJ
  have HU := Lib.hid hU
  have HB := Lib.hid hB
  clear hx hn hc h1 h2 h3 h4 hs hS hC hI hJ hU hB
  go_enter Try.func65, Try.ntmps65
  go_wp2_with fail
  refine (HS.out _ (HXS.out _ (by go_grown))).mono ?_
  rintro e w1 ⟨rfl, hb1⟩
  have hB1 : Below w.heap.size w w1 := below_after (by go_grown) hb1
  have hz1 := hb1.size
  try simp only [World.size_alloc, World.size_setCell, World.size_drew] at hz1
  have hw1 := hB1.size
  have c_c0 : w1.cell? ⟨w.heap.size, 0, none⟩ = some (.int .i64 ct) := kp hb1 (by go_cell)
  have c_c1 : w1.cell? ⟨w.heap.size, 1, none⟩ = some (.int .i64 clo) := kp hb1 (by go_cell)
  have c_c2 : w1.cell? ⟨w.heap.size, 2, none⟩ = some (.int .i64 chi) := kp hb1 (by go_cell)
  have c_c3 : w1.cell? ⟨w.heap.size, 3, none⟩ = some (.int .i64 cdr) := kp hb1 (by go_cell)
  have c_d0 : w1.cell? ⟨w.heap.size + 1, 0, none⟩ = some (.int .i64 dl) := kp hb1 (by go_cell)
  have c_d1 : w1.cell? ⟨w.heap.size + 1, 1, none⟩ = some (.int .i64 dh) := kp hb1 (by go_cell)
  have c_t0 : w1.cell? ⟨w.heap.size + 1 + 1, 0, none⟩ = some (.int .i64 tlo) := kp hb1 (by go_cell)
  have c_t1 : w1.cell? ⟨w.heap.size + 1 + 1, 1, none⟩ = some (.int .i64 thi) := kp hb1 (by go_cell)
  have f_r0 : w1.frozen? ⟨w.heap.size + 1 + 1 + 1, 0, none⟩ = false := kf hb1 (by go_simp) (by go_simp)
  have f_r1 : w1.frozen? ⟨w.heap.size + 1 + 1 + 1, 1, none⟩ = false := kf hb1 (by go_simp) (by go_simp)
  have c_r0 : w1.cell? ⟨w.heap.size + 1 + 1 + 1, 0, none⟩ = some (.int .i64 0) := kp hb1 (by go_cell)
  have c_r1 : w1.cell? ⟨w.heap.size + 1 + 1 + 1, 1, none⟩ = some (.int .i64 0) := kp hb1 (by go_cell)
  clear hb1
  go_wp2_with fail
  refine (HC.out _).mono ?_
  rintro e w2 ⟨rfl, hb2⟩
  have hB2 : Below w.heap.size w w2 := below_after (by go_grown) hb2
  have hz2 := hb2.size
  try simp only [World.size_alloc, World.size_setCell, World.size_drew] at hz2
  have hw2 := hB2.size
  replace c_c0 : w2.cell? ⟨w.heap.size, 0, none⟩ = some (.int .i64 ct) := kp hb2 (by go_cell)
  replace c_c1 : w2.cell? ⟨w.heap.size, 1, none⟩ = some (.int .i64 clo) := kp hb2 (by go_cell)
  replace c_c2 : w2.cell? ⟨w.heap.size, 2, none⟩ = some (.int .i64 chi) := kp hb2 (by go_cell)
  replace c_c3 : w2.cell? ⟨w.heap.size, 3, none⟩ = some (.int .i64 cdr) := kp hb2 (by go_cell)
  replace c_d0 : w2.cell? ⟨w.heap.size + 1, 0, none⟩ = some (.int .i64 dl) := kp hb2 (by go_cell)
  replace c_d1 : w2.cell? ⟨w.heap.size + 1, 1, none⟩ = some (.int .i64 dh) := kp hb2 (by go_cell)
  replace c_t0 : w2.cell? ⟨w.heap.size + 1 + 1, 0, none⟩ = some (.int .i64 tlo) := kp hb2 (by go_cell)
  replace c_t1 : w2.cell? ⟨w.heap.size + 1 + 1, 1, none⟩ = some (.int .i64 thi) := kp hb2 (by go_cell)
  replace f_r0 : w2.frozen? ⟨w.heap.size + 1 + 1 + 1, 0, none⟩ = false := kf hb2 (by go_simp) (by go_simp)
  replace f_r1 : w2.frozen? ⟨w.heap.size + 1 + 1 + 1, 1, none⟩ = false := kf hb2 (by go_simp) (by go_simp)
  replace c_r0 : w2.cell? ⟨w.heap.size + 1 + 1 + 1, 0, none⟩ = some (.int .i64 0) := kp hb2 (by go_cell)
  replace c_r1 : w2.cell? ⟨w.heap.size + 1 + 1 + 1, 1, none⟩ = some (.int .i64 0) := kp hb2 (by go_cell)
  have c_s0 : w2.cell? ⟨w1.heap.size, 0, none⟩ = some (.int .i64 s1) := kp hb2 (by go_cell)
  have c_s1 : w2.cell? ⟨w1.heap.size, 1, none⟩ = some (.int .i64 s2) := kp hb2 (by go_cell)
  clear hb2 hB1
  go_wp2_with fail
  refine (HI.out _).mono ?_
  rintro e w3 ⟨rfl, hb3⟩
  have hB3 : Below w.heap.size w w3 := below_after (by go_grown) hb3
  have hz3 := hb3.size
  try simp only [World.size_alloc, World.size_setCell, World.size_drew] at hz3
  have hw3 := hB3.size
  replace c_c0 : w3.cell? ⟨w.heap.size, 0, none⟩ = some (.int .i64 ct) := kp hb3 (by go_cell)
  replace c_c1 : w3.cell? ⟨w.heap.size, 1, none⟩ = some (.int .i64 clo) := kp hb3 (by go_cell)
  replace c_c2 : w3.cell? ⟨w.heap.size, 2, none⟩ = some (.int .i64 chi) := kp hb3 (by go_cell)
  replace c_c3 : w3.cell? ⟨w.heap.size, 3, none⟩ = some (.int .i64 cdr) := kp hb3 (by go_cell)
  replace c_d0 : w3.cell? ⟨w.heap.size + 1, 0, none⟩ = some (.int .i64 dl) := kp hb3 (by go_cell)
  replace c_d1 : w3.cell? ⟨w.heap.size + 1, 1, none⟩ = some (.int .i64 dh) := kp hb3 (by go_cell)
  replace c_t0 : w3.cell? ⟨w.heap.size + 1 + 1, 0, none⟩ = some (.int .i64 tlo) := kp hb3 (by go_cell)
  replace c_t1 : w3.cell? ⟨w.heap.size + 1 + 1, 1, none⟩ = some (.int .i64 thi) := kp hb3 (by go_cell)
  replace f_r0 : w3.frozen? ⟨w.heap.size + 1 + 1 + 1, 0, none⟩ = false := kf hb3 (by go_simp) (by go_simp)
  replace f_r1 : w3.frozen? ⟨w.heap.size + 1 + 1 + 1, 1, none⟩ = false := kf hb3 (by go_simp) (by go_simp)
  replace c_r0 : w3.cell? ⟨w.heap.size + 1 + 1 + 1, 0, none⟩ = some (.int .i64 0) := kp hb3 (by go_cell)
  replace c_r1 : w3.cell? ⟨w.heap.size + 1 + 1 + 1, 1, none⟩ = some (.int .i64 0) := kp hb3 (by go_cell)
  replace c_s0 : w3.cell? ⟨w1.heap.size, 0, none⟩ = some (.int .i64 s1) := kp hb3 (by go_cell)
  replace c_s1 : w3.cell? ⟨w1.heap.size, 1, none⟩ = some (.int .i64 s2) := kp hb3 (by go_cell)
  clear hb3 hB2
  go_wp2_with fail
  refine (HJ.out _).mono ?_
  rintro e w4 ⟨rfl, hb4⟩
  have hB4 : Below w.heap.size w w4 := below_after (by go_grown) hb4
  have hz4 := hb4.size
  try simp only [World.size_alloc, World.size_setCell, World.size_drew] at hz4
  have hw4 := hB4.size
  replace c_c0 : w4.cell? ⟨w.heap.size, 0, none⟩ = some (.int .i64 ct) := kp hb4 (by go_cell)
  replace c_c1 : w4.cell? ⟨w.heap.size, 1, none⟩ = some (.int .i64 clo) := kp hb4 (by go_cell)
  replace c_c2 : w4.cell? ⟨w.heap.size, 2, none⟩ = some (.int .i64 chi) := kp hb4 (by go_cell)
  replace c_c3 : w4.cell? ⟨w.heap.size, 3, none⟩ = some (.int .i64 cdr) := kp hb4 (by go_cell)
  replace c_d0 : w4.cell? ⟨w.heap.size + 1, 0, none⟩ = some (.int .i64 dl) := kp hb4 (by go_cell)
  replace c_d1 : w4.cell? ⟨w.heap.size + 1, 1, none⟩ = some (.int .i64 dh) := kp hb4 (by go_cell)
  replace c_t0 : w4.cell? ⟨w.heap.size + 1 + 1, 0, none⟩ = some (.int .i64 tlo) := kp hb4 (by go_cell)
  replace c_t1 : w4.cell? ⟨w.heap.size + 1 + 1, 1, none⟩ = some (.int .i64 thi) := kp hb4 (by go_cell)
  replace f_r0 : w4.frozen? ⟨w.heap.size + 1 + 1 + 1, 0, none⟩ = false := kf hb4 (by go_simp) (by go_simp)
  replace f_r1 : w4.frozen? ⟨w.heap.size + 1 + 1 + 1, 1, none⟩ = false := kf hb4 (by go_simp) (by go_simp)
  replace c_r0 : w4.cell? ⟨w.heap.size + 1 + 1 + 1, 0, none⟩ = some (.int .i64 0) := kp hb4 (by go_cell)
  replace c_r1 : w4.cell? ⟨w.heap.size + 1 + 1 + 1, 1, none⟩ = some (.int .i64 0) := kp hb4 (by go_cell)
  replace c_s0 : w4.cell? ⟨w1.heap.size, 0, none⟩ = some (.int .i64 s1) := kp hb4 (by go_cell)
  replace c_s1 : w4.cell? ⟨w1.heap.size, 1, none⟩ = some (.int .i64 s2) := kp hb4 (by go_cell)
  clear hb4 hB3
  go_wp2_with fail
  refine (HU.out _).mono ?_
  rintro e w5 ⟨rfl, hb5⟩
  have hB5 : Below w.heap.size w w5 := below_after (by go_grown) hb5
  have hz5 := hb5.size
  try simp only [World.size_alloc, World.size_setCell, World.size_drew] at hz5
  have hw5 := hB5.size
  replace c_c0 : w5.cell? ⟨w.heap.size, 0, none⟩ = some (.int .i64 ct) := kp hb5 (by go_cell)
  replace c_c1 : w5.cell? ⟨w.heap.size, 1, none⟩ = some (.int .i64 clo) := kp hb5 (by go_cell)
  replace c_c2 : w5.cell? ⟨w.heap.size, 2, none⟩ = some (.int .i64 chi) := kp hb5 (by go_cell)
  replace c_c3 : w5.cell? ⟨w.heap.size, 3, none⟩ = some (.int .i64 cdr) := kp hb5 (by go_cell)
  replace c_d0 : w5.cell? ⟨w.heap.size + 1, 0, none⟩ = some (.int .i64 dl) := kp hb5 (by go_cell)
  replace c_d1 : w5.cell? ⟨w.heap.size + 1, 1, none⟩ = some (.int .i64 dh) := kp hb5 (by go_cell)
  replace c_t0 : w5.cell? ⟨w.heap.size + 1 + 1, 0, none⟩ = some (.int .i64 tlo) := kp hb5 (by go_cell)
  replace c_t1 : w5.cell? ⟨w.heap.size + 1 + 1, 1, none⟩ = some (.int .i64 thi) := kp hb5 (by go_cell)
  replace f_r0 : w5.frozen? ⟨w.heap.size + 1 + 1 + 1, 0, none⟩ = false := kf hb5 (by go_simp) (by go_simp)
  replace f_r1 : w5.frozen? ⟨w.heap.size + 1 + 1 + 1, 1, none⟩ = false := kf hb5 (by go_simp) (by go_simp)
  replace c_r0 : w5.cell? ⟨w.heap.size + 1 + 1 + 1, 0, none⟩ = some (.int .i64 0) := kp hb5 (by go_cell)
  replace c_r1 : w5.cell? ⟨w.heap.size + 1 + 1 + 1, 1, none⟩ = some (.int .i64 0) := kp hb5 (by go_cell)
  replace c_s0 : w5.cell? ⟨w1.heap.size, 0, none⟩ = some (.int .i64 s1) := kp hb5 (by go_cell)
  replace c_s1 : w5.cell? ⟨w1.heap.size, 1, none⟩ = some (.int .i64 s2) := kp hb5 (by go_cell)
  clear hb5 hB4
  go_wp2_with fail
  refine (HB.out _).mono ?_
  rintro e w6 ⟨rfl, hb6⟩
  have hB6 : Below w.heap.size w w6 := below_after (by go_grown) hb6
  have hz6 := hb6.size
  try simp only [World.size_alloc, World.size_setCell, World.size_drew] at hz6
  have hw6 := hB6.size
  replace c_c0 : w6.cell? ⟨w.heap.size, 0, none⟩ = some (.int .i64 ct) := kp hb6 (by go_cell)
  replace c_c1 : w6.cell? ⟨w.heap.size, 1, none⟩ = some (.int .i64 clo) := kp hb6 (by go_cell)
  replace c_c2 : w6.cell? ⟨w.heap.size, 2, none⟩ = some (.int .i64 chi) := kp hb6 (by go_cell)
  replace c_c3 : w6.cell? ⟨w.heap.size, 3, none⟩ = some (.int .i64 cdr) := kp hb6 (by go_cell)
  replace c_d0 : w6.cell? ⟨w.heap.size + 1, 0, none⟩ = some (.int .i64 dl) := kp hb6 (by go_cell)
  replace c_d1 : w6.cell? ⟨w.heap.size + 1, 1, none⟩ = some (.int .i64 dh) := kp hb6 (by go_cell)
  replace c_t0 : w6.cell? ⟨w.heap.size + 1 + 1, 0, none⟩ = some (.int .i64 tlo) := kp hb6 (by go_cell)
  replace c_t1 : w6.cell? ⟨w.heap.size + 1 + 1, 1, none⟩ = some (.int .i64 thi) := kp hb6 (by go_cell)
  replace f_r0 : w6.frozen? ⟨w.heap.size + 1 + 1 + 1, 0, none⟩ = false := kf hb6 (by go_simp) (by go_simp)
  replace f_r1 : w6.frozen? ⟨w.heap.size + 1 + 1 + 1, 1, none⟩ = false := kf hb6 (by go_simp) (by go_simp)
  replace c_r0 : w6.cell? ⟨w.heap.size + 1 + 1 + 1, 0, none⟩ = some (.int .i64 0) := kp hb6 (by go_cell)
  replace c_r1 : w6.cell? ⟨w.heap.size + 1 + 1 + 1, 1, none⟩ = some (.int .i64 0) := kp hb6 (by go_cell)
  replace c_s0 : w6.cell? ⟨w1.heap.size, 0, none⟩ = some (.int .i64 s1) := kp hb6 (by go_cell)
  replace c_s1 : w6.cell? ⟨w1.heap.size, 1, none⟩ = some (.int .i64 s2) := kp hb6 (by go_cell)
  clear hb6 hB5
  go_wp2_with fail
  first | (refine ret_span rfl rfl rfl (set2s _ _ (by go_simp) (by go_simp)) ⟨rfl, by go_grown⟩) | (refine ret_span rfl rfl rfl ⟨by go_cell, by go_cell⟩ ⟨rfl, by go_grown⟩)
set_option maxHeartbeats 1600000 in
set_option maxRecDepth 100000 in
theorem Two_n12 (A : Option Addr) (n c : Nat) (xs : List Wt) (ct clo chi cdr dl dh sent got tlo thi : Int) (w : World) (hn : xs.length = n) (hbig : n ≤ 1000000) (hx : Wts? w.heap.size w A xs) (hs : (wValid xs && depB dl dh) = true) (hc : clkB ct clo chi cdr = true) (h1 : readB sent = true) (h2 : readB got = true) (h3 : decide (sent ≤ got) = true) (h4 : timB tlo thi = true) (hm1 : 0 ≤ got - sent - wrS cdr (got - sent))  (hn0 : got - sent + wrS cdr (got - sent) - tlo < 0) :
    Calls Try.prog 65 #[.slice A n c, .agg #[.int .i64 ct, .int .i64 clo, .int .i64 chi, .int .i64 cdr], .agg #[.int .i64 dl, .int .i64 dh], .int .i64 sent, .int .i64 got, .agg #[.int .i64 tlo, .int .i64 thi]] w fun e w' => e = .returned (.tuple #[.agg #[.int .i64 0, .int .i64 0], .int .i64 4]) ∧ Below w.heap.size w w' := by
  have HXS := Lib.hid (hxs_of hx)
  obtain ⟨ct1, ct2, cr1, cr2, co1, co2, co3⟩ := clkB_bounds hc
  obtain ⟨se1, se2⟩ := readB_bounds h1
  obtain ⟨go1, go2⟩ := readB_bounds h2
  obtain ⟨ti1, ti2, ti3⟩ := (timB_iff tlo thi).1 h4
  obtain ⟨sa, sb, sc⟩ := speedP_ok (and_left hs) (and_right hs)
  have hle9 : sent ≤ got := of_decide_eq_true h3
  have hS := fun W h => Speed_any A n c xs dl dh W hn hbig h
  rw [speedS_ok hs] at hS
  have hC := fun W => CValid_any ct clo chi cdr W
  rw [hc] at hC
  have hI := fun W => bel (isReading17_any sent W)
  rw [h1] at hI
  have hJ := fun W => bel (isReading17_any got W)
  rw [h2] at hJ
  have hle : ¬ got < sent := by have h9 := h3; simp only [decide_eq_true_eq] at h9; omega
  have hU := fun W => upTo_any tlo thi 1000000000 W
  rw [show (decide (0 ≤ tlo) && decide (tlo ≤ thi) && decide (thi ≤ 1000000000)) = true from h4] at hU
  have pc := prod_clk (d := cdr) (g := got - sent) cr1 cr2 (by omega) (by omega)
  have hwr : (cdr * (got - sent) + 1000000 - 1).tdiv 1000000 = wrS cdr (got - sent) := by unfold wrS; rw [Int.tdiv_eq_ediv_of_nonneg (by omega)]; omega
  have b1 : 0 ≤ wrS cdr (got - sent) := by unfold wrS; omega
  have b2 : wrS cdr (got - sent) ≤ 1000001 := by unfold wrS; omega
  obtain ⟨L, hL⟩ : ∃ L, (got - sent - wrS cdr (got - sent)) - thi = L := ⟨_, rfl⟩
  generalize (speedP dl dh xs).1 = s1 at *
  generalize (speedP dl dh xs).2 = s2 at *
  have hg0 : 0 ≤ got - sent := by omega
  have hg1 : got - sent ≤ 1000000000 := by omega
  generalize wrS cdr (got - sent) = wr at *
  generalize hg : got - sent = g at *
  generalize hp : cdr * g = P at *
  have hB := fun W => Sub_any (g - wr) (g + wr) tlo thi W
  rw [show subS (g - wr) (g + wr) tlo thi = (L, g + wr - tlo, 0) by
    rw [← hL]
    have e1 : (vld (g - wr) (g + wr) && vld tlo thi) = true := by simp [vld]; omega
    have e2 : vld ((g - wr) - thi) (g + wr - tlo) = true := by simp [vld]; omega
    rw [subS, if_pos e1, leastS, if_pos e2]] at hB
  have HS := Lib.hid hS
  have HC := Lib.hid hC
  have HI := Lib.hid hI
  have HJ := Lib.hid hJ
  have HU := Lib.hid hU
  have HB := Lib.hid hB
  clear hx hn hc h1 h2 h3 h4 hs hS hC hI hJ hU hB
  go_enter Try.func65, Try.ntmps65
  go_wp2_with fail
  refine (HS.out _ (HXS.out _ (by go_grown))).mono ?_
  rintro e w1 ⟨rfl, hb1⟩
  have hB1 : Below w.heap.size w w1 := below_after (by go_grown) hb1
  have hz1 := hb1.size
  try simp only [World.size_alloc, World.size_setCell, World.size_drew] at hz1
  have hw1 := hB1.size
  have c_c0 : w1.cell? ⟨w.heap.size, 0, none⟩ = some (.int .i64 ct) := kp hb1 (by go_cell)
  have c_c1 : w1.cell? ⟨w.heap.size, 1, none⟩ = some (.int .i64 clo) := kp hb1 (by go_cell)
  have c_c2 : w1.cell? ⟨w.heap.size, 2, none⟩ = some (.int .i64 chi) := kp hb1 (by go_cell)
  have c_c3 : w1.cell? ⟨w.heap.size, 3, none⟩ = some (.int .i64 cdr) := kp hb1 (by go_cell)
  have c_d0 : w1.cell? ⟨w.heap.size + 1, 0, none⟩ = some (.int .i64 dl) := kp hb1 (by go_cell)
  have c_d1 : w1.cell? ⟨w.heap.size + 1, 1, none⟩ = some (.int .i64 dh) := kp hb1 (by go_cell)
  have c_t0 : w1.cell? ⟨w.heap.size + 1 + 1, 0, none⟩ = some (.int .i64 tlo) := kp hb1 (by go_cell)
  have c_t1 : w1.cell? ⟨w.heap.size + 1 + 1, 1, none⟩ = some (.int .i64 thi) := kp hb1 (by go_cell)
  have f_r0 : w1.frozen? ⟨w.heap.size + 1 + 1 + 1, 0, none⟩ = false := kf hb1 (by go_simp) (by go_simp)
  have f_r1 : w1.frozen? ⟨w.heap.size + 1 + 1 + 1, 1, none⟩ = false := kf hb1 (by go_simp) (by go_simp)
  have c_r0 : w1.cell? ⟨w.heap.size + 1 + 1 + 1, 0, none⟩ = some (.int .i64 0) := kp hb1 (by go_cell)
  have c_r1 : w1.cell? ⟨w.heap.size + 1 + 1 + 1, 1, none⟩ = some (.int .i64 0) := kp hb1 (by go_cell)
  clear hb1
  go_wp2_with fail
  refine (HC.out _).mono ?_
  rintro e w2 ⟨rfl, hb2⟩
  have hB2 : Below w.heap.size w w2 := below_after (by go_grown) hb2
  have hz2 := hb2.size
  try simp only [World.size_alloc, World.size_setCell, World.size_drew] at hz2
  have hw2 := hB2.size
  replace c_c0 : w2.cell? ⟨w.heap.size, 0, none⟩ = some (.int .i64 ct) := kp hb2 (by go_cell)
  replace c_c1 : w2.cell? ⟨w.heap.size, 1, none⟩ = some (.int .i64 clo) := kp hb2 (by go_cell)
  replace c_c2 : w2.cell? ⟨w.heap.size, 2, none⟩ = some (.int .i64 chi) := kp hb2 (by go_cell)
  replace c_c3 : w2.cell? ⟨w.heap.size, 3, none⟩ = some (.int .i64 cdr) := kp hb2 (by go_cell)
  replace c_d0 : w2.cell? ⟨w.heap.size + 1, 0, none⟩ = some (.int .i64 dl) := kp hb2 (by go_cell)
  replace c_d1 : w2.cell? ⟨w.heap.size + 1, 1, none⟩ = some (.int .i64 dh) := kp hb2 (by go_cell)
  replace c_t0 : w2.cell? ⟨w.heap.size + 1 + 1, 0, none⟩ = some (.int .i64 tlo) := kp hb2 (by go_cell)
  replace c_t1 : w2.cell? ⟨w.heap.size + 1 + 1, 1, none⟩ = some (.int .i64 thi) := kp hb2 (by go_cell)
  replace f_r0 : w2.frozen? ⟨w.heap.size + 1 + 1 + 1, 0, none⟩ = false := kf hb2 (by go_simp) (by go_simp)
  replace f_r1 : w2.frozen? ⟨w.heap.size + 1 + 1 + 1, 1, none⟩ = false := kf hb2 (by go_simp) (by go_simp)
  replace c_r0 : w2.cell? ⟨w.heap.size + 1 + 1 + 1, 0, none⟩ = some (.int .i64 0) := kp hb2 (by go_cell)
  replace c_r1 : w2.cell? ⟨w.heap.size + 1 + 1 + 1, 1, none⟩ = some (.int .i64 0) := kp hb2 (by go_cell)
  have c_s0 : w2.cell? ⟨w1.heap.size, 0, none⟩ = some (.int .i64 s1) := kp hb2 (by go_cell)
  have c_s1 : w2.cell? ⟨w1.heap.size, 1, none⟩ = some (.int .i64 s2) := kp hb2 (by go_cell)
  clear hb2 hB1
  go_wp2_with fail
  refine (HI.out _).mono ?_
  rintro e w3 ⟨rfl, hb3⟩
  have hB3 : Below w.heap.size w w3 := below_after (by go_grown) hb3
  have hz3 := hb3.size
  try simp only [World.size_alloc, World.size_setCell, World.size_drew] at hz3
  have hw3 := hB3.size
  replace c_c0 : w3.cell? ⟨w.heap.size, 0, none⟩ = some (.int .i64 ct) := kp hb3 (by go_cell)
  replace c_c1 : w3.cell? ⟨w.heap.size, 1, none⟩ = some (.int .i64 clo) := kp hb3 (by go_cell)
  replace c_c2 : w3.cell? ⟨w.heap.size, 2, none⟩ = some (.int .i64 chi) := kp hb3 (by go_cell)
  replace c_c3 : w3.cell? ⟨w.heap.size, 3, none⟩ = some (.int .i64 cdr) := kp hb3 (by go_cell)
  replace c_d0 : w3.cell? ⟨w.heap.size + 1, 0, none⟩ = some (.int .i64 dl) := kp hb3 (by go_cell)
  replace c_d1 : w3.cell? ⟨w.heap.size + 1, 1, none⟩ = some (.int .i64 dh) := kp hb3 (by go_cell)
  replace c_t0 : w3.cell? ⟨w.heap.size + 1 + 1, 0, none⟩ = some (.int .i64 tlo) := kp hb3 (by go_cell)
  replace c_t1 : w3.cell? ⟨w.heap.size + 1 + 1, 1, none⟩ = some (.int .i64 thi) := kp hb3 (by go_cell)
  replace f_r0 : w3.frozen? ⟨w.heap.size + 1 + 1 + 1, 0, none⟩ = false := kf hb3 (by go_simp) (by go_simp)
  replace f_r1 : w3.frozen? ⟨w.heap.size + 1 + 1 + 1, 1, none⟩ = false := kf hb3 (by go_simp) (by go_simp)
  replace c_r0 : w3.cell? ⟨w.heap.size + 1 + 1 + 1, 0, none⟩ = some (.int .i64 0) := kp hb3 (by go_cell)
  replace c_r1 : w3.cell? ⟨w.heap.size + 1 + 1 + 1, 1, none⟩ = some (.int .i64 0) := kp hb3 (by go_cell)
  replace c_s0 : w3.cell? ⟨w1.heap.size, 0, none⟩ = some (.int .i64 s1) := kp hb3 (by go_cell)
  replace c_s1 : w3.cell? ⟨w1.heap.size, 1, none⟩ = some (.int .i64 s2) := kp hb3 (by go_cell)
  clear hb3 hB2
  go_wp2_with fail
  refine (HJ.out _).mono ?_
  rintro e w4 ⟨rfl, hb4⟩
  have hB4 : Below w.heap.size w w4 := below_after (by go_grown) hb4
  have hz4 := hb4.size
  try simp only [World.size_alloc, World.size_setCell, World.size_drew] at hz4
  have hw4 := hB4.size
  replace c_c0 : w4.cell? ⟨w.heap.size, 0, none⟩ = some (.int .i64 ct) := kp hb4 (by go_cell)
  replace c_c1 : w4.cell? ⟨w.heap.size, 1, none⟩ = some (.int .i64 clo) := kp hb4 (by go_cell)
  replace c_c2 : w4.cell? ⟨w.heap.size, 2, none⟩ = some (.int .i64 chi) := kp hb4 (by go_cell)
  replace c_c3 : w4.cell? ⟨w.heap.size, 3, none⟩ = some (.int .i64 cdr) := kp hb4 (by go_cell)
  replace c_d0 : w4.cell? ⟨w.heap.size + 1, 0, none⟩ = some (.int .i64 dl) := kp hb4 (by go_cell)
  replace c_d1 : w4.cell? ⟨w.heap.size + 1, 1, none⟩ = some (.int .i64 dh) := kp hb4 (by go_cell)
  replace c_t0 : w4.cell? ⟨w.heap.size + 1 + 1, 0, none⟩ = some (.int .i64 tlo) := kp hb4 (by go_cell)
  replace c_t1 : w4.cell? ⟨w.heap.size + 1 + 1, 1, none⟩ = some (.int .i64 thi) := kp hb4 (by go_cell)
  replace f_r0 : w4.frozen? ⟨w.heap.size + 1 + 1 + 1, 0, none⟩ = false := kf hb4 (by go_simp) (by go_simp)
  replace f_r1 : w4.frozen? ⟨w.heap.size + 1 + 1 + 1, 1, none⟩ = false := kf hb4 (by go_simp) (by go_simp)
  replace c_r0 : w4.cell? ⟨w.heap.size + 1 + 1 + 1, 0, none⟩ = some (.int .i64 0) := kp hb4 (by go_cell)
  replace c_r1 : w4.cell? ⟨w.heap.size + 1 + 1 + 1, 1, none⟩ = some (.int .i64 0) := kp hb4 (by go_cell)
  replace c_s0 : w4.cell? ⟨w1.heap.size, 0, none⟩ = some (.int .i64 s1) := kp hb4 (by go_cell)
  replace c_s1 : w4.cell? ⟨w1.heap.size, 1, none⟩ = some (.int .i64 s2) := kp hb4 (by go_cell)
  clear hb4 hB3
  go_wp2_with fail
  refine (HU.out _).mono ?_
  rintro e w5 ⟨rfl, hb5⟩
  have hB5 : Below w.heap.size w w5 := below_after (by go_grown) hb5
  have hz5 := hb5.size
  try simp only [World.size_alloc, World.size_setCell, World.size_drew] at hz5
  have hw5 := hB5.size
  replace c_c0 : w5.cell? ⟨w.heap.size, 0, none⟩ = some (.int .i64 ct) := kp hb5 (by go_cell)
  replace c_c1 : w5.cell? ⟨w.heap.size, 1, none⟩ = some (.int .i64 clo) := kp hb5 (by go_cell)
  replace c_c2 : w5.cell? ⟨w.heap.size, 2, none⟩ = some (.int .i64 chi) := kp hb5 (by go_cell)
  replace c_c3 : w5.cell? ⟨w.heap.size, 3, none⟩ = some (.int .i64 cdr) := kp hb5 (by go_cell)
  replace c_d0 : w5.cell? ⟨w.heap.size + 1, 0, none⟩ = some (.int .i64 dl) := kp hb5 (by go_cell)
  replace c_d1 : w5.cell? ⟨w.heap.size + 1, 1, none⟩ = some (.int .i64 dh) := kp hb5 (by go_cell)
  replace c_t0 : w5.cell? ⟨w.heap.size + 1 + 1, 0, none⟩ = some (.int .i64 tlo) := kp hb5 (by go_cell)
  replace c_t1 : w5.cell? ⟨w.heap.size + 1 + 1, 1, none⟩ = some (.int .i64 thi) := kp hb5 (by go_cell)
  replace f_r0 : w5.frozen? ⟨w.heap.size + 1 + 1 + 1, 0, none⟩ = false := kf hb5 (by go_simp) (by go_simp)
  replace f_r1 : w5.frozen? ⟨w.heap.size + 1 + 1 + 1, 1, none⟩ = false := kf hb5 (by go_simp) (by go_simp)
  replace c_r0 : w5.cell? ⟨w.heap.size + 1 + 1 + 1, 0, none⟩ = some (.int .i64 0) := kp hb5 (by go_cell)
  replace c_r1 : w5.cell? ⟨w.heap.size + 1 + 1 + 1, 1, none⟩ = some (.int .i64 0) := kp hb5 (by go_cell)
  replace c_s0 : w5.cell? ⟨w1.heap.size, 0, none⟩ = some (.int .i64 s1) := kp hb5 (by go_cell)
  replace c_s1 : w5.cell? ⟨w1.heap.size, 1, none⟩ = some (.int .i64 s2) := kp hb5 (by go_cell)
  clear hb5 hB4
  go_wp2_with fail
  refine (HB.out _).mono ?_
  rintro e w6 ⟨rfl, hb6⟩
  have hB6 : Below w.heap.size w w6 := below_after (by go_grown) hb6
  have hz6 := hb6.size
  try simp only [World.size_alloc, World.size_setCell, World.size_drew] at hz6
  have hw6 := hB6.size
  replace c_c0 : w6.cell? ⟨w.heap.size, 0, none⟩ = some (.int .i64 ct) := kp hb6 (by go_cell)
  replace c_c1 : w6.cell? ⟨w.heap.size, 1, none⟩ = some (.int .i64 clo) := kp hb6 (by go_cell)
  replace c_c2 : w6.cell? ⟨w.heap.size, 2, none⟩ = some (.int .i64 chi) := kp hb6 (by go_cell)
  replace c_c3 : w6.cell? ⟨w.heap.size, 3, none⟩ = some (.int .i64 cdr) := kp hb6 (by go_cell)
  replace c_d0 : w6.cell? ⟨w.heap.size + 1, 0, none⟩ = some (.int .i64 dl) := kp hb6 (by go_cell)
  replace c_d1 : w6.cell? ⟨w.heap.size + 1, 1, none⟩ = some (.int .i64 dh) := kp hb6 (by go_cell)
  replace c_t0 : w6.cell? ⟨w.heap.size + 1 + 1, 0, none⟩ = some (.int .i64 tlo) := kp hb6 (by go_cell)
  replace c_t1 : w6.cell? ⟨w.heap.size + 1 + 1, 1, none⟩ = some (.int .i64 thi) := kp hb6 (by go_cell)
  replace f_r0 : w6.frozen? ⟨w.heap.size + 1 + 1 + 1, 0, none⟩ = false := kf hb6 (by go_simp) (by go_simp)
  replace f_r1 : w6.frozen? ⟨w.heap.size + 1 + 1 + 1, 1, none⟩ = false := kf hb6 (by go_simp) (by go_simp)
  replace c_r0 : w6.cell? ⟨w.heap.size + 1 + 1 + 1, 0, none⟩ = some (.int .i64 0) := kp hb6 (by go_cell)
  replace c_r1 : w6.cell? ⟨w.heap.size + 1 + 1 + 1, 1, none⟩ = some (.int .i64 0) := kp hb6 (by go_cell)
  replace c_s0 : w6.cell? ⟨w1.heap.size, 0, none⟩ = some (.int .i64 s1) := kp hb6 (by go_cell)
  replace c_s1 : w6.cell? ⟨w1.heap.size, 1, none⟩ = some (.int .i64 s2) := kp hb6 (by go_cell)
  clear hb6 hB5
  go_wp2_with fail
  first | (refine ret_span rfl rfl rfl (set2s _ _ (by go_simp) (by go_simp)) ⟨rfl, by go_grown⟩) | (refine ret_span rfl rfl rfl ⟨by go_cell, by go_cell⟩ ⟨rfl, by go_grown⟩)
set_option maxHeartbeats 1600000 in
set_option maxRecDepth 100000 in
theorem Two_y00 (A : Option Addr) (n c : Nat) (xs : List Wt) (ct clo chi cdr dl dh sent got tlo thi : Int) (w : World) (hn : xs.length = n) (hbig : n ≤ 1000000) (hx : Wts? w.heap.size w A xs) (hs : (wValid xs && depB dl dh) = true) (hc : clkB ct clo chi cdr = true) (h1 : readB sent = true) (h2 : readB got = true) (h3 : decide (sent ≤ got) = true) (h4 : timB tlo thi = true) (hm1 : got - sent - wrS cdr (got - sent) < 0) (hm2 : 0 - thi < 0) (hn0 : ¬ got - sent + wrS cdr (got - sent) - tlo < 0) :
    Calls Try.prog 65 #[.slice A n c, .agg #[.int .i64 ct, .int .i64 clo, .int .i64 chi, .int .i64 cdr], .agg #[.int .i64 dl, .int .i64 dh], .int .i64 sent, .int .i64 got, .agg #[.int .i64 tlo, .int .i64 thi]] w fun e w' => e = .returned (.tuple #[.agg #[.int .i64 (distsS (speedP dl dh xs).1 (speedP dl dh xs).2 0 (got - sent + wrS cdr (got - sent) - tlo) 2000).1, .int .i64 (distsS (speedP dl dh xs).1 (speedP dl dh xs).2 0 (got - sent + wrS cdr (got - sent) - tlo) 2000).2.1], .int .i64 (distsS (speedP dl dh xs).1 (speedP dl dh xs).2 0 (got - sent + wrS cdr (got - sent) - tlo) 2000).2.2]) ∧ Below w.heap.size w w' := by
  have HXS := Lib.hid (hxs_of hx)
  obtain ⟨ct1, ct2, cr1, cr2, co1, co2, co3⟩ := clkB_bounds hc
  obtain ⟨se1, se2⟩ := readB_bounds h1
  obtain ⟨go1, go2⟩ := readB_bounds h2
  obtain ⟨ti1, ti2, ti3⟩ := (timB_iff tlo thi).1 h4
  obtain ⟨sa, sb, sc⟩ := speedP_ok (and_left hs) (and_right hs)
  have hle9 : sent ≤ got := of_decide_eq_true h3
  have hS := fun W h => Speed_any A n c xs dl dh W hn hbig h
  rw [speedS_ok hs] at hS
  have hC := fun W => CValid_any ct clo chi cdr W
  rw [hc] at hC
  have hI := fun W => bel (isReading17_any sent W)
  rw [h1] at hI
  have hJ := fun W => bel (isReading17_any got W)
  rw [h2] at hJ
  have hle : ¬ got < sent := by have h9 := h3; simp only [decide_eq_true_eq] at h9; omega
  have hU := fun W => upTo_any tlo thi 1000000000 W
  rw [show (decide (0 ≤ tlo) && decide (tlo ≤ thi) && decide (thi ≤ 1000000000)) = true from h4] at hU
  have pc := prod_clk (d := cdr) (g := got - sent) cr1 cr2 (by omega) (by omega)
  have hwr : (cdr * (got - sent) + 1000000 - 1).tdiv 1000000 = wrS cdr (got - sent) := by unfold wrS; rw [Int.tdiv_eq_ediv_of_nonneg (by omega)]; omega
  have b1 : 0 ≤ wrS cdr (got - sent) := by unfold wrS; omega
  have b2 : wrS cdr (got - sent) ≤ 1000001 := by unfold wrS; omega
  obtain ⟨L, hL⟩ : ∃ L, 0 - thi = L := ⟨_, rfl⟩
  have q1 := prod_sp (a := (speedP dl dh xs).1) (b := 0) (by omega) (by omega) (by omega) (by omega)
  have q2 := prod_sp (a := (speedP dl dh xs).2) (b := (got - sent + wrS cdr (got - sent) - tlo)) (by omega) (by omega) (by omega) (by omega)
  have hE := fun W => dists2000_any (speedP dl dh xs).1 (speedP dl dh xs).2 0 (got - sent + wrS cdr (got - sent) - tlo) W q1.1 q1.2 q2.1 q2.2
  generalize distsS (speedP dl dh xs).1 (speedP dl dh xs).2 0 (got - sent + wrS cdr (got - sent) - tlo) 2000 = R at *
  obtain ⟨R1, R2, R3⟩ := R
  simp only at hE
  clear q1 q2
  generalize (speedP dl dh xs).1 = s1 at *
  generalize (speedP dl dh xs).2 = s2 at *
  have hg0 : 0 ≤ got - sent := by omega
  have hg1 : got - sent ≤ 1000000000 := by omega
  generalize wrS cdr (got - sent) = wr at *
  generalize hg : got - sent = g at *
  generalize hp : cdr * g = P at *
  have hB := fun W => Sub_any 0 (g + wr) tlo thi W
  rw [show subS 0 (g + wr) tlo thi = (L, g + wr - tlo, 0) by
    rw [← hL]
    have e1 : (vld 0 (g + wr) && vld tlo thi) = true := by simp [vld]; omega
    have e2 : vld (0 - thi) (g + wr - tlo) = true := by simp [vld]; omega
    rw [subS, if_pos e1, leastS, if_pos e2]] at hB
  have HS := Lib.hid hS
  have HC := Lib.hid hC
  have HI := Lib.hid hI
  have HJ := Lib.hid hJ
  have HU := Lib.hid hU
  have HE := Lib.hid hE
  have HB := Lib.hid hB
  clear hx hn hc h1 h2 h3 h4 hs hS hC hI hJ hU hE hB
  go_enter Try.func65, Try.ntmps65
  go_wp2_with fail
  refine (HS.out _ (HXS.out _ (by go_grown))).mono ?_
  rintro e w1 ⟨rfl, hb1⟩
  have hB1 : Below w.heap.size w w1 := below_after (by go_grown) hb1
  have hz1 := hb1.size
  try simp only [World.size_alloc, World.size_setCell, World.size_drew] at hz1
  have hw1 := hB1.size
  have c_c0 : w1.cell? ⟨w.heap.size, 0, none⟩ = some (.int .i64 ct) := kp hb1 (by go_cell)
  have c_c1 : w1.cell? ⟨w.heap.size, 1, none⟩ = some (.int .i64 clo) := kp hb1 (by go_cell)
  have c_c2 : w1.cell? ⟨w.heap.size, 2, none⟩ = some (.int .i64 chi) := kp hb1 (by go_cell)
  have c_c3 : w1.cell? ⟨w.heap.size, 3, none⟩ = some (.int .i64 cdr) := kp hb1 (by go_cell)
  have c_d0 : w1.cell? ⟨w.heap.size + 1, 0, none⟩ = some (.int .i64 dl) := kp hb1 (by go_cell)
  have c_d1 : w1.cell? ⟨w.heap.size + 1, 1, none⟩ = some (.int .i64 dh) := kp hb1 (by go_cell)
  have c_t0 : w1.cell? ⟨w.heap.size + 1 + 1, 0, none⟩ = some (.int .i64 tlo) := kp hb1 (by go_cell)
  have c_t1 : w1.cell? ⟨w.heap.size + 1 + 1, 1, none⟩ = some (.int .i64 thi) := kp hb1 (by go_cell)
  have f_r0 : w1.frozen? ⟨w.heap.size + 1 + 1 + 1, 0, none⟩ = false := kf hb1 (by go_simp) (by go_simp)
  have f_r1 : w1.frozen? ⟨w.heap.size + 1 + 1 + 1, 1, none⟩ = false := kf hb1 (by go_simp) (by go_simp)
  have c_r0 : w1.cell? ⟨w.heap.size + 1 + 1 + 1, 0, none⟩ = some (.int .i64 0) := kp hb1 (by go_cell)
  have c_r1 : w1.cell? ⟨w.heap.size + 1 + 1 + 1, 1, none⟩ = some (.int .i64 0) := kp hb1 (by go_cell)
  clear hb1
  go_wp2_with fail
  refine (HC.out _).mono ?_
  rintro e w2 ⟨rfl, hb2⟩
  have hB2 : Below w.heap.size w w2 := below_after (by go_grown) hb2
  have hz2 := hb2.size
  try simp only [World.size_alloc, World.size_setCell, World.size_drew] at hz2
  have hw2 := hB2.size
  replace c_c0 : w2.cell? ⟨w.heap.size, 0, none⟩ = some (.int .i64 ct) := kp hb2 (by go_cell)
  replace c_c1 : w2.cell? ⟨w.heap.size, 1, none⟩ = some (.int .i64 clo) := kp hb2 (by go_cell)
  replace c_c2 : w2.cell? ⟨w.heap.size, 2, none⟩ = some (.int .i64 chi) := kp hb2 (by go_cell)
  replace c_c3 : w2.cell? ⟨w.heap.size, 3, none⟩ = some (.int .i64 cdr) := kp hb2 (by go_cell)
  replace c_d0 : w2.cell? ⟨w.heap.size + 1, 0, none⟩ = some (.int .i64 dl) := kp hb2 (by go_cell)
  replace c_d1 : w2.cell? ⟨w.heap.size + 1, 1, none⟩ = some (.int .i64 dh) := kp hb2 (by go_cell)
  replace c_t0 : w2.cell? ⟨w.heap.size + 1 + 1, 0, none⟩ = some (.int .i64 tlo) := kp hb2 (by go_cell)
  replace c_t1 : w2.cell? ⟨w.heap.size + 1 + 1, 1, none⟩ = some (.int .i64 thi) := kp hb2 (by go_cell)
  replace f_r0 : w2.frozen? ⟨w.heap.size + 1 + 1 + 1, 0, none⟩ = false := kf hb2 (by go_simp) (by go_simp)
  replace f_r1 : w2.frozen? ⟨w.heap.size + 1 + 1 + 1, 1, none⟩ = false := kf hb2 (by go_simp) (by go_simp)
  replace c_r0 : w2.cell? ⟨w.heap.size + 1 + 1 + 1, 0, none⟩ = some (.int .i64 0) := kp hb2 (by go_cell)
  replace c_r1 : w2.cell? ⟨w.heap.size + 1 + 1 + 1, 1, none⟩ = some (.int .i64 0) := kp hb2 (by go_cell)
  have c_s0 : w2.cell? ⟨w1.heap.size, 0, none⟩ = some (.int .i64 s1) := kp hb2 (by go_cell)
  have c_s1 : w2.cell? ⟨w1.heap.size, 1, none⟩ = some (.int .i64 s2) := kp hb2 (by go_cell)
  clear hb2 hB1
  go_wp2_with fail
  refine (HI.out _).mono ?_
  rintro e w3 ⟨rfl, hb3⟩
  have hB3 : Below w.heap.size w w3 := below_after (by go_grown) hb3
  have hz3 := hb3.size
  try simp only [World.size_alloc, World.size_setCell, World.size_drew] at hz3
  have hw3 := hB3.size
  replace c_c0 : w3.cell? ⟨w.heap.size, 0, none⟩ = some (.int .i64 ct) := kp hb3 (by go_cell)
  replace c_c1 : w3.cell? ⟨w.heap.size, 1, none⟩ = some (.int .i64 clo) := kp hb3 (by go_cell)
  replace c_c2 : w3.cell? ⟨w.heap.size, 2, none⟩ = some (.int .i64 chi) := kp hb3 (by go_cell)
  replace c_c3 : w3.cell? ⟨w.heap.size, 3, none⟩ = some (.int .i64 cdr) := kp hb3 (by go_cell)
  replace c_d0 : w3.cell? ⟨w.heap.size + 1, 0, none⟩ = some (.int .i64 dl) := kp hb3 (by go_cell)
  replace c_d1 : w3.cell? ⟨w.heap.size + 1, 1, none⟩ = some (.int .i64 dh) := kp hb3 (by go_cell)
  replace c_t0 : w3.cell? ⟨w.heap.size + 1 + 1, 0, none⟩ = some (.int .i64 tlo) := kp hb3 (by go_cell)
  replace c_t1 : w3.cell? ⟨w.heap.size + 1 + 1, 1, none⟩ = some (.int .i64 thi) := kp hb3 (by go_cell)
  replace f_r0 : w3.frozen? ⟨w.heap.size + 1 + 1 + 1, 0, none⟩ = false := kf hb3 (by go_simp) (by go_simp)
  replace f_r1 : w3.frozen? ⟨w.heap.size + 1 + 1 + 1, 1, none⟩ = false := kf hb3 (by go_simp) (by go_simp)
  replace c_r0 : w3.cell? ⟨w.heap.size + 1 + 1 + 1, 0, none⟩ = some (.int .i64 0) := kp hb3 (by go_cell)
  replace c_r1 : w3.cell? ⟨w.heap.size + 1 + 1 + 1, 1, none⟩ = some (.int .i64 0) := kp hb3 (by go_cell)
  replace c_s0 : w3.cell? ⟨w1.heap.size, 0, none⟩ = some (.int .i64 s1) := kp hb3 (by go_cell)
  replace c_s1 : w3.cell? ⟨w1.heap.size, 1, none⟩ = some (.int .i64 s2) := kp hb3 (by go_cell)
  clear hb3 hB2
  go_wp2_with fail
  refine (HJ.out _).mono ?_
  rintro e w4 ⟨rfl, hb4⟩
  have hB4 : Below w.heap.size w w4 := below_after (by go_grown) hb4
  have hz4 := hb4.size
  try simp only [World.size_alloc, World.size_setCell, World.size_drew] at hz4
  have hw4 := hB4.size
  replace c_c0 : w4.cell? ⟨w.heap.size, 0, none⟩ = some (.int .i64 ct) := kp hb4 (by go_cell)
  replace c_c1 : w4.cell? ⟨w.heap.size, 1, none⟩ = some (.int .i64 clo) := kp hb4 (by go_cell)
  replace c_c2 : w4.cell? ⟨w.heap.size, 2, none⟩ = some (.int .i64 chi) := kp hb4 (by go_cell)
  replace c_c3 : w4.cell? ⟨w.heap.size, 3, none⟩ = some (.int .i64 cdr) := kp hb4 (by go_cell)
  replace c_d0 : w4.cell? ⟨w.heap.size + 1, 0, none⟩ = some (.int .i64 dl) := kp hb4 (by go_cell)
  replace c_d1 : w4.cell? ⟨w.heap.size + 1, 1, none⟩ = some (.int .i64 dh) := kp hb4 (by go_cell)
  replace c_t0 : w4.cell? ⟨w.heap.size + 1 + 1, 0, none⟩ = some (.int .i64 tlo) := kp hb4 (by go_cell)
  replace c_t1 : w4.cell? ⟨w.heap.size + 1 + 1, 1, none⟩ = some (.int .i64 thi) := kp hb4 (by go_cell)
  replace f_r0 : w4.frozen? ⟨w.heap.size + 1 + 1 + 1, 0, none⟩ = false := kf hb4 (by go_simp) (by go_simp)
  replace f_r1 : w4.frozen? ⟨w.heap.size + 1 + 1 + 1, 1, none⟩ = false := kf hb4 (by go_simp) (by go_simp)
  replace c_r0 : w4.cell? ⟨w.heap.size + 1 + 1 + 1, 0, none⟩ = some (.int .i64 0) := kp hb4 (by go_cell)
  replace c_r1 : w4.cell? ⟨w.heap.size + 1 + 1 + 1, 1, none⟩ = some (.int .i64 0) := kp hb4 (by go_cell)
  replace c_s0 : w4.cell? ⟨w1.heap.size, 0, none⟩ = some (.int .i64 s1) := kp hb4 (by go_cell)
  replace c_s1 : w4.cell? ⟨w1.heap.size, 1, none⟩ = some (.int .i64 s2) := kp hb4 (by go_cell)
  clear hb4 hB3
  go_wp2_with fail
  refine (HU.out _).mono ?_
  rintro e w5 ⟨rfl, hb5⟩
  have hB5 : Below w.heap.size w w5 := below_after (by go_grown) hb5
  have hz5 := hb5.size
  try simp only [World.size_alloc, World.size_setCell, World.size_drew] at hz5
  have hw5 := hB5.size
  replace c_c0 : w5.cell? ⟨w.heap.size, 0, none⟩ = some (.int .i64 ct) := kp hb5 (by go_cell)
  replace c_c1 : w5.cell? ⟨w.heap.size, 1, none⟩ = some (.int .i64 clo) := kp hb5 (by go_cell)
  replace c_c2 : w5.cell? ⟨w.heap.size, 2, none⟩ = some (.int .i64 chi) := kp hb5 (by go_cell)
  replace c_c3 : w5.cell? ⟨w.heap.size, 3, none⟩ = some (.int .i64 cdr) := kp hb5 (by go_cell)
  replace c_d0 : w5.cell? ⟨w.heap.size + 1, 0, none⟩ = some (.int .i64 dl) := kp hb5 (by go_cell)
  replace c_d1 : w5.cell? ⟨w.heap.size + 1, 1, none⟩ = some (.int .i64 dh) := kp hb5 (by go_cell)
  replace c_t0 : w5.cell? ⟨w.heap.size + 1 + 1, 0, none⟩ = some (.int .i64 tlo) := kp hb5 (by go_cell)
  replace c_t1 : w5.cell? ⟨w.heap.size + 1 + 1, 1, none⟩ = some (.int .i64 thi) := kp hb5 (by go_cell)
  replace f_r0 : w5.frozen? ⟨w.heap.size + 1 + 1 + 1, 0, none⟩ = false := kf hb5 (by go_simp) (by go_simp)
  replace f_r1 : w5.frozen? ⟨w.heap.size + 1 + 1 + 1, 1, none⟩ = false := kf hb5 (by go_simp) (by go_simp)
  replace c_r0 : w5.cell? ⟨w.heap.size + 1 + 1 + 1, 0, none⟩ = some (.int .i64 0) := kp hb5 (by go_cell)
  replace c_r1 : w5.cell? ⟨w.heap.size + 1 + 1 + 1, 1, none⟩ = some (.int .i64 0) := kp hb5 (by go_cell)
  replace c_s0 : w5.cell? ⟨w1.heap.size, 0, none⟩ = some (.int .i64 s1) := kp hb5 (by go_cell)
  replace c_s1 : w5.cell? ⟨w1.heap.size, 1, none⟩ = some (.int .i64 s2) := kp hb5 (by go_cell)
  clear hb5 hB4
  go_wp2_with fail
  refine (HB.out _).mono ?_
  rintro e w6 ⟨rfl, hb6⟩
  have hB6 : Below w.heap.size w w6 := below_after (by go_grown) hb6
  have hz6 := hb6.size
  try simp only [World.size_alloc, World.size_setCell, World.size_drew] at hz6
  have hw6 := hB6.size
  replace c_c0 : w6.cell? ⟨w.heap.size, 0, none⟩ = some (.int .i64 ct) := kp hb6 (by go_cell)
  replace c_c1 : w6.cell? ⟨w.heap.size, 1, none⟩ = some (.int .i64 clo) := kp hb6 (by go_cell)
  replace c_c2 : w6.cell? ⟨w.heap.size, 2, none⟩ = some (.int .i64 chi) := kp hb6 (by go_cell)
  replace c_c3 : w6.cell? ⟨w.heap.size, 3, none⟩ = some (.int .i64 cdr) := kp hb6 (by go_cell)
  replace c_d0 : w6.cell? ⟨w.heap.size + 1, 0, none⟩ = some (.int .i64 dl) := kp hb6 (by go_cell)
  replace c_d1 : w6.cell? ⟨w.heap.size + 1, 1, none⟩ = some (.int .i64 dh) := kp hb6 (by go_cell)
  replace c_t0 : w6.cell? ⟨w.heap.size + 1 + 1, 0, none⟩ = some (.int .i64 tlo) := kp hb6 (by go_cell)
  replace c_t1 : w6.cell? ⟨w.heap.size + 1 + 1, 1, none⟩ = some (.int .i64 thi) := kp hb6 (by go_cell)
  replace f_r0 : w6.frozen? ⟨w.heap.size + 1 + 1 + 1, 0, none⟩ = false := kf hb6 (by go_simp) (by go_simp)
  replace f_r1 : w6.frozen? ⟨w.heap.size + 1 + 1 + 1, 1, none⟩ = false := kf hb6 (by go_simp) (by go_simp)
  replace c_r0 : w6.cell? ⟨w.heap.size + 1 + 1 + 1, 0, none⟩ = some (.int .i64 0) := kp hb6 (by go_cell)
  replace c_r1 : w6.cell? ⟨w.heap.size + 1 + 1 + 1, 1, none⟩ = some (.int .i64 0) := kp hb6 (by go_cell)
  replace c_s0 : w6.cell? ⟨w1.heap.size, 0, none⟩ = some (.int .i64 s1) := kp hb6 (by go_cell)
  replace c_s1 : w6.cell? ⟨w1.heap.size, 1, none⟩ = some (.int .i64 s2) := kp hb6 (by go_cell)
  clear hb6 hB5
  go_wp2_with fail
  refine (HE.out _).mono ?_
  rintro e w7 ⟨rfl, hb7⟩
  have hB7 : Below w.heap.size w w7 := below_after (by go_grown) hb7
  have hz7 := hb7.size
  try simp only [World.size_alloc, World.size_setCell, World.size_drew] at hz7
  have hw7 := hB7.size
  replace c_c0 : w7.cell? ⟨w.heap.size, 0, none⟩ = some (.int .i64 ct) := kp hb7 (by go_cell)
  replace c_c1 : w7.cell? ⟨w.heap.size, 1, none⟩ = some (.int .i64 clo) := kp hb7 (by go_cell)
  replace c_c2 : w7.cell? ⟨w.heap.size, 2, none⟩ = some (.int .i64 chi) := kp hb7 (by go_cell)
  replace c_c3 : w7.cell? ⟨w.heap.size, 3, none⟩ = some (.int .i64 cdr) := kp hb7 (by go_cell)
  replace c_d0 : w7.cell? ⟨w.heap.size + 1, 0, none⟩ = some (.int .i64 dl) := kp hb7 (by go_cell)
  replace c_d1 : w7.cell? ⟨w.heap.size + 1, 1, none⟩ = some (.int .i64 dh) := kp hb7 (by go_cell)
  replace c_t0 : w7.cell? ⟨w.heap.size + 1 + 1, 0, none⟩ = some (.int .i64 tlo) := kp hb7 (by go_cell)
  replace c_t1 : w7.cell? ⟨w.heap.size + 1 + 1, 1, none⟩ = some (.int .i64 thi) := kp hb7 (by go_cell)
  replace f_r0 : w7.frozen? ⟨w.heap.size + 1 + 1 + 1, 0, none⟩ = false := kf hb7 (by go_simp) (by go_simp)
  replace f_r1 : w7.frozen? ⟨w.heap.size + 1 + 1 + 1, 1, none⟩ = false := kf hb7 (by go_simp) (by go_simp)
  replace c_r0 : w7.cell? ⟨w.heap.size + 1 + 1 + 1, 0, none⟩ = some (.int .i64 0) := kp hb7 (by go_cell)
  replace c_r1 : w7.cell? ⟨w.heap.size + 1 + 1 + 1, 1, none⟩ = some (.int .i64 0) := kp hb7 (by go_cell)
  replace c_s0 : w7.cell? ⟨w1.heap.size, 0, none⟩ = some (.int .i64 s1) := kp hb7 (by go_cell)
  replace c_s1 : w7.cell? ⟨w1.heap.size, 1, none⟩ = some (.int .i64 s2) := kp hb7 (by go_cell)
  have f_u0 : w7.frozen? ⟨w6.heap.size, 0, none⟩ = false := kf hb7 (by go_simp) (by go_simp)
  have f_u1 : w7.frozen? ⟨w6.heap.size, 1, none⟩ = false := kf hb7 (by go_simp) (by go_simp)
  have c_u0 : w7.cell? ⟨w6.heap.size, 0, none⟩ = some (.int .i64 0) := kp hb7 (by go_cell)
  have c_u1 : w7.cell? ⟨w6.heap.size, 1, none⟩ = some (.int .i64 (g + wr - tlo)) := kp hb7 (by go_cell)
  clear hb7 hB6
  go_wp2_with fail
  first | (refine ret_span rfl rfl rfl (set2s _ _ (by go_simp) (by go_simp)) ⟨rfl, by go_grown⟩) | (refine ret_span rfl rfl rfl ⟨by go_cell, by go_cell⟩ ⟨rfl, by go_grown⟩)
set_option maxHeartbeats 1600000 in
set_option maxRecDepth 100000 in
theorem Two_y01 (A : Option Addr) (n c : Nat) (xs : List Wt) (ct clo chi cdr dl dh sent got tlo thi : Int) (w : World) (hn : xs.length = n) (hbig : n ≤ 1000000) (hx : Wts? w.heap.size w A xs) (hs : (wValid xs && depB dl dh) = true) (hc : clkB ct clo chi cdr = true) (h1 : readB sent = true) (h2 : readB got = true) (h3 : decide (sent ≤ got) = true) (h4 : timB tlo thi = true) (hm1 : got - sent - wrS cdr (got - sent) < 0) (hm2 : 0 ≤ 0 - thi) (hn0 : ¬ got - sent + wrS cdr (got - sent) - tlo < 0) :
    Calls Try.prog 65 #[.slice A n c, .agg #[.int .i64 ct, .int .i64 clo, .int .i64 chi, .int .i64 cdr], .agg #[.int .i64 dl, .int .i64 dh], .int .i64 sent, .int .i64 got, .agg #[.int .i64 tlo, .int .i64 thi]] w fun e w' => e = .returned (.tuple #[.agg #[.int .i64 (distsS (speedP dl dh xs).1 (speedP dl dh xs).2 (0 - thi) (got - sent + wrS cdr (got - sent) - tlo) 2000).1, .int .i64 (distsS (speedP dl dh xs).1 (speedP dl dh xs).2 (0 - thi) (got - sent + wrS cdr (got - sent) - tlo) 2000).2.1], .int .i64 (distsS (speedP dl dh xs).1 (speedP dl dh xs).2 (0 - thi) (got - sent + wrS cdr (got - sent) - tlo) 2000).2.2]) ∧ Below w.heap.size w w' := by
  have HXS := Lib.hid (hxs_of hx)
  obtain ⟨ct1, ct2, cr1, cr2, co1, co2, co3⟩ := clkB_bounds hc
  obtain ⟨se1, se2⟩ := readB_bounds h1
  obtain ⟨go1, go2⟩ := readB_bounds h2
  obtain ⟨ti1, ti2, ti3⟩ := (timB_iff tlo thi).1 h4
  obtain ⟨sa, sb, sc⟩ := speedP_ok (and_left hs) (and_right hs)
  have hle9 : sent ≤ got := of_decide_eq_true h3
  have hS := fun W h => Speed_any A n c xs dl dh W hn hbig h
  rw [speedS_ok hs] at hS
  have hC := fun W => CValid_any ct clo chi cdr W
  rw [hc] at hC
  have hI := fun W => bel (isReading17_any sent W)
  rw [h1] at hI
  have hJ := fun W => bel (isReading17_any got W)
  rw [h2] at hJ
  have hle : ¬ got < sent := by have h9 := h3; simp only [decide_eq_true_eq] at h9; omega
  have hU := fun W => upTo_any tlo thi 1000000000 W
  rw [show (decide (0 ≤ tlo) && decide (tlo ≤ thi) && decide (thi ≤ 1000000000)) = true from h4] at hU
  have pc := prod_clk (d := cdr) (g := got - sent) cr1 cr2 (by omega) (by omega)
  have hwr : (cdr * (got - sent) + 1000000 - 1).tdiv 1000000 = wrS cdr (got - sent) := by unfold wrS; rw [Int.tdiv_eq_ediv_of_nonneg (by omega)]; omega
  have b1 : 0 ≤ wrS cdr (got - sent) := by unfold wrS; omega
  have b2 : wrS cdr (got - sent) ≤ 1000001 := by unfold wrS; omega
  generalize hL : 0 - thi = L at *
  have q1 := prod_sp (a := (speedP dl dh xs).1) (b := L) (by omega) (by omega) (by omega) (by omega)
  have q2 := prod_sp (a := (speedP dl dh xs).2) (b := (got - sent + wrS cdr (got - sent) - tlo)) (by omega) (by omega) (by omega) (by omega)
  have hE := fun W => dists2000_any (speedP dl dh xs).1 (speedP dl dh xs).2 L (got - sent + wrS cdr (got - sent) - tlo) W q1.1 q1.2 q2.1 q2.2
  generalize distsS (speedP dl dh xs).1 (speedP dl dh xs).2 L (got - sent + wrS cdr (got - sent) - tlo) 2000 = R at *
  obtain ⟨R1, R2, R3⟩ := R
  simp only at hE
  clear q1 q2
  generalize (speedP dl dh xs).1 = s1 at *
  generalize (speedP dl dh xs).2 = s2 at *
  have hg0 : 0 ≤ got - sent := by omega
  have hg1 : got - sent ≤ 1000000000 := by omega
  generalize wrS cdr (got - sent) = wr at *
  generalize hg : got - sent = g at *
  generalize hp : cdr * g = P at *
  have hB := fun W => Sub_any 0 (g + wr) tlo thi W
  rw [show subS 0 (g + wr) tlo thi = (L, g + wr - tlo, 0) by
    rw [← hL]
    have e1 : (vld 0 (g + wr) && vld tlo thi) = true := by simp [vld]; omega
    have e2 : vld (0 - thi) (g + wr - tlo) = true := by simp [vld]; omega
    rw [subS, if_pos e1, leastS, if_pos e2]] at hB
  have HS := Lib.hid hS
  have HC := Lib.hid hC
  have HI := Lib.hid hI
  have HJ := Lib.hid hJ
  have HU := Lib.hid hU
  have HE := Lib.hid hE
  have HB := Lib.hid hB
  clear hx hn hc h1 h2 h3 h4 hs hS hC hI hJ hU hE hB
  go_enter Try.func65, Try.ntmps65
  go_wp2_with fail
  refine (HS.out _ (HXS.out _ (by go_grown))).mono ?_
  rintro e w1 ⟨rfl, hb1⟩
  have hB1 : Below w.heap.size w w1 := below_after (by go_grown) hb1
  have hz1 := hb1.size
  try simp only [World.size_alloc, World.size_setCell, World.size_drew] at hz1
  have hw1 := hB1.size
  have c_c0 : w1.cell? ⟨w.heap.size, 0, none⟩ = some (.int .i64 ct) := kp hb1 (by go_cell)
  have c_c1 : w1.cell? ⟨w.heap.size, 1, none⟩ = some (.int .i64 clo) := kp hb1 (by go_cell)
  have c_c2 : w1.cell? ⟨w.heap.size, 2, none⟩ = some (.int .i64 chi) := kp hb1 (by go_cell)
  have c_c3 : w1.cell? ⟨w.heap.size, 3, none⟩ = some (.int .i64 cdr) := kp hb1 (by go_cell)
  have c_d0 : w1.cell? ⟨w.heap.size + 1, 0, none⟩ = some (.int .i64 dl) := kp hb1 (by go_cell)
  have c_d1 : w1.cell? ⟨w.heap.size + 1, 1, none⟩ = some (.int .i64 dh) := kp hb1 (by go_cell)
  have c_t0 : w1.cell? ⟨w.heap.size + 1 + 1, 0, none⟩ = some (.int .i64 tlo) := kp hb1 (by go_cell)
  have c_t1 : w1.cell? ⟨w.heap.size + 1 + 1, 1, none⟩ = some (.int .i64 thi) := kp hb1 (by go_cell)
  have f_r0 : w1.frozen? ⟨w.heap.size + 1 + 1 + 1, 0, none⟩ = false := kf hb1 (by go_simp) (by go_simp)
  have f_r1 : w1.frozen? ⟨w.heap.size + 1 + 1 + 1, 1, none⟩ = false := kf hb1 (by go_simp) (by go_simp)
  have c_r0 : w1.cell? ⟨w.heap.size + 1 + 1 + 1, 0, none⟩ = some (.int .i64 0) := kp hb1 (by go_cell)
  have c_r1 : w1.cell? ⟨w.heap.size + 1 + 1 + 1, 1, none⟩ = some (.int .i64 0) := kp hb1 (by go_cell)
  clear hb1
  go_wp2_with fail
  refine (HC.out _).mono ?_
  rintro e w2 ⟨rfl, hb2⟩
  have hB2 : Below w.heap.size w w2 := below_after (by go_grown) hb2
  have hz2 := hb2.size
  try simp only [World.size_alloc, World.size_setCell, World.size_drew] at hz2
  have hw2 := hB2.size
  replace c_c0 : w2.cell? ⟨w.heap.size, 0, none⟩ = some (.int .i64 ct) := kp hb2 (by go_cell)
  replace c_c1 : w2.cell? ⟨w.heap.size, 1, none⟩ = some (.int .i64 clo) := kp hb2 (by go_cell)
  replace c_c2 : w2.cell? ⟨w.heap.size, 2, none⟩ = some (.int .i64 chi) := kp hb2 (by go_cell)
  replace c_c3 : w2.cell? ⟨w.heap.size, 3, none⟩ = some (.int .i64 cdr) := kp hb2 (by go_cell)
  replace c_d0 : w2.cell? ⟨w.heap.size + 1, 0, none⟩ = some (.int .i64 dl) := kp hb2 (by go_cell)
  replace c_d1 : w2.cell? ⟨w.heap.size + 1, 1, none⟩ = some (.int .i64 dh) := kp hb2 (by go_cell)
  replace c_t0 : w2.cell? ⟨w.heap.size + 1 + 1, 0, none⟩ = some (.int .i64 tlo) := kp hb2 (by go_cell)
  replace c_t1 : w2.cell? ⟨w.heap.size + 1 + 1, 1, none⟩ = some (.int .i64 thi) := kp hb2 (by go_cell)
  replace f_r0 : w2.frozen? ⟨w.heap.size + 1 + 1 + 1, 0, none⟩ = false := kf hb2 (by go_simp) (by go_simp)
  replace f_r1 : w2.frozen? ⟨w.heap.size + 1 + 1 + 1, 1, none⟩ = false := kf hb2 (by go_simp) (by go_simp)
  replace c_r0 : w2.cell? ⟨w.heap.size + 1 + 1 + 1, 0, none⟩ = some (.int .i64 0) := kp hb2 (by go_cell)
  replace c_r1 : w2.cell? ⟨w.heap.size + 1 + 1 + 1, 1, none⟩ = some (.int .i64 0) := kp hb2 (by go_cell)
  have c_s0 : w2.cell? ⟨w1.heap.size, 0, none⟩ = some (.int .i64 s1) := kp hb2 (by go_cell)
  have c_s1 : w2.cell? ⟨w1.heap.size, 1, none⟩ = some (.int .i64 s2) := kp hb2 (by go_cell)
  clear hb2 hB1
  go_wp2_with fail
  refine (HI.out _).mono ?_
  rintro e w3 ⟨rfl, hb3⟩
  have hB3 : Below w.heap.size w w3 := below_after (by go_grown) hb3
  have hz3 := hb3.size
  try simp only [World.size_alloc, World.size_setCell, World.size_drew] at hz3
  have hw3 := hB3.size
  replace c_c0 : w3.cell? ⟨w.heap.size, 0, none⟩ = some (.int .i64 ct) := kp hb3 (by go_cell)
  replace c_c1 : w3.cell? ⟨w.heap.size, 1, none⟩ = some (.int .i64 clo) := kp hb3 (by go_cell)
  replace c_c2 : w3.cell? ⟨w.heap.size, 2, none⟩ = some (.int .i64 chi) := kp hb3 (by go_cell)
  replace c_c3 : w3.cell? ⟨w.heap.size, 3, none⟩ = some (.int .i64 cdr) := kp hb3 (by go_cell)
  replace c_d0 : w3.cell? ⟨w.heap.size + 1, 0, none⟩ = some (.int .i64 dl) := kp hb3 (by go_cell)
  replace c_d1 : w3.cell? ⟨w.heap.size + 1, 1, none⟩ = some (.int .i64 dh) := kp hb3 (by go_cell)
  replace c_t0 : w3.cell? ⟨w.heap.size + 1 + 1, 0, none⟩ = some (.int .i64 tlo) := kp hb3 (by go_cell)
  replace c_t1 : w3.cell? ⟨w.heap.size + 1 + 1, 1, none⟩ = some (.int .i64 thi) := kp hb3 (by go_cell)
  replace f_r0 : w3.frozen? ⟨w.heap.size + 1 + 1 + 1, 0, none⟩ = false := kf hb3 (by go_simp) (by go_simp)
  replace f_r1 : w3.frozen? ⟨w.heap.size + 1 + 1 + 1, 1, none⟩ = false := kf hb3 (by go_simp) (by go_simp)
  replace c_r0 : w3.cell? ⟨w.heap.size + 1 + 1 + 1, 0, none⟩ = some (.int .i64 0) := kp hb3 (by go_cell)
  replace c_r1 : w3.cell? ⟨w.heap.size + 1 + 1 + 1, 1, none⟩ = some (.int .i64 0) := kp hb3 (by go_cell)
  replace c_s0 : w3.cell? ⟨w1.heap.size, 0, none⟩ = some (.int .i64 s1) := kp hb3 (by go_cell)
  replace c_s1 : w3.cell? ⟨w1.heap.size, 1, none⟩ = some (.int .i64 s2) := kp hb3 (by go_cell)
  clear hb3 hB2
  go_wp2_with fail
  refine (HJ.out _).mono ?_
  rintro e w4 ⟨rfl, hb4⟩
  have hB4 : Below w.heap.size w w4 := below_after (by go_grown) hb4
  have hz4 := hb4.size
  try simp only [World.size_alloc, World.size_setCell, World.size_drew] at hz4
  have hw4 := hB4.size
  replace c_c0 : w4.cell? ⟨w.heap.size, 0, none⟩ = some (.int .i64 ct) := kp hb4 (by go_cell)
  replace c_c1 : w4.cell? ⟨w.heap.size, 1, none⟩ = some (.int .i64 clo) := kp hb4 (by go_cell)
  replace c_c2 : w4.cell? ⟨w.heap.size, 2, none⟩ = some (.int .i64 chi) := kp hb4 (by go_cell)
  replace c_c3 : w4.cell? ⟨w.heap.size, 3, none⟩ = some (.int .i64 cdr) := kp hb4 (by go_cell)
  replace c_d0 : w4.cell? ⟨w.heap.size + 1, 0, none⟩ = some (.int .i64 dl) := kp hb4 (by go_cell)
  replace c_d1 : w4.cell? ⟨w.heap.size + 1, 1, none⟩ = some (.int .i64 dh) := kp hb4 (by go_cell)
  replace c_t0 : w4.cell? ⟨w.heap.size + 1 + 1, 0, none⟩ = some (.int .i64 tlo) := kp hb4 (by go_cell)
  replace c_t1 : w4.cell? ⟨w.heap.size + 1 + 1, 1, none⟩ = some (.int .i64 thi) := kp hb4 (by go_cell)
  replace f_r0 : w4.frozen? ⟨w.heap.size + 1 + 1 + 1, 0, none⟩ = false := kf hb4 (by go_simp) (by go_simp)
  replace f_r1 : w4.frozen? ⟨w.heap.size + 1 + 1 + 1, 1, none⟩ = false := kf hb4 (by go_simp) (by go_simp)
  replace c_r0 : w4.cell? ⟨w.heap.size + 1 + 1 + 1, 0, none⟩ = some (.int .i64 0) := kp hb4 (by go_cell)
  replace c_r1 : w4.cell? ⟨w.heap.size + 1 + 1 + 1, 1, none⟩ = some (.int .i64 0) := kp hb4 (by go_cell)
  replace c_s0 : w4.cell? ⟨w1.heap.size, 0, none⟩ = some (.int .i64 s1) := kp hb4 (by go_cell)
  replace c_s1 : w4.cell? ⟨w1.heap.size, 1, none⟩ = some (.int .i64 s2) := kp hb4 (by go_cell)
  clear hb4 hB3
  go_wp2_with fail
  refine (HU.out _).mono ?_
  rintro e w5 ⟨rfl, hb5⟩
  have hB5 : Below w.heap.size w w5 := below_after (by go_grown) hb5
  have hz5 := hb5.size
  try simp only [World.size_alloc, World.size_setCell, World.size_drew] at hz5
  have hw5 := hB5.size
  replace c_c0 : w5.cell? ⟨w.heap.size, 0, none⟩ = some (.int .i64 ct) := kp hb5 (by go_cell)
  replace c_c1 : w5.cell? ⟨w.heap.size, 1, none⟩ = some (.int .i64 clo) := kp hb5 (by go_cell)
  replace c_c2 : w5.cell? ⟨w.heap.size, 2, none⟩ = some (.int .i64 chi) := kp hb5 (by go_cell)
  replace c_c3 : w5.cell? ⟨w.heap.size, 3, none⟩ = some (.int .i64 cdr) := kp hb5 (by go_cell)
  replace c_d0 : w5.cell? ⟨w.heap.size + 1, 0, none⟩ = some (.int .i64 dl) := kp hb5 (by go_cell)
  replace c_d1 : w5.cell? ⟨w.heap.size + 1, 1, none⟩ = some (.int .i64 dh) := kp hb5 (by go_cell)
  replace c_t0 : w5.cell? ⟨w.heap.size + 1 + 1, 0, none⟩ = some (.int .i64 tlo) := kp hb5 (by go_cell)
  replace c_t1 : w5.cell? ⟨w.heap.size + 1 + 1, 1, none⟩ = some (.int .i64 thi) := kp hb5 (by go_cell)
  replace f_r0 : w5.frozen? ⟨w.heap.size + 1 + 1 + 1, 0, none⟩ = false := kf hb5 (by go_simp) (by go_simp)
  replace f_r1 : w5.frozen? ⟨w.heap.size + 1 + 1 + 1, 1, none⟩ = false := kf hb5 (by go_simp) (by go_simp)
  replace c_r0 : w5.cell? ⟨w.heap.size + 1 + 1 + 1, 0, none⟩ = some (.int .i64 0) := kp hb5 (by go_cell)
  replace c_r1 : w5.cell? ⟨w.heap.size + 1 + 1 + 1, 1, none⟩ = some (.int .i64 0) := kp hb5 (by go_cell)
  replace c_s0 : w5.cell? ⟨w1.heap.size, 0, none⟩ = some (.int .i64 s1) := kp hb5 (by go_cell)
  replace c_s1 : w5.cell? ⟨w1.heap.size, 1, none⟩ = some (.int .i64 s2) := kp hb5 (by go_cell)
  clear hb5 hB4
  go_wp2_with fail
  refine (HB.out _).mono ?_
  rintro e w6 ⟨rfl, hb6⟩
  have hB6 : Below w.heap.size w w6 := below_after (by go_grown) hb6
  have hz6 := hb6.size
  try simp only [World.size_alloc, World.size_setCell, World.size_drew] at hz6
  have hw6 := hB6.size
  replace c_c0 : w6.cell? ⟨w.heap.size, 0, none⟩ = some (.int .i64 ct) := kp hb6 (by go_cell)
  replace c_c1 : w6.cell? ⟨w.heap.size, 1, none⟩ = some (.int .i64 clo) := kp hb6 (by go_cell)
  replace c_c2 : w6.cell? ⟨w.heap.size, 2, none⟩ = some (.int .i64 chi) := kp hb6 (by go_cell)
  replace c_c3 : w6.cell? ⟨w.heap.size, 3, none⟩ = some (.int .i64 cdr) := kp hb6 (by go_cell)
  replace c_d0 : w6.cell? ⟨w.heap.size + 1, 0, none⟩ = some (.int .i64 dl) := kp hb6 (by go_cell)
  replace c_d1 : w6.cell? ⟨w.heap.size + 1, 1, none⟩ = some (.int .i64 dh) := kp hb6 (by go_cell)
  replace c_t0 : w6.cell? ⟨w.heap.size + 1 + 1, 0, none⟩ = some (.int .i64 tlo) := kp hb6 (by go_cell)
  replace c_t1 : w6.cell? ⟨w.heap.size + 1 + 1, 1, none⟩ = some (.int .i64 thi) := kp hb6 (by go_cell)
  replace f_r0 : w6.frozen? ⟨w.heap.size + 1 + 1 + 1, 0, none⟩ = false := kf hb6 (by go_simp) (by go_simp)
  replace f_r1 : w6.frozen? ⟨w.heap.size + 1 + 1 + 1, 1, none⟩ = false := kf hb6 (by go_simp) (by go_simp)
  replace c_r0 : w6.cell? ⟨w.heap.size + 1 + 1 + 1, 0, none⟩ = some (.int .i64 0) := kp hb6 (by go_cell)
  replace c_r1 : w6.cell? ⟨w.heap.size + 1 + 1 + 1, 1, none⟩ = some (.int .i64 0) := kp hb6 (by go_cell)
  replace c_s0 : w6.cell? ⟨w1.heap.size, 0, none⟩ = some (.int .i64 s1) := kp hb6 (by go_cell)
  replace c_s1 : w6.cell? ⟨w1.heap.size, 1, none⟩ = some (.int .i64 s2) := kp hb6 (by go_cell)
  clear hb6 hB5
  go_wp2_with fail
  refine (HE.out _).mono ?_
  rintro e w7 ⟨rfl, hb7⟩
  have hB7 : Below w.heap.size w w7 := below_after (by go_grown) hb7
  have hz7 := hb7.size
  try simp only [World.size_alloc, World.size_setCell, World.size_drew] at hz7
  have hw7 := hB7.size
  replace c_c0 : w7.cell? ⟨w.heap.size, 0, none⟩ = some (.int .i64 ct) := kp hb7 (by go_cell)
  replace c_c1 : w7.cell? ⟨w.heap.size, 1, none⟩ = some (.int .i64 clo) := kp hb7 (by go_cell)
  replace c_c2 : w7.cell? ⟨w.heap.size, 2, none⟩ = some (.int .i64 chi) := kp hb7 (by go_cell)
  replace c_c3 : w7.cell? ⟨w.heap.size, 3, none⟩ = some (.int .i64 cdr) := kp hb7 (by go_cell)
  replace c_d0 : w7.cell? ⟨w.heap.size + 1, 0, none⟩ = some (.int .i64 dl) := kp hb7 (by go_cell)
  replace c_d1 : w7.cell? ⟨w.heap.size + 1, 1, none⟩ = some (.int .i64 dh) := kp hb7 (by go_cell)
  replace c_t0 : w7.cell? ⟨w.heap.size + 1 + 1, 0, none⟩ = some (.int .i64 tlo) := kp hb7 (by go_cell)
  replace c_t1 : w7.cell? ⟨w.heap.size + 1 + 1, 1, none⟩ = some (.int .i64 thi) := kp hb7 (by go_cell)
  replace f_r0 : w7.frozen? ⟨w.heap.size + 1 + 1 + 1, 0, none⟩ = false := kf hb7 (by go_simp) (by go_simp)
  replace f_r1 : w7.frozen? ⟨w.heap.size + 1 + 1 + 1, 1, none⟩ = false := kf hb7 (by go_simp) (by go_simp)
  replace c_r0 : w7.cell? ⟨w.heap.size + 1 + 1 + 1, 0, none⟩ = some (.int .i64 0) := kp hb7 (by go_cell)
  replace c_r1 : w7.cell? ⟨w.heap.size + 1 + 1 + 1, 1, none⟩ = some (.int .i64 0) := kp hb7 (by go_cell)
  replace c_s0 : w7.cell? ⟨w1.heap.size, 0, none⟩ = some (.int .i64 s1) := kp hb7 (by go_cell)
  replace c_s1 : w7.cell? ⟨w1.heap.size, 1, none⟩ = some (.int .i64 s2) := kp hb7 (by go_cell)
  have f_u0 : w7.frozen? ⟨w6.heap.size, 0, none⟩ = false := kf hb7 (by go_simp) (by go_simp)
  have f_u1 : w7.frozen? ⟨w6.heap.size, 1, none⟩ = false := kf hb7 (by go_simp) (by go_simp)
  have c_u0 : w7.cell? ⟨w6.heap.size, 0, none⟩ = some (.int .i64 L) := kp hb7 (by go_cell)
  have c_u1 : w7.cell? ⟨w6.heap.size, 1, none⟩ = some (.int .i64 (g + wr - tlo)) := kp hb7 (by go_cell)
  clear hb7 hB6
  go_wp2_with fail
  first | (refine ret_span rfl rfl rfl (set2s _ _ (by go_simp) (by go_simp)) ⟨rfl, by go_grown⟩) | (refine ret_span rfl rfl rfl ⟨by go_cell, by go_cell⟩ ⟨rfl, by go_grown⟩)
set_option maxHeartbeats 1600000 in
set_option maxRecDepth 100000 in
theorem Two_y10 (A : Option Addr) (n c : Nat) (xs : List Wt) (ct clo chi cdr dl dh sent got tlo thi : Int) (w : World) (hn : xs.length = n) (hbig : n ≤ 1000000) (hx : Wts? w.heap.size w A xs) (hs : (wValid xs && depB dl dh) = true) (hc : clkB ct clo chi cdr = true) (h1 : readB sent = true) (h2 : readB got = true) (h3 : decide (sent ≤ got) = true) (h4 : timB tlo thi = true) (hm1 : 0 ≤ got - sent - wrS cdr (got - sent)) (hm2 : (got - sent - wrS cdr (got - sent)) - thi < 0) (hn0 : ¬ got - sent + wrS cdr (got - sent) - tlo < 0) :
    Calls Try.prog 65 #[.slice A n c, .agg #[.int .i64 ct, .int .i64 clo, .int .i64 chi, .int .i64 cdr], .agg #[.int .i64 dl, .int .i64 dh], .int .i64 sent, .int .i64 got, .agg #[.int .i64 tlo, .int .i64 thi]] w fun e w' => e = .returned (.tuple #[.agg #[.int .i64 (distsS (speedP dl dh xs).1 (speedP dl dh xs).2 0 (got - sent + wrS cdr (got - sent) - tlo) 2000).1, .int .i64 (distsS (speedP dl dh xs).1 (speedP dl dh xs).2 0 (got - sent + wrS cdr (got - sent) - tlo) 2000).2.1], .int .i64 (distsS (speedP dl dh xs).1 (speedP dl dh xs).2 0 (got - sent + wrS cdr (got - sent) - tlo) 2000).2.2]) ∧ Below w.heap.size w w' := by
  have HXS := Lib.hid (hxs_of hx)
  obtain ⟨ct1, ct2, cr1, cr2, co1, co2, co3⟩ := clkB_bounds hc
  obtain ⟨se1, se2⟩ := readB_bounds h1
  obtain ⟨go1, go2⟩ := readB_bounds h2
  obtain ⟨ti1, ti2, ti3⟩ := (timB_iff tlo thi).1 h4
  obtain ⟨sa, sb, sc⟩ := speedP_ok (and_left hs) (and_right hs)
  have hle9 : sent ≤ got := of_decide_eq_true h3
  have hS := fun W h => Speed_any A n c xs dl dh W hn hbig h
  rw [speedS_ok hs] at hS
  have hC := fun W => CValid_any ct clo chi cdr W
  rw [hc] at hC
  have hI := fun W => bel (isReading17_any sent W)
  rw [h1] at hI
  have hJ := fun W => bel (isReading17_any got W)
  rw [h2] at hJ
  have hle : ¬ got < sent := by have h9 := h3; simp only [decide_eq_true_eq] at h9; omega
  have hU := fun W => upTo_any tlo thi 1000000000 W
  rw [show (decide (0 ≤ tlo) && decide (tlo ≤ thi) && decide (thi ≤ 1000000000)) = true from h4] at hU
  have pc := prod_clk (d := cdr) (g := got - sent) cr1 cr2 (by omega) (by omega)
  have hwr : (cdr * (got - sent) + 1000000 - 1).tdiv 1000000 = wrS cdr (got - sent) := by unfold wrS; rw [Int.tdiv_eq_ediv_of_nonneg (by omega)]; omega
  have b1 : 0 ≤ wrS cdr (got - sent) := by unfold wrS; omega
  have b2 : wrS cdr (got - sent) ≤ 1000001 := by unfold wrS; omega
  obtain ⟨L, hL⟩ : ∃ L, (got - sent - wrS cdr (got - sent)) - thi = L := ⟨_, rfl⟩
  have q1 := prod_sp (a := (speedP dl dh xs).1) (b := 0) (by omega) (by omega) (by omega) (by omega)
  have q2 := prod_sp (a := (speedP dl dh xs).2) (b := (got - sent + wrS cdr (got - sent) - tlo)) (by omega) (by omega) (by omega) (by omega)
  have hE := fun W => dists2000_any (speedP dl dh xs).1 (speedP dl dh xs).2 0 (got - sent + wrS cdr (got - sent) - tlo) W q1.1 q1.2 q2.1 q2.2
  generalize distsS (speedP dl dh xs).1 (speedP dl dh xs).2 0 (got - sent + wrS cdr (got - sent) - tlo) 2000 = R at *
  obtain ⟨R1, R2, R3⟩ := R
  simp only at hE
  clear q1 q2
  generalize (speedP dl dh xs).1 = s1 at *
  generalize (speedP dl dh xs).2 = s2 at *
  have hg0 : 0 ≤ got - sent := by omega
  have hg1 : got - sent ≤ 1000000000 := by omega
  generalize wrS cdr (got - sent) = wr at *
  generalize hg : got - sent = g at *
  generalize hp : cdr * g = P at *
  have hB := fun W => Sub_any (g - wr) (g + wr) tlo thi W
  rw [show subS (g - wr) (g + wr) tlo thi = (L, g + wr - tlo, 0) by
    rw [← hL]
    have e1 : (vld (g - wr) (g + wr) && vld tlo thi) = true := by simp [vld]; omega
    have e2 : vld ((g - wr) - thi) (g + wr - tlo) = true := by simp [vld]; omega
    rw [subS, if_pos e1, leastS, if_pos e2]] at hB
  have HS := Lib.hid hS
  have HC := Lib.hid hC
  have HI := Lib.hid hI
  have HJ := Lib.hid hJ
  have HU := Lib.hid hU
  have HE := Lib.hid hE
  have HB := Lib.hid hB
  clear hx hn hc h1 h2 h3 h4 hs hS hC hI hJ hU hE hB
  go_enter Try.func65, Try.ntmps65
  go_wp2_with fail
  refine (HS.out _ (HXS.out _ (by go_grown))).mono ?_
  rintro e w1 ⟨rfl, hb1⟩
  have hB1 : Below w.heap.size w w1 := below_after (by go_grown) hb1
  have hz1 := hb1.size
  try simp only [World.size_alloc, World.size_setCell, World.size_drew] at hz1
  have hw1 := hB1.size
  have c_c0 : w1.cell? ⟨w.heap.size, 0, none⟩ = some (.int .i64 ct) := kp hb1 (by go_cell)
  have c_c1 : w1.cell? ⟨w.heap.size, 1, none⟩ = some (.int .i64 clo) := kp hb1 (by go_cell)
  have c_c2 : w1.cell? ⟨w.heap.size, 2, none⟩ = some (.int .i64 chi) := kp hb1 (by go_cell)
  have c_c3 : w1.cell? ⟨w.heap.size, 3, none⟩ = some (.int .i64 cdr) := kp hb1 (by go_cell)
  have c_d0 : w1.cell? ⟨w.heap.size + 1, 0, none⟩ = some (.int .i64 dl) := kp hb1 (by go_cell)
  have c_d1 : w1.cell? ⟨w.heap.size + 1, 1, none⟩ = some (.int .i64 dh) := kp hb1 (by go_cell)
  have c_t0 : w1.cell? ⟨w.heap.size + 1 + 1, 0, none⟩ = some (.int .i64 tlo) := kp hb1 (by go_cell)
  have c_t1 : w1.cell? ⟨w.heap.size + 1 + 1, 1, none⟩ = some (.int .i64 thi) := kp hb1 (by go_cell)
  have f_r0 : w1.frozen? ⟨w.heap.size + 1 + 1 + 1, 0, none⟩ = false := kf hb1 (by go_simp) (by go_simp)
  have f_r1 : w1.frozen? ⟨w.heap.size + 1 + 1 + 1, 1, none⟩ = false := kf hb1 (by go_simp) (by go_simp)
  have c_r0 : w1.cell? ⟨w.heap.size + 1 + 1 + 1, 0, none⟩ = some (.int .i64 0) := kp hb1 (by go_cell)
  have c_r1 : w1.cell? ⟨w.heap.size + 1 + 1 + 1, 1, none⟩ = some (.int .i64 0) := kp hb1 (by go_cell)
  clear hb1
  go_wp2_with fail
  refine (HC.out _).mono ?_
  rintro e w2 ⟨rfl, hb2⟩
  have hB2 : Below w.heap.size w w2 := below_after (by go_grown) hb2
  have hz2 := hb2.size
  try simp only [World.size_alloc, World.size_setCell, World.size_drew] at hz2
  have hw2 := hB2.size
  replace c_c0 : w2.cell? ⟨w.heap.size, 0, none⟩ = some (.int .i64 ct) := kp hb2 (by go_cell)
  replace c_c1 : w2.cell? ⟨w.heap.size, 1, none⟩ = some (.int .i64 clo) := kp hb2 (by go_cell)
  replace c_c2 : w2.cell? ⟨w.heap.size, 2, none⟩ = some (.int .i64 chi) := kp hb2 (by go_cell)
  replace c_c3 : w2.cell? ⟨w.heap.size, 3, none⟩ = some (.int .i64 cdr) := kp hb2 (by go_cell)
  replace c_d0 : w2.cell? ⟨w.heap.size + 1, 0, none⟩ = some (.int .i64 dl) := kp hb2 (by go_cell)
  replace c_d1 : w2.cell? ⟨w.heap.size + 1, 1, none⟩ = some (.int .i64 dh) := kp hb2 (by go_cell)
  replace c_t0 : w2.cell? ⟨w.heap.size + 1 + 1, 0, none⟩ = some (.int .i64 tlo) := kp hb2 (by go_cell)
  replace c_t1 : w2.cell? ⟨w.heap.size + 1 + 1, 1, none⟩ = some (.int .i64 thi) := kp hb2 (by go_cell)
  replace f_r0 : w2.frozen? ⟨w.heap.size + 1 + 1 + 1, 0, none⟩ = false := kf hb2 (by go_simp) (by go_simp)
  replace f_r1 : w2.frozen? ⟨w.heap.size + 1 + 1 + 1, 1, none⟩ = false := kf hb2 (by go_simp) (by go_simp)
  replace c_r0 : w2.cell? ⟨w.heap.size + 1 + 1 + 1, 0, none⟩ = some (.int .i64 0) := kp hb2 (by go_cell)
  replace c_r1 : w2.cell? ⟨w.heap.size + 1 + 1 + 1, 1, none⟩ = some (.int .i64 0) := kp hb2 (by go_cell)
  have c_s0 : w2.cell? ⟨w1.heap.size, 0, none⟩ = some (.int .i64 s1) := kp hb2 (by go_cell)
  have c_s1 : w2.cell? ⟨w1.heap.size, 1, none⟩ = some (.int .i64 s2) := kp hb2 (by go_cell)
  clear hb2 hB1
  go_wp2_with fail
  refine (HI.out _).mono ?_
  rintro e w3 ⟨rfl, hb3⟩
  have hB3 : Below w.heap.size w w3 := below_after (by go_grown) hb3
  have hz3 := hb3.size
  try simp only [World.size_alloc, World.size_setCell, World.size_drew] at hz3
  have hw3 := hB3.size
  replace c_c0 : w3.cell? ⟨w.heap.size, 0, none⟩ = some (.int .i64 ct) := kp hb3 (by go_cell)
  replace c_c1 : w3.cell? ⟨w.heap.size, 1, none⟩ = some (.int .i64 clo) := kp hb3 (by go_cell)
  replace c_c2 : w3.cell? ⟨w.heap.size, 2, none⟩ = some (.int .i64 chi) := kp hb3 (by go_cell)
  replace c_c3 : w3.cell? ⟨w.heap.size, 3, none⟩ = some (.int .i64 cdr) := kp hb3 (by go_cell)
  replace c_d0 : w3.cell? ⟨w.heap.size + 1, 0, none⟩ = some (.int .i64 dl) := kp hb3 (by go_cell)
  replace c_d1 : w3.cell? ⟨w.heap.size + 1, 1, none⟩ = some (.int .i64 dh) := kp hb3 (by go_cell)
  replace c_t0 : w3.cell? ⟨w.heap.size + 1 + 1, 0, none⟩ = some (.int .i64 tlo) := kp hb3 (by go_cell)
  replace c_t1 : w3.cell? ⟨w.heap.size + 1 + 1, 1, none⟩ = some (.int .i64 thi) := kp hb3 (by go_cell)
  replace f_r0 : w3.frozen? ⟨w.heap.size + 1 + 1 + 1, 0, none⟩ = false := kf hb3 (by go_simp) (by go_simp)
  replace f_r1 : w3.frozen? ⟨w.heap.size + 1 + 1 + 1, 1, none⟩ = false := kf hb3 (by go_simp) (by go_simp)
  replace c_r0 : w3.cell? ⟨w.heap.size + 1 + 1 + 1, 0, none⟩ = some (.int .i64 0) := kp hb3 (by go_cell)
  replace c_r1 : w3.cell? ⟨w.heap.size + 1 + 1 + 1, 1, none⟩ = some (.int .i64 0) := kp hb3 (by go_cell)
  replace c_s0 : w3.cell? ⟨w1.heap.size, 0, none⟩ = some (.int .i64 s1) := kp hb3 (by go_cell)
  replace c_s1 : w3.cell? ⟨w1.heap.size, 1, none⟩ = some (.int .i64 s2) := kp hb3 (by go_cell)
  clear hb3 hB2
  go_wp2_with fail
  refine (HJ.out _).mono ?_
  rintro e w4 ⟨rfl, hb4⟩
  have hB4 : Below w.heap.size w w4 := below_after (by go_grown) hb4
  have hz4 := hb4.size
  try simp only [World.size_alloc, World.size_setCell, World.size_drew] at hz4
  have hw4 := hB4.size
  replace c_c0 : w4.cell? ⟨w.heap.size, 0, none⟩ = some (.int .i64 ct) := kp hb4 (by go_cell)
  replace c_c1 : w4.cell? ⟨w.heap.size, 1, none⟩ = some (.int .i64 clo) := kp hb4 (by go_cell)
  replace c_c2 : w4.cell? ⟨w.heap.size, 2, none⟩ = some (.int .i64 chi) := kp hb4 (by go_cell)
  replace c_c3 : w4.cell? ⟨w.heap.size, 3, none⟩ = some (.int .i64 cdr) := kp hb4 (by go_cell)
  replace c_d0 : w4.cell? ⟨w.heap.size + 1, 0, none⟩ = some (.int .i64 dl) := kp hb4 (by go_cell)
  replace c_d1 : w4.cell? ⟨w.heap.size + 1, 1, none⟩ = some (.int .i64 dh) := kp hb4 (by go_cell)
  replace c_t0 : w4.cell? ⟨w.heap.size + 1 + 1, 0, none⟩ = some (.int .i64 tlo) := kp hb4 (by go_cell)
  replace c_t1 : w4.cell? ⟨w.heap.size + 1 + 1, 1, none⟩ = some (.int .i64 thi) := kp hb4 (by go_cell)
  replace f_r0 : w4.frozen? ⟨w.heap.size + 1 + 1 + 1, 0, none⟩ = false := kf hb4 (by go_simp) (by go_simp)
  replace f_r1 : w4.frozen? ⟨w.heap.size + 1 + 1 + 1, 1, none⟩ = false := kf hb4 (by go_simp) (by go_simp)
  replace c_r0 : w4.cell? ⟨w.heap.size + 1 + 1 + 1, 0, none⟩ = some (.int .i64 0) := kp hb4 (by go_cell)
  replace c_r1 : w4.cell? ⟨w.heap.size + 1 + 1 + 1, 1, none⟩ = some (.int .i64 0) := kp hb4 (by go_cell)
  replace c_s0 : w4.cell? ⟨w1.heap.size, 0, none⟩ = some (.int .i64 s1) := kp hb4 (by go_cell)
  replace c_s1 : w4.cell? ⟨w1.heap.size, 1, none⟩ = some (.int .i64 s2) := kp hb4 (by go_cell)
  clear hb4 hB3
  go_wp2_with fail
  refine (HU.out _).mono ?_
  rintro e w5 ⟨rfl, hb5⟩
  have hB5 : Below w.heap.size w w5 := below_after (by go_grown) hb5
  have hz5 := hb5.size
  try simp only [World.size_alloc, World.size_setCell, World.size_drew] at hz5
  have hw5 := hB5.size
  replace c_c0 : w5.cell? ⟨w.heap.size, 0, none⟩ = some (.int .i64 ct) := kp hb5 (by go_cell)
  replace c_c1 : w5.cell? ⟨w.heap.size, 1, none⟩ = some (.int .i64 clo) := kp hb5 (by go_cell)
  replace c_c2 : w5.cell? ⟨w.heap.size, 2, none⟩ = some (.int .i64 chi) := kp hb5 (by go_cell)
  replace c_c3 : w5.cell? ⟨w.heap.size, 3, none⟩ = some (.int .i64 cdr) := kp hb5 (by go_cell)
  replace c_d0 : w5.cell? ⟨w.heap.size + 1, 0, none⟩ = some (.int .i64 dl) := kp hb5 (by go_cell)
  replace c_d1 : w5.cell? ⟨w.heap.size + 1, 1, none⟩ = some (.int .i64 dh) := kp hb5 (by go_cell)
  replace c_t0 : w5.cell? ⟨w.heap.size + 1 + 1, 0, none⟩ = some (.int .i64 tlo) := kp hb5 (by go_cell)
  replace c_t1 : w5.cell? ⟨w.heap.size + 1 + 1, 1, none⟩ = some (.int .i64 thi) := kp hb5 (by go_cell)
  replace f_r0 : w5.frozen? ⟨w.heap.size + 1 + 1 + 1, 0, none⟩ = false := kf hb5 (by go_simp) (by go_simp)
  replace f_r1 : w5.frozen? ⟨w.heap.size + 1 + 1 + 1, 1, none⟩ = false := kf hb5 (by go_simp) (by go_simp)
  replace c_r0 : w5.cell? ⟨w.heap.size + 1 + 1 + 1, 0, none⟩ = some (.int .i64 0) := kp hb5 (by go_cell)
  replace c_r1 : w5.cell? ⟨w.heap.size + 1 + 1 + 1, 1, none⟩ = some (.int .i64 0) := kp hb5 (by go_cell)
  replace c_s0 : w5.cell? ⟨w1.heap.size, 0, none⟩ = some (.int .i64 s1) := kp hb5 (by go_cell)
  replace c_s1 : w5.cell? ⟨w1.heap.size, 1, none⟩ = some (.int .i64 s2) := kp hb5 (by go_cell)
  clear hb5 hB4
  go_wp2_with fail
  refine (HB.out _).mono ?_
  rintro e w6 ⟨rfl, hb6⟩
  have hB6 : Below w.heap.size w w6 := below_after (by go_grown) hb6
  have hz6 := hb6.size
  try simp only [World.size_alloc, World.size_setCell, World.size_drew] at hz6
  have hw6 := hB6.size
  replace c_c0 : w6.cell? ⟨w.heap.size, 0, none⟩ = some (.int .i64 ct) := kp hb6 (by go_cell)
  replace c_c1 : w6.cell? ⟨w.heap.size, 1, none⟩ = some (.int .i64 clo) := kp hb6 (by go_cell)
  replace c_c2 : w6.cell? ⟨w.heap.size, 2, none⟩ = some (.int .i64 chi) := kp hb6 (by go_cell)
  replace c_c3 : w6.cell? ⟨w.heap.size, 3, none⟩ = some (.int .i64 cdr) := kp hb6 (by go_cell)
  replace c_d0 : w6.cell? ⟨w.heap.size + 1, 0, none⟩ = some (.int .i64 dl) := kp hb6 (by go_cell)
  replace c_d1 : w6.cell? ⟨w.heap.size + 1, 1, none⟩ = some (.int .i64 dh) := kp hb6 (by go_cell)
  replace c_t0 : w6.cell? ⟨w.heap.size + 1 + 1, 0, none⟩ = some (.int .i64 tlo) := kp hb6 (by go_cell)
  replace c_t1 : w6.cell? ⟨w.heap.size + 1 + 1, 1, none⟩ = some (.int .i64 thi) := kp hb6 (by go_cell)
  replace f_r0 : w6.frozen? ⟨w.heap.size + 1 + 1 + 1, 0, none⟩ = false := kf hb6 (by go_simp) (by go_simp)
  replace f_r1 : w6.frozen? ⟨w.heap.size + 1 + 1 + 1, 1, none⟩ = false := kf hb6 (by go_simp) (by go_simp)
  replace c_r0 : w6.cell? ⟨w.heap.size + 1 + 1 + 1, 0, none⟩ = some (.int .i64 0) := kp hb6 (by go_cell)
  replace c_r1 : w6.cell? ⟨w.heap.size + 1 + 1 + 1, 1, none⟩ = some (.int .i64 0) := kp hb6 (by go_cell)
  replace c_s0 : w6.cell? ⟨w1.heap.size, 0, none⟩ = some (.int .i64 s1) := kp hb6 (by go_cell)
  replace c_s1 : w6.cell? ⟨w1.heap.size, 1, none⟩ = some (.int .i64 s2) := kp hb6 (by go_cell)
  clear hb6 hB5
  go_wp2_with fail
  refine (HE.out _).mono ?_
  rintro e w7 ⟨rfl, hb7⟩
  have hB7 : Below w.heap.size w w7 := below_after (by go_grown) hb7
  have hz7 := hb7.size
  try simp only [World.size_alloc, World.size_setCell, World.size_drew] at hz7
  have hw7 := hB7.size
  replace c_c0 : w7.cell? ⟨w.heap.size, 0, none⟩ = some (.int .i64 ct) := kp hb7 (by go_cell)
  replace c_c1 : w7.cell? ⟨w.heap.size, 1, none⟩ = some (.int .i64 clo) := kp hb7 (by go_cell)
  replace c_c2 : w7.cell? ⟨w.heap.size, 2, none⟩ = some (.int .i64 chi) := kp hb7 (by go_cell)
  replace c_c3 : w7.cell? ⟨w.heap.size, 3, none⟩ = some (.int .i64 cdr) := kp hb7 (by go_cell)
  replace c_d0 : w7.cell? ⟨w.heap.size + 1, 0, none⟩ = some (.int .i64 dl) := kp hb7 (by go_cell)
  replace c_d1 : w7.cell? ⟨w.heap.size + 1, 1, none⟩ = some (.int .i64 dh) := kp hb7 (by go_cell)
  replace c_t0 : w7.cell? ⟨w.heap.size + 1 + 1, 0, none⟩ = some (.int .i64 tlo) := kp hb7 (by go_cell)
  replace c_t1 : w7.cell? ⟨w.heap.size + 1 + 1, 1, none⟩ = some (.int .i64 thi) := kp hb7 (by go_cell)
  replace f_r0 : w7.frozen? ⟨w.heap.size + 1 + 1 + 1, 0, none⟩ = false := kf hb7 (by go_simp) (by go_simp)
  replace f_r1 : w7.frozen? ⟨w.heap.size + 1 + 1 + 1, 1, none⟩ = false := kf hb7 (by go_simp) (by go_simp)
  replace c_r0 : w7.cell? ⟨w.heap.size + 1 + 1 + 1, 0, none⟩ = some (.int .i64 0) := kp hb7 (by go_cell)
  replace c_r1 : w7.cell? ⟨w.heap.size + 1 + 1 + 1, 1, none⟩ = some (.int .i64 0) := kp hb7 (by go_cell)
  replace c_s0 : w7.cell? ⟨w1.heap.size, 0, none⟩ = some (.int .i64 s1) := kp hb7 (by go_cell)
  replace c_s1 : w7.cell? ⟨w1.heap.size, 1, none⟩ = some (.int .i64 s2) := kp hb7 (by go_cell)
  have f_u0 : w7.frozen? ⟨w6.heap.size, 0, none⟩ = false := kf hb7 (by go_simp) (by go_simp)
  have f_u1 : w7.frozen? ⟨w6.heap.size, 1, none⟩ = false := kf hb7 (by go_simp) (by go_simp)
  have c_u0 : w7.cell? ⟨w6.heap.size, 0, none⟩ = some (.int .i64 0) := kp hb7 (by go_cell)
  have c_u1 : w7.cell? ⟨w6.heap.size, 1, none⟩ = some (.int .i64 (g + wr - tlo)) := kp hb7 (by go_cell)
  clear hb7 hB6
  go_wp2_with fail
  first | (refine ret_span rfl rfl rfl (set2s _ _ (by go_simp) (by go_simp)) ⟨rfl, by go_grown⟩) | (refine ret_span rfl rfl rfl ⟨by go_cell, by go_cell⟩ ⟨rfl, by go_grown⟩)
set_option maxHeartbeats 1600000 in
set_option maxRecDepth 100000 in
theorem Two_y11 (A : Option Addr) (n c : Nat) (xs : List Wt) (ct clo chi cdr dl dh sent got tlo thi : Int) (w : World) (hn : xs.length = n) (hbig : n ≤ 1000000) (hx : Wts? w.heap.size w A xs) (hs : (wValid xs && depB dl dh) = true) (hc : clkB ct clo chi cdr = true) (h1 : readB sent = true) (h2 : readB got = true) (h3 : decide (sent ≤ got) = true) (h4 : timB tlo thi = true) (hm1 : 0 ≤ got - sent - wrS cdr (got - sent)) (hm2 : 0 ≤ (got - sent - wrS cdr (got - sent)) - thi) (hn0 : ¬ got - sent + wrS cdr (got - sent) - tlo < 0) :
    Calls Try.prog 65 #[.slice A n c, .agg #[.int .i64 ct, .int .i64 clo, .int .i64 chi, .int .i64 cdr], .agg #[.int .i64 dl, .int .i64 dh], .int .i64 sent, .int .i64 got, .agg #[.int .i64 tlo, .int .i64 thi]] w fun e w' => e = .returned (.tuple #[.agg #[.int .i64 (distsS (speedP dl dh xs).1 (speedP dl dh xs).2 ((got - sent - wrS cdr (got - sent)) - thi) (got - sent + wrS cdr (got - sent) - tlo) 2000).1, .int .i64 (distsS (speedP dl dh xs).1 (speedP dl dh xs).2 ((got - sent - wrS cdr (got - sent)) - thi) (got - sent + wrS cdr (got - sent) - tlo) 2000).2.1], .int .i64 (distsS (speedP dl dh xs).1 (speedP dl dh xs).2 ((got - sent - wrS cdr (got - sent)) - thi) (got - sent + wrS cdr (got - sent) - tlo) 2000).2.2]) ∧ Below w.heap.size w w' := by
  have HXS := Lib.hid (hxs_of hx)
  obtain ⟨ct1, ct2, cr1, cr2, co1, co2, co3⟩ := clkB_bounds hc
  obtain ⟨se1, se2⟩ := readB_bounds h1
  obtain ⟨go1, go2⟩ := readB_bounds h2
  obtain ⟨ti1, ti2, ti3⟩ := (timB_iff tlo thi).1 h4
  obtain ⟨sa, sb, sc⟩ := speedP_ok (and_left hs) (and_right hs)
  have hle9 : sent ≤ got := of_decide_eq_true h3
  have hS := fun W h => Speed_any A n c xs dl dh W hn hbig h
  rw [speedS_ok hs] at hS
  have hC := fun W => CValid_any ct clo chi cdr W
  rw [hc] at hC
  have hI := fun W => bel (isReading17_any sent W)
  rw [h1] at hI
  have hJ := fun W => bel (isReading17_any got W)
  rw [h2] at hJ
  have hle : ¬ got < sent := by have h9 := h3; simp only [decide_eq_true_eq] at h9; omega
  have hU := fun W => upTo_any tlo thi 1000000000 W
  rw [show (decide (0 ≤ tlo) && decide (tlo ≤ thi) && decide (thi ≤ 1000000000)) = true from h4] at hU
  have pc := prod_clk (d := cdr) (g := got - sent) cr1 cr2 (by omega) (by omega)
  have hwr : (cdr * (got - sent) + 1000000 - 1).tdiv 1000000 = wrS cdr (got - sent) := by unfold wrS; rw [Int.tdiv_eq_ediv_of_nonneg (by omega)]; omega
  have b1 : 0 ≤ wrS cdr (got - sent) := by unfold wrS; omega
  have b2 : wrS cdr (got - sent) ≤ 1000001 := by unfold wrS; omega
  generalize hL : (got - sent - wrS cdr (got - sent)) - thi = L at *
  have q1 := prod_sp (a := (speedP dl dh xs).1) (b := L) (by omega) (by omega) (by omega) (by omega)
  have q2 := prod_sp (a := (speedP dl dh xs).2) (b := (got - sent + wrS cdr (got - sent) - tlo)) (by omega) (by omega) (by omega) (by omega)
  have hE := fun W => dists2000_any (speedP dl dh xs).1 (speedP dl dh xs).2 L (got - sent + wrS cdr (got - sent) - tlo) W q1.1 q1.2 q2.1 q2.2
  generalize distsS (speedP dl dh xs).1 (speedP dl dh xs).2 L (got - sent + wrS cdr (got - sent) - tlo) 2000 = R at *
  obtain ⟨R1, R2, R3⟩ := R
  simp only at hE
  clear q1 q2
  generalize (speedP dl dh xs).1 = s1 at *
  generalize (speedP dl dh xs).2 = s2 at *
  have hg0 : 0 ≤ got - sent := by omega
  have hg1 : got - sent ≤ 1000000000 := by omega
  generalize wrS cdr (got - sent) = wr at *
  generalize hg : got - sent = g at *
  generalize hp : cdr * g = P at *
  have hB := fun W => Sub_any (g - wr) (g + wr) tlo thi W
  rw [show subS (g - wr) (g + wr) tlo thi = (L, g + wr - tlo, 0) by
    rw [← hL]
    have e1 : (vld (g - wr) (g + wr) && vld tlo thi) = true := by simp [vld]; omega
    have e2 : vld ((g - wr) - thi) (g + wr - tlo) = true := by simp [vld]; omega
    rw [subS, if_pos e1, leastS, if_pos e2]] at hB
  have HS := Lib.hid hS
  have HC := Lib.hid hC
  have HI := Lib.hid hI
  have HJ := Lib.hid hJ
  have HU := Lib.hid hU
  have HE := Lib.hid hE
  have HB := Lib.hid hB
  clear hx hn hc h1 h2 h3 h4 hs hS hC hI hJ hU hE hB
  go_enter Try.func65, Try.ntmps65
  go_wp2_with fail
  refine (HS.out _ (HXS.out _ (by go_grown))).mono ?_
  rintro e w1 ⟨rfl, hb1⟩
  have hB1 : Below w.heap.size w w1 := below_after (by go_grown) hb1
  have hz1 := hb1.size
  try simp only [World.size_alloc, World.size_setCell, World.size_drew] at hz1
  have hw1 := hB1.size
  have c_c0 : w1.cell? ⟨w.heap.size, 0, none⟩ = some (.int .i64 ct) := kp hb1 (by go_cell)
  have c_c1 : w1.cell? ⟨w.heap.size, 1, none⟩ = some (.int .i64 clo) := kp hb1 (by go_cell)
  have c_c2 : w1.cell? ⟨w.heap.size, 2, none⟩ = some (.int .i64 chi) := kp hb1 (by go_cell)
  have c_c3 : w1.cell? ⟨w.heap.size, 3, none⟩ = some (.int .i64 cdr) := kp hb1 (by go_cell)
  have c_d0 : w1.cell? ⟨w.heap.size + 1, 0, none⟩ = some (.int .i64 dl) := kp hb1 (by go_cell)
  have c_d1 : w1.cell? ⟨w.heap.size + 1, 1, none⟩ = some (.int .i64 dh) := kp hb1 (by go_cell)
  have c_t0 : w1.cell? ⟨w.heap.size + 1 + 1, 0, none⟩ = some (.int .i64 tlo) := kp hb1 (by go_cell)
  have c_t1 : w1.cell? ⟨w.heap.size + 1 + 1, 1, none⟩ = some (.int .i64 thi) := kp hb1 (by go_cell)
  have f_r0 : w1.frozen? ⟨w.heap.size + 1 + 1 + 1, 0, none⟩ = false := kf hb1 (by go_simp) (by go_simp)
  have f_r1 : w1.frozen? ⟨w.heap.size + 1 + 1 + 1, 1, none⟩ = false := kf hb1 (by go_simp) (by go_simp)
  have c_r0 : w1.cell? ⟨w.heap.size + 1 + 1 + 1, 0, none⟩ = some (.int .i64 0) := kp hb1 (by go_cell)
  have c_r1 : w1.cell? ⟨w.heap.size + 1 + 1 + 1, 1, none⟩ = some (.int .i64 0) := kp hb1 (by go_cell)
  clear hb1
  go_wp2_with fail
  refine (HC.out _).mono ?_
  rintro e w2 ⟨rfl, hb2⟩
  have hB2 : Below w.heap.size w w2 := below_after (by go_grown) hb2
  have hz2 := hb2.size
  try simp only [World.size_alloc, World.size_setCell, World.size_drew] at hz2
  have hw2 := hB2.size
  replace c_c0 : w2.cell? ⟨w.heap.size, 0, none⟩ = some (.int .i64 ct) := kp hb2 (by go_cell)
  replace c_c1 : w2.cell? ⟨w.heap.size, 1, none⟩ = some (.int .i64 clo) := kp hb2 (by go_cell)
  replace c_c2 : w2.cell? ⟨w.heap.size, 2, none⟩ = some (.int .i64 chi) := kp hb2 (by go_cell)
  replace c_c3 : w2.cell? ⟨w.heap.size, 3, none⟩ = some (.int .i64 cdr) := kp hb2 (by go_cell)
  replace c_d0 : w2.cell? ⟨w.heap.size + 1, 0, none⟩ = some (.int .i64 dl) := kp hb2 (by go_cell)
  replace c_d1 : w2.cell? ⟨w.heap.size + 1, 1, none⟩ = some (.int .i64 dh) := kp hb2 (by go_cell)
  replace c_t0 : w2.cell? ⟨w.heap.size + 1 + 1, 0, none⟩ = some (.int .i64 tlo) := kp hb2 (by go_cell)
  replace c_t1 : w2.cell? ⟨w.heap.size + 1 + 1, 1, none⟩ = some (.int .i64 thi) := kp hb2 (by go_cell)
  replace f_r0 : w2.frozen? ⟨w.heap.size + 1 + 1 + 1, 0, none⟩ = false := kf hb2 (by go_simp) (by go_simp)
  replace f_r1 : w2.frozen? ⟨w.heap.size + 1 + 1 + 1, 1, none⟩ = false := kf hb2 (by go_simp) (by go_simp)
  replace c_r0 : w2.cell? ⟨w.heap.size + 1 + 1 + 1, 0, none⟩ = some (.int .i64 0) := kp hb2 (by go_cell)
  replace c_r1 : w2.cell? ⟨w.heap.size + 1 + 1 + 1, 1, none⟩ = some (.int .i64 0) := kp hb2 (by go_cell)
  have c_s0 : w2.cell? ⟨w1.heap.size, 0, none⟩ = some (.int .i64 s1) := kp hb2 (by go_cell)
  have c_s1 : w2.cell? ⟨w1.heap.size, 1, none⟩ = some (.int .i64 s2) := kp hb2 (by go_cell)
  clear hb2 hB1
  go_wp2_with fail
  refine (HI.out _).mono ?_
  rintro e w3 ⟨rfl, hb3⟩
  have hB3 : Below w.heap.size w w3 := below_after (by go_grown) hb3
  have hz3 := hb3.size
  try simp only [World.size_alloc, World.size_setCell, World.size_drew] at hz3
  have hw3 := hB3.size
  replace c_c0 : w3.cell? ⟨w.heap.size, 0, none⟩ = some (.int .i64 ct) := kp hb3 (by go_cell)
  replace c_c1 : w3.cell? ⟨w.heap.size, 1, none⟩ = some (.int .i64 clo) := kp hb3 (by go_cell)
  replace c_c2 : w3.cell? ⟨w.heap.size, 2, none⟩ = some (.int .i64 chi) := kp hb3 (by go_cell)
  replace c_c3 : w3.cell? ⟨w.heap.size, 3, none⟩ = some (.int .i64 cdr) := kp hb3 (by go_cell)
  replace c_d0 : w3.cell? ⟨w.heap.size + 1, 0, none⟩ = some (.int .i64 dl) := kp hb3 (by go_cell)
  replace c_d1 : w3.cell? ⟨w.heap.size + 1, 1, none⟩ = some (.int .i64 dh) := kp hb3 (by go_cell)
  replace c_t0 : w3.cell? ⟨w.heap.size + 1 + 1, 0, none⟩ = some (.int .i64 tlo) := kp hb3 (by go_cell)
  replace c_t1 : w3.cell? ⟨w.heap.size + 1 + 1, 1, none⟩ = some (.int .i64 thi) := kp hb3 (by go_cell)
  replace f_r0 : w3.frozen? ⟨w.heap.size + 1 + 1 + 1, 0, none⟩ = false := kf hb3 (by go_simp) (by go_simp)
  replace f_r1 : w3.frozen? ⟨w.heap.size + 1 + 1 + 1, 1, none⟩ = false := kf hb3 (by go_simp) (by go_simp)
  replace c_r0 : w3.cell? ⟨w.heap.size + 1 + 1 + 1, 0, none⟩ = some (.int .i64 0) := kp hb3 (by go_cell)
  replace c_r1 : w3.cell? ⟨w.heap.size + 1 + 1 + 1, 1, none⟩ = some (.int .i64 0) := kp hb3 (by go_cell)
  replace c_s0 : w3.cell? ⟨w1.heap.size, 0, none⟩ = some (.int .i64 s1) := kp hb3 (by go_cell)
  replace c_s1 : w3.cell? ⟨w1.heap.size, 1, none⟩ = some (.int .i64 s2) := kp hb3 (by go_cell)
  clear hb3 hB2
  go_wp2_with fail
  refine (HJ.out _).mono ?_
  rintro e w4 ⟨rfl, hb4⟩
  have hB4 : Below w.heap.size w w4 := below_after (by go_grown) hb4
  have hz4 := hb4.size
  try simp only [World.size_alloc, World.size_setCell, World.size_drew] at hz4
  have hw4 := hB4.size
  replace c_c0 : w4.cell? ⟨w.heap.size, 0, none⟩ = some (.int .i64 ct) := kp hb4 (by go_cell)
  replace c_c1 : w4.cell? ⟨w.heap.size, 1, none⟩ = some (.int .i64 clo) := kp hb4 (by go_cell)
  replace c_c2 : w4.cell? ⟨w.heap.size, 2, none⟩ = some (.int .i64 chi) := kp hb4 (by go_cell)
  replace c_c3 : w4.cell? ⟨w.heap.size, 3, none⟩ = some (.int .i64 cdr) := kp hb4 (by go_cell)
  replace c_d0 : w4.cell? ⟨w.heap.size + 1, 0, none⟩ = some (.int .i64 dl) := kp hb4 (by go_cell)
  replace c_d1 : w4.cell? ⟨w.heap.size + 1, 1, none⟩ = some (.int .i64 dh) := kp hb4 (by go_cell)
  replace c_t0 : w4.cell? ⟨w.heap.size + 1 + 1, 0, none⟩ = some (.int .i64 tlo) := kp hb4 (by go_cell)
  replace c_t1 : w4.cell? ⟨w.heap.size + 1 + 1, 1, none⟩ = some (.int .i64 thi) := kp hb4 (by go_cell)
  replace f_r0 : w4.frozen? ⟨w.heap.size + 1 + 1 + 1, 0, none⟩ = false := kf hb4 (by go_simp) (by go_simp)
  replace f_r1 : w4.frozen? ⟨w.heap.size + 1 + 1 + 1, 1, none⟩ = false := kf hb4 (by go_simp) (by go_simp)
  replace c_r0 : w4.cell? ⟨w.heap.size + 1 + 1 + 1, 0, none⟩ = some (.int .i64 0) := kp hb4 (by go_cell)
  replace c_r1 : w4.cell? ⟨w.heap.size + 1 + 1 + 1, 1, none⟩ = some (.int .i64 0) := kp hb4 (by go_cell)
  replace c_s0 : w4.cell? ⟨w1.heap.size, 0, none⟩ = some (.int .i64 s1) := kp hb4 (by go_cell)
  replace c_s1 : w4.cell? ⟨w1.heap.size, 1, none⟩ = some (.int .i64 s2) := kp hb4 (by go_cell)
  clear hb4 hB3
  go_wp2_with fail
  refine (HU.out _).mono ?_
  rintro e w5 ⟨rfl, hb5⟩
  have hB5 : Below w.heap.size w w5 := below_after (by go_grown) hb5
  have hz5 := hb5.size
  try simp only [World.size_alloc, World.size_setCell, World.size_drew] at hz5
  have hw5 := hB5.size
  replace c_c0 : w5.cell? ⟨w.heap.size, 0, none⟩ = some (.int .i64 ct) := kp hb5 (by go_cell)
  replace c_c1 : w5.cell? ⟨w.heap.size, 1, none⟩ = some (.int .i64 clo) := kp hb5 (by go_cell)
  replace c_c2 : w5.cell? ⟨w.heap.size, 2, none⟩ = some (.int .i64 chi) := kp hb5 (by go_cell)
  replace c_c3 : w5.cell? ⟨w.heap.size, 3, none⟩ = some (.int .i64 cdr) := kp hb5 (by go_cell)
  replace c_d0 : w5.cell? ⟨w.heap.size + 1, 0, none⟩ = some (.int .i64 dl) := kp hb5 (by go_cell)
  replace c_d1 : w5.cell? ⟨w.heap.size + 1, 1, none⟩ = some (.int .i64 dh) := kp hb5 (by go_cell)
  replace c_t0 : w5.cell? ⟨w.heap.size + 1 + 1, 0, none⟩ = some (.int .i64 tlo) := kp hb5 (by go_cell)
  replace c_t1 : w5.cell? ⟨w.heap.size + 1 + 1, 1, none⟩ = some (.int .i64 thi) := kp hb5 (by go_cell)
  replace f_r0 : w5.frozen? ⟨w.heap.size + 1 + 1 + 1, 0, none⟩ = false := kf hb5 (by go_simp) (by go_simp)
  replace f_r1 : w5.frozen? ⟨w.heap.size + 1 + 1 + 1, 1, none⟩ = false := kf hb5 (by go_simp) (by go_simp)
  replace c_r0 : w5.cell? ⟨w.heap.size + 1 + 1 + 1, 0, none⟩ = some (.int .i64 0) := kp hb5 (by go_cell)
  replace c_r1 : w5.cell? ⟨w.heap.size + 1 + 1 + 1, 1, none⟩ = some (.int .i64 0) := kp hb5 (by go_cell)
  replace c_s0 : w5.cell? ⟨w1.heap.size, 0, none⟩ = some (.int .i64 s1) := kp hb5 (by go_cell)
  replace c_s1 : w5.cell? ⟨w1.heap.size, 1, none⟩ = some (.int .i64 s2) := kp hb5 (by go_cell)
  clear hb5 hB4
  go_wp2_with fail
  refine (HB.out _).mono ?_
  rintro e w6 ⟨rfl, hb6⟩
  have hB6 : Below w.heap.size w w6 := below_after (by go_grown) hb6
  have hz6 := hb6.size
  try simp only [World.size_alloc, World.size_setCell, World.size_drew] at hz6
  have hw6 := hB6.size
  replace c_c0 : w6.cell? ⟨w.heap.size, 0, none⟩ = some (.int .i64 ct) := kp hb6 (by go_cell)
  replace c_c1 : w6.cell? ⟨w.heap.size, 1, none⟩ = some (.int .i64 clo) := kp hb6 (by go_cell)
  replace c_c2 : w6.cell? ⟨w.heap.size, 2, none⟩ = some (.int .i64 chi) := kp hb6 (by go_cell)
  replace c_c3 : w6.cell? ⟨w.heap.size, 3, none⟩ = some (.int .i64 cdr) := kp hb6 (by go_cell)
  replace c_d0 : w6.cell? ⟨w.heap.size + 1, 0, none⟩ = some (.int .i64 dl) := kp hb6 (by go_cell)
  replace c_d1 : w6.cell? ⟨w.heap.size + 1, 1, none⟩ = some (.int .i64 dh) := kp hb6 (by go_cell)
  replace c_t0 : w6.cell? ⟨w.heap.size + 1 + 1, 0, none⟩ = some (.int .i64 tlo) := kp hb6 (by go_cell)
  replace c_t1 : w6.cell? ⟨w.heap.size + 1 + 1, 1, none⟩ = some (.int .i64 thi) := kp hb6 (by go_cell)
  replace f_r0 : w6.frozen? ⟨w.heap.size + 1 + 1 + 1, 0, none⟩ = false := kf hb6 (by go_simp) (by go_simp)
  replace f_r1 : w6.frozen? ⟨w.heap.size + 1 + 1 + 1, 1, none⟩ = false := kf hb6 (by go_simp) (by go_simp)
  replace c_r0 : w6.cell? ⟨w.heap.size + 1 + 1 + 1, 0, none⟩ = some (.int .i64 0) := kp hb6 (by go_cell)
  replace c_r1 : w6.cell? ⟨w.heap.size + 1 + 1 + 1, 1, none⟩ = some (.int .i64 0) := kp hb6 (by go_cell)
  replace c_s0 : w6.cell? ⟨w1.heap.size, 0, none⟩ = some (.int .i64 s1) := kp hb6 (by go_cell)
  replace c_s1 : w6.cell? ⟨w1.heap.size, 1, none⟩ = some (.int .i64 s2) := kp hb6 (by go_cell)
  clear hb6 hB5
  go_wp2_with fail
  refine (HE.out _).mono ?_
  rintro e w7 ⟨rfl, hb7⟩
  have hB7 : Below w.heap.size w w7 := below_after (by go_grown) hb7
  have hz7 := hb7.size
  try simp only [World.size_alloc, World.size_setCell, World.size_drew] at hz7
  have hw7 := hB7.size
  replace c_c0 : w7.cell? ⟨w.heap.size, 0, none⟩ = some (.int .i64 ct) := kp hb7 (by go_cell)
  replace c_c1 : w7.cell? ⟨w.heap.size, 1, none⟩ = some (.int .i64 clo) := kp hb7 (by go_cell)
  replace c_c2 : w7.cell? ⟨w.heap.size, 2, none⟩ = some (.int .i64 chi) := kp hb7 (by go_cell)
  replace c_c3 : w7.cell? ⟨w.heap.size, 3, none⟩ = some (.int .i64 cdr) := kp hb7 (by go_cell)
  replace c_d0 : w7.cell? ⟨w.heap.size + 1, 0, none⟩ = some (.int .i64 dl) := kp hb7 (by go_cell)
  replace c_d1 : w7.cell? ⟨w.heap.size + 1, 1, none⟩ = some (.int .i64 dh) := kp hb7 (by go_cell)
  replace c_t0 : w7.cell? ⟨w.heap.size + 1 + 1, 0, none⟩ = some (.int .i64 tlo) := kp hb7 (by go_cell)
  replace c_t1 : w7.cell? ⟨w.heap.size + 1 + 1, 1, none⟩ = some (.int .i64 thi) := kp hb7 (by go_cell)
  replace f_r0 : w7.frozen? ⟨w.heap.size + 1 + 1 + 1, 0, none⟩ = false := kf hb7 (by go_simp) (by go_simp)
  replace f_r1 : w7.frozen? ⟨w.heap.size + 1 + 1 + 1, 1, none⟩ = false := kf hb7 (by go_simp) (by go_simp)
  replace c_r0 : w7.cell? ⟨w.heap.size + 1 + 1 + 1, 0, none⟩ = some (.int .i64 0) := kp hb7 (by go_cell)
  replace c_r1 : w7.cell? ⟨w.heap.size + 1 + 1 + 1, 1, none⟩ = some (.int .i64 0) := kp hb7 (by go_cell)
  replace c_s0 : w7.cell? ⟨w1.heap.size, 0, none⟩ = some (.int .i64 s1) := kp hb7 (by go_cell)
  replace c_s1 : w7.cell? ⟨w1.heap.size, 1, none⟩ = some (.int .i64 s2) := kp hb7 (by go_cell)
  have f_u0 : w7.frozen? ⟨w6.heap.size, 0, none⟩ = false := kf hb7 (by go_simp) (by go_simp)
  have f_u1 : w7.frozen? ⟨w6.heap.size, 1, none⟩ = false := kf hb7 (by go_simp) (by go_simp)
  have c_u0 : w7.cell? ⟨w6.heap.size, 0, none⟩ = some (.int .i64 L) := kp hb7 (by go_cell)
  have c_u1 : w7.cell? ⟨w6.heap.size, 1, none⟩ = some (.int .i64 (g + wr - tlo)) := kp hb7 (by go_cell)
  clear hb7 hB6
  go_wp2_with fail
  first | (refine ret_span rfl rfl rfl (set2s _ _ (by go_simp) (by go_simp)) ⟨rfl, by go_grown⟩) | (refine ret_span rfl rfl rfl ⟨by go_cell, by go_cell⟩ ⟨rfl, by go_grown⟩)
theorem Two_any (A : Option Addr) (n c : Nat) (xs : List Wt) (ct clo chi cdr dl dh sent got tlo thi : Int) (w : World) (hn : xs.length = n) (hbig : n ≤ 1000000) (hx : Wts? w.heap.size w A xs) :
    Calls Try.prog 65 #[.slice A n c, .agg #[.int .i64 ct, .int .i64 clo, .int .i64 chi, .int .i64 cdr], .agg #[.int .i64 dl, .int .i64 dh], .int .i64 sent, .int .i64 got, .agg #[.int .i64 tlo, .int .i64 thi]] w fun e w' => e = .returned (.tuple #[.agg #[.int .i64 (twoS xs ct clo chi cdr dl dh sent got tlo thi).1, .int .i64 (twoS xs ct clo chi cdr dl dh sent got tlo thi).2.1], .int .i64 (twoS xs ct clo chi cdr dl dh sent got tlo thi).2.2]) ∧ Below w.heap.size w w' := by
  cases hs : (wValid xs && depB dl dh) with
  | false => rw [twoS_no (by simp only [twoB]; simp [hs])]; exact Two_0 A n c xs ct clo chi cdr dl dh sent got tlo thi w hn hbig hx hs
  | true =>
    cases hc : clkB ct clo chi cdr with
    | false => rw [twoS_no (by simp only [twoB]; simp [hs, hc])]; exact Two_1 A n c xs ct clo chi cdr dl dh sent got tlo thi w hn hbig hx hs hc
    | true =>
      cases h1 : readB sent with
      | false => rw [twoS_no (by simp only [twoB]; simp [hs, hc, h1])]; exact Two_2 A n c xs ct clo chi cdr dl dh sent got tlo thi w hn hbig hx hs hc h1
      | true =>
        cases h2 : readB got with
        | false => rw [twoS_no (by simp only [twoB]; simp [hs, hc, h1, h2])]; exact Two_3 A n c xs ct clo chi cdr dl dh sent got tlo thi w hn hbig hx hs hc h1 h2
        | true =>
          cases h3 : decide (sent ≤ got) with
          | false => rw [twoS_no (by simp only [twoB]; simp [hs, hc, h1, h2, h3])]; exact Two_4 A n c xs ct clo chi cdr dl dh sent got tlo thi w hn hbig hx hs hc h1 h2 h3
          | true =>
            cases h4 : timB tlo thi with
            | false => rw [twoS_no (by simp only [twoB]; simp [hs, hc, h1, h2, h3, h4])]; exact Two_5 A n c xs ct clo chi cdr dl dh sent got tlo thi w hn hbig hx hs hc h1 h2 h3 h4
            | true =>
              rw [twoS_ok (by simp only [twoB]; simp [hs, hc, h1, h2, h3, h4]), twoR]
              by_cases hn0 : got - sent + wrS cdr (got - sent) - tlo < 0
              · rw [if_pos hn0]
                by_cases hm1 : got - sent - wrS cdr (got - sent) < 0
                · exact Two_n02 A n c xs ct clo chi cdr dl dh sent got tlo thi w hn hbig hx hs hc h1 h2 h3 h4 hm1 hn0
                · exact Two_n12 A n c xs ct clo chi cdr dl dh sent got tlo thi w hn hbig hx hs hc h1 h2 h3 h4 (by omega) hn0
              · rw [if_neg hn0]
                by_cases hm1 : got - sent - wrS cdr (got - sent) < 0
                · by_cases hm2 : 0 - thi < 0
                  · rw [show max (max (got - sent - wrS cdr (got - sent)) 0 - thi) 0 = 0 by omega]
                    exact Two_y00 A n c xs ct clo chi cdr dl dh sent got tlo thi w hn hbig hx hs hc h1 h2 h3 h4 hm1 hm2 hn0
                  · rw [show max (max (got - sent - wrS cdr (got - sent)) 0 - thi) 0 = (0 - thi) by omega]
                    exact Two_y01 A n c xs ct clo chi cdr dl dh sent got tlo thi w hn hbig hx hs hc h1 h2 h3 h4 hm1 (by omega) hn0
                · by_cases hm2 : (got - sent - wrS cdr (got - sent)) - thi < 0
                  · rw [show max (max (got - sent - wrS cdr (got - sent)) 0 - thi) 0 = 0 by omega]
                    exact Two_y10 A n c xs ct clo chi cdr dl dh sent got tlo thi w hn hbig hx hs hc h1 h2 h3 h4 (by omega) hm2 hn0
                  · rw [show max (max (got - sent - wrS cdr (got - sent)) 0 - thi) 0 = (got - sent - wrS cdr (got - sent) - thi) by omega]
                    exact Two_y11 A n c xs ct clo chi cdr dl dh sent got tlo thi w hn hbig hx hs hc h1 h2 h3 h4 (by omega) (by omega) hn0
end Go.Proofs.Ytollpjdnahemeaa
