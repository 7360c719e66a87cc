import Derived.Test.YtollpjdnahemeaaQ10
import Derived.Deep.RegionHeld3
import Derived.Deep.DeepCutAuto
namespace Go.Proofs.Ytollpjdnahemeaa
open Go.RowKit Go.Shelf
set_option linter.unusedSimpArgs false
set_option linter.unusedVariables false
attribute [local go_sem ↓] Go.wp_at_zero Go.wp_at_succ
set_option maxHeartbeats 1600000 in
set_option maxRecDepth 100000 in
theorem Dist_a (A : Option Addr) (n c : Nat) (xs : List Wt) (dl dh tlo thi : Int) (w : World) (hn : xs.length = n) (hbig : n ≤ 1000000) (hx : Wts? w.heap.size w A xs) (h : (wValid xs && depB dl dh) = false) :
    Calls Try.prog 63 #[.slice A n c, .agg #[.int .i64 dl, .int .i64 dh], .agg #[.int .i64 tlo, .int .i64 thi]] w fun e w' => e = .returned (.tuple #[.agg #[.int .i64 0, .int .i64 0], .int .i64 1]) ∧ Below w.heap.size w w' := by
  have HXS := Lib.hid (hxs_of hx)
  have hS := fun W h => Speed_any A n c xs dl dh W hn hbig h
  rw [speedS_no h] at hS
  have HS := Lib.hid hS
  clear hx hn
  go_enter Try.func63, Try.ntmps63
  go_wp2_with fail
  refine (HS.out _ (HXS.out _ (by go_grown))).mono ?_
  rintro e w1 ⟨rfl, hb1⟩
  have hB1 : Below w.heap.size w w1 := below_after (by go_grown) hb1
  have hz1 := hb1.size
  try simp only [World.size_alloc, World.size_setCell, World.size_drew] at hz1
  have hw1 := hB1.size
  have c_d0 : w1.cell? ⟨w.heap.size, 0, none⟩ = some (.int .i64 dl) := kp hb1 (by go_cell)
  have c_d1 : w1.cell? ⟨w.heap.size, 1, none⟩ = some (.int .i64 dh) := kp hb1 (by go_cell)
  have c_t0 : w1.cell? ⟨w.heap.size + 1, 0, none⟩ = some (.int .i64 tlo) := kp hb1 (by go_cell)
  have c_t1 : w1.cell? ⟨w.heap.size + 1, 1, none⟩ = some (.int .i64 thi) := kp hb1 (by go_cell)
  have f_r0 : w1.frozen? ⟨w.heap.size + 1 + 1, 0, none⟩ = false := kf hb1 (by go_simp) (by go_simp)
  have f_r1 : w1.frozen? ⟨w.heap.size + 1 + 1, 1, none⟩ = false := kf hb1 (by go_simp) (by go_simp)
  have c_r0 : w1.cell? ⟨w.heap.size + 1 + 1, 0, none⟩ = some (.int .i64 0) := kp hb1 (by go_cell)
  have c_r1 : w1.cell? ⟨w.heap.size + 1 + 1, 1, none⟩ = some (.int .i64 0) := kp hb1 (by go_cell)
  clear hb1
  go_wp2_with fail
  first | (refine ret_span rfl rfl rfl (set2s _ _ (by go_simp) (by go_simp)) ⟨rfl, by go_grown⟩) | (refine ret_span rfl rfl rfl ⟨by go_cell, by go_cell⟩ ⟨rfl, by go_grown⟩)
set_option maxHeartbeats 1600000 in
set_option maxRecDepth 100000 in
theorem Dist_b (A : Option Addr) (n c : Nat) (xs : List Wt) (dl dh tlo thi : Int) (w : World) (hn : xs.length = n) (hbig : n ≤ 1000000) (hx : Wts? w.heap.size w A xs) (hv : wValid xs = true) (hd : depB dl dh = true) (ht : timB tlo thi = false) :
    Calls Try.prog 63 #[.slice A n c, .agg #[.int .i64 dl, .int .i64 dh], .agg #[.int .i64 tlo, .int .i64 thi]] w fun e w' => e = .returned (.tuple #[.agg #[.int .i64 0, .int .i64 0], .int .i64 1]) ∧ Below w.heap.size w w' := by
  have HXS := Lib.hid (hxs_of hx)
  have ok := speedP_ok hv hd
  obtain ⟨o1, o2, o3⟩ := ok
  have hS := fun W h => Speed_any A n c xs dl dh W hn hbig h
  rw [speedS_ok (by rw [hv, hd]; rfl)] at hS
  have hU := fun W => upTo_any tlo thi 1000000000 W
  rw [show (decide (0 ≤ tlo) && decide (tlo ≤ thi) && decide (thi ≤ 1000000000)) = false from ht] at hU
  generalize (speedP dl dh xs).1 = s1 at *
  generalize (speedP dl dh xs).2 = s2 at *
  have HS := Lib.hid hS
  have HU := Lib.hid hU

  clear hx hn hv hd ht hS hU
  go_enter Try.func63, Try.ntmps63
  go_wp2_with fail
  refine (HS.out _ (HXS.out _ (by go_grown))).mono ?_
  rintro e w1 ⟨rfl, hb1⟩
  have hB1 : Below w.heap.size w w1 := below_after (by go_grown) hb1
  have hz1 := hb1.size
  try simp only [World.size_alloc, World.size_setCell, World.size_drew] at hz1
  have hw1 := hB1.size
  have c_d0 : w1.cell? ⟨w.heap.size, 0, none⟩ = some (.int .i64 dl) := kp hb1 (by go_cell)
  have c_d1 : w1.cell? ⟨w.heap.size, 1, none⟩ = some (.int .i64 dh) := kp hb1 (by go_cell)
  have c_t0 : w1.cell? ⟨w.heap.size + 1, 0, none⟩ = some (.int .i64 tlo) := kp hb1 (by go_cell)
  have c_t1 : w1.cell? ⟨w.heap.size + 1, 1, none⟩ = some (.int .i64 thi) := kp hb1 (by go_cell)
  have f_r0 : w1.frozen? ⟨w.heap.size + 1 + 1, 0, none⟩ = false := kf hb1 (by go_simp) (by go_simp)
  have f_r1 : w1.frozen? ⟨w.heap.size + 1 + 1, 1, none⟩ = false := kf hb1 (by go_simp) (by go_simp)
  have c_r0 : w1.cell? ⟨w.heap.size + 1 + 1, 0, none⟩ = some (.int .i64 0) := kp hb1 (by go_cell)
  have c_r1 : w1.cell? ⟨w.heap.size + 1 + 1, 1, none⟩ = some (.int .i64 0) := kp hb1 (by go_cell)
  clear hb1
  go_wp2_with fail
  refine (HU.out _).mono ?_
  rintro e w2 ⟨rfl, hb2⟩
  have hB2 : Below w.heap.size w w2 := below_after (by go_grown) hb2
  have hz2 := hb2.size
  try simp only [World.size_alloc, World.size_setCell, World.size_drew] at hz2
  have hw2 := hB2.size
  replace c_d0 : w2.cell? ⟨w.heap.size, 0, none⟩ = some (.int .i64 dl) := kp hb2 (by go_cell)
  replace c_d1 : w2.cell? ⟨w.heap.size, 1, none⟩ = some (.int .i64 dh) := kp hb2 (by go_cell)
  replace c_t0 : w2.cell? ⟨w.heap.size + 1, 0, none⟩ = some (.int .i64 tlo) := kp hb2 (by go_cell)
  replace c_t1 : w2.cell? ⟨w.heap.size + 1, 1, none⟩ = some (.int .i64 thi) := kp hb2 (by go_cell)
  replace f_r0 : w2.frozen? ⟨w.heap.size + 1 + 1, 0, none⟩ = false := kf hb2 (by go_simp) (by go_simp)
  replace f_r1 : w2.frozen? ⟨w.heap.size + 1 + 1, 1, none⟩ = false := kf hb2 (by go_simp) (by go_simp)
  replace c_r0 : w2.cell? ⟨w.heap.size + 1 + 1, 0, none⟩ = some (.int .i64 0) := kp hb2 (by go_cell)
  replace c_r1 : w2.cell? ⟨w.heap.size + 1 + 1, 1, none⟩ = some (.int .i64 0) := kp hb2 (by go_cell)
  have c_s0 : w2.cell? ⟨w1.heap.size, 0, none⟩ = some (.int .i64 s1) := kp hb2 (by go_cell)
  have c_s1 : w2.cell? ⟨w1.heap.size, 1, none⟩ = some (.int .i64 s2) := kp hb2 (by go_cell)
  clear hb2 hB1
  go_wp2_with fail
  first | (refine ret_span rfl rfl rfl (set2s _ _ (by go_simp) (by go_simp)) ⟨rfl, by go_grown⟩) | (refine ret_span rfl rfl rfl ⟨by go_cell, by go_cell⟩ ⟨rfl, by go_grown⟩)
set_option maxHeartbeats 1600000 in
set_option maxRecDepth 100000 in
theorem Dist_c (A : Option Addr) (n c : Nat) (xs : List Wt) (dl dh tlo thi : Int) (w : World) (hn : xs.length = n) (hbig : n ≤ 1000000) (hx : Wts? w.heap.size w A xs) (hv : wValid xs = true) (hd : depB dl dh = true) (ht : timB tlo thi = true) :
    Calls Try.prog 63 #[.slice A n c, .agg #[.int .i64 dl, .int .i64 dh], .agg #[.int .i64 tlo, .int .i64 thi]] w fun e w' => e = .returned (.tuple #[.agg #[.int .i64 (distsS (speedP dl dh xs).1 (speedP dl dh xs).2 tlo thi 1000).1, .int .i64 (distsS (speedP dl dh xs).1 (speedP dl dh xs).2 tlo thi 1000).2.1], .int .i64 (distsS (speedP dl dh xs).1 (speedP dl dh xs).2 tlo thi 1000).2.2]) ∧ Below w.heap.size w w' := by
  have HXS := Lib.hid (hxs_of hx)
  have ok := speedP_ok hv hd
  obtain ⟨o1, o2, o3⟩ := ok
  have hS := fun W h => Speed_any A n c xs dl dh W hn hbig h
  rw [speedS_ok (by rw [hv, hd]; rfl)] at hS
  have hU := fun W => upTo_any tlo thi 1000000000 W
  rw [show (decide (0 ≤ tlo) && decide (tlo ≤ thi) && decide (thi ≤ 1000000000)) = true from ht] at hU
  have tb := (timB_iff tlo thi).1 ht
  have q1 := prod_sp (a := (speedP dl dh xs).1) (b := tlo) (by omega) (by omega) (by omega) (by omega)
  have q2 := prod_sp (a := (speedP dl dh xs).2) (b := thi) (by omega) (by omega) (by omega) (by omega)
  have hE := fun W => dists1000_any (speedP dl dh xs).1 (speedP dl dh xs).2 tlo thi W q1.1 q1.2 q2.1 q2.2
  generalize distsS (speedP dl dh xs).1 (speedP dl dh xs).2 tlo thi 1000 = R at *
  obtain ⟨R1, R2, R3⟩ := R
  simp only at hE
  generalize (speedP dl dh xs).1 = s1 at *
  generalize (speedP dl dh xs).2 = s2 at *
  have HS := Lib.hid hS
  have HU := Lib.hid hU
  have HE := Lib.hid hE
  clear hx hn hv hd ht hS hU hE tb q1 q2
  go_enter Try.func63, Try.ntmps63
  go_wp2_with fail
  refine (HS.out _ (HXS.out _ (by go_grown))).mono ?_
  rintro e w1 ⟨rfl, hb1⟩
  have hB1 : Below w.heap.size w w1 := below_after (by go_grown) hb1
  have hz1 := hb1.size
  try simp only [World.size_alloc, World.size_setCell, World.size_drew] at hz1
  have hw1 := hB1.size
  have c_d0 : w1.cell? ⟨w.heap.size, 0, none⟩ = some (.int .i64 dl) := kp hb1 (by go_cell)
  have c_d1 : w1.cell? ⟨w.heap.size, 1, none⟩ = some (.int .i64 dh) := kp hb1 (by go_cell)
  have c_t0 : w1.cell? ⟨w.heap.size + 1, 0, none⟩ = some (.int .i64 tlo) := kp hb1 (by go_cell)
  have c_t1 : w1.cell? ⟨w.heap.size + 1, 1, none⟩ = some (.int .i64 thi) := kp hb1 (by go_cell)
  have f_r0 : w1.frozen? ⟨w.heap.size + 1 + 1, 0, none⟩ = false := kf hb1 (by go_simp) (by go_simp)
  have f_r1 : w1.frozen? ⟨w.heap.size + 1 + 1, 1, none⟩ = false := kf hb1 (by go_simp) (by go_simp)
  have c_r0 : w1.cell? ⟨w.heap.size + 1 + 1, 0, none⟩ = some (.int .i64 0) := kp hb1 (by go_cell)
  have c_r1 : w1.cell? ⟨w.heap.size + 1 + 1, 1, none⟩ = some (.int .i64 0) := kp hb1 (by go_cell)
  clear hb1
  go_wp2_with fail
  refine (HU.out _).mono ?_
  rintro e w2 ⟨rfl, hb2⟩
  have hB2 : Below w.heap.size w w2 := below_after (by go_grown) hb2
  have hz2 := hb2.size
  try simp only [World.size_alloc, World.size_setCell, World.size_drew] at hz2
  have hw2 := hB2.size
  replace c_d0 : w2.cell? ⟨w.heap.size, 0, none⟩ = some (.int .i64 dl) := kp hb2 (by go_cell)
  replace c_d1 : w2.cell? ⟨w.heap.size, 1, none⟩ = some (.int .i64 dh) := kp hb2 (by go_cell)
  replace c_t0 : w2.cell? ⟨w.heap.size + 1, 0, none⟩ = some (.int .i64 tlo) := kp hb2 (by go_cell)
  replace c_t1 : w2.cell? ⟨w.heap.size + 1, 1, none⟩ = some (.int .i64 thi) := kp hb2 (by go_cell)
  replace f_r0 : w2.frozen? ⟨w.heap.size + 1 + 1, 0, none⟩ = false := kf hb2 (by go_simp) (by go_simp)
  replace f_r1 : w2.frozen? ⟨w.heap.size + 1 + 1, 1, none⟩ = false := kf hb2 (by go_simp) (by go_simp)
  replace c_r0 : w2.cell? ⟨w.heap.size + 1 + 1, 0, none⟩ = some (.int .i64 0) := kp hb2 (by go_cell)
  replace c_r1 : w2.cell? ⟨w.heap.size + 1 + 1, 1, none⟩ = some (.int .i64 0) := kp hb2 (by go_cell)
  have c_s0 : w2.cell? ⟨w1.heap.size, 0, none⟩ = some (.int .i64 s1) := kp hb2 (by go_cell)
  have c_s1 : w2.cell? ⟨w1.heap.size, 1, none⟩ = some (.int .i64 s2) := kp hb2 (by go_cell)
  clear hb2 hB1
  go_wp2_with fail
  refine (HE.out _).mono ?_
  rintro e w3 ⟨rfl, hb3⟩
  have hB3 : Below w.heap.size w w3 := below_after (by go_grown) hb3
  have hz3 := hb3.size
  try simp only [World.size_alloc, World.size_setCell, World.size_drew] at hz3
  have hw3 := hB3.size
  replace c_d0 : w3.cell? ⟨w.heap.size, 0, none⟩ = some (.int .i64 dl) := kp hb3 (by go_cell)
  replace c_d1 : w3.cell? ⟨w.heap.size, 1, none⟩ = some (.int .i64 dh) := kp hb3 (by go_cell)
  replace c_t0 : w3.cell? ⟨w.heap.size + 1, 0, none⟩ = some (.int .i64 tlo) := kp hb3 (by go_cell)
  replace c_t1 : w3.cell? ⟨w.heap.size + 1, 1, none⟩ = some (.int .i64 thi) := kp hb3 (by go_cell)
  replace f_r0 : w3.frozen? ⟨w.heap.size + 1 + 1, 0, none⟩ = false := kf hb3 (by go_simp) (by go_simp)
  replace f_r1 : w3.frozen? ⟨w.heap.size + 1 + 1, 1, none⟩ = false := kf hb3 (by go_simp) (by go_simp)
  replace c_r0 : w3.cell? ⟨w.heap.size + 1 + 1, 0, none⟩ = some (.int .i64 0) := kp hb3 (by go_cell)
  replace c_r1 : w3.cell? ⟨w.heap.size + 1 + 1, 1, none⟩ = some (.int .i64 0) := kp hb3 (by go_cell)
  replace c_s0 : w3.cell? ⟨w1.heap.size, 0, none⟩ = some (.int .i64 s1) := kp hb3 (by go_cell)
  replace c_s1 : w3.cell? ⟨w1.heap.size, 1, none⟩ = some (.int .i64 s2) := kp hb3 (by go_cell)
  clear hb3 hB2
  go_wp2_with fail
  first | (refine ret_span rfl rfl rfl (set2s _ _ (by go_simp) (by go_simp)) ⟨rfl, by go_grown⟩) | (refine ret_span rfl rfl rfl ⟨by go_cell, by go_cell⟩ ⟨rfl, by go_grown⟩)
theorem distS_no {xs : List Wt} {dl dh tlo thi : Int} (h : (wValid xs && depB dl dh && timB tlo thi) = false) : distS xs dl dh tlo thi = (0, 0, 1) := by rw [distS, h]; rfl
theorem distS_ok {xs : List Wt} {dl dh tlo thi : Int} (h : (wValid xs && depB dl dh && timB tlo thi) = true) : distS xs dl dh tlo thi = distsS (speedP dl dh xs).1 (speedP dl dh xs).2 tlo thi 1000 := by rw [distS, h]; rfl
theorem Dist_any (A : Option Addr) (n c : Nat) (xs : List Wt) (dl dh tlo thi : Int) (w : World) (hn : xs.length = n) (hbig : n ≤ 1000000) (hx : Wts? w.heap.size w A xs) :
    Calls Try.prog 63 #[.slice A n c, .agg #[.int .i64 dl, .int .i64 dh], .agg #[.int .i64 tlo, .int .i64 thi]] w fun e w' => e = .returned (.tuple #[.agg #[.int .i64 (distS xs dl dh tlo thi).1, .int .i64 (distS xs dl dh tlo thi).2.1], .int .i64 (distS xs dl dh tlo thi).2.2]) ∧ Below w.heap.size w w' := by
  cases h : (wValid xs && depB dl dh) with
  | false => rw [distS_no (by rw [h]; rfl)]; exact Dist_a A n c xs dl dh tlo thi w hn hbig hx h
  | true =>
    have hv := and_left h
    have hd := and_right h
    cases ht : timB tlo thi with
    | false => rw [distS_no (by rw [hv, hd, ht]; rfl)]; exact Dist_b A n c xs dl dh tlo thi w hn hbig hx hv hd ht
    | true => rw [distS_ok (by rw [hv, hd, ht]; rfl)]; exact Dist_c A n c xs dl dh tlo thi w hn hbig hx hv hd ht
set_option maxHeartbeats 1600000 in
set_option maxRecDepth 100000 in
theorem RDist_v (A : Option Addr) (n c : Nat) (xs : List Wt) (dl dh tlo thi : Int) (w : World) (hn : xs.length = n) (hbig : n ≤ 1000000) (hx : Wts? w.heap.size w A xs) (hv : wValid xs = false) :
    Calls Try.prog 64 #[.slice A n c, .agg #[.int .i64 dl, .int .i64 dh], .agg #[.int .i64 tlo, .int .i64 thi]] w fun e w' => e = .returned (.tuple #[.agg #[.int .i64 0, .int .i64 0], .int .i64 1]) ∧ Below w.heap.size w w' := by
  have HXS := Lib.hid (hxs_of hx)
  have hV := fun W h => RValid17_any A n c xs W hn h
  rw [hv] at hV
  have HV := Lib.hid hV
  clear hx hn
  go_enter Try.func64, Try.ntmps64
  go_wp2_with fail
  refine (HV.out _ (HXS.out _ (by go_grown))).mono ?_
  rintro e w1 ⟨rfl, hb1⟩
  have hB1 : Below w.heap.size w w1 := below_after (by go_grown) hb1
  have hz1 := hb1.size
  try simp only [World.size_alloc, World.size_setCell, World.size_drew] at hz1
  have hw1 := hB1.size
  have c_d0 : w1.cell? ⟨w.heap.size, 0, none⟩ = some (.int .i64 dl) := kp hb1 (by go_cell)
  have c_d1 : w1.cell? ⟨w.heap.size, 1, none⟩ = some (.int .i64 dh) := kp hb1 (by go_cell)
  have c_t0 : w1.cell? ⟨w.heap.size + 1, 0, none⟩ = some (.int .i64 tlo) := kp hb1 (by go_cell)
  have c_t1 : w1.cell? ⟨w.heap.size + 1, 1, none⟩ = some (.int .i64 thi) := kp hb1 (by go_cell)
  have f_r0 : w1.frozen? ⟨w.heap.size + 1 + 1, 0, none⟩ = false := kf hb1 (by go_simp) (by go_simp)
  have f_r1 : w1.frozen? ⟨w.heap.size + 1 + 1, 1, none⟩ = false := kf hb1 (by go_simp) (by go_simp)
  have c_r0 : w1.cell? ⟨w.heap.size + 1 + 1, 0, none⟩ = some (.int .i64 0) := kp hb1 (by go_cell)
  have c_r1 : w1.cell? ⟨w.heap.size + 1 + 1, 1, none⟩ = some (.int .i64 0) := kp hb1 (by go_cell)
  clear hb1
  go_wp2_with fail
  first | (refine ret_span rfl rfl rfl (set2s _ _ (by go_simp) (by go_simp)) ⟨rfl, by go_grown⟩) | (refine ret_span rfl rfl rfl ⟨by go_cell, by go_cell⟩ ⟨rfl, by go_grown⟩)
set_option maxHeartbeats 1600000 in
set_option maxRecDepth 100000 in
theorem RDist_a (A : Option Addr) (n c : Nat) (xs : List Wt) (dl dh tlo thi : Int) (w : World) (hn : xs.length = n) (hbig : n ≤ 1000000) (hx : Wts? w.heap.size w A xs) (hv : wValid xs = true) (hd : depB dl dh = false) :
    Calls Try.prog 64 #[.slice A n c, .agg #[.int .i64 dl, .int .i64 dh], .agg #[.int .i64 tlo, .int .i64 thi]] w fun e w' => e = .returned (.tuple #[.agg #[.int .i64 0, .int .i64 0], .int .i64 1]) ∧ Below w.heap.size w w' := by
  have HXS := Lib.hid (hxs_of hx)
  have hV := fun W h => RValid17_any A n c xs W hn h
  rw [hv] at hV
  have HV := Lib.hid hV
  have hD := fun W => RDepths17_any dl dh W
  rw [hd] at hD
  have HD := Lib.hid hD
  clear hx hn
  go_enter Try.func64, Try.ntmps64
  go_wp2_with fail
  refine (HV.out _ (HXS.out _ (by go_grown))).mono ?_
  rintro e w1 ⟨rfl, hb1⟩
  have hB1 : Below w.heap.size w w1 := below_after (by go_grown) hb1
  have hz1 := hb1.size
  try simp only [World.size_alloc, World.size_setCell, World.size_drew] at hz1
  have hw1 := hB1.size
  have c_d0 : w1.cell? ⟨w.heap.size, 0, none⟩ = some (.int .i64 dl) := kp hb1 (by go_cell)
  have c_d1 : w1.cell? ⟨w.heap.size, 1, none⟩ = some (.int .i64 dh) := kp hb1 (by go_cell)
  have c_t0 : w1.cell? ⟨w.heap.size + 1, 0, none⟩ = some (.int .i64 tlo) := kp hb1 (by go_cell)
  have c_t1 : w1.cell? ⟨w.heap.size + 1, 1, none⟩ = some (.int .i64 thi) := kp hb1 (by go_cell)
  have f_r0 : w1.frozen? ⟨w.heap.size + 1 + 1, 0, none⟩ = false := kf hb1 (by go_simp) (by go_simp)
  have f_r1 : w1.frozen? ⟨w.heap.size + 1 + 1, 1, none⟩ = false := kf hb1 (by go_simp) (by go_simp)
  have c_r0 : w1.cell? ⟨w.heap.size + 1 + 1, 0, none⟩ = some (.int .i64 0) := kp hb1 (by go_cell)
  have c_r1 : w1.cell? ⟨w.heap.size + 1 + 1, 1, none⟩ = some (.int .i64 0) := kp hb1 (by go_cell)
  clear hb1
  go_wp2_with fail
  refine (HD.out _).mono ?_
  rintro e w2 ⟨rfl, hb2⟩
  have hB2 : Below w.heap.size w w2 := below_after (by go_grown) hb2
  have hz2 := hb2.size
  try simp only [World.size_alloc, World.size_setCell, World.size_drew] at hz2
  have hw2 := hB2.size
  replace c_d0 : w2.cell? ⟨w.heap.size, 0, none⟩ = some (.int .i64 dl) := kp hb2 (by go_cell)
  replace c_d1 : w2.cell? ⟨w.heap.size, 1, none⟩ = some (.int .i64 dh) := kp hb2 (by go_cell)
  replace c_t0 : w2.cell? ⟨w.heap.size + 1, 0, none⟩ = some (.int .i64 tlo) := kp hb2 (by go_cell)
  replace c_t1 : w2.cell? ⟨w.heap.size + 1, 1, none⟩ = some (.int .i64 thi) := kp hb2 (by go_cell)
  replace f_r0 : w2.frozen? ⟨w.heap.size + 1 + 1, 0, none⟩ = false := kf hb2 (by go_simp) (by go_simp)
  replace f_r1 : w2.frozen? ⟨w.heap.size + 1 + 1, 1, none⟩ = false := kf hb2 (by go_simp) (by go_simp)
  replace c_r0 : w2.cell? ⟨w.heap.size + 1 + 1, 0, none⟩ = some (.int .i64 0) := kp hb2 (by go_cell)
  replace c_r1 : w2.cell? ⟨w.heap.size + 1 + 1, 1, none⟩ = some (.int .i64 0) := kp hb2 (by go_cell)
  clear hb2 hB1
  go_wp2_with fail
  first | (refine ret_span rfl rfl rfl (set2s _ _ (by go_simp) (by go_simp)) ⟨rfl, by go_grown⟩) | (refine ret_span rfl rfl rfl ⟨by go_cell, by go_cell⟩ ⟨rfl, by go_grown⟩)
set_option maxHeartbeats 1600000 in
set_option maxRecDepth 100000 in
theorem RDist_b (A : Option Addr) (n c : Nat) (xs : List Wt) (dl dh tlo thi : Int) (w : World) (hn : xs.length = n) (hbig : n ≤ 1000000) (hx : Wts? w.heap.size w A xs) (hv : wValid xs = true) (hd : depB dl dh = true) (ht : timB tlo thi = false) :
    Calls Try.prog 64 #[.slice A n c, .agg #[.int .i64 dl, .int .i64 dh], .agg #[.int .i64 tlo, .int .i64 thi]] w fun e w' => e = .returned (.tuple #[.agg #[.int .i64 0, .int .i64 0], .int .i64 1]) ∧ Below w.heap.size w w' := by
  have HXS := Lib.hid (hxs_of hx)
  have ok := speedP_ok hv hd
  obtain ⟨o1, o2, o3⟩ := ok
  have hV := fun W h => RValid17_any A n c xs W hn h
  rw [hv] at hV
  have HV := Lib.hid hV
  have hD := fun W => RDepths17_any dl dh W
  rw [hd] at hD
  have HD := Lib.hid hD
  have hS := fun W h => speeds_any A n c xs dl dh W hn hbig h
  have hU := fun W => RTimes17_any tlo thi W
  rw [ht] at hU
  generalize (speedP dl dh xs).1 = s1 at *
  generalize (speedP dl dh xs).2 = s2 at *
  have HS := Lib.hid hS
  have HU := Lib.hid hU

  clear hx hn hv hd ht hS hU hV hD
  go_enter Try.func64, Try.ntmps64
  go_wp2_with fail
  refine (HV.out _ (HXS.out _ (by go_grown))).mono ?_
  rintro e w1 ⟨rfl, hb1⟩
  have hB1 : Below w.heap.size w w1 := below_after (by go_grown) hb1
  have hz1 := hb1.size
  try simp only [World.size_alloc, World.size_setCell, World.size_drew] at hz1
  have hw1 := hB1.size
  have c_d0 : w1.cell? ⟨w.heap.size, 0, none⟩ = some (.int .i64 dl) := kp hb1 (by go_cell)
  have c_d1 : w1.cell? ⟨w.heap.size, 1, none⟩ = some (.int .i64 dh) := kp hb1 (by go_cell)
  have c_t0 : w1.cell? ⟨w.heap.size + 1, 0, none⟩ = some (.int .i64 tlo) := kp hb1 (by go_cell)
  have c_t1 : w1.cell? ⟨w.heap.size + 1, 1, none⟩ = some (.int .i64 thi) := kp hb1 (by go_cell)
  have f_r0 : w1.frozen? ⟨w.heap.size + 1 + 1, 0, none⟩ = false := kf hb1 (by go_simp) (by go_simp)
  have f_r1 : w1.frozen? ⟨w.heap.size + 1 + 1, 1, none⟩ = false := kf hb1 (by go_simp) (by go_simp)
  have c_r0 : w1.cell? ⟨w.heap.size + 1 + 1, 0, none⟩ = some (.int .i64 0) := kp hb1 (by go_cell)
  have c_r1 : w1.cell? ⟨w.heap.size + 1 + 1, 1, none⟩ = some (.int .i64 0) := kp hb1 (by go_cell)
  clear hb1
  go_wp2_with fail
  refine (HD.out _).mono ?_
  rintro e w2 ⟨rfl, hb2⟩
  have hB2 : Below w.heap.size w w2 := below_after (by go_grown) hb2
  have hz2 := hb2.size
  try simp only [World.size_alloc, World.size_setCell, World.size_drew] at hz2
  have hw2 := hB2.size
  replace c_d0 : w2.cell? ⟨w.heap.size, 0, none⟩ = some (.int .i64 dl) := kp hb2 (by go_cell)
  replace c_d1 : w2.cell? ⟨w.heap.size, 1, none⟩ = some (.int .i64 dh) := kp hb2 (by go_cell)
  replace c_t0 : w2.cell? ⟨w.heap.size + 1, 0, none⟩ = some (.int .i64 tlo) := kp hb2 (by go_cell)
  replace c_t1 : w2.cell? ⟨w.heap.size + 1, 1, none⟩ = some (.int .i64 thi) := kp hb2 (by go_cell)
  replace f_r0 : w2.frozen? ⟨w.heap.size + 1 + 1, 0, none⟩ = false := kf hb2 (by go_simp) (by go_simp)
  replace f_r1 : w2.frozen? ⟨w.heap.size + 1 + 1, 1, none⟩ = false := kf hb2 (by go_simp) (by go_simp)
  replace c_r0 : w2.cell? ⟨w.heap.size + 1 + 1, 0, none⟩ = some (.int .i64 0) := kp hb2 (by go_cell)
  replace c_r1 : w2.cell? ⟨w.heap.size + 1 + 1, 1, none⟩ = some (.int .i64 0) := kp hb2 (by go_cell)
  clear hb2 hB1
  go_wp2_with fail
  refine (HU.out _).mono ?_
  rintro e w3 ⟨rfl, hb3⟩
  have hB3 : Below w.heap.size w w3 := below_after (by go_grown) hb3
  have hz3 := hb3.size
  try simp only [World.size_alloc, World.size_setCell, World.size_drew] at hz3
  have hw3 := hB3.size
  replace c_d0 : w3.cell? ⟨w.heap.size, 0, none⟩ = some (.int .i64 dl) := kp hb3 (by go_cell)
  replace c_d1 : w3.cell? ⟨w.heap.size, 1, none⟩ = some (.int .i64 dh) := kp hb3 (by go_cell)
  replace c_t0 : w3.cell? ⟨w.heap.size + 1, 0, none⟩ = some (.int .i64 tlo) := kp hb3 (by go_cell)
  replace c_t1 : w3.cell? ⟨w.heap.size + 1, 1, none⟩ = some (.int .i64 thi) := kp hb3 (by go_cell)
  replace f_r0 : w3.frozen? ⟨w.heap.size + 1 + 1, 0, none⟩ = false := kf hb3 (by go_simp) (by go_simp)
  replace f_r1 : w3.frozen? ⟨w.heap.size + 1 + 1, 1, none⟩ = false := kf hb3 (by go_simp) (by go_simp)
  replace c_r0 : w3.cell? ⟨w.heap.size + 1 + 1, 0, none⟩ = some (.int .i64 0) := kp hb3 (by go_cell)
  replace c_r1 : w3.cell? ⟨w.heap.size + 1 + 1, 1, none⟩ = some (.int .i64 0) := kp hb3 (by go_cell)
  clear hb3 hB2
  go_wp2_with fail
  first | (refine ret_span rfl rfl rfl (set2s _ _ (by go_simp) (by go_simp)) ⟨rfl, by go_grown⟩) | (refine ret_span rfl rfl rfl ⟨by go_cell, by go_cell⟩ ⟨rfl, by go_grown⟩)
set_option maxHeartbeats 1600000 in
set_option maxRecDepth 100000 in
theorem RDist_c (A : Option Addr) (n c : Nat) (xs : List Wt) (dl dh tlo thi : Int) (w : World) (hn : xs.length = n) (hbig : n ≤ 1000000) (hx : Wts? w.heap.size w A xs) (hv : wValid xs = true) (hd : depB dl dh = true) (ht : timB tlo thi = true) :
    Calls Try.prog 64 #[.slice A n c, .agg #[.int .i64 dl, .int .i64 dh], .agg #[.int .i64 tlo, .int .i64 thi]] w fun e w' => e = .returned (.tuple #[.agg #[.int .i64 (distsS (speedP dl dh xs).1 (speedP dl dh xs).2 tlo thi 1000).1, .int .i64 (distsS (speedP dl dh xs).1 (speedP dl dh xs).2 tlo thi 1000).2.1], .int .i64 (distsS (speedP dl dh xs).1 (speedP dl dh xs).2 tlo thi 1000).2.2]) ∧ Below w.heap.size w w' := by
  have HXS := Lib.hid (hxs_of hx)
  have ok := speedP_ok hv hd
  obtain ⟨o1, o2, o3⟩ := ok
  have hV := fun W h => RValid17_any A n c xs W hn h
  rw [hv] at hV
  have HV := Lib.hid hV
  have hD := fun W => RDepths17_any dl dh W
  rw [hd] at hD
  have HD := Lib.hid hD
  have hS := fun W h => speeds_any A n c xs dl dh W hn hbig h
  have hU := fun W => RTimes17_any tlo thi W
  rw [ht] at hU
  have tb := (timB_iff tlo thi).1 ht
  have q1 := prod_sp (a := (speedP dl dh xs).1) (b := tlo) (by omega) (by omega) (by omega) (by omega)
  have q2 := prod_sp (a := (speedP dl dh xs).2) (b := thi) (by omega) (by omega) (by omega) (by omega)
  have hE := fun W => rdists1000_any (speedP dl dh xs).1 (speedP dl dh xs).2 tlo thi W q1.1 q1.2 q2.1 q2.2
  generalize distsS (speedP dl dh xs).1 (speedP dl dh xs).2 tlo thi 1000 = R at *
  obtain ⟨R1, R2, R3⟩ := R
  simp only at hE
  generalize (speedP dl dh xs).1 = s1 at *
  generalize (speedP dl dh xs).2 = s2 at *
  have HS := Lib.hid hS
  have HU := Lib.hid hU
  have HE := Lib.hid hE
  clear hx hn hv hd ht hS hU hE tb q1 q2 hV hD
  go_enter Try.func64, Try.ntmps64
  go_wp2_with fail
  refine (HV.out _ (HXS.out _ (by go_grown))).mono ?_
  rintro e w1 ⟨rfl, hb1⟩
  have hB1 : Below w.heap.size w w1 := below_after (by go_grown) hb1
  have hz1 := hb1.size
  try simp only [World.size_alloc, World.size_setCell, World.size_drew] at hz1
  have hw1 := hB1.size
  have c_d0 : w1.cell? ⟨w.heap.size, 0, none⟩ = some (.int .i64 dl) := kp hb1 (by go_cell)
  have c_d1 : w1.cell? ⟨w.heap.size, 1, none⟩ = some (.int .i64 dh) := kp hb1 (by go_cell)
  have c_t0 : w1.cell? ⟨w.heap.size + 1, 0, none⟩ = some (.int .i64 tlo) := kp hb1 (by go_cell)
  have c_t1 : w1.cell? ⟨w.heap.size + 1, 1, none⟩ = some (.int .i64 thi) := kp hb1 (by go_cell)
  have f_r0 : w1.frozen? ⟨w.heap.size + 1 + 1, 0, none⟩ = false := kf hb1 (by go_simp) (by go_simp)
  have f_r1 : w1.frozen? ⟨w.heap.size + 1 + 1, 1, none⟩ = false := kf hb1 (by go_simp) (by go_simp)
  have c_r0 : w1.cell? ⟨w.heap.size + 1 + 1, 0, none⟩ = some (.int .i64 0) := kp hb1 (by go_cell)
  have c_r1 : w1.cell? ⟨w.heap.size + 1 + 1, 1, none⟩ = some (.int .i64 0) := kp hb1 (by go_cell)
  clear hb1
  go_wp2_with fail
  refine (HD.out _).mono ?_
  rintro e w2 ⟨rfl, hb2⟩
  have hB2 : Below w.heap.size w w2 := below_after (by go_grown) hb2
  have hz2 := hb2.size
  try simp only [World.size_alloc, World.size_setCell, World.size_drew] at hz2
  have hw2 := hB2.size
  replace c_d0 : w2.cell? ⟨w.heap.size, 0, none⟩ = some (.int .i64 dl) := kp hb2 (by go_cell)
  replace c_d1 : w2.cell? ⟨w.heap.size, 1, none⟩ = some (.int .i64 dh) := kp hb2 (by go_cell)
  replace c_t0 : w2.cell? ⟨w.heap.size + 1, 0, none⟩ = some (.int .i64 tlo) := kp hb2 (by go_cell)
  replace c_t1 : w2.cell? ⟨w.heap.size + 1, 1, none⟩ = some (.int .i64 thi) := kp hb2 (by go_cell)
  replace f_r0 : w2.frozen? ⟨w.heap.size + 1 + 1, 0, none⟩ = false := kf hb2 (by go_simp) (by go_simp)
  replace f_r1 : w2.frozen? ⟨w.heap.size + 1 + 1, 1, none⟩ = false := kf hb2 (by go_simp) (by go_simp)
  replace c_r0 : w2.cell? ⟨w.heap.size + 1 + 1, 0, none⟩ = some (.int .i64 0) := kp hb2 (by go_cell)
  replace c_r1 : w2.cell? ⟨w.heap.size + 1 + 1, 1, none⟩ = some (.int .i64 0) := kp hb2 (by go_cell)
  clear hb2 hB1
  go_wp2_with fail
  refine (HU.out _).mono ?_
  rintro e w3 ⟨rfl, hb3⟩
  have hB3 : Below w.heap.size w w3 := below_after (by go_grown) hb3
  have hz3 := hb3.size
  try simp only [World.size_alloc, World.size_setCell, World.size_drew] at hz3
  have hw3 := hB3.size
  replace c_d0 : w3.cell? ⟨w.heap.size, 0, none⟩ = some (.int .i64 dl) := kp hb3 (by go_cell)
  replace c_d1 : w3.cell? ⟨w.heap.size, 1, none⟩ = some (.int .i64 dh) := kp hb3 (by go_cell)
  replace c_t0 : w3.cell? ⟨w.heap.size + 1, 0, none⟩ = some (.int .i64 tlo) := kp hb3 (by go_cell)
  replace c_t1 : w3.cell? ⟨w.heap.size + 1, 1, none⟩ = some (.int .i64 thi) := kp hb3 (by go_cell)
  replace f_r0 : w3.frozen? ⟨w.heap.size + 1 + 1, 0, none⟩ = false := kf hb3 (by go_simp) (by go_simp)
  replace f_r1 : w3.frozen? ⟨w.heap.size + 1 + 1, 1, none⟩ = false := kf hb3 (by go_simp) (by go_simp)
  replace c_r0 : w3.cell? ⟨w.heap.size + 1 + 1, 0, none⟩ = some (.int .i64 0) := kp hb3 (by go_cell)
  replace c_r1 : w3.cell? ⟨w.heap.size + 1 + 1, 1, none⟩ = some (.int .i64 0) := kp hb3 (by go_cell)
  clear hb3 hB2
  go_upto_region 4 with fail
  go_region_held3 (fun w' => Below w.heap.size w w' ∧ w'.cell? ⟨w.heap.size, 0, none⟩ = some (.int .i64 dl) ∧ w'.cell? ⟨w.heap.size, 1, none⟩ = some (.int .i64 dh) ∧ w'.cell? ⟨w.heap.size + 1, 0, none⟩ = some (.int .i64 tlo) ∧ w'.cell? ⟨w.heap.size + 1, 1, none⟩ = some (.int .i64 thi))
    ((go_split_ands; refine ⟨?_, ?_, ?_, ?_, ?_⟩; (focus (first | (with_reducible assumption) | (go_grown; done) | (exact Below.drew (by go_grown)))); (focus (first | (with_reducible assumption) | go_cell | (go_simp; done))); (focus (first | (with_reducible assumption) | go_cell | (go_simp; done))); (focus (first | (with_reducible assumption) | go_cell | (go_simp; done))); (focus (first | (with_reducible assumption) | go_cell | (go_simp; done)))))
    (first | ((go_split_ands; (with_reducible refine (HS.out _ (HXS.out _ (by assumption))).mono ?_); rintro e xa ⟨rfl, hb_xa⟩; have hB_xa : Below w.heap.size w xa := below_after (by assumption) hb_xa; have hw_xa := hB_xa.size; have c00_xa : xa.cell? ⟨w.heap.size, 0, none⟩ = some (.int .i64 dl) := kp hb_xa (by go_cell); have c01_xa : xa.cell? ⟨w.heap.size, 1, none⟩ = some (.int .i64 dh) := kp hb_xa (by go_cell); have c00_xa : xa.cell? ⟨w.heap.size + 1, 0, none⟩ = some (.int .i64 tlo) := kp hb_xa (by go_cell); have c01_xa : xa.cell? ⟨w.heap.size + 1, 1, none⟩ = some (.int .i64 thi) := kp hb_xa (by go_cell); have r0_xa : xa.cell? ⟨w.heap.size + 1 + 1, 0, none⟩ = some (.int .i64 0) := kp hb_xa (by go_cell); have rf0_xa : xa.frozen? ⟨w.heap.size + 1 + 1, 0, none⟩ = false := kf hb_xa (by go_simp) (by go_simp); have r1_xa : xa.cell? ⟨w.heap.size + 1 + 1, 1, none⟩ = some (.int .i64 0) := kp hb_xa (by go_cell); have rf1_xa : xa.frozen? ⟨w.heap.size + 1 + 1, 1, none⟩ = false := kf hb_xa (by go_simp) (by go_simp))) | ((go_split_ands; (with_reducible refine (HE.out _).mono ?_); rintro e xb ⟨rfl, hb_xb⟩; have hB_xb : Below w.heap.size w xb := below_after (by assumption) hb_xb; have hw_xb := hB_xb.size; have c10_xb : xb.cell? ⟨w.heap.size, 0, none⟩ = some (.int .i64 dl) := kp hb_xb (by go_cell); have c11_xb : xb.cell? ⟨w.heap.size, 1, none⟩ = some (.int .i64 dh) := kp hb_xb (by go_cell); have c10_xb : xb.cell? ⟨w.heap.size + 1, 0, none⟩ = some (.int .i64 tlo) := kp hb_xb (by go_cell); have c11_xb : xb.cell? ⟨w.heap.size + 1, 1, none⟩ = some (.int .i64 thi) := kp hb_xb (by go_cell); have r0_xb : xb.cell? ⟨w.heap.size + 1 + 1, 0, none⟩ = some (.int .i64 0) := kp hb_xb (by go_cell); have rf0_xb : xb.frozen? ⟨w.heap.size + 1 + 1, 0, none⟩ = false := kf hb_xb (by go_simp) (by go_simp); have r1_xb : xb.cell? ⟨w.heap.size + 1 + 1, 1, none⟩ = some (.int .i64 0) := kp hb_xb (by go_cell); have rf1_xb : xb.frozen? ⟨w.heap.size + 1 + 1, 1, none⟩ = false := kf hb_xb (by go_simp) (by go_simp))))
  all_goals go_split_ands
  all_goals (go_wp2_with fail)
  all_goals (first | (refine ret_span rfl rfl rfl (set2s _ _ (by go_simp) (by go_simp)) ⟨rfl, by go_grown⟩) | (refine ret_span rfl rfl rfl ⟨by go_cell, by go_cell⟩ ⟨rfl, by go_grown⟩))
theorem RDist_any (A : Option Addr) (n c : Nat) (xs : List Wt) (dl dh tlo thi : Int) (w : World) (hn : xs.length = n) (hbig : n ≤ 1000000) (hx : Wts? w.heap.size w A xs) :
    Calls Try.prog 64 #[.slice A n c, .agg #[.int .i64 dl, .int .i64 dh], .agg #[.int .i64 tlo, .int .i64 thi]] w fun e w' => e = .returned (.tuple #[.agg #[.int .i64 (distS xs dl dh tlo thi).1, .int .i64 (distS xs dl dh tlo thi).2.1], .int .i64 (distS xs dl dh tlo thi).2.2]) ∧ Below w.heap.size w w' := by
  cases hv : wValid xs with
  | false => rw [distS_no (by rw [hv]; rfl)]; exact RDist_v A n c xs dl dh tlo thi w hn hbig hx hv
  | true =>
   cases hd : depB dl dh with
   | false => rw [distS_no (by rw [hv, hd]; rfl)]; exact RDist_a A n c xs dl dh tlo thi w hn hbig hx hv hd
   | true =>
    cases ht : timB tlo thi with
    | false => rw [distS_no (by rw [hv, hd, ht]; rfl)]; exact RDist_b A n c xs dl dh tlo thi w hn hbig hx hv hd ht
    | true => rw [distS_ok (by rw [hv, hd, ht]; rfl)]; exact RDist_c A n c xs dl dh tlo thi w hn hbig hx hv hd ht
end Go.Proofs.Ytollpjdnahemeaa
