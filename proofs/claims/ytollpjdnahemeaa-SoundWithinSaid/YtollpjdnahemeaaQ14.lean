import Derived.Test.YtollpjdnahemeaaQ13
import Derived.Deep.RegionHeld3
import Derived.Deep.DeepCutAuto
namespace Go.Proofs.Ytollpjdnahemeaa
open Go.RowKit Go.Shelf
set_option linter.unusedSimpArgs false
set_option linter.unusedVariables false
attribute [local go_sem ↓] Go.wp_at_zero Go.wp_at_succ
theorem wts2 {W : World} {g : Nat} {x y : Wt} (hg : g < W.heap.size) (h : WtAt W g 0 x) (h2 : WtAt W g 3 y) : Wts? W.heap.size W (some ⟨g, 0, none⟩) [x, y] := fun _ => ⟨g, 0, rfl, hg, fun i r hr => by
  match i, hr with
  | 0, hr => simp at hr; subst hr; simpa using h
  | 1, hr => simp at hr; subst hr; simpa using h2⟩
theorem wts1 {W : World} {g : Nat} {x : Wt} (hg : g < W.heap.size) (h : WtAt W g 0 x) : Wts? W.heap.size W (some ⟨g, 0, none⟩) [x] := fun _ => ⟨g, 0, rfl, hg, fun i r hr => by
  match i, hr with
  | 0, hr => simp at hr; subst hr; simpa using h⟩
abbrev hw1 : Wt := ⟨5000, 14500, 14800⟩
abbrev hw2 : Wt := ⟨100000, 14700, 15200⟩
theorem hv_a : speedS [hw1, hw2] 1000 2000 = (14500, 14800, 0) := by decide +kernel
theorem hv_b : speedS [hw1, hw2] 1000 5000 = (14500, 15200, 0) := by decide +kernel
theorem hv_c : distS [hw1, hw2] 1000 2000 100 100 = (1450, 1480, 0) := by decide +kernel
theorem hv_d : twoS [hw1, hw2] 0 0 0 0 1000 2000 0 300 100 100 = (1450, 1480, 0) := by decide +kernel
theorem hv_i : twoS [hw1, hw2] 0 0 0 0 1000 2000 0 300 301 400 = (0, 0, 4) := by decide +kernel
theorem hv_j : distS [hw1, hw2] 1000 2000 0 7000 = (0, 0, 3) := by decide +kernel
theorem hv_k : speedS [hw1] 1000 2000 = (0, 0, 1) := by decide +kernel
set_option maxHeartbeats 8000000 in
set_option maxRecDepth 100000 in
theorem head17_any (w : World) : Calls Try.prog 57 #[] w fun e w' => e = .returned (.bool true) ∧ Below w.heap.size w w' := by
  have ha := fun g W h => Speed_any (some ⟨g, 0, none⟩) 2 2 [hw1, hw2] 1000 2000 W rfl (by omega) h
  rw [hv_a] at ha
  have Ha := Lib.hid ha
  have hb := fun g W h => Speed_any (some ⟨g, 0, none⟩) 2 2 [hw1, hw2] 1000 5000 W rfl (by omega) h
  rw [hv_b] at hb
  have Hb := Lib.hid hb
  have hc := fun g W h => Dist_any (some ⟨g, 0, none⟩) 2 2 [hw1, hw2] 1000 2000 100 100 W rfl (by omega) h
  rw [hv_c] at hc
  have Hc := Lib.hid hc
  have hd := fun g W h => Two_any (some ⟨g, 0, none⟩) 2 2 [hw1, hw2] 0 0 0 0 1000 2000 0 300 100 100 W rfl (by omega) h
  rw [hv_d] at hd
  have Hd := Lib.hid hd
  have hi := fun g W h => Two_any (some ⟨g, 0, none⟩) 2 2 [hw1, hw2] 0 0 0 0 1000 2000 0 300 301 400 W rfl (by omega) h
  rw [hv_i] at hi
  have Hi := Lib.hid hi
  have hj := fun g W h => Dist_any (some ⟨g, 0, none⟩) 2 2 [hw1, hw2] 1000 2000 0 7000 W rfl (by omega) h
  rw [hv_j] at hj
  have Hj := Lib.hid hj
  have hk := fun g W h => Speed_any (some ⟨g, 0, none⟩) 1 2 [hw1] 1000 2000 W rfl (by omega) h
  rw [hv_k] at hk
  have Hk := Lib.hid hk
  clear ha hb hc hd hi hj hk
  go_enter Try.func57, Try.ntmps57
  go_wp2_with fail
  refine (of17_any 14500 14800 _).mono ?_
  rintro e w1 ⟨rfl, hb1⟩
  have hB1 : Below w.heap.size w w1 := below_after (by go_grown) hb1
  have hz1 := hb1.size
  try simp only [World.size_alloc, World.size_setCell, World.size_drew] at hz1
  have hw1 := hB1.size
  clear hb1
  go_wp2_with fail
  refine (of17_any 14700 15200 _).mono ?_
  rintro e w2 ⟨rfl, hb2⟩
  have hB2 : Below w.heap.size w w2 := below_after (by go_grown) hb2
  have hz2 := hb2.size
  try simp only [World.size_alloc, World.size_setCell, World.size_drew] at hz2
  have hw2 := hB2.size
  clear hb2 hB1
  go_wp2_with fail
  refine (of17_any 1000 2000 _).mono ?_
  rintro e w3 ⟨rfl, hb3⟩
  have hB3 : Below w.heap.size w w3 := below_after (by go_grown) hb3
  have hz3 := hb3.size
  try simp only [World.size_alloc, World.size_setCell, World.size_drew] at hz3
  have hw3 := hB3.size
  have c_w0 : w3.cell? ⟨w2.heap.size, 0, none⟩ = some (.int .i64 5000) := kp hb3 (by go_cell)
  have c_w1 : w3.cell? ⟨w2.heap.size, 1, none⟩ = some (.int .i64 14500) := kp hb3 (by go_cell)
  have c_w2 : w3.cell? ⟨w2.heap.size, 2, none⟩ = some (.int .i64 14800) := kp hb3 (by go_cell)
  have c_w3 : w3.cell? ⟨w2.heap.size, 3, none⟩ = some (.int .i64 100000) := kp hb3 (by go_cell)
  have c_w4 : w3.cell? ⟨w2.heap.size, 4, none⟩ = some (.int .i64 14700) := kp hb3 (by go_cell)
  have c_w5 : w3.cell? ⟨w2.heap.size, 5, none⟩ = some (.int .i64 15200) := kp hb3 (by go_cell)
  clear hb3 hB2
  go_wp2_with fail
  refine (Ha.out _ _ (wts2 (by go_size) ⟨by go_cell, by go_cell, by go_cell⟩ ⟨by go_cell, by go_cell, by go_cell⟩)).mono ?_
  rintro e w4 ⟨rfl, hb4⟩
  have hB4 : Below w.heap.size w w4 := below_after (by go_grown) hb4
  have hz4 := hb4.size
  try simp only [World.size_alloc, World.size_setCell, World.size_drew] at hz4
  have hw4 := hB4.size
  replace c_w0 : w4.cell? ⟨w2.heap.size, 0, none⟩ = some (.int .i64 5000) := kp hb4 (by go_cell)
  replace c_w1 : w4.cell? ⟨w2.heap.size, 1, none⟩ = some (.int .i64 14500) := kp hb4 (by go_cell)
  replace c_w2 : w4.cell? ⟨w2.heap.size, 2, none⟩ = some (.int .i64 14800) := kp hb4 (by go_cell)
  replace c_w3 : w4.cell? ⟨w2.heap.size, 3, none⟩ = some (.int .i64 100000) := kp hb4 (by go_cell)
  replace c_w4 : w4.cell? ⟨w2.heap.size, 4, none⟩ = some (.int .i64 14700) := kp hb4 (by go_cell)
  replace c_w5 : w4.cell? ⟨w2.heap.size, 5, none⟩ = some (.int .i64 15200) := kp hb4 (by go_cell)
  clear hb4 hB3
  go_wp2_with fail
  refine (of17_any 1000 5000 _).mono ?_
  rintro e w5 ⟨rfl, hb5⟩
  have hB5 : Below w.heap.size w w5 := below_after (by go_grown) hb5
  have hz5 := hb5.size
  try simp only [World.size_alloc, World.size_setCell, World.size_drew] at hz5
  have hw5 := hB5.size
  replace c_w0 : w5.cell? ⟨w2.heap.size, 0, none⟩ = some (.int .i64 5000) := kp hb5 (by go_cell)
  replace c_w1 : w5.cell? ⟨w2.heap.size, 1, none⟩ = some (.int .i64 14500) := kp hb5 (by go_cell)
  replace c_w2 : w5.cell? ⟨w2.heap.size, 2, none⟩ = some (.int .i64 14800) := kp hb5 (by go_cell)
  replace c_w3 : w5.cell? ⟨w2.heap.size, 3, none⟩ = some (.int .i64 100000) := kp hb5 (by go_cell)
  replace c_w4 : w5.cell? ⟨w2.heap.size, 4, none⟩ = some (.int .i64 14700) := kp hb5 (by go_cell)
  replace c_w5 : w5.cell? ⟨w2.heap.size, 5, none⟩ = some (.int .i64 15200) := kp hb5 (by go_cell)
  have c_a0 : w5.cell? ⟨w4.heap.size, 0, none⟩ = some (.int .i64 14500) := kp hb5 (by go_cell)
  have c_a1 : w5.cell? ⟨w4.heap.size, 1, none⟩ = some (.int .i64 14800) := kp hb5 (by go_cell)
  clear hb5 hB4
  go_wp2_with fail
  refine (Hb.out _ _ (wts2 (by go_size) ⟨by go_cell, by go_cell, by go_cell⟩ ⟨by go_cell, by go_cell, by go_cell⟩)).mono ?_
  rintro e w6 ⟨rfl, hb6⟩
  have hB6 : Below w.heap.size w w6 := below_after (by go_grown) hb6
  have hz6 := hb6.size
  try simp only [World.size_alloc, World.size_setCell, World.size_drew] at hz6
  have hw6 := hB6.size
  replace c_w0 : w6.cell? ⟨w2.heap.size, 0, none⟩ = some (.int .i64 5000) := kp hb6 (by go_cell)
  replace c_w1 : w6.cell? ⟨w2.heap.size, 1, none⟩ = some (.int .i64 14500) := kp hb6 (by go_cell)
  replace c_w2 : w6.cell? ⟨w2.heap.size, 2, none⟩ = some (.int .i64 14800) := kp hb6 (by go_cell)
  replace c_w3 : w6.cell? ⟨w2.heap.size, 3, none⟩ = some (.int .i64 100000) := kp hb6 (by go_cell)
  replace c_w4 : w6.cell? ⟨w2.heap.size, 4, none⟩ = some (.int .i64 14700) := kp hb6 (by go_cell)
  replace c_w5 : w6.cell? ⟨w2.heap.size, 5, none⟩ = some (.int .i64 15200) := kp hb6 (by go_cell)
  replace c_a0 : w6.cell? ⟨w4.heap.size, 0, none⟩ = some (.int .i64 14500) := kp hb6 (by go_cell)
  replace c_a1 : w6.cell? ⟨w4.heap.size, 1, none⟩ = some (.int .i64 14800) := kp hb6 (by go_cell)
  clear hb6 hB5
  go_wp2_with fail
  refine (of17_any 1000 2000 _).mono ?_
  rintro e w7 ⟨rfl, hb7⟩
  have hB7 : Below w.heap.size w w7 := below_after (by go_grown) hb7
  have hz7 := hb7.size
  try simp only [World.size_alloc, World.size_setCell, World.size_drew] at hz7
  have hw7 := hB7.size
  replace c_w0 : w7.cell? ⟨w2.heap.size, 0, none⟩ = some (.int .i64 5000) := kp hb7 (by go_cell)
  replace c_w1 : w7.cell? ⟨w2.heap.size, 1, none⟩ = some (.int .i64 14500) := kp hb7 (by go_cell)
  replace c_w2 : w7.cell? ⟨w2.heap.size, 2, none⟩ = some (.int .i64 14800) := kp hb7 (by go_cell)
  replace c_w3 : w7.cell? ⟨w2.heap.size, 3, none⟩ = some (.int .i64 100000) := kp hb7 (by go_cell)
  replace c_w4 : w7.cell? ⟨w2.heap.size, 4, none⟩ = some (.int .i64 14700) := kp hb7 (by go_cell)
  replace c_w5 : w7.cell? ⟨w2.heap.size, 5, none⟩ = some (.int .i64 15200) := kp hb7 (by go_cell)
  replace c_a0 : w7.cell? ⟨w4.heap.size, 0, none⟩ = some (.int .i64 14500) := kp hb7 (by go_cell)
  replace c_a1 : w7.cell? ⟨w4.heap.size, 1, none⟩ = some (.int .i64 14800) := kp hb7 (by go_cell)
  have c_b0 : w7.cell? ⟨w6.heap.size, 0, none⟩ = some (.int .i64 14500) := kp hb7 (by go_cell)
  have c_b1 : w7.cell? ⟨w6.heap.size, 1, none⟩ = some (.int .i64 15200) := kp hb7 (by go_cell)
  clear hb7 hB6
  go_wp2_with fail
  refine (of17_any 100 100 _).mono ?_
  rintro e w8 ⟨rfl, hb8⟩
  have hB8 : Below w.heap.size w w8 := below_after (by go_grown) hb8
  have hz8 := hb8.size
  try simp only [World.size_alloc, World.size_setCell, World.size_drew] at hz8
  have hw8 := hB8.size
  replace c_w0 : w8.cell? ⟨w2.heap.size, 0, none⟩ = some (.int .i64 5000) := kp hb8 (by go_cell)
  replace c_w1 : w8.cell? ⟨w2.heap.size, 1, none⟩ = some (.int .i64 14500) := kp hb8 (by go_cell)
  replace c_w2 : w8.cell? ⟨w2.heap.size, 2, none⟩ = some (.int .i64 14800) := kp hb8 (by go_cell)
  replace c_w3 : w8.cell? ⟨w2.heap.size, 3, none⟩ = some (.int .i64 100000) := kp hb8 (by go_cell)
  replace c_w4 : w8.cell? ⟨w2.heap.size, 4, none⟩ = some (.int .i64 14700) := kp hb8 (by go_cell)
  replace c_w5 : w8.cell? ⟨w2.heap.size, 5, none⟩ = some (.int .i64 15200) := kp hb8 (by go_cell)
  replace c_a0 : w8.cell? ⟨w4.heap.size, 0, none⟩ = some (.int .i64 14500) := kp hb8 (by go_cell)
  replace c_a1 : w8.cell? ⟨w4.heap.size, 1, none⟩ = some (.int .i64 14800) := kp hb8 (by go_cell)
  replace c_b0 : w8.cell? ⟨w6.heap.size, 0, none⟩ = some (.int .i64 14500) := kp hb8 (by go_cell)
  replace c_b1 : w8.cell? ⟨w6.heap.size, 1, none⟩ = some (.int .i64 15200) := kp hb8 (by go_cell)
  clear hb8 hB7
  go_wp2_with fail
  refine (Hc.out _ _ (wts2 (by go_size) ⟨by go_cell, by go_cell, by go_cell⟩ ⟨by go_cell, by go_cell, by go_cell⟩)).mono ?_
  rintro e w9 ⟨rfl, hb9⟩
  have hB9 : Below w.heap.size w w9 := below_after (by go_grown) hb9
  have hz9 := hb9.size
  try simp only [World.size_alloc, World.size_setCell, World.size_drew] at hz9
  have hw9 := hB9.size
  replace c_w0 : w9.cell? ⟨w2.heap.size, 0, none⟩ = some (.int .i64 5000) := kp hb9 (by go_cell)
  replace c_w1 : w9.cell? ⟨w2.heap.size, 1, none⟩ = some (.int .i64 14500) := kp hb9 (by go_cell)
  replace c_w2 : w9.cell? ⟨w2.heap.size, 2, none⟩ = some (.int .i64 14800) := kp hb9 (by go_cell)
  replace c_w3 : w9.cell? ⟨w2.heap.size, 3, none⟩ = some (.int .i64 100000) := kp hb9 (by go_cell)
  replace c_w4 : w9.cell? ⟨w2.heap.size, 4, none⟩ = some (.int .i64 14700) := kp hb9 (by go_cell)
  replace c_w5 : w9.cell? ⟨w2.heap.size, 5, none⟩ = some (.int .i64 15200) := kp hb9 (by go_cell)
  replace c_a0 : w9.cell? ⟨w4.heap.size, 0, none⟩ = some (.int .i64 14500) := kp hb9 (by go_cell)
  replace c_a1 : w9.cell? ⟨w4.heap.size, 1, none⟩ = some (.int .i64 14800) := kp hb9 (by go_cell)
  replace c_b0 : w9.cell? ⟨w6.heap.size, 0, none⟩ = some (.int .i64 14500) := kp hb9 (by go_cell)
  replace c_b1 : w9.cell? ⟨w6.heap.size, 1, none⟩ = some (.int .i64 15200) := kp hb9 (by go_cell)
  clear hb9 hB8
  go_wp2_with fail
  refine (of17_any 1000 2000 _).mono ?_
  rintro e w10 ⟨rfl, hb10⟩
  have hB10 : Below w.heap.size w w10 := below_after (by go_grown) hb10
  have hz10 := hb10.size
  try simp only [World.size_alloc, World.size_setCell, World.size_drew] at hz10
  have hw10 := hB10.size
  replace c_w0 : w10.cell? ⟨w2.heap.size, 0, none⟩ = some (.int .i64 5000) := kp hb10 (by go_cell)
  replace c_w1 : w10.cell? ⟨w2.heap.size, 1, none⟩ = some (.int .i64 14500) := kp hb10 (by go_cell)
  replace c_w2 : w10.cell? ⟨w2.heap.size, 2, none⟩ = some (.int .i64 14800) := kp hb10 (by go_cell)
  replace c_w3 : w10.cell? ⟨w2.heap.size, 3, none⟩ = some (.int .i64 100000) := kp hb10 (by go_cell)
  replace c_w4 : w10.cell? ⟨w2.heap.size, 4, none⟩ = some (.int .i64 14700) := kp hb10 (by go_cell)
  replace c_w5 : w10.cell? ⟨w2.heap.size, 5, none⟩ = some (.int .i64 15200) := kp hb10 (by go_cell)
  replace c_a0 : w10.cell? ⟨w4.heap.size, 0, none⟩ = some (.int .i64 14500) := kp hb10 (by go_cell)
  replace c_a1 : w10.cell? ⟨w4.heap.size, 1, none⟩ = some (.int .i64 14800) := kp hb10 (by go_cell)
  replace c_b0 : w10.cell? ⟨w6.heap.size, 0, none⟩ = some (.int .i64 14500) := kp hb10 (by go_cell)
  replace c_b1 : w10.cell? ⟨w6.heap.size, 1, none⟩ = some (.int .i64 15200) := kp hb10 (by go_cell)
  have c_c0 : w10.cell? ⟨w9.heap.size, 0, none⟩ = some (.int .i64 1450) := kp hb10 (by go_cell)
  have c_c1 : w10.cell? ⟨w9.heap.size, 1, none⟩ = some (.int .i64 1480) := kp hb10 (by go_cell)
  clear hb10 hB9
  go_wp2_with fail
  refine (of17_any 100 100 _).mono ?_
  rintro e w11 ⟨rfl, hb11⟩
  have hB11 : Below w.heap.size w w11 := below_after (by go_grown) hb11
  have hz11 := hb11.size
  try simp only [World.size_alloc, World.size_setCell, World.size_drew] at hz11
  have hw11 := hB11.size
  replace c_w0 : w11.cell? ⟨w2.heap.size, 0, none⟩ = some (.int .i64 5000) := kp hb11 (by go_cell)
  replace c_w1 : w11.cell? ⟨w2.heap.size, 1, none⟩ = some (.int .i64 14500) := kp hb11 (by go_cell)
  replace c_w2 : w11.cell? ⟨w2.heap.size, 2, none⟩ = some (.int .i64 14800) := kp hb11 (by go_cell)
  replace c_w3 : w11.cell? ⟨w2.heap.size, 3, none⟩ = some (.int .i64 100000) := kp hb11 (by go_cell)
  replace c_w4 : w11.cell? ⟨w2.heap.size, 4, none⟩ = some (.int .i64 14700) := kp hb11 (by go_cell)
  replace c_w5 : w11.cell? ⟨w2.heap.size, 5, none⟩ = some (.int .i64 15200) := kp hb11 (by go_cell)
  replace c_a0 : w11.cell? ⟨w4.heap.size, 0, none⟩ = some (.int .i64 14500) := kp hb11 (by go_cell)
  replace c_a1 : w11.cell? ⟨w4.heap.size, 1, none⟩ = some (.int .i64 14800) := kp hb11 (by go_cell)
  replace c_b0 : w11.cell? ⟨w6.heap.size, 0, none⟩ = some (.int .i64 14500) := kp hb11 (by go_cell)
  replace c_b1 : w11.cell? ⟨w6.heap.size, 1, none⟩ = some (.int .i64 15200) := kp hb11 (by go_cell)
  replace c_c0 : w11.cell? ⟨w9.heap.size, 0, none⟩ = some (.int .i64 1450) := kp hb11 (by go_cell)
  replace c_c1 : w11.cell? ⟨w9.heap.size, 1, none⟩ = some (.int .i64 1480) := kp hb11 (by go_cell)
  clear hb11 hB10
  go_wp2_with fail
  refine (Hd.out _ _ (wts2 (by go_size) ⟨by go_cell, by go_cell, by go_cell⟩ ⟨by go_cell, by go_cell, by go_cell⟩)).mono ?_
  rintro e w12 ⟨rfl, hb12⟩
  have hB12 : Below w.heap.size w w12 := below_after (by go_grown) hb12
  have hz12 := hb12.size
  try simp only [World.size_alloc, World.size_setCell, World.size_drew] at hz12
  have hw12 := hB12.size
  replace c_w0 : w12.cell? ⟨w2.heap.size, 0, none⟩ = some (.int .i64 5000) := kp hb12 (by go_cell)
  replace c_w1 : w12.cell? ⟨w2.heap.size, 1, none⟩ = some (.int .i64 14500) := kp hb12 (by go_cell)
  replace c_w2 : w12.cell? ⟨w2.heap.size, 2, none⟩ = some (.int .i64 14800) := kp hb12 (by go_cell)
  replace c_w3 : w12.cell? ⟨w2.heap.size, 3, none⟩ = some (.int .i64 100000) := kp hb12 (by go_cell)
  replace c_w4 : w12.cell? ⟨w2.heap.size, 4, none⟩ = some (.int .i64 14700) := kp hb12 (by go_cell)
  replace c_w5 : w12.cell? ⟨w2.heap.size, 5, none⟩ = some (.int .i64 15200) := kp hb12 (by go_cell)
  replace c_a0 : w12.cell? ⟨w4.heap.size, 0, none⟩ = some (.int .i64 14500) := kp hb12 (by go_cell)
  replace c_a1 : w12.cell? ⟨w4.heap.size, 1, none⟩ = some (.int .i64 14800) := kp hb12 (by go_cell)
  replace c_b0 : w12.cell? ⟨w6.heap.size, 0, none⟩ = some (.int .i64 14500) := kp hb12 (by go_cell)
  replace c_b1 : w12.cell? ⟨w6.heap.size, 1, none⟩ = some (.int .i64 15200) := kp hb12 (by go_cell)
  replace c_c0 : w12.cell? ⟨w9.heap.size, 0, none⟩ = some (.int .i64 1450) := kp hb12 (by go_cell)
  replace c_c1 : w12.cell? ⟨w9.heap.size, 1, none⟩ = some (.int .i64 1480) := kp hb12 (by go_cell)
  clear hb12 hB11
  go_wp2_with fail
  refine (of17_any 1000 2000 _).mono ?_
  rintro e w13 ⟨rfl, hb13⟩
  have hB13 : Below w.heap.size w w13 := below_after (by go_grown) hb13
  have hz13 := hb13.size
  try simp only [World.size_alloc, World.size_setCell, World.size_drew] at hz13
  have hw13 := hB13.size
  replace c_w0 : w13.cell? ⟨w2.heap.size, 0, none⟩ = some (.int .i64 5000) := kp hb13 (by go_cell)
  replace c_w1 : w13.cell? ⟨w2.heap.size, 1, none⟩ = some (.int .i64 14500) := kp hb13 (by go_cell)
  replace c_w2 : w13.cell? ⟨w2.heap.size, 2, none⟩ = some (.int .i64 14800) := kp hb13 (by go_cell)
  replace c_w3 : w13.cell? ⟨w2.heap.size, 3, none⟩ = some (.int .i64 100000) := kp hb13 (by go_cell)
  replace c_w4 : w13.cell? ⟨w2.heap.size, 4, none⟩ = some (.int .i64 14700) := kp hb13 (by go_cell)
  replace c_w5 : w13.cell? ⟨w2.heap.size, 5, none⟩ = some (.int .i64 15200) := kp hb13 (by go_cell)
  replace c_a0 : w13.cell? ⟨w4.heap.size, 0, none⟩ = some (.int .i64 14500) := kp hb13 (by go_cell)
  replace c_a1 : w13.cell? ⟨w4.heap.size, 1, none⟩ = some (.int .i64 14800) := kp hb13 (by go_cell)
  replace c_b0 : w13.cell? ⟨w6.heap.size, 0, none⟩ = some (.int .i64 14500) := kp hb13 (by go_cell)
  replace c_b1 : w13.cell? ⟨w6.heap.size, 1, none⟩ = some (.int .i64 15200) := kp hb13 (by go_cell)
  replace c_c0 : w13.cell? ⟨w9.heap.size, 0, none⟩ = some (.int .i64 1450) := kp hb13 (by go_cell)
  replace c_c1 : w13.cell? ⟨w9.heap.size, 1, none⟩ = some (.int .i64 1480) := kp hb13 (by go_cell)
  have c_d0 : w13.cell? ⟨w12.heap.size, 0, none⟩ = some (.int .i64 1450) := kp hb13 (by go_cell)
  have c_d1 : w13.cell? ⟨w12.heap.size, 1, none⟩ = some (.int .i64 1480) := kp hb13 (by go_cell)
  clear hb13 hB12
  go_wp2_with fail
  refine (of17_any 301 400 _).mono ?_
  rintro e w14 ⟨rfl, hb14⟩
  have hB14 : Below w.heap.size w w14 := below_after (by go_grown) hb14
  have hz14 := hb14.size
  try simp only [World.size_alloc, World.size_setCell, World.size_drew] at hz14
  have hw14 := hB14.size
  replace c_w0 : w14.cell? ⟨w2.heap.size, 0, none⟩ = some (.int .i64 5000) := kp hb14 (by go_cell)
  replace c_w1 : w14.cell? ⟨w2.heap.size, 1, none⟩ = some (.int .i64 14500) := kp hb14 (by go_cell)
  replace c_w2 : w14.cell? ⟨w2.heap.size, 2, none⟩ = some (.int .i64 14800) := kp hb14 (by go_cell)
  replace c_w3 : w14.cell? ⟨w2.heap.size, 3, none⟩ = some (.int .i64 100000) := kp hb14 (by go_cell)
  replace c_w4 : w14.cell? ⟨w2.heap.size, 4, none⟩ = some (.int .i64 14700) := kp hb14 (by go_cell)
  replace c_w5 : w14.cell? ⟨w2.heap.size, 5, none⟩ = some (.int .i64 15200) := kp hb14 (by go_cell)
  replace c_a0 : w14.cell? ⟨w4.heap.size, 0, none⟩ = some (.int .i64 14500) := kp hb14 (by go_cell)
  replace c_a1 : w14.cell? ⟨w4.heap.size, 1, none⟩ = some (.int .i64 14800) := kp hb14 (by go_cell)
  replace c_b0 : w14.cell? ⟨w6.heap.size, 0, none⟩ = some (.int .i64 14500) := kp hb14 (by go_cell)
  replace c_b1 : w14.cell? ⟨w6.heap.size, 1, none⟩ = some (.int .i64 15200) := kp hb14 (by go_cell)
  replace c_c0 : w14.cell? ⟨w9.heap.size, 0, none⟩ = some (.int .i64 1450) := kp hb14 (by go_cell)
  replace c_c1 : w14.cell? ⟨w9.heap.size, 1, none⟩ = some (.int .i64 1480) := kp hb14 (by go_cell)
  replace c_d0 : w14.cell? ⟨w12.heap.size, 0, none⟩ = some (.int .i64 1450) := kp hb14 (by go_cell)
  replace c_d1 : w14.cell? ⟨w12.heap.size, 1, none⟩ = some (.int .i64 1480) := kp hb14 (by go_cell)
  clear hb14 hB13
  go_wp2_with fail
  refine (Hi.out _ _ (wts2 (by go_size) ⟨by go_cell, by go_cell, by go_cell⟩ ⟨by go_cell, by go_cell, by go_cell⟩)).mono ?_
  rintro e w15 ⟨rfl, hb15⟩
  have hB15 : Below w.heap.size w w15 := below_after (by go_grown) hb15
  have hz15 := hb15.size
  try simp only [World.size_alloc, World.size_setCell, World.size_drew] at hz15
  have hw15 := hB15.size
  replace c_w0 : w15.cell? ⟨w2.heap.size, 0, none⟩ = some (.int .i64 5000) := kp hb15 (by go_cell)
  replace c_w1 : w15.cell? ⟨w2.heap.size, 1, none⟩ = some (.int .i64 14500) := kp hb15 (by go_cell)
  replace c_w2 : w15.cell? ⟨w2.heap.size, 2, none⟩ = some (.int .i64 14800) := kp hb15 (by go_cell)
  replace c_w3 : w15.cell? ⟨w2.heap.size, 3, none⟩ = some (.int .i64 100000) := kp hb15 (by go_cell)
  replace c_w4 : w15.cell? ⟨w2.heap.size, 4, none⟩ = some (.int .i64 14700) := kp hb15 (by go_cell)
  replace c_w5 : w15.cell? ⟨w2.heap.size, 5, none⟩ = some (.int .i64 15200) := kp hb15 (by go_cell)
  replace c_a0 : w15.cell? ⟨w4.heap.size, 0, none⟩ = some (.int .i64 14500) := kp hb15 (by go_cell)
  replace c_a1 : w15.cell? ⟨w4.heap.size, 1, none⟩ = some (.int .i64 14800) := kp hb15 (by go_cell)
  replace c_b0 : w15.cell? ⟨w6.heap.size, 0, none⟩ = some (.int .i64 14500) := kp hb15 (by go_cell)
  replace c_b1 : w15.cell? ⟨w6.heap.size, 1, none⟩ = some (.int .i64 15200) := kp hb15 (by go_cell)
  replace c_c0 : w15.cell? ⟨w9.heap.size, 0, none⟩ = some (.int .i64 1450) := kp hb15 (by go_cell)
  replace c_c1 : w15.cell? ⟨w9.heap.size, 1, none⟩ = some (.int .i64 1480) := kp hb15 (by go_cell)
  replace c_d0 : w15.cell? ⟨w12.heap.size, 0, none⟩ = some (.int .i64 1450) := kp hb15 (by go_cell)
  replace c_d1 : w15.cell? ⟨w12.heap.size, 1, none⟩ = some (.int .i64 1480) := kp hb15 (by go_cell)
  clear hb15 hB14
  go_wp2_with fail
  refine (of17_any 1000 2000 _).mono ?_
  rintro e w16 ⟨rfl, hb16⟩
  have hB16 : Below w.heap.size w w16 := below_after (by go_grown) hb16
  have hz16 := hb16.size
  try simp only [World.size_alloc, World.size_setCell, World.size_drew] at hz16
  have hw16 := hB16.size
  replace c_w0 : w16.cell? ⟨w2.heap.size, 0, none⟩ = some (.int .i64 5000) := kp hb16 (by go_cell)
  replace c_w1 : w16.cell? ⟨w2.heap.size, 1, none⟩ = some (.int .i64 14500) := kp hb16 (by go_cell)
  replace c_w2 : w16.cell? ⟨w2.heap.size, 2, none⟩ = some (.int .i64 14800) := kp hb16 (by go_cell)
  replace c_w3 : w16.cell? ⟨w2.heap.size, 3, none⟩ = some (.int .i64 100000) := kp hb16 (by go_cell)
  replace c_w4 : w16.cell? ⟨w2.heap.size, 4, none⟩ = some (.int .i64 14700) := kp hb16 (by go_cell)
  replace c_w5 : w16.cell? ⟨w2.heap.size, 5, none⟩ = some (.int .i64 15200) := kp hb16 (by go_cell)
  replace c_a0 : w16.cell? ⟨w4.heap.size, 0, none⟩ = some (.int .i64 14500) := kp hb16 (by go_cell)
  replace c_a1 : w16.cell? ⟨w4.heap.size, 1, none⟩ = some (.int .i64 14800) := kp hb16 (by go_cell)
  replace c_b0 : w16.cell? ⟨w6.heap.size, 0, none⟩ = some (.int .i64 14500) := kp hb16 (by go_cell)
  replace c_b1 : w16.cell? ⟨w6.heap.size, 1, none⟩ = some (.int .i64 15200) := kp hb16 (by go_cell)
  replace c_c0 : w16.cell? ⟨w9.heap.size, 0, none⟩ = some (.int .i64 1450) := kp hb16 (by go_cell)
  replace c_c1 : w16.cell? ⟨w9.heap.size, 1, none⟩ = some (.int .i64 1480) := kp hb16 (by go_cell)
  replace c_d0 : w16.cell? ⟨w12.heap.size, 0, none⟩ = some (.int .i64 1450) := kp hb16 (by go_cell)
  replace c_d1 : w16.cell? ⟨w12.heap.size, 1, none⟩ = some (.int .i64 1480) := kp hb16 (by go_cell)
  clear hb16 hB15
  go_wp2_with fail
  refine (of17_any 0 7000 _).mono ?_
  rintro e w17 ⟨rfl, hb17⟩
  have hB17 : Below w.heap.size w w17 := below_after (by go_grown) hb17
  have hz17 := hb17.size
  try simp only [World.size_alloc, World.size_setCell, World.size_drew] at hz17
  have hw17 := hB17.size
  replace c_w0 : w17.cell? ⟨w2.heap.size, 0, none⟩ = some (.int .i64 5000) := kp hb17 (by go_cell)
  replace c_w1 : w17.cell? ⟨w2.heap.size, 1, none⟩ = some (.int .i64 14500) := kp hb17 (by go_cell)
  replace c_w2 : w17.cell? ⟨w2.heap.size, 2, none⟩ = some (.int .i64 14800) := kp hb17 (by go_cell)
  replace c_w3 : w17.cell? ⟨w2.heap.size, 3, none⟩ = some (.int .i64 100000) := kp hb17 (by go_cell)
  replace c_w4 : w17.cell? ⟨w2.heap.size, 4, none⟩ = some (.int .i64 14700) := kp hb17 (by go_cell)
  replace c_w5 : w17.cell? ⟨w2.heap.size, 5, none⟩ = some (.int .i64 15200) := kp hb17 (by go_cell)
  replace c_a0 : w17.cell? ⟨w4.heap.size, 0, none⟩ = some (.int .i64 14500) := kp hb17 (by go_cell)
  replace c_a1 : w17.cell? ⟨w4.heap.size, 1, none⟩ = some (.int .i64 14800) := kp hb17 (by go_cell)
  replace c_b0 : w17.cell? ⟨w6.heap.size, 0, none⟩ = some (.int .i64 14500) := kp hb17 (by go_cell)
  replace c_b1 : w17.cell? ⟨w6.heap.size, 1, none⟩ = some (.int .i64 15200) := kp hb17 (by go_cell)
  replace c_c0 : w17.cell? ⟨w9.heap.size, 0, none⟩ = some (.int .i64 1450) := kp hb17 (by go_cell)
  replace c_c1 : w17.cell? ⟨w9.heap.size, 1, none⟩ = some (.int .i64 1480) := kp hb17 (by go_cell)
  replace c_d0 : w17.cell? ⟨w12.heap.size, 0, none⟩ = some (.int .i64 1450) := kp hb17 (by go_cell)
  replace c_d1 : w17.cell? ⟨w12.heap.size, 1, none⟩ = some (.int .i64 1480) := kp hb17 (by go_cell)
  clear hb17 hB16
  go_wp2_with fail
  refine (Hj.out _ _ (wts2 (by go_size) ⟨by go_cell, by go_cell, by go_cell⟩ ⟨by go_cell, by go_cell, by go_cell⟩)).mono ?_
  rintro e w18 ⟨rfl, hb18⟩
  have hB18 : Below w.heap.size w w18 := below_after (by go_grown) hb18
  have hz18 := hb18.size
  try simp only [World.size_alloc, World.size_setCell, World.size_drew] at hz18
  have hw18 := hB18.size
  replace c_w0 : w18.cell? ⟨w2.heap.size, 0, none⟩ = some (.int .i64 5000) := kp hb18 (by go_cell)
  replace c_w1 : w18.cell? ⟨w2.heap.size, 1, none⟩ = some (.int .i64 14500) := kp hb18 (by go_cell)
  replace c_w2 : w18.cell? ⟨w2.heap.size, 2, none⟩ = some (.int .i64 14800) := kp hb18 (by go_cell)
  replace c_w3 : w18.cell? ⟨w2.heap.size, 3, none⟩ = some (.int .i64 100000) := kp hb18 (by go_cell)
  replace c_w4 : w18.cell? ⟨w2.heap.size, 4, none⟩ = some (.int .i64 14700) := kp hb18 (by go_cell)
  replace c_w5 : w18.cell? ⟨w2.heap.size, 5, none⟩ = some (.int .i64 15200) := kp hb18 (by go_cell)
  replace c_a0 : w18.cell? ⟨w4.heap.size, 0, none⟩ = some (.int .i64 14500) := kp hb18 (by go_cell)
  replace c_a1 : w18.cell? ⟨w4.heap.size, 1, none⟩ = some (.int .i64 14800) := kp hb18 (by go_cell)
  replace c_b0 : w18.cell? ⟨w6.heap.size, 0, none⟩ = some (.int .i64 14500) := kp hb18 (by go_cell)
  replace c_b1 : w18.cell? ⟨w6.heap.size, 1, none⟩ = some (.int .i64 15200) := kp hb18 (by go_cell)
  replace c_c0 : w18.cell? ⟨w9.heap.size, 0, none⟩ = some (.int .i64 1450) := kp hb18 (by go_cell)
  replace c_c1 : w18.cell? ⟨w9.heap.size, 1, none⟩ = some (.int .i64 1480) := kp hb18 (by go_cell)
  replace c_d0 : w18.cell? ⟨w12.heap.size, 0, none⟩ = some (.int .i64 1450) := kp hb18 (by go_cell)
  replace c_d1 : w18.cell? ⟨w12.heap.size, 1, none⟩ = some (.int .i64 1480) := kp hb18 (by go_cell)
  clear hb18 hB17
  go_upto_region 8 with fail
  have x_w0 : (w18.alloc (.cells #[.int .i64 0, .int .i64 0] 23)).cell? ⟨w2.heap.size, 0, none⟩ = some (.int .i64 5000) := by go_cell
  have x_w1 : (w18.alloc (.cells #[.int .i64 0, .int .i64 0] 23)).cell? ⟨w2.heap.size, 1, none⟩ = some (.int .i64 14500) := by go_cell
  have x_w2 : (w18.alloc (.cells #[.int .i64 0, .int .i64 0] 23)).cell? ⟨w2.heap.size, 2, none⟩ = some (.int .i64 14800) := by go_cell
  have x_w3 : (w18.alloc (.cells #[.int .i64 0, .int .i64 0] 23)).cell? ⟨w2.heap.size, 3, none⟩ = some (.int .i64 100000) := by go_cell
  have x_w4 : (w18.alloc (.cells #[.int .i64 0, .int .i64 0] 23)).cell? ⟨w2.heap.size, 4, none⟩ = some (.int .i64 14700) := by go_cell
  have x_w5 : (w18.alloc (.cells #[.int .i64 0, .int .i64 0] 23)).cell? ⟨w2.heap.size, 5, none⟩ = some (.int .i64 15200) := by go_cell
  have x_a0 : (w18.alloc (.cells #[.int .i64 0, .int .i64 0] 23)).cell? ⟨w4.heap.size, 0, none⟩ = some (.int .i64 14500) := by go_cell
  have x_a1 : (w18.alloc (.cells #[.int .i64 0, .int .i64 0] 23)).cell? ⟨w4.heap.size, 1, none⟩ = some (.int .i64 14800) := by go_cell
  have x_b0 : (w18.alloc (.cells #[.int .i64 0, .int .i64 0] 23)).cell? ⟨w6.heap.size, 0, none⟩ = some (.int .i64 14500) := by go_cell
  have x_b1 : (w18.alloc (.cells #[.int .i64 0, .int .i64 0] 23)).cell? ⟨w6.heap.size, 1, none⟩ = some (.int .i64 15200) := by go_cell
  have x_c0 : (w18.alloc (.cells #[.int .i64 0, .int .i64 0] 23)).cell? ⟨w9.heap.size, 0, none⟩ = some (.int .i64 1450) := by go_cell
  have x_c1 : (w18.alloc (.cells #[.int .i64 0, .int .i64 0] 23)).cell? ⟨w9.heap.size, 1, none⟩ = some (.int .i64 1480) := by go_cell
  have x_d0 : (w18.alloc (.cells #[.int .i64 0, .int .i64 0] 23)).cell? ⟨w12.heap.size, 0, none⟩ = some (.int .i64 1450) := by go_cell
  have x_d1 : (w18.alloc (.cells #[.int .i64 0, .int .i64 0] 23)).cell? ⟨w12.heap.size, 1, none⟩ = some (.int .i64 1480) := by go_cell
  have hBz : Below w.heap.size w (w18.alloc (.cells #[.int .i64 0, .int .i64 0] 23)) := by go_grown
  clear c_w0 c_w1 c_w2 c_w3 c_w4 c_w5 c_a0 c_a1 c_b0 c_b1 c_c0 c_c1 c_d0 c_d1 hB18 hw18 hz18
  generalize (w18.alloc (.cells #[.int .i64 0, .int .i64 0] 23)) = z at *
  have lt_w := World.block_lt_of_cell? _ _ x_w0
  simp only at lt_w
  have lt_a := World.block_lt_of_cell? _ _ x_a0
  simp only at lt_a
  have lt_b := World.block_lt_of_cell? _ _ x_b0
  simp only at lt_b
  have lt_c := World.block_lt_of_cell? _ _ x_c0
  simp only at lt_c
  have lt_d := World.block_lt_of_cell? _ _ x_d0
  simp only at lt_d
  have HSZ := Lib.hid (show ∀ w', Below z.heap.size z w' → Below z.heap.size z w' ∧ w'.cell? ⟨w2.heap.size, 0, none⟩ = some (.int .i64 5000) ∧ w'.cell? ⟨w2.heap.size, 1, none⟩ = some (.int .i64 14500) ∧ w'.cell? ⟨w2.heap.size, 2, none⟩ = some (.int .i64 14800) from fun w' h9 => ⟨h9, (h9.cell (p := ⟨w2.heap.size, 0, none⟩) (by simp only; omega)).trans x_w0, (h9.cell (p := ⟨w2.heap.size, 1, none⟩) (by simp only; omega)).trans x_w1, (h9.cell (p := ⟨w2.heap.size, 2, none⟩) (by simp only; omega)).trans x_w2⟩)
  have HKZ := Lib.hid (fun W (h9 : Below z.heap.size z W) => Hk.out w2.heap.size W (wts1 (Nat.lt_of_lt_of_le lt_w h9.size) ⟨(h9.cell (p := ⟨w2.heap.size, 0, none⟩) lt_w).trans x_w0, (h9.cell (p := ⟨w2.heap.size, 1, none⟩) lt_w).trans x_w1, (h9.cell (p := ⟨w2.heap.size, 2, none⟩) lt_w).trans x_w2⟩))
  go_cut [15] (fun s15 wx => s15 = .int .i64 1 ∧ Below z.heap.size z wx)
  case first =>
    go_region_held3 (fun w' => Below z.heap.size z w' ∧ w'.cell? ⟨w2.heap.size, 0, none⟩ = some (.int .i64 5000) ∧ w'.cell? ⟨w2.heap.size, 1, none⟩ = some (.int .i64 14500) ∧ w'.cell? ⟨w2.heap.size, 2, none⟩ = some (.int .i64 14800))
      ((refine HSZ.out _ ?_; (first | (with_reducible assumption) | (go_grown; done) | (exact Below.drew (by go_grown)))))
      (first | ((go_split_ands; (with_reducible refine (of17_any 1000 2000 _).mono ?_); rintro e xa ⟨rfl, hba⟩; have hB_xa : Below z.heap.size z xa := below_after (by assumption) hba; have hz_xa := hba.size; (try simp only [World.size_alloc, World.size_drew] at hz_xa); (try (have n00c_xa : xa.cell? ⟨z.heap.size, 0, none⟩ = some (.int .i64 0) := ?_; rotate_left 1; focus (refine kp hba ?_; go_cell; done))); (try (have n00f_xa : xa.frozen? ⟨z.heap.size, 0, none⟩ = false := ?_; rotate_left 1; focus (refine kf hba ?_ ?_ <;> (go_simp; done)))); (try (have n01c_xa : xa.cell? ⟨z.heap.size, 1, none⟩ = some (.int .i64 0) := ?_; rotate_left 1; focus (refine kp hba ?_; go_cell; done))); (try (have n01f_xa : xa.frozen? ⟨z.heap.size, 1, none⟩ = false := ?_; rotate_left 1; focus (refine kf hba ?_ ?_ <;> (go_simp; done)))))) | ((go_split_ands; (with_reducible refine (HKZ.out _ (by assumption)).mono ?_); rintro e xb ⟨rfl, hbb⟩; have hB_xb : Below z.heap.size z xb := below_after (by assumption) hbb; have hz_xb := hbb.size; (try simp only [World.size_alloc, World.size_drew] at hz_xb); (try (have n00c_xb : xb.cell? ⟨z.heap.size, 0, none⟩ = some (.int .i64 0) := ?_; rotate_left 1; focus (refine kp hbb ?_; go_cell; done))); (try (have n00f_xb : xb.frozen? ⟨z.heap.size, 0, none⟩ = false := ?_; rotate_left 1; focus (refine kf hbb ?_ ?_ <;> (go_simp; done)))); (try (have n01c_xb : xb.cell? ⟨z.heap.size, 1, none⟩ = some (.int .i64 0) := ?_; rotate_left 1; focus (refine kp hbb ?_; go_cell; done))); (try (have n01f_xb : xb.frozen? ⟨z.heap.size, 1, none⟩ = false := ?_; rotate_left 1; focus (refine kf hbb ?_ ?_ <;> (go_simp; done)))); (try (have n10c_xb : xb.cell? ⟨xa.heap.size, 0, none⟩ = some (.int .i64 0) := ?_; rotate_left 1; focus (refine kp hbb ?_; go_cell; done))); (try (have n10f_xb : xb.frozen? ⟨xa.heap.size, 0, none⟩ = false := ?_; rotate_left 1; focus (refine kf hbb ?_ ?_ <;> (go_simp; done)))); (try (have n11c_xb : xb.cell? ⟨xa.heap.size, 1, none⟩ = some (.int .i64 0) := ?_; rotate_left 1; focus (refine kp hbb ?_; go_cell; done))); (try (have n11f_xb : xb.frozen? ⟨xa.heap.size, 1, none⟩ = false := ?_; rotate_left 1; focus (refine kf hbb ?_ ?_ <;> (go_simp; done)))))))
    all_goals (go_wp2_with fail)
    all_goals go_meet
    all_goals (refine ⟨rfl, ?_⟩ <;> first | (go_grown; done) | (exact Below.drew (by go_grown)))
  case rest =>
    obtain ⟨rfl, hBc⟩ := hcut
    have c_a0 : wc.cell? ⟨w4.heap.size, 0, none⟩ = some (.int .i64 14500) := (hBc.cell (p := ⟨w4.heap.size, 0, none⟩) lt_a).trans x_a0
    have c_a1 : wc.cell? ⟨w4.heap.size, 1, none⟩ = some (.int .i64 14800) := (hBc.cell (p := ⟨w4.heap.size, 1, none⟩) lt_a).trans x_a1
    have c_b0 : wc.cell? ⟨w6.heap.size, 0, none⟩ = some (.int .i64 14500) := (hBc.cell (p := ⟨w6.heap.size, 0, none⟩) lt_b).trans x_b0
    have c_b1 : wc.cell? ⟨w6.heap.size, 1, none⟩ = some (.int .i64 15200) := (hBc.cell (p := ⟨w6.heap.size, 1, none⟩) lt_b).trans x_b1
    have c_c0 : wc.cell? ⟨w9.heap.size, 0, none⟩ = some (.int .i64 1450) := (hBc.cell (p := ⟨w9.heap.size, 0, none⟩) lt_c).trans x_c0
    have c_c1 : wc.cell? ⟨w9.heap.size, 1, none⟩ = some (.int .i64 1480) := (hBc.cell (p := ⟨w9.heap.size, 1, none⟩) lt_c).trans x_c1
    have c_d0 : wc.cell? ⟨w12.heap.size, 0, none⟩ = some (.int .i64 1450) := (hBc.cell (p := ⟨w12.heap.size, 0, none⟩) lt_d).trans x_d0
    have c_d1 : wc.cell? ⟨w12.heap.size, 1, none⟩ = some (.int .i64 1480) := (hBc.cell (p := ⟨w12.heap.size, 1, none⟩) lt_d).trans x_d1
    clear x_w0 x_w1 x_w2 x_w3 x_w4 x_w5 x_a0 x_a1 x_b0 x_b1 x_c0 x_c1 x_d0 x_d1
    have hBw : Below w.heap.size w wc := below_after hBz hBc
    go_upto_region 10 with fail
    go_region_held3 (fun w' => Below w.heap.size w w' ∧ w'.cell? ⟨w4.heap.size, 0, none⟩ = some (.int .i64 14500) ∧ w'.cell? ⟨w4.heap.size, 1, none⟩ = some (.int .i64 14800) ∧ w'.cell? ⟨w6.heap.size, 0, none⟩ = some (.int .i64 14500) ∧ w'.cell? ⟨w6.heap.size, 1, none⟩ = some (.int .i64 15200) ∧ w'.cell? ⟨w9.heap.size, 0, none⟩ = some (.int .i64 1450) ∧ w'.cell? ⟨w9.heap.size, 1, none⟩ = some (.int .i64 1480) ∧ w'.cell? ⟨w12.heap.size, 0, none⟩ = some (.int .i64 1450) ∧ w'.cell? ⟨w12.heap.size, 1, none⟩ = some (.int .i64 1480))
      ((go_split_ands; refine ⟨?_, ?_, ?_, ?_, ?_, ?_, ?_, ?_, ?_⟩ <;> first | (with_reducible assumption) | (exact Below.drew (by assumption)) | (go_cell; done)))
      (first | ((go_split_ands; (with_reducible refine (of17_any 14500 14800 _).mono ?_); rintro e ya ⟨rfl, hb_ya⟩; have hB_ya : Below w.heap.size w ya := below_after (by assumption) hb_ya; have e0_ya : ya.cell? ⟨w4.heap.size, 0, none⟩ = some (.int .i64 14500) := kp hb_ya (by assumption); have e1_ya : ya.cell? ⟨w4.heap.size, 1, none⟩ = some (.int .i64 14800) := kp hb_ya (by assumption); have e2_ya : ya.cell? ⟨w6.heap.size, 0, none⟩ = some (.int .i64 14500) := kp hb_ya (by assumption); have e3_ya : ya.cell? ⟨w6.heap.size, 1, none⟩ = some (.int .i64 15200) := kp hb_ya (by assumption); have e4_ya : ya.cell? ⟨w9.heap.size, 0, none⟩ = some (.int .i64 1450) := kp hb_ya (by assumption); have e5_ya : ya.cell? ⟨w9.heap.size, 1, none⟩ = some (.int .i64 1480) := kp hb_ya (by assumption); have e6_ya : ya.cell? ⟨w12.heap.size, 0, none⟩ = some (.int .i64 1450) := kp hb_ya (by assumption); have e7_ya : ya.cell? ⟨w12.heap.size, 1, none⟩ = some (.int .i64 1480) := kp hb_ya (by assumption))) | ((go_split_ands; (with_reducible refine (of17_any 14500 15200 _).mono ?_); rintro e yb ⟨rfl, hb_yb⟩; have hB_yb : Below w.heap.size w yb := below_after (by assumption) hb_yb; have e0_yb : yb.cell? ⟨w4.heap.size, 0, none⟩ = some (.int .i64 14500) := kp hb_yb (by assumption); have e1_yb : yb.cell? ⟨w4.heap.size, 1, none⟩ = some (.int .i64 14800) := kp hb_yb (by assumption); have e2_yb : yb.cell? ⟨w6.heap.size, 0, none⟩ = some (.int .i64 14500) := kp hb_yb (by assumption); have e3_yb : yb.cell? ⟨w6.heap.size, 1, none⟩ = some (.int .i64 15200) := kp hb_yb (by assumption); have e4_yb : yb.cell? ⟨w9.heap.size, 0, none⟩ = some (.int .i64 1450) := kp hb_yb (by assumption); have e5_yb : yb.cell? ⟨w9.heap.size, 1, none⟩ = some (.int .i64 1480) := kp hb_yb (by assumption); have e6_yb : yb.cell? ⟨w12.heap.size, 0, none⟩ = some (.int .i64 1450) := kp hb_yb (by assumption); have e7_yb : yb.cell? ⟨w12.heap.size, 1, none⟩ = some (.int .i64 1480) := kp hb_yb (by assumption))) | ((go_split_ands; (with_reducible refine (of17_any 1450 1480 _).mono ?_); rintro e yc ⟨rfl, hb_yc⟩; have hB_yc : Below w.heap.size w yc := below_after (by assumption) hb_yc; have e0_yc : yc.cell? ⟨w4.heap.size, 0, none⟩ = some (.int .i64 14500) := kp hb_yc (by assumption); have e1_yc : yc.cell? ⟨w4.heap.size, 1, none⟩ = some (.int .i64 14800) := kp hb_yc (by assumption); have e2_yc : yc.cell? ⟨w6.heap.size, 0, none⟩ = some (.int .i64 14500) := kp hb_yc (by assumption); have e3_yc : yc.cell? ⟨w6.heap.size, 1, none⟩ = some (.int .i64 15200) := kp hb_yc (by assumption); have e4_yc : yc.cell? ⟨w9.heap.size, 0, none⟩ = some (.int .i64 1450) := kp hb_yc (by assumption); have e5_yc : yc.cell? ⟨w9.heap.size, 1, none⟩ = some (.int .i64 1480) := kp hb_yc (by assumption); have e6_yc : yc.cell? ⟨w12.heap.size, 0, none⟩ = some (.int .i64 1450) := kp hb_yc (by assumption); have e7_yc : yc.cell? ⟨w12.heap.size, 1, none⟩ = some (.int .i64 1480) := kp hb_yc (by assumption))))
    all_goals go_split_ands
    all_goals (go_wp2_with fail)
    all_goals go_ret
    all_goals (refine ⟨rfl, ?_⟩ <;> first | (go_grown; done) | (exact Below.drew (by go_grown)) | assumption)
end Go.Proofs.Ytollpjdnahemeaa
