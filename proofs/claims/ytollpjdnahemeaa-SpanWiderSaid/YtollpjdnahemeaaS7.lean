import Derived.Test.YtollpjdnahemeaaS6
namespace Go.Proofs.Ytollpjdnahemeaa
open Go.RowKit
set_option linter.unusedSimpArgs false
set_option linter.unusedVariables false
attribute [local go_sem ↓] Go.wp_at_zero Go.wp_at_succ

set_option maxHeartbeats 800000 in
set_option maxRecDepth 100000 in
theorem head_any (w : World) : Calls Try.prog 24 #[] w fun e w' => e = .returned (.bool true) ∧ Below w.heap.size w w' := by
  have hA := fun w => Add_any (-2) 3 10 20 w
  have hS := fun w => Sub_any (-2) 3 10 20 w
  have hT := fun w => Times_any (-5) 7 300 1500 w
  have hM := fun w => Meet_any 0 4 5 9 w
  have hI := fun w => Add_any 1 0 10 20 w
  have hJ := fun w => Add_any 0 1000000000000 0 1 w
  rw [show addS (-2) 3 10 20 = (8, 23, 0) by decide] at hA
  rw [show subS (-2) 3 10 20 = (-22, -7, 0) by decide] at hS
  rw [show timesS (-5) 7 300 1500 = (-8, 11, 0) by decide] at hT
  rw [show meetS 0 4 5 9 = (0, 0, false, 0) by decide] at hM
  rw [show addS 1 0 10 20 = (0, 0, 1) by decide] at hI
  rw [show addS 0 1000000000000 0 1 = (0, 0, 3) by decide] at hJ
  simp only at hA hS hT hM hI hJ
  have HA := Lib.hid hA
  have HS := Lib.hid hS
  have HT := Lib.hid hT
  have HM := Lib.hid hM
  have HI := Lib.hid hI
  have HJ := Lib.hid hJ
  clear hA hS hT hM hI hJ
  go_enter Try.func24, Try.ntmps24
  go_wp2_with fail
  refine (of_any (-2) 3 _).mono ?_
  rintro e w1 ⟨rfl, hb1⟩
  have hB1 : Below w.heap.size w w1 := below_after (by go_grown) hb1
  have hz1 := hb1.size
  try simp only [World.size_alloc, World.size_setCell, World.size_drew] at hz1
  clear hb1
  go_wp2_with fail
  refine (of_any 10 20 _).mono ?_
  rintro e w2 ⟨rfl, hb2⟩
  have hB2 : Below w.heap.size w w2 := below_after (by go_grown) hb2
  have hz2 := hb2.size
  try simp only [World.size_alloc, World.size_setCell, World.size_drew] at hz2
  clear hb2 hB1
  go_wp2_with fail
  refine (HA.out _).mono ?_
  rintro e w3 ⟨rfl, hb3⟩
  have hB3 : Below w.heap.size w w3 := below_after (by go_grown) hb3
  have hz3 := hb3.size
  try simp only [World.size_alloc, World.size_setCell, World.size_drew] at hz3
  clear hb3 hB2
  go_wp2_with fail
  refine (of_any (-2) 3 _).mono ?_
  rintro e w4 ⟨rfl, hb4⟩
  have hB4 : Below w.heap.size w w4 := below_after (by go_grown) hb4
  have hz4 := hb4.size
  try simp only [World.size_alloc, World.size_setCell, World.size_drew] at hz4
  have c_a0 : w4.cell? ⟨w3.heap.size, 0, none⟩ = some (.int .i64 8) := kp hb4 (by go_cell)
  have c_a1 : w4.cell? ⟨w3.heap.size, 1, none⟩ = some (.int .i64 23) := kp hb4 (by go_cell)
  clear hb4 hB3
  go_wp2_with fail
  refine (of_any 10 20 _).mono ?_
  rintro e w5 ⟨rfl, hb5⟩
  have hB5 : Below w.heap.size w w5 := below_after (by go_grown) hb5
  have hz5 := hb5.size
  try simp only [World.size_alloc, World.size_setCell, World.size_drew] at hz5
  replace c_a0 : w5.cell? ⟨w3.heap.size, 0, none⟩ = some (.int .i64 8) := kp hb5 (by go_cell)
  replace c_a1 : w5.cell? ⟨w3.heap.size, 1, none⟩ = some (.int .i64 23) := kp hb5 (by go_cell)
  clear hb5 hB4
  go_wp2_with fail
  refine (HS.out _).mono ?_
  rintro e w6 ⟨rfl, hb6⟩
  have hB6 : Below w.heap.size w w6 := below_after (by go_grown) hb6
  have hz6 := hb6.size
  try simp only [World.size_alloc, World.size_setCell, World.size_drew] at hz6
  replace c_a0 : w6.cell? ⟨w3.heap.size, 0, none⟩ = some (.int .i64 8) := kp hb6 (by go_cell)
  replace c_a1 : w6.cell? ⟨w3.heap.size, 1, none⟩ = some (.int .i64 23) := kp hb6 (by go_cell)
  clear hb6 hB5
  go_wp2_with fail
  refine (of_any (-5) 7 _).mono ?_
  rintro e w7 ⟨rfl, hb7⟩
  have hB7 : Below w.heap.size w w7 := below_after (by go_grown) hb7
  have hz7 := hb7.size
  try simp only [World.size_alloc, World.size_setCell, World.size_drew] at hz7
  replace c_a0 : w7.cell? ⟨w3.heap.size, 0, none⟩ = some (.int .i64 8) := kp hb7 (by go_cell)
  replace c_a1 : w7.cell? ⟨w3.heap.size, 1, none⟩ = some (.int .i64 23) := kp hb7 (by go_cell)
  have c_b0 : w7.cell? ⟨w6.heap.size, 0, none⟩ = some (.int .i64 ((-22))) := kp hb7 (by go_cell)
  have c_b1 : w7.cell? ⟨w6.heap.size, 1, none⟩ = some (.int .i64 ((-7))) := kp hb7 (by go_cell)
  clear hb7 hB6
  go_wp2_with fail
  refine (of_any 300 1500 _).mono ?_
  rintro e w8 ⟨rfl, hb8⟩
  have hB8 : Below w.heap.size w w8 := below_after (by go_grown) hb8
  have hz8 := hb8.size
  try simp only [World.size_alloc, World.size_setCell, World.size_drew] at hz8
  replace c_a0 : w8.cell? ⟨w3.heap.size, 0, none⟩ = some (.int .i64 8) := kp hb8 (by go_cell)
  replace c_a1 : w8.cell? ⟨w3.heap.size, 1, none⟩ = some (.int .i64 23) := kp hb8 (by go_cell)
  replace c_b0 : w8.cell? ⟨w6.heap.size, 0, none⟩ = some (.int .i64 ((-22))) := kp hb8 (by go_cell)
  replace c_b1 : w8.cell? ⟨w6.heap.size, 1, none⟩ = some (.int .i64 ((-7))) := kp hb8 (by go_cell)
  clear hb8 hB7
  go_wp2_with fail
  refine (HT.out _).mono ?_
  rintro e w9 ⟨rfl, hb9⟩
  have hB9 : Below w.heap.size w w9 := below_after (by go_grown) hb9
  have hz9 := hb9.size
  try simp only [World.size_alloc, World.size_setCell, World.size_drew] at hz9
  replace c_a0 : w9.cell? ⟨w3.heap.size, 0, none⟩ = some (.int .i64 8) := kp hb9 (by go_cell)
  replace c_a1 : w9.cell? ⟨w3.heap.size, 1, none⟩ = some (.int .i64 23) := kp hb9 (by go_cell)
  replace c_b0 : w9.cell? ⟨w6.heap.size, 0, none⟩ = some (.int .i64 ((-22))) := kp hb9 (by go_cell)
  replace c_b1 : w9.cell? ⟨w6.heap.size, 1, none⟩ = some (.int .i64 ((-7))) := kp hb9 (by go_cell)
  clear hb9 hB8
  go_wp2_with fail
  refine (of_any 0 4 _).mono ?_
  rintro e w10 ⟨rfl, hb10⟩
  have hB10 : Below w.heap.size w w10 := below_after (by go_grown) hb10
  have hz10 := hb10.size
  try simp only [World.size_alloc, World.size_setCell, World.size_drew] at hz10
  replace c_a0 : w10.cell? ⟨w3.heap.size, 0, none⟩ = some (.int .i64 8) := kp hb10 (by go_cell)
  replace c_a1 : w10.cell? ⟨w3.heap.size, 1, none⟩ = some (.int .i64 23) := kp hb10 (by go_cell)
  replace c_b0 : w10.cell? ⟨w6.heap.size, 0, none⟩ = some (.int .i64 ((-22))) := kp hb10 (by go_cell)
  replace c_b1 : w10.cell? ⟨w6.heap.size, 1, none⟩ = some (.int .i64 ((-7))) := kp hb10 (by go_cell)
  have c_c0 : w10.cell? ⟨w9.heap.size, 0, none⟩ = some (.int .i64 ((-8))) := kp hb10 (by go_cell)
  have c_c1 : w10.cell? ⟨w9.heap.size, 1, none⟩ = some (.int .i64 11) := kp hb10 (by go_cell)
  clear hb10 hB9
  go_wp2_with fail
  refine (of_any 5 9 _).mono ?_
  rintro e w11 ⟨rfl, hb11⟩
  have hB11 : Below w.heap.size w w11 := below_after (by go_grown) hb11
  have hz11 := hb11.size
  try simp only [World.size_alloc, World.size_setCell, World.size_drew] at hz11
  replace c_a0 : w11.cell? ⟨w3.heap.size, 0, none⟩ = some (.int .i64 8) := kp hb11 (by go_cell)
  replace c_a1 : w11.cell? ⟨w3.heap.size, 1, none⟩ = some (.int .i64 23) := kp hb11 (by go_cell)
  replace c_b0 : w11.cell? ⟨w6.heap.size, 0, none⟩ = some (.int .i64 ((-22))) := kp hb11 (by go_cell)
  replace c_b1 : w11.cell? ⟨w6.heap.size, 1, none⟩ = some (.int .i64 ((-7))) := kp hb11 (by go_cell)
  replace c_c0 : w11.cell? ⟨w9.heap.size, 0, none⟩ = some (.int .i64 ((-8))) := kp hb11 (by go_cell)
  replace c_c1 : w11.cell? ⟨w9.heap.size, 1, none⟩ = some (.int .i64 11) := kp hb11 (by go_cell)
  clear hb11 hB10
  go_wp2_with fail
  refine (HM.out _).mono ?_
  rintro e w12 ⟨rfl, hb12⟩
  have hB12 : Below w.heap.size w w12 := below_after (by go_grown) hb12
  have hz12 := hb12.size
  try simp only [World.size_alloc, World.size_setCell, World.size_drew] at hz12
  replace c_a0 : w12.cell? ⟨w3.heap.size, 0, none⟩ = some (.int .i64 8) := kp hb12 (by go_cell)
  replace c_a1 : w12.cell? ⟨w3.heap.size, 1, none⟩ = some (.int .i64 23) := kp hb12 (by go_cell)
  replace c_b0 : w12.cell? ⟨w6.heap.size, 0, none⟩ = some (.int .i64 ((-22))) := kp hb12 (by go_cell)
  replace c_b1 : w12.cell? ⟨w6.heap.size, 1, none⟩ = some (.int .i64 ((-7))) := kp hb12 (by go_cell)
  replace c_c0 : w12.cell? ⟨w9.heap.size, 0, none⟩ = some (.int .i64 ((-8))) := kp hb12 (by go_cell)
  replace c_c1 : w12.cell? ⟨w9.heap.size, 1, none⟩ = some (.int .i64 11) := kp hb12 (by go_cell)
  clear hb12 hB11
  go_wp2_with fail
  refine (of_any 1 0 _).mono ?_
  rintro e w13 ⟨rfl, hb13⟩
  have hB13 : Below w.heap.size w w13 := below_after (by go_grown) hb13
  have hz13 := hb13.size
  try simp only [World.size_alloc, World.size_setCell, World.size_drew] at hz13
  replace c_a0 : w13.cell? ⟨w3.heap.size, 0, none⟩ = some (.int .i64 8) := kp hb13 (by go_cell)
  replace c_a1 : w13.cell? ⟨w3.heap.size, 1, none⟩ = some (.int .i64 23) := kp hb13 (by go_cell)
  replace c_b0 : w13.cell? ⟨w6.heap.size, 0, none⟩ = some (.int .i64 ((-22))) := kp hb13 (by go_cell)
  replace c_b1 : w13.cell? ⟨w6.heap.size, 1, none⟩ = some (.int .i64 ((-7))) := kp hb13 (by go_cell)
  replace c_c0 : w13.cell? ⟨w9.heap.size, 0, none⟩ = some (.int .i64 ((-8))) := kp hb13 (by go_cell)
  replace c_c1 : w13.cell? ⟨w9.heap.size, 1, none⟩ = some (.int .i64 11) := kp hb13 (by go_cell)
  have c_d0 : w13.cell? ⟨w12.heap.size, 0, none⟩ = some (.int .i64 0) := kp hb13 (by go_cell)
  have c_d1 : w13.cell? ⟨w12.heap.size, 1, none⟩ = some (.int .i64 0) := kp hb13 (by go_cell)
  clear hb13 hB12
  go_wp2_with fail
  refine (of_any 10 20 _).mono ?_
  rintro e w14 ⟨rfl, hb14⟩
  have hB14 : Below w.heap.size w w14 := below_after (by go_grown) hb14
  have hz14 := hb14.size
  try simp only [World.size_alloc, World.size_setCell, World.size_drew] at hz14
  replace c_a0 : w14.cell? ⟨w3.heap.size, 0, none⟩ = some (.int .i64 8) := kp hb14 (by go_cell)
  replace c_a1 : w14.cell? ⟨w3.heap.size, 1, none⟩ = some (.int .i64 23) := kp hb14 (by go_cell)
  replace c_b0 : w14.cell? ⟨w6.heap.size, 0, none⟩ = some (.int .i64 ((-22))) := kp hb14 (by go_cell)
  replace c_b1 : w14.cell? ⟨w6.heap.size, 1, none⟩ = some (.int .i64 ((-7))) := kp hb14 (by go_cell)
  replace c_c0 : w14.cell? ⟨w9.heap.size, 0, none⟩ = some (.int .i64 ((-8))) := kp hb14 (by go_cell)
  replace c_c1 : w14.cell? ⟨w9.heap.size, 1, none⟩ = some (.int .i64 11) := kp hb14 (by go_cell)
  replace c_d0 : w14.cell? ⟨w12.heap.size, 0, none⟩ = some (.int .i64 0) := kp hb14 (by go_cell)
  replace c_d1 : w14.cell? ⟨w12.heap.size, 1, none⟩ = some (.int .i64 0) := kp hb14 (by go_cell)
  clear hb14 hB13
  go_wp2_with fail
  refine (HI.out _).mono ?_
  rintro e w15 ⟨rfl, hb15⟩
  have hB15 : Below w.heap.size w w15 := below_after (by go_grown) hb15
  have hz15 := hb15.size
  try simp only [World.size_alloc, World.size_setCell, World.size_drew] at hz15
  replace c_a0 : w15.cell? ⟨w3.heap.size, 0, none⟩ = some (.int .i64 8) := kp hb15 (by go_cell)
  replace c_a1 : w15.cell? ⟨w3.heap.size, 1, none⟩ = some (.int .i64 23) := kp hb15 (by go_cell)
  replace c_b0 : w15.cell? ⟨w6.heap.size, 0, none⟩ = some (.int .i64 ((-22))) := kp hb15 (by go_cell)
  replace c_b1 : w15.cell? ⟨w6.heap.size, 1, none⟩ = some (.int .i64 ((-7))) := kp hb15 (by go_cell)
  replace c_c0 : w15.cell? ⟨w9.heap.size, 0, none⟩ = some (.int .i64 ((-8))) := kp hb15 (by go_cell)
  replace c_c1 : w15.cell? ⟨w9.heap.size, 1, none⟩ = some (.int .i64 11) := kp hb15 (by go_cell)
  replace c_d0 : w15.cell? ⟨w12.heap.size, 0, none⟩ = some (.int .i64 0) := kp hb15 (by go_cell)
  replace c_d1 : w15.cell? ⟨w12.heap.size, 1, none⟩ = some (.int .i64 0) := kp hb15 (by go_cell)
  clear hb15 hB14
  go_wp2_with fail
  refine (of_any 0 1000000000000 _).mono ?_
  rintro e w16 ⟨rfl, hb16⟩
  have hB16 : Below w.heap.size w w16 := below_after (by go_grown) hb16
  have hz16 := hb16.size
  try simp only [World.size_alloc, World.size_setCell, World.size_drew] at hz16
  replace c_a0 : w16.cell? ⟨w3.heap.size, 0, none⟩ = some (.int .i64 8) := kp hb16 (by go_cell)
  replace c_a1 : w16.cell? ⟨w3.heap.size, 1, none⟩ = some (.int .i64 23) := kp hb16 (by go_cell)
  replace c_b0 : w16.cell? ⟨w6.heap.size, 0, none⟩ = some (.int .i64 ((-22))) := kp hb16 (by go_cell)
  replace c_b1 : w16.cell? ⟨w6.heap.size, 1, none⟩ = some (.int .i64 ((-7))) := kp hb16 (by go_cell)
  replace c_c0 : w16.cell? ⟨w9.heap.size, 0, none⟩ = some (.int .i64 ((-8))) := kp hb16 (by go_cell)
  replace c_c1 : w16.cell? ⟨w9.heap.size, 1, none⟩ = some (.int .i64 11) := kp hb16 (by go_cell)
  replace c_d0 : w16.cell? ⟨w12.heap.size, 0, none⟩ = some (.int .i64 0) := kp hb16 (by go_cell)
  replace c_d1 : w16.cell? ⟨w12.heap.size, 1, none⟩ = some (.int .i64 0) := kp hb16 (by go_cell)
  clear hb16 hB15
  go_wp2_with fail
  refine (of_any 0 1 _).mono ?_
  rintro e w17 ⟨rfl, hb17⟩
  have hB17 : Below w.heap.size w w17 := below_after (by go_grown) hb17
  have hz17 := hb17.size
  try simp only [World.size_alloc, World.size_setCell, World.size_drew] at hz17
  replace c_a0 : w17.cell? ⟨w3.heap.size, 0, none⟩ = some (.int .i64 8) := kp hb17 (by go_cell)
  replace c_a1 : w17.cell? ⟨w3.heap.size, 1, none⟩ = some (.int .i64 23) := kp hb17 (by go_cell)
  replace c_b0 : w17.cell? ⟨w6.heap.size, 0, none⟩ = some (.int .i64 ((-22))) := kp hb17 (by go_cell)
  replace c_b1 : w17.cell? ⟨w6.heap.size, 1, none⟩ = some (.int .i64 ((-7))) := kp hb17 (by go_cell)
  replace c_c0 : w17.cell? ⟨w9.heap.size, 0, none⟩ = some (.int .i64 ((-8))) := kp hb17 (by go_cell)
  replace c_c1 : w17.cell? ⟨w9.heap.size, 1, none⟩ = some (.int .i64 11) := kp hb17 (by go_cell)
  replace c_d0 : w17.cell? ⟨w12.heap.size, 0, none⟩ = some (.int .i64 0) := kp hb17 (by go_cell)
  replace c_d1 : w17.cell? ⟨w12.heap.size, 1, none⟩ = some (.int .i64 0) := kp hb17 (by go_cell)
  clear hb17 hB16
  go_wp2_with fail
  refine (HJ.out _).mono ?_
  rintro e w18 ⟨rfl, hb18⟩
  have hB18 : Below w.heap.size w w18 := below_after (by go_grown) hb18
  have hz18 := hb18.size
  try simp only [World.size_alloc, World.size_setCell, World.size_drew] at hz18
  replace c_a0 : w18.cell? ⟨w3.heap.size, 0, none⟩ = some (.int .i64 8) := kp hb18 (by go_cell)
  replace c_a1 : w18.cell? ⟨w3.heap.size, 1, none⟩ = some (.int .i64 23) := kp hb18 (by go_cell)
  replace c_b0 : w18.cell? ⟨w6.heap.size, 0, none⟩ = some (.int .i64 ((-22))) := kp hb18 (by go_cell)
  replace c_b1 : w18.cell? ⟨w6.heap.size, 1, none⟩ = some (.int .i64 ((-7))) := kp hb18 (by go_cell)
  replace c_c0 : w18.cell? ⟨w9.heap.size, 0, none⟩ = some (.int .i64 ((-8))) := kp hb18 (by go_cell)
  replace c_c1 : w18.cell? ⟨w9.heap.size, 1, none⟩ = some (.int .i64 11) := kp hb18 (by go_cell)
  replace c_d0 : w18.cell? ⟨w12.heap.size, 0, none⟩ = some (.int .i64 0) := kp hb18 (by go_cell)
  replace c_d1 : w18.cell? ⟨w12.heap.size, 1, none⟩ = some (.int .i64 0) := kp hb18 (by go_cell)
  clear hb18 hB17
  go_wp2_with fail
  go_region_held3 (fun w' => Below w.heap.size w w' ∧ w'.cell? ⟨w3.heap.size, 0, none⟩ = some (.int .i64 8) ∧ w'.cell? ⟨w3.heap.size, 1, none⟩ = some (.int .i64 23) ∧ w'.cell? ⟨w6.heap.size, 0, none⟩ = some (.int .i64 ((-22))) ∧ w'.cell? ⟨w6.heap.size, 1, none⟩ = some (.int .i64 ((-7))) ∧ w'.cell? ⟨w9.heap.size, 0, none⟩ = some (.int .i64 ((-8))) ∧ w'.cell? ⟨w9.heap.size, 1, none⟩ = some (.int .i64 11) ∧ w'.cell? ⟨w12.heap.size, 0, none⟩ = some (.int .i64 0) ∧ w'.cell? ⟨w12.heap.size, 1, none⟩ = some (.int .i64 0))
    ((go_split_ands; refine ⟨?_, ?_, ?_, ?_, ?_, ?_, ?_, ?_, ?_⟩ <;> first | (with_reducible assumption) | (exact below_after (by assumption) hb) | (exact kp hb (by assumption)) | (exact Below.drew (by go_grown)) | go_cell))
    ((go_at_call 32; refine (of_any _ _ _).mono ?_; rintro e w9 ⟨rfl, hb⟩))
  go_split_ands
  go_wp2_with fail
  go_ret
  exact ⟨rfl, by assumption⟩

end Go.Proofs.Ytollpjdnahemeaa
