import Derived.Test.YtollpjdnahemeaaS7
namespace Go.Proofs.Ytollpjdnahemeaa
open Go.RowKit
set_option linter.unusedSimpArgs false
set_option linter.unusedVariables false
attribute [local go_sem ↓] Go.wp_at_zero Go.wp_at_succ


set_option maxHeartbeats 1600000 in
set_option maxRecDepth 100000 in
theorem ref_walk (al ah bl bh n : Int) (w : World) :
    Calls Try.prog 9 #[.agg #[.int .i64 al, .int .i64 ah], .agg #[.int .i64 bl, .int .i64 bh], .int .i64 n] w fun e w' => e = .returned (.bool true) ∧ Below w.heap.size w w' := by
  go_enter Try.func9, Try.ntmps9
  go_wp2_with fail
  refine (head_any _).mono ?_
  rintro e w1 ⟨rfl, hb1⟩
  have hB1 : Below w.heap.size w w1 := below_after (by go_grown) hb1
  have hz1 := hb1.size
  try simp only [World.size_alloc, World.size_setCell, World.size_drew] at hz1
  have c_a0 : w1.cell? ⟨w.heap.size, 0, none⟩ = some (.int .i64 al) := kp hb1 (by go_cell)
  have c_a1 : w1.cell? ⟨w.heap.size, 1, none⟩ = some (.int .i64 ah) := kp hb1 (by go_cell)
  have c_b0 : w1.cell? ⟨w.heap.size + 1, 0, none⟩ = some (.int .i64 bl) := kp hb1 (by go_cell)
  have c_b1 : w1.cell? ⟨w.heap.size + 1, 1, none⟩ = some (.int .i64 bh) := kp hb1 (by go_cell)
  clear hb1
  go_wp2_with fail
  refine (Has_any al ah n _).mono ?_
  rintro e w2 ⟨rfl, hb2⟩
  have hB2 : Below w.heap.size w w2 := below_after (by go_grown) hb2
  have hz2 := hb2.size
  try simp only [World.size_alloc, World.size_setCell, World.size_drew] at hz2
  replace c_a0 : w2.cell? ⟨w.heap.size, 0, none⟩ = some (.int .i64 al) := kp hb2 (by go_cell)
  replace c_a1 : w2.cell? ⟨w.heap.size, 1, none⟩ = some (.int .i64 ah) := kp hb2 (by go_cell)
  replace c_b0 : w2.cell? ⟨w.heap.size + 1, 0, none⟩ = some (.int .i64 bl) := kp hb2 (by go_cell)
  replace c_b1 : w2.cell? ⟨w.heap.size + 1, 1, none⟩ = some (.int .i64 bh) := kp hb2 (by go_cell)
  clear hb2 hB1
  go_wp2_with fail
  refine (RHas_any al ah n _).mono ?_
  rintro e w3 ⟨rfl, hb3⟩
  have hB3 : Below w.heap.size w w3 := below_after (by go_grown) hb3
  have hz3 := hb3.size
  try simp only [World.size_alloc, World.size_setCell, World.size_drew] at hz3
  replace c_a0 : w3.cell? ⟨w.heap.size, 0, none⟩ = some (.int .i64 al) := kp hb3 (by go_cell)
  replace c_a1 : w3.cell? ⟨w.heap.size, 1, none⟩ = some (.int .i64 ah) := kp hb3 (by go_cell)
  replace c_b0 : w3.cell? ⟨w.heap.size + 1, 0, none⟩ = some (.int .i64 bl) := kp hb3 (by go_cell)
  replace c_b1 : w3.cell? ⟨w.heap.size + 1, 1, none⟩ = some (.int .i64 bh) := kp hb3 (by go_cell)
  clear hb3 hB2
  go_wp2_with fail
  go_region_held3 (fun w' => Below w.heap.size w w' ∧ w'.cell? ⟨w.heap.size, 0, none⟩ = some (.int .i64 al) ∧ w'.cell? ⟨w.heap.size, 1, none⟩ = some (.int .i64 ah) ∧ w'.cell? ⟨w.heap.size + 1, 0, none⟩ = some (.int .i64 bl) ∧ w'.cell? ⟨w.heap.size + 1, 1, none⟩ = some (.int .i64 bh))
    ((go_split_ands; refine ⟨?_, ?_, ?_, ?_, ?_⟩ <;> first | (with_reducible assumption) | (exact below_after (by assumption) hb) | (exact kp hb (by assumption)) | (exact kf hb (by go_simp) (by assumption)) | (exact Below.drew (by go_grown)) | go_cell | go_simp))
    (first | ((go_at_call 38; refine (Valid_any _ _ _).mono ?_; rintro e x ⟨rfl, hb⟩)) | ((go_at_call 26; refine (RValid_any _ _ _).mono ?_; rintro e x ⟨rfl, hb⟩)))
  go_split_ands
  have hB4 : Below w.heap.size w x := by assumption
  replace c_a0 : x.cell? ⟨w.heap.size, 0, none⟩ = some (.int .i64 al) := by assumption
  replace c_a1 : x.cell? ⟨w.heap.size, 1, none⟩ = some (.int .i64 ah) := by assumption
  replace c_b0 : x.cell? ⟨w.heap.size + 1, 0, none⟩ = some (.int .i64 bl) := by assumption
  replace c_b1 : x.cell? ⟨w.heap.size + 1, 1, none⟩ = some (.int .i64 bh) := by assumption
  have hz4 := hB4.size
  have hs4_a := World.block_lt_of_cell? _ _ c_a0
  have hs4_b := World.block_lt_of_cell? _ _ c_b0
  simp only at hs4_a hs4_b
  go_wp2_with fail
  refine (Add_any al ah bl bh _).mono ?_
  rintro e w5 ⟨rfl, hb5⟩
  have hB5 : Below w.heap.size w w5 := below_after (by go_grown) hb5
  have hz5 := hb5.size
  try simp only [World.size_alloc, World.size_setCell, World.size_drew] at hz5
  replace c_a0 : w5.cell? ⟨w.heap.size, 0, none⟩ = some (.int .i64 al) := kp hb5 (by go_cell)
  replace c_a1 : w5.cell? ⟨w.heap.size, 1, none⟩ = some (.int .i64 ah) := kp hb5 (by go_cell)
  replace c_b0 : w5.cell? ⟨w.heap.size + 1, 0, none⟩ = some (.int .i64 bl) := kp hb5 (by go_cell)
  replace c_b1 : w5.cell? ⟨w.heap.size + 1, 1, none⟩ = some (.int .i64 bh) := kp hb5 (by go_cell)
  clear hb5 hB4
  go_wp2_with fail
  refine (RAdd_any al ah bl bh _).mono ?_
  rintro e w6 ⟨rfl, hb6⟩
  have hB6 : Below w.heap.size w w6 := below_after (by go_grown) hb6
  have hz6 := hb6.size
  try simp only [World.size_alloc, World.size_setCell, World.size_drew] at hz6
  replace c_a0 : w6.cell? ⟨w.heap.size, 0, none⟩ = some (.int .i64 al) := kp hb6 (by go_cell)
  replace c_a1 : w6.cell? ⟨w.heap.size, 1, none⟩ = some (.int .i64 ah) := kp hb6 (by go_cell)
  replace c_b0 : w6.cell? ⟨w.heap.size + 1, 0, none⟩ = some (.int .i64 bl) := kp hb6 (by go_cell)
  replace c_b1 : w6.cell? ⟨w.heap.size + 1, 1, none⟩ = some (.int .i64 bh) := kp hb6 (by go_cell)
  have f_x0 : w6.frozen? ⟨w5.heap.size, 0, none⟩ = false := kf hb6 (by go_simp) (by go_simp)
  have f_x1 : w6.frozen? ⟨w5.heap.size, 1, none⟩ = false := kf hb6 (by go_simp) (by go_simp)
  have c_x0 : w6.cell? ⟨w5.heap.size, 0, none⟩ = some (.int .i64 ((addS al ah bl bh).1)) := kp hb6 (by go_cell)
  have c_x1 : w6.cell? ⟨w5.heap.size, 1, none⟩ = some (.int .i64 ((addS al ah bl bh).2.1)) := kp hb6 (by go_cell)
  clear hb6 hB5
  go_wp2_with fail
  refine (Sub_any al ah bl bh _).mono ?_
  rintro e w7 ⟨rfl, hb7⟩
  have hB7 : Below w.heap.size w w7 := below_after (by go_grown) hb7
  have hz7 := hb7.size
  try simp only [World.size_alloc, World.size_setCell, World.size_drew] at hz7
  replace c_a0 : w7.cell? ⟨w.heap.size, 0, none⟩ = some (.int .i64 al) := kp hb7 (by go_cell)
  replace c_a1 : w7.cell? ⟨w.heap.size, 1, none⟩ = some (.int .i64 ah) := kp hb7 (by go_cell)
  replace c_b0 : w7.cell? ⟨w.heap.size + 1, 0, none⟩ = some (.int .i64 bl) := kp hb7 (by go_cell)
  replace c_b1 : w7.cell? ⟨w.heap.size + 1, 1, none⟩ = some (.int .i64 bh) := kp hb7 (by go_cell)
  replace f_x0 : w7.frozen? ⟨w5.heap.size, 0, none⟩ = false := kf hb7 (by go_simp) (by go_simp)
  replace f_x1 : w7.frozen? ⟨w5.heap.size, 1, none⟩ = false := kf hb7 (by go_simp) (by go_simp)
  replace c_x0 : w7.cell? ⟨w5.heap.size, 0, none⟩ = some (.int .i64 ((addS al ah bl bh).1)) := kp hb7 (by go_cell)
  replace c_x1 : w7.cell? ⟨w5.heap.size, 1, none⟩ = some (.int .i64 ((addS al ah bl bh).2.1)) := kp hb7 (by go_cell)
  have f_y0 : w7.frozen? ⟨w6.heap.size, 0, none⟩ = false := kf hb7 (by go_simp) (by go_simp)
  have f_y1 : w7.frozen? ⟨w6.heap.size, 1, none⟩ = false := kf hb7 (by go_simp) (by go_simp)
  have c_y0 : w7.cell? ⟨w6.heap.size, 0, none⟩ = some (.int .i64 ((addS al ah bl bh).1)) := kp hb7 (by go_cell)
  have c_y1 : w7.cell? ⟨w6.heap.size, 1, none⟩ = some (.int .i64 ((addS al ah bl bh).2.1)) := kp hb7 (by go_cell)
  clear hb7 hB6
  go_wp2_with fail
  refine (RSub_any al ah bl bh _).mono ?_
  rintro e w8 ⟨rfl, hb8⟩
  have hB8 : Below w.heap.size w w8 := below_after (by go_grown) hb8
  have hz8 := hb8.size
  try simp only [World.size_alloc, World.size_setCell, World.size_drew] at hz8
  replace c_a0 : w8.cell? ⟨w.heap.size, 0, none⟩ = some (.int .i64 al) := kp hb8 (by go_cell)
  replace c_a1 : w8.cell? ⟨w.heap.size, 1, none⟩ = some (.int .i64 ah) := kp hb8 (by go_cell)
  replace c_b0 : w8.cell? ⟨w.heap.size + 1, 0, none⟩ = some (.int .i64 bl) := kp hb8 (by go_cell)
  replace c_b1 : w8.cell? ⟨w.heap.size + 1, 1, none⟩ = some (.int .i64 bh) := kp hb8 (by go_cell)
  replace f_x0 : w8.frozen? ⟨w5.heap.size, 0, none⟩ = false := kf hb8 (by go_simp) (by go_simp)
  replace f_x1 : w8.frozen? ⟨w5.heap.size, 1, none⟩ = false := kf hb8 (by go_simp) (by go_simp)
  replace c_x0 : w8.cell? ⟨w5.heap.size, 0, none⟩ = some (.int .i64 ((subS al ah bl bh).1)) := kp hb8 (by go_cell)
  replace c_x1 : w8.cell? ⟨w5.heap.size, 1, none⟩ = some (.int .i64 ((subS al ah bl bh).2.1)) := kp hb8 (by go_cell)
  replace f_y0 : w8.frozen? ⟨w6.heap.size, 0, none⟩ = false := kf hb8 (by go_simp) (by go_simp)
  replace f_y1 : w8.frozen? ⟨w6.heap.size, 1, none⟩ = false := kf hb8 (by go_simp) (by go_simp)
  replace c_y0 : w8.cell? ⟨w6.heap.size, 0, none⟩ = some (.int .i64 ((addS al ah bl bh).1)) := kp hb8 (by go_cell)
  replace c_y1 : w8.cell? ⟨w6.heap.size, 1, none⟩ = some (.int .i64 ((addS al ah bl bh).2.1)) := kp hb8 (by go_cell)
  clear hb8 hB7
  go_wp2_with fail
  refine (Meet_any al ah bl bh _).mono ?_
  rintro e w9 ⟨rfl, hb9⟩
  have hB9 : Below w.heap.size w w9 := below_after (by go_grown) hb9
  have hz9 := hb9.size
  try simp only [World.size_alloc, World.size_setCell, World.size_drew] at hz9
  replace c_a0 : w9.cell? ⟨w.heap.size, 0, none⟩ = some (.int .i64 al) := kp hb9 (by go_cell)
  replace c_a1 : w9.cell? ⟨w.heap.size, 1, none⟩ = some (.int .i64 ah) := kp hb9 (by go_cell)
  replace c_b0 : w9.cell? ⟨w.heap.size + 1, 0, none⟩ = some (.int .i64 bl) := kp hb9 (by go_cell)
  replace c_b1 : w9.cell? ⟨w.heap.size + 1, 1, none⟩ = some (.int .i64 bh) := kp hb9 (by go_cell)
  replace f_x0 : w9.frozen? ⟨w5.heap.size, 0, none⟩ = false := kf hb9 (by go_simp) (by go_simp)
  replace f_x1 : w9.frozen? ⟨w5.heap.size, 1, none⟩ = false := kf hb9 (by go_simp) (by go_simp)
  replace c_x0 : w9.cell? ⟨w5.heap.size, 0, none⟩ = some (.int .i64 ((subS al ah bl bh).1)) := kp hb9 (by go_cell)
  replace c_x1 : w9.cell? ⟨w5.heap.size, 1, none⟩ = some (.int .i64 ((subS al ah bl bh).2.1)) := kp hb9 (by go_cell)
  replace f_y0 : w9.frozen? ⟨w6.heap.size, 0, none⟩ = false := kf hb9 (by go_simp) (by go_simp)
  replace f_y1 : w9.frozen? ⟨w6.heap.size, 1, none⟩ = false := kf hb9 (by go_simp) (by go_simp)
  replace c_y0 : w9.cell? ⟨w6.heap.size, 0, none⟩ = some (.int .i64 ((subS al ah bl bh).1)) := kp hb9 (by go_cell)
  replace c_y1 : w9.cell? ⟨w6.heap.size, 1, none⟩ = some (.int .i64 ((subS al ah bl bh).2.1)) := kp hb9 (by go_cell)
  clear hb9 hB8
  go_wp2_with fail
  refine (RMeet_any al ah bl bh _).mono ?_
  rintro e w10 ⟨rfl, hb10⟩
  have hB10 : Below w.heap.size w w10 := below_after (by go_grown) hb10
  have hz10 := hb10.size
  try simp only [World.size_alloc, World.size_setCell, World.size_drew] at hz10
  replace c_a0 : w10.cell? ⟨w.heap.size, 0, none⟩ = some (.int .i64 al) := kp hb10 (by go_cell)
  replace c_a1 : w10.cell? ⟨w.heap.size, 1, none⟩ = some (.int .i64 ah) := kp hb10 (by go_cell)
  replace c_b0 : w10.cell? ⟨w.heap.size + 1, 0, none⟩ = some (.int .i64 bl) := kp hb10 (by go_cell)
  replace c_b1 : w10.cell? ⟨w.heap.size + 1, 1, none⟩ = some (.int .i64 bh) := kp hb10 (by go_cell)
  replace f_x0 : w10.frozen? ⟨w5.heap.size, 0, none⟩ = false := kf hb10 (by go_simp) (by go_simp)
  replace f_x1 : w10.frozen? ⟨w5.heap.size, 1, none⟩ = false := kf hb10 (by go_simp) (by go_simp)
  replace c_x0 : w10.cell? ⟨w5.heap.size, 0, none⟩ = some (.int .i64 ((meetS al ah bl bh).1)) := kp hb10 (by go_cell)
  replace c_x1 : w10.cell? ⟨w5.heap.size, 1, none⟩ = some (.int .i64 ((meetS al ah bl bh).2.1)) := kp hb10 (by go_cell)
  replace f_y0 : w10.frozen? ⟨w6.heap.size, 0, none⟩ = false := kf hb10 (by go_simp) (by go_simp)
  replace f_y1 : w10.frozen? ⟨w6.heap.size, 1, none⟩ = false := kf hb10 (by go_simp) (by go_simp)
  replace c_y0 : w10.cell? ⟨w6.heap.size, 0, none⟩ = some (.int .i64 ((subS al ah bl bh).1)) := kp hb10 (by go_cell)
  replace c_y1 : w10.cell? ⟨w6.heap.size, 1, none⟩ = some (.int .i64 ((subS al ah bl bh).2.1)) := kp hb10 (by go_cell)
  clear hb10 hB9
  go_wp2_with fail
  refine (Join_any al ah bl bh _).mono ?_
  rintro e w11 ⟨rfl, hb11⟩
  have hB11 : Below w.heap.size w w11 := below_after (by go_grown) hb11
  have hz11 := hb11.size
  try simp only [World.size_alloc, World.size_setCell, World.size_drew] at hz11
  replace c_a0 : w11.cell? ⟨w.heap.size, 0, none⟩ = some (.int .i64 al) := kp hb11 (by go_cell)
  replace c_a1 : w11.cell? ⟨w.heap.size, 1, none⟩ = some (.int .i64 ah) := kp hb11 (by go_cell)
  replace c_b0 : w11.cell? ⟨w.heap.size + 1, 0, none⟩ = some (.int .i64 bl) := kp hb11 (by go_cell)
  replace c_b1 : w11.cell? ⟨w.heap.size + 1, 1, none⟩ = some (.int .i64 bh) := kp hb11 (by go_cell)
  replace f_x0 : w11.frozen? ⟨w5.heap.size, 0, none⟩ = false := kf hb11 (by go_simp) (by go_simp)
  replace f_x1 : w11.frozen? ⟨w5.heap.size, 1, none⟩ = false := kf hb11 (by go_simp) (by go_simp)
  replace c_x0 : w11.cell? ⟨w5.heap.size, 0, none⟩ = some (.int .i64 ((meetS al ah bl bh).1)) := kp hb11 (by go_cell)
  replace c_x1 : w11.cell? ⟨w5.heap.size, 1, none⟩ = some (.int .i64 ((meetS al ah bl bh).2.1)) := kp hb11 (by go_cell)
  replace f_y0 : w11.frozen? ⟨w6.heap.size, 0, none⟩ = false := kf hb11 (by go_simp) (by go_simp)
  replace f_y1 : w11.frozen? ⟨w6.heap.size, 1, none⟩ = false := kf hb11 (by go_simp) (by go_simp)
  replace c_y0 : w11.cell? ⟨w6.heap.size, 0, none⟩ = some (.int .i64 ((meetS al ah bl bh).1)) := kp hb11 (by go_cell)
  replace c_y1 : w11.cell? ⟨w6.heap.size, 1, none⟩ = some (.int .i64 ((meetS al ah bl bh).2.1)) := kp hb11 (by go_cell)
  clear hb11 hB10
  go_wp2_with fail
  refine (RJoin_any al ah bl bh _).mono ?_
  rintro e w12 ⟨rfl, hb12⟩
  have hB12 : Below w.heap.size w w12 := below_after (by go_grown) hb12
  have hz12 := hb12.size
  try simp only [World.size_alloc, World.size_setCell, World.size_drew] at hz12
  replace c_a0 : w12.cell? ⟨w.heap.size, 0, none⟩ = some (.int .i64 al) := kp hb12 (by go_cell)
  replace c_a1 : w12.cell? ⟨w.heap.size, 1, none⟩ = some (.int .i64 ah) := kp hb12 (by go_cell)
  replace c_b0 : w12.cell? ⟨w.heap.size + 1, 0, none⟩ = some (.int .i64 bl) := kp hb12 (by go_cell)
  replace c_b1 : w12.cell? ⟨w.heap.size + 1, 1, none⟩ = some (.int .i64 bh) := kp hb12 (by go_cell)
  replace f_x0 : w12.frozen? ⟨w5.heap.size, 0, none⟩ = false := kf hb12 (by go_simp) (by go_simp)
  replace f_x1 : w12.frozen? ⟨w5.heap.size, 1, none⟩ = false := kf hb12 (by go_simp) (by go_simp)
  replace c_x0 : w12.cell? ⟨w5.heap.size, 0, none⟩ = some (.int .i64 ((joinS al ah bl bh).1)) := kp hb12 (by go_cell)
  replace c_x1 : w12.cell? ⟨w5.heap.size, 1, none⟩ = some (.int .i64 ((joinS al ah bl bh).2.1)) := kp hb12 (by go_cell)
  replace f_y0 : w12.frozen? ⟨w6.heap.size, 0, none⟩ = false := kf hb12 (by go_simp) (by go_simp)
  replace f_y1 : w12.frozen? ⟨w6.heap.size, 1, none⟩ = false := kf hb12 (by go_simp) (by go_simp)
  replace c_y0 : w12.cell? ⟨w6.heap.size, 0, none⟩ = some (.int .i64 ((meetS al ah bl bh).1)) := kp hb12 (by go_cell)
  replace c_y1 : w12.cell? ⟨w6.heap.size, 1, none⟩ = some (.int .i64 ((meetS al ah bl bh).2.1)) := kp hb12 (by go_cell)
  clear hb12 hB11
  go_wp2_with fail
  refine (Times_any al ah bl bh _).mono ?_
  rintro e w13 ⟨rfl, hb13⟩
  have hB13 : Below w.heap.size w w13 := below_after (by go_grown) hb13
  have hz13 := hb13.size
  try simp only [World.size_alloc, World.size_setCell, World.size_drew] at hz13
  replace c_a0 : w13.cell? ⟨w.heap.size, 0, none⟩ = some (.int .i64 al) := kp hb13 (by go_cell)
  replace c_a1 : w13.cell? ⟨w.heap.size, 1, none⟩ = some (.int .i64 ah) := kp hb13 (by go_cell)
  replace c_b0 : w13.cell? ⟨w.heap.size + 1, 0, none⟩ = some (.int .i64 bl) := kp hb13 (by go_cell)
  replace c_b1 : w13.cell? ⟨w.heap.size + 1, 1, none⟩ = some (.int .i64 bh) := kp hb13 (by go_cell)
  replace f_x0 : w13.frozen? ⟨w5.heap.size, 0, none⟩ = false := kf hb13 (by go_simp) (by go_simp)
  replace f_x1 : w13.frozen? ⟨w5.heap.size, 1, none⟩ = false := kf hb13 (by go_simp) (by go_simp)
  replace c_x0 : w13.cell? ⟨w5.heap.size, 0, none⟩ = some (.int .i64 ((joinS al ah bl bh).1)) := kp hb13 (by go_cell)
  replace c_x1 : w13.cell? ⟨w5.heap.size, 1, none⟩ = some (.int .i64 ((joinS al ah bl bh).2.1)) := kp hb13 (by go_cell)
  replace f_y0 : w13.frozen? ⟨w6.heap.size, 0, none⟩ = false := kf hb13 (by go_simp) (by go_simp)
  replace f_y1 : w13.frozen? ⟨w6.heap.size, 1, none⟩ = false := kf hb13 (by go_simp) (by go_simp)
  replace c_y0 : w13.cell? ⟨w6.heap.size, 0, none⟩ = some (.int .i64 ((joinS al ah bl bh).1)) := kp hb13 (by go_cell)
  replace c_y1 : w13.cell? ⟨w6.heap.size, 1, none⟩ = some (.int .i64 ((joinS al ah bl bh).2.1)) := kp hb13 (by go_cell)
  clear hb13 hB12
  go_wp2_with fail
  refine (RTimes_any al ah bl bh _).mono ?_
  rintro e w14 ⟨rfl, hb14⟩
  have hB14 : Below w.heap.size w w14 := below_after (by go_grown) hb14
  have hz14 := hb14.size
  try simp only [World.size_alloc, World.size_setCell, World.size_drew] at hz14
  replace c_a0 : w14.cell? ⟨w.heap.size, 0, none⟩ = some (.int .i64 al) := kp hb14 (by go_cell)
  replace c_a1 : w14.cell? ⟨w.heap.size, 1, none⟩ = some (.int .i64 ah) := kp hb14 (by go_cell)
  replace c_b0 : w14.cell? ⟨w.heap.size + 1, 0, none⟩ = some (.int .i64 bl) := kp hb14 (by go_cell)
  replace c_b1 : w14.cell? ⟨w.heap.size + 1, 1, none⟩ = some (.int .i64 bh) := kp hb14 (by go_cell)
  replace f_x0 : w14.frozen? ⟨w5.heap.size, 0, none⟩ = false := kf hb14 (by go_simp) (by go_simp)
  replace f_x1 : w14.frozen? ⟨w5.heap.size, 1, none⟩ = false := kf hb14 (by go_simp) (by go_simp)
  replace c_x0 : w14.cell? ⟨w5.heap.size, 0, none⟩ = some (.int .i64 ((timesS al ah bl bh).1)) := kp hb14 (by go_cell)
  replace c_x1 : w14.cell? ⟨w5.heap.size, 1, none⟩ = some (.int .i64 ((timesS al ah bl bh).2.1)) := kp hb14 (by go_cell)
  replace f_y0 : w14.frozen? ⟨w6.heap.size, 0, none⟩ = false := kf hb14 (by go_simp) (by go_simp)
  replace f_y1 : w14.frozen? ⟨w6.heap.size, 1, none⟩ = false := kf hb14 (by go_simp) (by go_simp)
  replace c_y0 : w14.cell? ⟨w6.heap.size, 0, none⟩ = some (.int .i64 ((joinS al ah bl bh).1)) := kp hb14 (by go_cell)
  replace c_y1 : w14.cell? ⟨w6.heap.size, 1, none⟩ = some (.int .i64 ((joinS al ah bl bh).2.1)) := kp hb14 (by go_cell)
  clear hb14 hB13
  go_wp2_with fail
  go_ret
  exact ⟨rfl, by go_grown⟩

end Go.Proofs.Ytollpjdnahemeaa
