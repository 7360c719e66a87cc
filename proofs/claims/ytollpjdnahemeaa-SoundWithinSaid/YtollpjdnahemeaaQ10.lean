import Derived.Test.YtollpjdnahemeaaQ9
namespace Go.Proofs.Ytollpjdnahemeaa
open Go.RowKit Go.Shelf
set_option linter.unusedSimpArgs false
set_option linter.unusedVariables false
attribute [local go_sem ↓] Go.wp_at_zero Go.wp_at_succ
set_option maxHeartbeats 1600000 in
set_option maxRecDepth 100000 in
theorem RSpeed_no1 (A : Option Addr) (n c : Nat) (xs : List Wt) (dl dh : Int) (w : World) (hn : xs.length = n) (hbig : n ≤ 1000000) (hx : Wts? w.heap.size w A xs) (hv : wValid xs = false) :
    Calls Try.prog 60 #[.slice A n c, .agg #[.int .i64 dl, .int .i64 dh]] w fun e w' => e = .returned (.tuple #[.agg #[.int .i64 0, .int .i64 0], .int .i64 1]) ∧ Below w.heap.size w w' := by
  have HXS := Lib.hid (hxs_of hx)
  have hV := fun W h => RValid17_any A n c xs W hn h
  rw [hv] at hV
  have HV := Lib.hid hV
  clear hx hV hn
  go_enter Try.func60, Try.ntmps60
  go_wp2_with fail
  refine (HV.out _ (HXS.out _ (by go_grown))).mono ?_
  rintro e w1 ⟨rfl, hb1⟩
  have hB1 : Below w.heap.size w w1 := below_after (by go_grown) hb1
  have hz1 := hb1.size
  try simp only [World.size_alloc, World.size_setCell, World.size_drew] at hz1
  have hw1 := hB1.size
  have c_d0 : w1.cell? ⟨w.heap.size, 0, none⟩ = some (.int .i64 dl) := kp hb1 (by go_cell)
  have c_d1 : w1.cell? ⟨w.heap.size, 1, none⟩ = some (.int .i64 dh) := kp hb1 (by go_cell)
  have f_r0 : w1.frozen? ⟨w.heap.size + 1, 0, none⟩ = false := kf hb1 (by go_simp) (by go_simp)
  have f_r1 : w1.frozen? ⟨w.heap.size + 1, 1, none⟩ = false := kf hb1 (by go_simp) (by go_simp)
  have c_r0 : w1.cell? ⟨w.heap.size + 1, 0, none⟩ = some (.int .i64 0) := kp hb1 (by go_cell)
  have c_r1 : w1.cell? ⟨w.heap.size + 1, 1, none⟩ = some (.int .i64 0) := kp hb1 (by go_cell)
  clear hb1
  go_wp2_with fail
  first | (refine ret_span rfl rfl rfl (set2s _ _ (by go_simp) (by go_simp)) ⟨rfl, by go_grown⟩) | (refine ret_span rfl rfl rfl ⟨by go_cell, by go_cell⟩ ⟨rfl, by go_grown⟩)
set_option maxHeartbeats 1600000 in
set_option maxRecDepth 100000 in
theorem RSpeed_no2 (A : Option Addr) (n c : Nat) (xs : List Wt) (dl dh : Int) (w : World) (hn : xs.length = n) (hbig : n ≤ 1000000) (hx : Wts? w.heap.size w A xs) (hv : wValid xs = true) (hd : depB dl dh = false) :
    Calls Try.prog 60 #[.slice A n c, .agg #[.int .i64 dl, .int .i64 dh]] w fun e w' => e = .returned (.tuple #[.agg #[.int .i64 0, .int .i64 0], .int .i64 1]) ∧ Below w.heap.size w w' := by
  have HXS := Lib.hid (hxs_of hx)
  have hV := fun W h => RValid17_any A n c xs W hn h
  rw [hv] at hV
  have HV := Lib.hid hV
  have hD := fun W => RDepths17_any dl dh W
  rw [hd] at hD
  have HD := Lib.hid hD
  clear hx hV hD hn
  go_enter Try.func60, Try.ntmps60
  go_wp2_with fail
  refine (HV.out _ (HXS.out _ (by go_grown))).mono ?_
  rintro e w1 ⟨rfl, hb1⟩
  have hB1 : Below w.heap.size w w1 := below_after (by go_grown) hb1
  have hz1 := hb1.size
  try simp only [World.size_alloc, World.size_setCell, World.size_drew] at hz1
  have hw1 := hB1.size
  have c_d0 : w1.cell? ⟨w.heap.size, 0, none⟩ = some (.int .i64 dl) := kp hb1 (by go_cell)
  have c_d1 : w1.cell? ⟨w.heap.size, 1, none⟩ = some (.int .i64 dh) := kp hb1 (by go_cell)
  have f_r0 : w1.frozen? ⟨w.heap.size + 1, 0, none⟩ = false := kf hb1 (by go_simp) (by go_simp)
  have f_r1 : w1.frozen? ⟨w.heap.size + 1, 1, none⟩ = false := kf hb1 (by go_simp) (by go_simp)
  have c_r0 : w1.cell? ⟨w.heap.size + 1, 0, none⟩ = some (.int .i64 0) := kp hb1 (by go_cell)
  have c_r1 : w1.cell? ⟨w.heap.size + 1, 1, none⟩ = some (.int .i64 0) := kp hb1 (by go_cell)
  clear hb1
  go_wp2_with fail
  refine (HD.out _).mono ?_
  rintro e w2 ⟨rfl, hb2⟩
  have hB2 : Below w.heap.size w w2 := below_after (by go_grown) hb2
  have hz2 := hb2.size
  try simp only [World.size_alloc, World.size_setCell, World.size_drew] at hz2
  have hw2 := hB2.size
  replace c_d0 : w2.cell? ⟨w.heap.size, 0, none⟩ = some (.int .i64 dl) := kp hb2 (by go_cell)
  replace c_d1 : w2.cell? ⟨w.heap.size, 1, none⟩ = some (.int .i64 dh) := kp hb2 (by go_cell)
  replace f_r0 : w2.frozen? ⟨w.heap.size + 1, 0, none⟩ = false := kf hb2 (by go_simp) (by go_simp)
  replace f_r1 : w2.frozen? ⟨w.heap.size + 1, 1, none⟩ = false := kf hb2 (by go_simp) (by go_simp)
  replace c_r0 : w2.cell? ⟨w.heap.size + 1, 0, none⟩ = some (.int .i64 0) := kp hb2 (by go_cell)
  replace c_r1 : w2.cell? ⟨w.heap.size + 1, 1, none⟩ = some (.int .i64 0) := kp hb2 (by go_cell)
  clear hb2 hB1
  go_wp2_with fail
  first | (refine ret_span rfl rfl rfl (set2s _ _ (by go_simp) (by go_simp)) ⟨rfl, by go_grown⟩) | (refine ret_span rfl rfl rfl ⟨by go_cell, by go_cell⟩ ⟨rfl, by go_grown⟩)
set_option maxHeartbeats 1600000 in
set_option maxRecDepth 100000 in
theorem RSpeed_go (A : Option Addr) (n c : Nat) (xs : List Wt) (dl dh : Int) (w : World) (hn : xs.length = n) (hbig : n ≤ 1000000) (hx : Wts? w.heap.size w A xs) (hv : wValid xs = true) (hd : depB dl dh = true) :
    Calls Try.prog 60 #[.slice A n c, .agg #[.int .i64 dl, .int .i64 dh]] w fun e w' => e = .returned (.tuple #[.agg #[.int .i64 (speedP dl dh xs).1, .int .i64 (speedP dl dh xs).2], .int .i64 0]) ∧ Below w.heap.size w w' := by
  have HXS := Lib.hid (hxs_of hx)
  have hV := fun W h => RValid17_any A n c xs W hn h
  rw [hv] at hV
  have HV := Lib.hid hV
  have hD := fun W => RDepths17_any dl dh W
  rw [hd] at hD
  have HD := Lib.hid hD
  have hS := fun W h => speeds_any A n c xs dl dh W hn hbig h
  generalize (speedP dl dh xs).1 = s1 at *
  generalize (speedP dl dh xs).2 = s2 at *
  have HS := Lib.hid hS
  clear hx hV hD hS hn
  go_enter Try.func60, Try.ntmps60
  go_wp2_with fail
  refine (HV.out _ (HXS.out _ (by go_grown))).mono ?_
  rintro e w1 ⟨rfl, hb1⟩
  have hB1 : Below w.heap.size w w1 := below_after (by go_grown) hb1
  have hz1 := hb1.size
  try simp only [World.size_alloc, World.size_setCell, World.size_drew] at hz1
  have hw1 := hB1.size
  have c_d0 : w1.cell? ⟨w.heap.size, 0, none⟩ = some (.int .i64 dl) := kp hb1 (by go_cell)
  have c_d1 : w1.cell? ⟨w.heap.size, 1, none⟩ = some (.int .i64 dh) := kp hb1 (by go_cell)
  have f_r0 : w1.frozen? ⟨w.heap.size + 1, 0, none⟩ = false := kf hb1 (by go_simp) (by go_simp)
  have f_r1 : w1.frozen? ⟨w.heap.size + 1, 1, none⟩ = false := kf hb1 (by go_simp) (by go_simp)
  have c_r0 : w1.cell? ⟨w.heap.size + 1, 0, none⟩ = some (.int .i64 0) := kp hb1 (by go_cell)
  have c_r1 : w1.cell? ⟨w.heap.size + 1, 1, none⟩ = some (.int .i64 0) := kp hb1 (by go_cell)
  clear hb1
  go_wp2_with fail
  refine (HD.out _).mono ?_
  rintro e w2 ⟨rfl, hb2⟩
  have hB2 : Below w.heap.size w w2 := below_after (by go_grown) hb2
  have hz2 := hb2.size
  try simp only [World.size_alloc, World.size_setCell, World.size_drew] at hz2
  have hw2 := hB2.size
  replace c_d0 : w2.cell? ⟨w.heap.size, 0, none⟩ = some (.int .i64 dl) := kp hb2 (by go_cell)
  replace c_d1 : w2.cell? ⟨w.heap.size, 1, none⟩ = some (.int .i64 dh) := kp hb2 (by go_cell)
  replace f_r0 : w2.frozen? ⟨w.heap.size + 1, 0, none⟩ = false := kf hb2 (by go_simp) (by go_simp)
  replace f_r1 : w2.frozen? ⟨w.heap.size + 1, 1, none⟩ = false := kf hb2 (by go_simp) (by go_simp)
  replace c_r0 : w2.cell? ⟨w.heap.size + 1, 0, none⟩ = some (.int .i64 0) := kp hb2 (by go_cell)
  replace c_r1 : w2.cell? ⟨w.heap.size + 1, 1, none⟩ = some (.int .i64 0) := kp hb2 (by go_cell)
  clear hb2 hB1
  go_wp2_with fail
  refine (HS.out _ (HXS.out _ (by go_grown))).mono ?_
  rintro e w3 ⟨rfl, hb3⟩
  have hB3 : Below w.heap.size w w3 := below_after (by go_grown) hb3
  have hz3 := hb3.size
  try simp only [World.size_alloc, World.size_setCell, World.size_drew] at hz3
  have hw3 := hB3.size
  replace c_d0 : w3.cell? ⟨w.heap.size, 0, none⟩ = some (.int .i64 dl) := kp hb3 (by go_cell)
  replace c_d1 : w3.cell? ⟨w.heap.size, 1, none⟩ = some (.int .i64 dh) := kp hb3 (by go_cell)
  replace f_r0 : w3.frozen? ⟨w.heap.size + 1, 0, none⟩ = false := kf hb3 (by go_simp) (by go_simp)
  replace f_r1 : w3.frozen? ⟨w.heap.size + 1, 1, none⟩ = false := kf hb3 (by go_simp) (by go_simp)
  replace c_r0 : w3.cell? ⟨w.heap.size + 1, 0, none⟩ = some (.int .i64 0) := kp hb3 (by go_cell)
  replace c_r1 : w3.cell? ⟨w.heap.size + 1, 1, none⟩ = some (.int .i64 0) := kp hb3 (by go_cell)
  clear hb3 hB2
  go_wp2_with fail
  first | (refine ret_span rfl rfl rfl (set2s _ _ (by go_simp) (by go_simp)) ⟨rfl, by go_grown⟩) | (refine ret_span rfl rfl rfl ⟨by go_cell, by go_cell⟩ ⟨rfl, by go_grown⟩)
theorem RSpeed_any (A : Option Addr) (n c : Nat) (xs : List Wt) (dl dh : Int) (w : World) (hn : xs.length = n) (hbig : n ≤ 1000000) (hx : Wts? w.heap.size w A xs) :
    Calls Try.prog 60 #[.slice A n c, .agg #[.int .i64 dl, .int .i64 dh]] w fun e w' => e = .returned (.tuple #[.agg #[.int .i64 (speedS xs dl dh).1, .int .i64 (speedS xs dl dh).2.1], .int .i64 (speedS xs dl dh).2.2]) ∧ Below w.heap.size w w' := by
  cases hv : wValid xs with
  | false => rw [speedS_no (by rw [hv]; rfl)]; exact RSpeed_no1 A n c xs dl dh w hn hbig hx hv
  | true =>
    cases hd : depB dl dh with
    | false => rw [speedS_no (by rw [hv, hd]; rfl)]; exact RSpeed_no2 A n c xs dl dh w hn hbig hx hv hd
    | true => rw [speedS_ok (by rw [hv, hd]; rfl)]; exact RSpeed_go A n c xs dl dh w hn hbig hx hv hd
set_option maxHeartbeats 1600000 in
set_option maxRecDepth 100000 in
theorem Elapsed_a (dr g : Int) (w : World) (h1 : 0 ≤ dr * g) (h2 : dr * g ≤ 1000000000000) (h3 : 0 ≤ g) (h4 : g ≤ 1000000000) (hm : g - wrS dr g ≤ 0) :
    Calls Try.prog 93 #[.int .i64 dr, .int .i64 g] w fun e w' => e = .returned (.agg #[.int .i64 0, .int .i64 (g + wrS dr g)]) ∧ Below w.heap.size w w' := by
  have k1 : IntKind.i64.wrap (dr * g) = dr * g := IntWalk.i64_in _ (by omega)
  have hu := fun W => bel (Ceil_any (dr * g) 1000000 W (by omega) (by omega) (by omega) (by omega))
  rw [show -(-(dr * g) / 1000000) = wrS dr g by unfold wrS; omega] at hu
  have b1 : 0 ≤ wrS dr g := by unfold wrS; omega
  have b2 : wrS dr g ≤ 1000001 := by unfold wrS; omega
  generalize hp1 : dr * g = p1 at *
  generalize wrS dr g = wr at *
  have HU := Lib.hid hu
  clear hu
  go_enter Try.func93, Try.ntmps93
  go_wp2_with fail
  refine (HU.out _).mono ?_
  rintro e w1 ⟨rfl, hb1⟩
  have hB1 : Below w.heap.size w w1 := below_after (by go_grown) hb1
  have hz1 := hb1.size
  try simp only [World.size_alloc, World.size_setCell, World.size_drew] at hz1
  have hw1 := hB1.size
  have f_r0 : w1.frozen? ⟨w.heap.size, 0, none⟩ = false := kf hb1 (by go_simp) (by go_simp)
  have f_r1 : w1.frozen? ⟨w.heap.size, 1, none⟩ = false := kf hb1 (by go_simp) (by go_simp)
  have c_r0 : w1.cell? ⟨w.heap.size, 0, none⟩ = some (.int .i64 0) := kp hb1 (by go_cell)
  have c_r1 : w1.cell? ⟨w.heap.size, 1, none⟩ = some (.int .i64 0) := kp hb1 (by go_cell)
  clear hb1
  go_wp2_with fail
  all_goals first | (exfalso; omega) | (refine ret_span1 rfl rfl rfl (set2s _ _ (by go_simp) (by go_simp)) ⟨rfl, by go_grown⟩)
set_option maxHeartbeats 1600000 in
set_option maxRecDepth 100000 in
theorem Elapsed_b (dr g : Int) (w : World) (h1 : 0 ≤ dr * g) (h2 : dr * g ≤ 1000000000000) (h3 : 0 ≤ g) (h4 : g ≤ 1000000000) (hm : 0 < g - wrS dr g) :
    Calls Try.prog 93 #[.int .i64 dr, .int .i64 g] w fun e w' => e = .returned (.agg #[.int .i64 (g - wrS dr g), .int .i64 (g + wrS dr g)]) ∧ Below w.heap.size w w' := by
  have k1 : IntKind.i64.wrap (dr * g) = dr * g := IntWalk.i64_in _ (by omega)
  have hu := fun W => bel (Ceil_any (dr * g) 1000000 W (by omega) (by omega) (by omega) (by omega))
  rw [show -(-(dr * g) / 1000000) = wrS dr g by unfold wrS; omega] at hu
  have b1 : 0 ≤ wrS dr g := by unfold wrS; omega
  have b2 : wrS dr g ≤ 1000001 := by unfold wrS; omega
  generalize hp1 : dr * g = p1 at *
  generalize wrS dr g = wr at *
  have HU := Lib.hid hu
  clear hu
  go_enter Try.func93, Try.ntmps93
  go_wp2_with fail
  refine (HU.out _).mono ?_
  rintro e w1 ⟨rfl, hb1⟩
  have hB1 : Below w.heap.size w w1 := below_after (by go_grown) hb1
  have hz1 := hb1.size
  try simp only [World.size_alloc, World.size_setCell, World.size_drew] at hz1
  have hw1 := hB1.size
  have f_r0 : w1.frozen? ⟨w.heap.size, 0, none⟩ = false := kf hb1 (by go_simp) (by go_simp)
  have f_r1 : w1.frozen? ⟨w.heap.size, 1, none⟩ = false := kf hb1 (by go_simp) (by go_simp)
  have c_r0 : w1.cell? ⟨w.heap.size, 0, none⟩ = some (.int .i64 0) := kp hb1 (by go_cell)
  have c_r1 : w1.cell? ⟨w.heap.size, 1, none⟩ = some (.int .i64 0) := kp hb1 (by go_cell)
  clear hb1
  go_wp2_with fail
  all_goals first | (exfalso; omega) | (refine ret_span1 rfl rfl rfl (set2s _ _ (by go_simp) (by go_simp)) ⟨rfl, by go_grown⟩)
theorem Elapsed_any (dr g : Int) (w : World) (h1 : 0 ≤ dr * g) (h2 : dr * g ≤ 1000000000000) (h3 : 0 ≤ g) (h4 : g ≤ 1000000000) :
    Calls Try.prog 93 #[.int .i64 dr, .int .i64 g] w fun e w' => e = .returned (.agg #[.int .i64 (max (g - wrS dr g) 0), .int .i64 (g + wrS dr g)]) ∧ Below w.heap.size w w' := by
  by_cases hm : g - wrS dr g ≤ 0
  · rw [show max (g - wrS dr g) 0 = 0 by omega]; exact Elapsed_a dr g w h1 h2 h3 h4 hm
  · rw [show max (g - wrS dr g) 0 = g - wrS dr g by omega]; exact Elapsed_b dr g w h1 h2 h3 h4 (by omega)
theorem prod_sp {a b : Int} (h1 : 0 ≤ a) (h2 : a ≤ 20000) (h3 : 0 ≤ b) (h4 : b ≤ 2000000000) : 0 ≤ a * b ∧ a * b ≤ 100000000000000 := by
  have a1 := Int.mul_nonneg h1 h3
  have a2 : a * b ≤ 20000 * b := Int.mul_le_mul_of_nonneg_right h2 h3
  omega
end Go.Proofs.Ytollpjdnahemeaa
