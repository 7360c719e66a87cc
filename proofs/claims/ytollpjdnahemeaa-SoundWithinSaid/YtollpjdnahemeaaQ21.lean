import Derived.Test.YtollpjdnahemeaaQ16
namespace Go.Proofs.Ytollpjdnahemeaa
open Go.RowKit Go.Shelf
set_option linter.unusedSimpArgs false
set_option linter.unusedVariables false
attribute [local go_sem ↓] Go.wp_at_zero Go.wp_at_succ

theorem box_within {xs : List Wt} {dl dh p r : Int} (hv : wValid xs = true) (hd : depB dl dh = true) (hp : depB p r = true) (h1 : dl ≤ p) (h2 : r ≤ dh) : (speedP dl dh xs).1 ≤ (speedP p r xs).1 ∧ (speedP p r xs).2 ≤ (speedP dl dh xs).2 := by
  refine (speedP_box hv hp).within (speedP_box hv hd) fun q hq => ?_
  obtain ⟨o, ho, e1, e2, e3⟩ := mem_tl.1 hq
  exact mem_tl.2 ⟨o, ho, by omega, by omega, e3⟩
theorem speed_within {xs : List Wt} {dl dh p r : Int} (hd : depB dl dh = true) (hp : depB p r = true) (h1 : dl ≤ p) (h2 : r ≤ dh) :
    ∃ A1 A2 B1 B2 e, speedS xs dl dh = (A1, A2, e) ∧ speedS xs p r = (B1, B2, e) ∧ A1 ≤ B1 ∧ B2 ≤ A2 := by
  cases hv : wValid xs with
  | false => exact ⟨0, 0, 0, 0, 1, speedS_no (by rw [hv]; rfl), speedS_no (by rw [hv]; rfl), by omega, by omega⟩
  | true =>
    have h := box_within hv hd hp h1 h2
    exact ⟨_, _, _, _, 0, speedS_ok (by rw [hv, hd]; rfl), speedS_ok (by rw [hv, hp]; rfl), h.1, h.2⟩
theorem dists_within {a1 a2 b1 b2 tlo thi u v by9 : Int} (hb : by9 = 1000 ∨ by9 = 2000) (h1 : a1 * tlo ≤ b1 * u) (h2 : b2 * v ≤ a2 * thi) : (distsS a1 a2 tlo thi by9).2.2 ≠ 0 ∨ ((distsS b1 b2 u v by9).2.2 = 0 ∧ (distsS a1 a2 tlo thi by9).1 ≤ (distsS b1 b2 u v by9).1 ∧ (distsS b1 b2 u v by9).2.1 ≤ (distsS a1 a2 tlo thi by9).2.1) := by
  unfold distsS
  generalize a1 * tlo = x1 at *
  generalize b1 * u = x2 at *
  generalize b2 * v = x3 at *
  generalize a2 * thi = x4 at *
  rcases hb with rfl | rfl
  · by_cases hc : 100000 < (x4 + (1000 - 1)) / 1000
    · rw [if_pos hc]; exact .inl (by simp)
    · rw [if_neg hc, if_neg (by omega)]; exact .inr ⟨rfl, by simp only; omega, by simp only; omega⟩
  · by_cases hc : 100000 < (x4 + (2000 - 1)) / 2000
    · rw [if_pos hc]; exact .inl (by simp)
    · rw [if_neg hc, if_neg (by omega)]; exact .inr ⟨rfl, by simp only; omega, by simp only; omega⟩
theorem dist_within {xs : List Wt} {dl dh p r tlo thi u v : Int} (hd : depB dl dh = true) (hp : depB p r = true) (h1 : dl ≤ p) (h2 : r ≤ dh) (ht : timB tlo thi = true) (hu : timB u v = true) (h3 : tlo ≤ u) (h4 : v ≤ thi) :
    (distS xs dl dh tlo thi).2.2 ≠ 0 ∨ ((distS xs p r u v).2.2 = 0 ∧ (distS xs dl dh tlo thi).1 ≤ (distS xs p r u v).1 ∧ (distS xs p r u v).2.1 ≤ (distS xs dl dh tlo thi).2.1) := by
  cases hv : wValid xs with
  | false => rw [distS_no (by rw [hv]; rfl)]; exact .inl (by simp)
  | true =>
    have h := box_within hv hd hp h1 h2
    have oa := speedP_ok hv hd
    have ob := speedP_ok hv hp
    have tb := (timB_iff _ _).1 ht
    have ub := (timB_iff _ _).1 hu
    rw [distS_ok (by rw [hv, hd, ht]; rfl), distS_ok (by rw [hv, hp, hu]; rfl)]
    unfold SpOk at oa ob
    exact dists_within (.inl rfl) (mul_mono2 (by omega) h.1 (by omega) h3) (mul_mono2 (by omega) h.2 (by omega) h4)
theorem two_within {xs : List Wt} {ct clo chi cdr dl dh p r sent got tlo thi u v : Int} (hd : depB dl dh = true) (hp : depB p r = true) (h1 : dl ≤ p) (h2 : r ≤ dh) (ht : timB tlo thi = true) (hu : timB u v = true) (h3 : tlo ≤ u) (h4 : v ≤ thi) :
    (twoS xs ct clo chi cdr dl dh sent got tlo thi).2.2 ≠ 0 ∨ (twoS xs ct clo chi cdr p r sent got u v).2.2 = 4 ∨ ((twoS xs ct clo chi cdr p r sent got u v).2.2 = 0 ∧ (twoS xs ct clo chi cdr dl dh sent got tlo thi).1 ≤ (twoS xs ct clo chi cdr p r sent got u v).1 ∧ (twoS xs ct clo chi cdr p r sent got u v).2.1 ≤ (twoS xs ct clo chi cdr dl dh sent got tlo thi).2.1) := by
  have eB : twoB xs ct clo chi cdr p r sent got u v = twoB xs ct clo chi cdr dl dh sent got tlo thi := by unfold twoB; rw [hd, hp, ht, hu]
  cases hB : twoB xs ct clo chi cdr dl dh sent got tlo thi with
  | false => rw [twoS_no hB]; exact .inl (by simp)
  | true =>
    rw [twoS_ok hB, twoS_ok (eB.trans hB)]
    have hv : wValid xs = true := by
      unfold twoB at hB
      cases h : wValid xs with
      | true => rfl
      | false => rw [h] at hB; simp at hB
    have h := box_within hv hd hp h1 h2
    have oa := speedP_ok hv hd
    have ob := speedP_ok hv hp
    have ub := (timB_iff _ _).1 hu
    unfold SpOk at oa ob
    unfold twoR
    generalize got - sent = g
    generalize wrS cdr g = wr
    by_cases c1 : g + wr - tlo < 0
    · rw [if_pos c1]; exact .inl (by simp)
    · rw [if_neg c1]
      by_cases c2 : g + wr - u < 0
      · rw [if_pos c2]; exact .inr (.inl rfl)
      · rw [if_neg c2]
        rcases dists_within (a1 := (speedP dl dh xs).1) (a2 := (speedP dl dh xs).2) (b1 := (speedP p r xs).1) (b2 := (speedP p r xs).2) (tlo := max (max (g - wr) 0 - thi) 0) (thi := g + wr - tlo) (u := max (max (g - wr) 0 - v) 0) (v := g + wr - u) (by9 := 2000) (.inr rfl) (mul_mono2 (by omega) h.1 (by omega) (by omega)) (mul_mono2 (by omega) h.2 (by omega) (by omega)) with h9 | h9
        · exact .inl h9
        · exact .inr (.inr h9)
set_option maxHeartbeats 1600000 in
set_option maxRecDepth 100000 in
theorem wi_a (A : Option Addr) (n c : Nat) (xs : List Wt) (ct clo chi cdr dl dh tlo thi sent got lo hi : Int) (w : World) (h0 : 25 < n) : Calls Try.prog 21 #[.slice A n c, .agg #[.int .i64 ct, .int .i64 clo, .int .i64 chi, .int .i64 cdr], .agg #[.int .i64 dl, .int .i64 dh], .agg #[.int .i64 tlo, .int .i64 thi], .int .i64 sent, .int .i64 got, .int .u64 lo, .int .u64 hi] w fun e w' => e = .returned (.bool true) ∧ Below w.heap.size w w' := by
  have hF := fun W => bel (Few_any A n c W)
  rw [show decide (n ≤ 25) = false by simp; omega] at hF
  have HF := Lib.hid hF
  clear hF
  go_enter Try.func21, Try.ntmps21
  go_wp2_with fail
  refine (head17_any _).mono ?_
  rintro e w1 ⟨rfl, hb1⟩
  have hB1 : Below w.heap.size w w1 := below_after (by go_grown) hb1
  have hz1 := hb1.size
  try simp only [World.size_alloc, World.size_setCell, World.size_drew] at hz1
  have hw1 := hB1.size
  have c_c0 : w1.cell? ⟨w.heap.size, 0, none⟩ = some (.int .i64 ct) := kp hb1 (by go_cell)
  have c_c1 : w1.cell? ⟨w.heap.size, 1, none⟩ = some (.int .i64 clo) := kp hb1 (by go_cell)
  have c_c2 : w1.cell? ⟨w.heap.size, 2, none⟩ = some (.int .i64 chi) := kp hb1 (by go_cell)
  have c_c3 : w1.cell? ⟨w.heap.size, 3, none⟩ = some (.int .i64 cdr) := kp hb1 (by go_cell)
  have c_d0 : w1.cell? ⟨w.heap.size + 1, 0, none⟩ = some (.int .i64 dl) := kp hb1 (by go_cell)
  have c_d1 : w1.cell? ⟨w.heap.size + 1, 1, none⟩ = some (.int .i64 dh) := kp hb1 (by go_cell)
  have c_y0 : w1.cell? ⟨w.heap.size + 1 + 1, 0, none⟩ = some (.int .i64 tlo) := kp hb1 (by go_cell)
  have c_y1 : w1.cell? ⟨w.heap.size + 1 + 1, 1, none⟩ = some (.int .i64 thi) := kp hb1 (by go_cell)
  clear hb1
  go_wp2_with fail
  refine (HF.out _).mono ?_
  rintro e w2 ⟨rfl, hb2⟩
  have hB2 : Below w.heap.size w w2 := below_after (by go_grown) hb2
  have hz2 := hb2.size
  try simp only [World.size_alloc, World.size_setCell, World.size_drew] at hz2
  have hw2 := hB2.size
  replace c_c0 : w2.cell? ⟨w.heap.size, 0, none⟩ = some (.int .i64 ct) := kp hb2 (by go_cell)
  replace c_c1 : w2.cell? ⟨w.heap.size, 1, none⟩ = some (.int .i64 clo) := kp hb2 (by go_cell)
  replace c_c2 : w2.cell? ⟨w.heap.size, 2, none⟩ = some (.int .i64 chi) := kp hb2 (by go_cell)
  replace c_c3 : w2.cell? ⟨w.heap.size, 3, none⟩ = some (.int .i64 cdr) := kp hb2 (by go_cell)
  replace c_d0 : w2.cell? ⟨w.heap.size + 1, 0, none⟩ = some (.int .i64 dl) := kp hb2 (by go_cell)
  replace c_d1 : w2.cell? ⟨w.heap.size + 1, 1, none⟩ = some (.int .i64 dh) := kp hb2 (by go_cell)
  replace c_y0 : w2.cell? ⟨w.heap.size + 1 + 1, 0, none⟩ = some (.int .i64 tlo) := kp hb2 (by go_cell)
  replace c_y1 : w2.cell? ⟨w.heap.size + 1 + 1, 1, none⟩ = some (.int .i64 thi) := kp hb2 (by go_cell)
  clear hb2 hB1
  go_wp2_with fail
  go_ret
  exact ⟨rfl, by go_grown⟩
set_option maxHeartbeats 1600000 in
set_option maxRecDepth 100000 in
theorem wi_b (A : Option Addr) (n c : Nat) (xs : List Wt) (ct clo chi cdr dl dh tlo thi sent got lo hi : Int) (w : World) (h0 : n ≤ 25) (h1 : depB dl dh = false) : Calls Try.prog 21 #[.slice A n c, .agg #[.int .i64 ct, .int .i64 clo, .int .i64 chi, .int .i64 cdr], .agg #[.int .i64 dl, .int .i64 dh], .agg #[.int .i64 tlo, .int .i64 thi], .int .i64 sent, .int .i64 got, .int .u64 lo, .int .u64 hi] w fun e w' => e = .returned (.bool true) ∧ Below w.heap.size w w' := by
  have hF := fun W => bel (Few_any A n c W)
  rw [show decide (n ≤ 25) = true by simp; omega] at hF
  have HF := Lib.hid hF
  have hD := fun W => RDepths17_any dl dh W
  rw [h1] at hD
  have HD := Lib.hid hD
  clear hF hD
  go_enter Try.func21, Try.ntmps21
  go_wp2_with fail
  refine (head17_any _).mono ?_
  rintro e w1 ⟨rfl, hb1⟩
  have hB1 : Below w.heap.size w w1 := below_after (by go_grown) hb1
  have hz1 := hb1.size
  try simp only [World.size_alloc, World.size_setCell, World.size_drew] at hz1
  have hw1 := hB1.size
  have c_c0 : w1.cell? ⟨w.heap.size, 0, none⟩ = some (.int .i64 ct) := kp hb1 (by go_cell)
  have c_c1 : w1.cell? ⟨w.heap.size, 1, none⟩ = some (.int .i64 clo) := kp hb1 (by go_cell)
  have c_c2 : w1.cell? ⟨w.heap.size, 2, none⟩ = some (.int .i64 chi) := kp hb1 (by go_cell)
  have c_c3 : w1.cell? ⟨w.heap.size, 3, none⟩ = some (.int .i64 cdr) := kp hb1 (by go_cell)
  have c_d0 : w1.cell? ⟨w.heap.size + 1, 0, none⟩ = some (.int .i64 dl) := kp hb1 (by go_cell)
  have c_d1 : w1.cell? ⟨w.heap.size + 1, 1, none⟩ = some (.int .i64 dh) := kp hb1 (by go_cell)
  have c_y0 : w1.cell? ⟨w.heap.size + 1 + 1, 0, none⟩ = some (.int .i64 tlo) := kp hb1 (by go_cell)
  have c_y1 : w1.cell? ⟨w.heap.size + 1 + 1, 1, none⟩ = some (.int .i64 thi) := kp hb1 (by go_cell)
  clear hb1
  go_wp2_with fail
  refine (HF.out _).mono ?_
  rintro e w2 ⟨rfl, hb2⟩
  have hB2 : Below w.heap.size w w2 := below_after (by go_grown) hb2
  have hz2 := hb2.size
  try simp only [World.size_alloc, World.size_setCell, World.size_drew] at hz2
  have hw2 := hB2.size
  replace c_c0 : w2.cell? ⟨w.heap.size, 0, none⟩ = some (.int .i64 ct) := kp hb2 (by go_cell)
  replace c_c1 : w2.cell? ⟨w.heap.size, 1, none⟩ = some (.int .i64 clo) := kp hb2 (by go_cell)
  replace c_c2 : w2.cell? ⟨w.heap.size, 2, none⟩ = some (.int .i64 chi) := kp hb2 (by go_cell)
  replace c_c3 : w2.cell? ⟨w.heap.size, 3, none⟩ = some (.int .i64 cdr) := kp hb2 (by go_cell)
  replace c_d0 : w2.cell? ⟨w.heap.size + 1, 0, none⟩ = some (.int .i64 dl) := kp hb2 (by go_cell)
  replace c_d1 : w2.cell? ⟨w.heap.size + 1, 1, none⟩ = some (.int .i64 dh) := kp hb2 (by go_cell)
  replace c_y0 : w2.cell? ⟨w.heap.size + 1 + 1, 0, none⟩ = some (.int .i64 tlo) := kp hb2 (by go_cell)
  replace c_y1 : w2.cell? ⟨w.heap.size + 1 + 1, 1, none⟩ = some (.int .i64 thi) := kp hb2 (by go_cell)
  clear hb2 hB1
  go_wp2_with fail
  refine (HD.out _).mono ?_
  rintro e w3 ⟨rfl, hb3⟩
  have hB3 : Below w.heap.size w w3 := below_after (by go_grown) hb3
  have hz3 := hb3.size
  try simp only [World.size_alloc, World.size_setCell, World.size_drew] at hz3
  have hw3 := hB3.size
  replace c_c0 : w3.cell? ⟨w.heap.size, 0, none⟩ = some (.int .i64 ct) := kp hb3 (by go_cell)
  replace c_c1 : w3.cell? ⟨w.heap.size, 1, none⟩ = some (.int .i64 clo) := kp hb3 (by go_cell)
  replace c_c2 : w3.cell? ⟨w.heap.size, 2, none⟩ = some (.int .i64 chi) := kp hb3 (by go_cell)
  replace c_c3 : w3.cell? ⟨w.heap.size, 3, none⟩ = some (.int .i64 cdr) := kp hb3 (by go_cell)
  replace c_d0 : w3.cell? ⟨w.heap.size + 1, 0, none⟩ = some (.int .i64 dl) := kp hb3 (by go_cell)
  replace c_d1 : w3.cell? ⟨w.heap.size + 1, 1, none⟩ = some (.int .i64 dh) := kp hb3 (by go_cell)
  replace c_y0 : w3.cell? ⟨w.heap.size + 1 + 1, 0, none⟩ = some (.int .i64 tlo) := kp hb3 (by go_cell)
  replace c_y1 : w3.cell? ⟨w.heap.size + 1 + 1, 1, none⟩ = some (.int .i64 thi) := kp hb3 (by go_cell)
  clear hb3 hB2
  go_wp2_with fail
  go_ret
  exact ⟨rfl, by go_grown⟩
set_option maxHeartbeats 1600000 in
set_option maxRecDepth 100000 in
theorem wi_c (A : Option Addr) (n c : Nat) (xs : List Wt) (ct clo chi cdr dl dh tlo thi sent got lo hi : Int) (w : World) (h0 : n ≤ 25) (h1 : depB dl dh = true) (h2 : timB tlo thi = false) : Calls Try.prog 21 #[.slice A n c, .agg #[.int .i64 ct, .int .i64 clo, .int .i64 chi, .int .i64 cdr], .agg #[.int .i64 dl, .int .i64 dh], .agg #[.int .i64 tlo, .int .i64 thi], .int .i64 sent, .int .i64 got, .int .u64 lo, .int .u64 hi] w fun e w' => e = .returned (.bool true) ∧ Below w.heap.size w w' := by
  have hF := fun W => bel (Few_any A n c W)
  rw [show decide (n ≤ 25) = true by simp; omega] at hF
  have HF := Lib.hid hF
  have hD := fun W => RDepths17_any dl dh W
  rw [h1] at hD
  have HD := Lib.hid hD
  have hT := fun W => RTimes17_any tlo thi W
  rw [h2] at hT
  have HT := Lib.hid hT
  clear hF hD hT
  go_enter Try.func21, Try.ntmps21
  go_wp2_with fail
  refine (head17_any _).mono ?_
  rintro e w1 ⟨rfl, hb1⟩
  have hB1 : Below w.heap.size w w1 := below_after (by go_grown) hb1
  have hz1 := hb1.size
  try simp only [World.size_alloc, World.size_setCell, World.size_drew] at hz1
  have hw1 := hB1.size
  have c_c0 : w1.cell? ⟨w.heap.size, 0, none⟩ = some (.int .i64 ct) := kp hb1 (by go_cell)
  have c_c1 : w1.cell? ⟨w.heap.size, 1, none⟩ = some (.int .i64 clo) := kp hb1 (by go_cell)
  have c_c2 : w1.cell? ⟨w.heap.size, 2, none⟩ = some (.int .i64 chi) := kp hb1 (by go_cell)
  have c_c3 : w1.cell? ⟨w.heap.size, 3, none⟩ = some (.int .i64 cdr) := kp hb1 (by go_cell)
  have c_d0 : w1.cell? ⟨w.heap.size + 1, 0, none⟩ = some (.int .i64 dl) := kp hb1 (by go_cell)
  have c_d1 : w1.cell? ⟨w.heap.size + 1, 1, none⟩ = some (.int .i64 dh) := kp hb1 (by go_cell)
  have c_y0 : w1.cell? ⟨w.heap.size + 1 + 1, 0, none⟩ = some (.int .i64 tlo) := kp hb1 (by go_cell)
  have c_y1 : w1.cell? ⟨w.heap.size + 1 + 1, 1, none⟩ = some (.int .i64 thi) := kp hb1 (by go_cell)
  clear hb1
  go_wp2_with fail
  refine (HF.out _).mono ?_
  rintro e w2 ⟨rfl, hb2⟩
  have hB2 : Below w.heap.size w w2 := below_after (by go_grown) hb2
  have hz2 := hb2.size
  try simp only [World.size_alloc, World.size_setCell, World.size_drew] at hz2
  have hw2 := hB2.size
  replace c_c0 : w2.cell? ⟨w.heap.size, 0, none⟩ = some (.int .i64 ct) := kp hb2 (by go_cell)
  replace c_c1 : w2.cell? ⟨w.heap.size, 1, none⟩ = some (.int .i64 clo) := kp hb2 (by go_cell)
  replace c_c2 : w2.cell? ⟨w.heap.size, 2, none⟩ = some (.int .i64 chi) := kp hb2 (by go_cell)
  replace c_c3 : w2.cell? ⟨w.heap.size, 3, none⟩ = some (.int .i64 cdr) := kp hb2 (by go_cell)
  replace c_d0 : w2.cell? ⟨w.heap.size + 1, 0, none⟩ = some (.int .i64 dl) := kp hb2 (by go_cell)
  replace c_d1 : w2.cell? ⟨w.heap.size + 1, 1, none⟩ = some (.int .i64 dh) := kp hb2 (by go_cell)
  replace c_y0 : w2.cell? ⟨w.heap.size + 1 + 1, 0, none⟩ = some (.int .i64 tlo) := kp hb2 (by go_cell)
  replace c_y1 : w2.cell? ⟨w.heap.size + 1 + 1, 1, none⟩ = some (.int .i64 thi) := kp hb2 (by go_cell)
  clear hb2 hB1
  go_wp2_with fail
  refine (HD.out _).mono ?_
  rintro e w3 ⟨rfl, hb3⟩
  have hB3 : Below w.heap.size w w3 := below_after (by go_grown) hb3
  have hz3 := hb3.size
  try simp only [World.size_alloc, World.size_setCell, World.size_drew] at hz3
  have hw3 := hB3.size
  replace c_c0 : w3.cell? ⟨w.heap.size, 0, none⟩ = some (.int .i64 ct) := kp hb3 (by go_cell)
  replace c_c1 : w3.cell? ⟨w.heap.size, 1, none⟩ = some (.int .i64 clo) := kp hb3 (by go_cell)
  replace c_c2 : w3.cell? ⟨w.heap.size, 2, none⟩ = some (.int .i64 chi) := kp hb3 (by go_cell)
  replace c_c3 : w3.cell? ⟨w.heap.size, 3, none⟩ = some (.int .i64 cdr) := kp hb3 (by go_cell)
  replace c_d0 : w3.cell? ⟨w.heap.size + 1, 0, none⟩ = some (.int .i64 dl) := kp hb3 (by go_cell)
  replace c_d1 : w3.cell? ⟨w.heap.size + 1, 1, none⟩ = some (.int .i64 dh) := kp hb3 (by go_cell)
  replace c_y0 : w3.cell? ⟨w.heap.size + 1 + 1, 0, none⟩ = some (.int .i64 tlo) := kp hb3 (by go_cell)
  replace c_y1 : w3.cell? ⟨w.heap.size + 1 + 1, 1, none⟩ = some (.int .i64 thi) := kp hb3 (by go_cell)
  clear hb3 hB2
  go_wp2_with fail
  refine (HT.out _).mono ?_
  rintro e w4 ⟨rfl, hb4⟩
  have hB4 : Below w.heap.size w w4 := below_after (by go_grown) hb4
  have hz4 := hb4.size
  try simp only [World.size_alloc, World.size_setCell, World.size_drew] at hz4
  have hw4 := hB4.size
  replace c_c0 : w4.cell? ⟨w.heap.size, 0, none⟩ = some (.int .i64 ct) := kp hb4 (by go_cell)
  replace c_c1 : w4.cell? ⟨w.heap.size, 1, none⟩ = some (.int .i64 clo) := kp hb4 (by go_cell)
  replace c_c2 : w4.cell? ⟨w.heap.size, 2, none⟩ = some (.int .i64 chi) := kp hb4 (by go_cell)
  replace c_c3 : w4.cell? ⟨w.heap.size, 3, none⟩ = some (.int .i64 cdr) := kp hb4 (by go_cell)
  replace c_d0 : w4.cell? ⟨w.heap.size + 1, 0, none⟩ = some (.int .i64 dl) := kp hb4 (by go_cell)
  replace c_d1 : w4.cell? ⟨w.heap.size + 1, 1, none⟩ = some (.int .i64 dh) := kp hb4 (by go_cell)
  replace c_y0 : w4.cell? ⟨w.heap.size + 1 + 1, 0, none⟩ = some (.int .i64 tlo) := kp hb4 (by go_cell)
  replace c_y1 : w4.cell? ⟨w.heap.size + 1 + 1, 1, none⟩ = some (.int .i64 thi) := kp hb4 (by go_cell)
  clear hb4 hB3
  go_wp2_with fail
  go_ret
  exact ⟨rfl, by go_grown⟩
set_option maxHeartbeats 8000000 in
set_option maxRecDepth 100000 in
theorem wi_go (A : Option Addr) (n c : Nat) (xs : List Wt) (ct clo chi cdr dl dh tlo thi sent got lo hi : Int) (w : World) (hn : xs.length = n) (hx : Wts? w.heap.size w A xs) (h0 : n ≤ 25) (h1 : depB dl dh = true) (h2 : timB tlo thi = true) (hl0 : 0 ≤ lo) (hl1 : lo < 18446744073709551616) (hi0 : 0 ≤ hi) (hi1 : hi < 18446744073709551616) : Calls Try.prog 21 #[.slice A n c, .agg #[.int .i64 ct, .int .i64 clo, .int .i64 chi, .int .i64 cdr], .agg #[.int .i64 dl, .int .i64 dh], .agg #[.int .i64 tlo, .int .i64 thi], .int .i64 sent, .int .i64 got, .int .u64 lo, .int .u64 hi] w fun e w' => e = .returned (.bool true) ∧ Below w.heap.size w w' := by
  have HXS := Lib.hid (hxs_of hx)
  have hF := fun W => bel (Few_any A n c W)
  rw [show decide (n ≤ 25) = true by simp; omega] at hF
  have HF := Lib.hid hF
  have hD := fun W => RDepths17_any dl dh W
  rw [h1] at hD
  have HD := Lib.hid hD
  have hT := fun W => RTimes17_any tlo thi W
  rw [h2] at hT
  have HT := Lib.hid hT
  have db := (depB_iff dl dh).1 h1
  have tb := (timB_iff tlo thi).1 h2
  have hI := fun W => in17_any dl dh lo W db.2.1 (by omega) (by omega) hl0 hl1
  have r1 := in_range dl dh lo db.2.1
  generalize dl + lo % (dh - dl + 1) = p at *
  have hJ := fun W => in17_any p dh hi W r1.2 (by omega) (by omega) hi0 hi1
  have r2 := in_range p dh hi r1.2
  generalize p + hi % (dh - p + 1) = r at *
  have hK := fun W => in17_any tlo thi hi W tb.2.1 (by omega) (by omega) hi0 hi1
  have r3 := in_range tlo thi hi tb.2.1
  generalize tlo + hi % (thi - tlo + 1) = u at *
  have hL := fun W => in17_any u thi lo W r3.2 (by omega) (by omega) hl0 hl1
  have r4 := in_range u thi lo r3.2
  generalize u + lo % (thi - u + 1) = v at *
  have hpr : depB p r = true := (depB_iff p r).2 (by omega)
  have huv : timB u v = true := (timB_iff u v).2 (by omega)
  have hA := fun W h => Speed_any A n c xs dl dh W hn (by omega) h
  have hB := fun W h => Speed_any A n c xs p r W hn (by omega) h
  have hC := fun W h => Dist_any A n c xs dl dh tlo thi W hn (by omega) h
  have hE := fun W h => Dist_any A n c xs p r u v W hn (by omega) h
  have hG := fun W h => Two_any A n c xs ct clo chi cdr dl dh sent got tlo thi W hn (by omega) h
  have hM := fun W h => Two_any A n c xs ct clo chi cdr p r sent got u v W hn (by omega) h
  obtain ⟨A1, A2, B1, B2, e9, es1, es2, s1, s2⟩ := speed_within (xs := xs) h1 hpr r1.1 r2.2
  rw [es1] at hA
  rw [es2] at hB
  have hd := dist_within (xs := xs) h1 hpr r1.1 r2.2 h2 huv r3.1 r4.2
  have ht := two_within (xs := xs) (ct := ct) (clo := clo) (chi := chi) (cdr := cdr) (sent := sent) (got := got) h1 hpr r1.1 r2.2 h2 huv r3.1 r4.2
  generalize distS xs dl dh tlo thi = D at hC hd
  generalize distS xs p r u v = E at hE hd
  generalize twoS xs ct clo chi cdr dl dh sent got tlo thi = T at hG ht
  generalize twoS xs ct clo chi cdr p r sent got u v = U at hM ht
  obtain ⟨D1, D2, D3⟩ := D
  obtain ⟨E1, E2, E3⟩ := E
  obtain ⟨T1, T2, T3⟩ := T
  obtain ⟨U1, U2, U3⟩ := U
  simp only at hA hB hC hE hG hM hd ht
  have hN := fun W => Within_any B1 B2 A1 A2 W
  rw [show (decide (A1 ≤ B1) && decide (B2 ≤ A2)) = true by simp; omega] at hN
  have hO := fun W => Within_any E1 E2 D1 D2 W
  have hP := fun W => Within_any U1 U2 T1 T2 W
  have HI := Lib.hid hI
  have HJ := Lib.hid hJ
  have HK := Lib.hid hK
  have HL := Lib.hid hL
  have HA := Lib.hid hA
  have HB := Lib.hid hB
  have HC := Lib.hid hC
  have HE := Lib.hid hE
  have HG := Lib.hid hG
  have HM := Lib.hid hM
  have HN := Lib.hid hN
  have HO := Lib.hid hO
  have HP := Lib.hid hP
  have hQ := Lib.hid hd
  have hR := Lib.hid ht
  clear hx hn h1 h2 hpr huv es1 es2 s1 s2 hd ht r1 r2 r3 r4 db tb hF hD hT hI hJ hK hL hA hB hC hE hG hM hN hO hP
  go_enter Try.func21, Try.ntmps21
  go_wp2_with fail
  refine (head17_any _).mono ?_
  rintro e w1 ⟨rfl, hb1⟩
  have hB1 : Below w.heap.size w w1 := below_after (by go_grown) hb1
  have hz1 := hb1.size
  try simp only [World.size_alloc, World.size_setCell, World.size_drew] at hz1
  have hw1 := hB1.size
  have c_c0 : w1.cell? ⟨w.heap.size, 0, none⟩ = some (.int .i64 ct) := kp hb1 (by go_cell)
  have c_c1 : w1.cell? ⟨w.heap.size, 1, none⟩ = some (.int .i64 clo) := kp hb1 (by go_cell)
  have c_c2 : w1.cell? ⟨w.heap.size, 2, none⟩ = some (.int .i64 chi) := kp hb1 (by go_cell)
  have c_c3 : w1.cell? ⟨w.heap.size, 3, none⟩ = some (.int .i64 cdr) := kp hb1 (by go_cell)
  have c_d0 : w1.cell? ⟨w.heap.size + 1, 0, none⟩ = some (.int .i64 dl) := kp hb1 (by go_cell)
  have c_d1 : w1.cell? ⟨w.heap.size + 1, 1, none⟩ = some (.int .i64 dh) := kp hb1 (by go_cell)
  have c_y0 : w1.cell? ⟨w.heap.size + 1 + 1, 0, none⟩ = some (.int .i64 tlo) := kp hb1 (by go_cell)
  have c_y1 : w1.cell? ⟨w.heap.size + 1 + 1, 1, none⟩ = some (.int .i64 thi) := kp hb1 (by go_cell)
  clear hb1
  go_wp2_with fail
  refine (HF.out _).mono ?_
  rintro e w2 ⟨rfl, hb2⟩
  have hB2 : Below w.heap.size w w2 := below_after (by go_grown) hb2
  have hz2 := hb2.size
  try simp only [World.size_alloc, World.size_setCell, World.size_drew] at hz2
  have hw2 := hB2.size
  replace c_c0 : w2.cell? ⟨w.heap.size, 0, none⟩ = some (.int .i64 ct) := kp hb2 (by go_cell)
  replace c_c1 : w2.cell? ⟨w.heap.size, 1, none⟩ = some (.int .i64 clo) := kp hb2 (by go_cell)
  replace c_c2 : w2.cell? ⟨w.heap.size, 2, none⟩ = some (.int .i64 chi) := kp hb2 (by go_cell)
  replace c_c3 : w2.cell? ⟨w.heap.size, 3, none⟩ = some (.int .i64 cdr) := kp hb2 (by go_cell)
  replace c_d0 : w2.cell? ⟨w.heap.size + 1, 0, none⟩ = some (.int .i64 dl) := kp hb2 (by go_cell)
  replace c_d1 : w2.cell? ⟨w.heap.size + 1, 1, none⟩ = some (.int .i64 dh) := kp hb2 (by go_cell)
  replace c_y0 : w2.cell? ⟨w.heap.size + 1 + 1, 0, none⟩ = some (.int .i64 tlo) := kp hb2 (by go_cell)
  replace c_y1 : w2.cell? ⟨w.heap.size + 1 + 1, 1, none⟩ = some (.int .i64 thi) := kp hb2 (by go_cell)
  clear hb2 hB1
  go_wp2_with fail
  refine (HD.out _).mono ?_
  rintro e w3 ⟨rfl, hb3⟩
  have hB3 : Below w.heap.size w w3 := below_after (by go_grown) hb3
  have hz3 := hb3.size
  try simp only [World.size_alloc, World.size_setCell, World.size_drew] at hz3
  have hw3 := hB3.size
  replace c_c0 : w3.cell? ⟨w.heap.size, 0, none⟩ = some (.int .i64 ct) := kp hb3 (by go_cell)
  replace c_c1 : w3.cell? ⟨w.heap.size, 1, none⟩ = some (.int .i64 clo) := kp hb3 (by go_cell)
  replace c_c2 : w3.cell? ⟨w.heap.size, 2, none⟩ = some (.int .i64 chi) := kp hb3 (by go_cell)
  replace c_c3 : w3.cell? ⟨w.heap.size, 3, none⟩ = some (.int .i64 cdr) := kp hb3 (by go_cell)
  replace c_d0 : w3.cell? ⟨w.heap.size + 1, 0, none⟩ = some (.int .i64 dl) := kp hb3 (by go_cell)
  replace c_d1 : w3.cell? ⟨w.heap.size + 1, 1, none⟩ = some (.int .i64 dh) := kp hb3 (by go_cell)
  replace c_y0 : w3.cell? ⟨w.heap.size + 1 + 1, 0, none⟩ = some (.int .i64 tlo) := kp hb3 (by go_cell)
  replace c_y1 : w3.cell? ⟨w.heap.size + 1 + 1, 1, none⟩ = some (.int .i64 thi) := kp hb3 (by go_cell)
  clear hb3 hB2
  go_wp2_with fail
  refine (HT.out _).mono ?_
  rintro e w4 ⟨rfl, hb4⟩
  have hB4 : Below w.heap.size w w4 := below_after (by go_grown) hb4
  have hz4 := hb4.size
  try simp only [World.size_alloc, World.size_setCell, World.size_drew] at hz4
  have hw4 := hB4.size
  replace c_c0 : w4.cell? ⟨w.heap.size, 0, none⟩ = some (.int .i64 ct) := kp hb4 (by go_cell)
  replace c_c1 : w4.cell? ⟨w.heap.size, 1, none⟩ = some (.int .i64 clo) := kp hb4 (by go_cell)
  replace c_c2 : w4.cell? ⟨w.heap.size, 2, none⟩ = some (.int .i64 chi) := kp hb4 (by go_cell)
  replace c_c3 : w4.cell? ⟨w.heap.size, 3, none⟩ = some (.int .i64 cdr) := kp hb4 (by go_cell)
  replace c_d0 : w4.cell? ⟨w.heap.size + 1, 0, none⟩ = some (.int .i64 dl) := kp hb4 (by go_cell)
  replace c_d1 : w4.cell? ⟨w.heap.size + 1, 1, none⟩ = some (.int .i64 dh) := kp hb4 (by go_cell)
  replace c_y0 : w4.cell? ⟨w.heap.size + 1 + 1, 0, none⟩ = some (.int .i64 tlo) := kp hb4 (by go_cell)
  replace c_y1 : w4.cell? ⟨w.heap.size + 1 + 1, 1, none⟩ = some (.int .i64 thi) := kp hb4 (by go_cell)
  clear hb4 hB3
  have lt_c := World.block_lt_of_cell? _ _ c_c0
  simp only at lt_c
  have lt_d := World.block_lt_of_cell? _ _ c_d0
  simp only at lt_d
  have lt_y := World.block_lt_of_cell? _ _ c_y0
  simp only at lt_y
  go_upto_region 4 with fail
  have HSZ := Lib.hid (show ∀ w', Below w4.heap.size w4 w' → Below w4.heap.size w4 w' ∧ w'.cell? ⟨w.heap.size + 1, 0, none⟩ = some (.int .i64 dl) ∧ w'.cell? ⟨w.heap.size + 1, 1, none⟩ = some (.int .i64 dh) from fun w' h9 => ⟨h9, (h9.cell (p := ⟨w.heap.size + 1, 0, none⟩) lt_d).trans c_d0, (h9.cell (p := ⟨w.heap.size + 1, 1, none⟩) lt_d).trans c_d1⟩)
  go_cut [18] (fun sv wx => ∃ g, sv = .pointer (some ⟨g, 0, none⟩) ∧ w4.heap.size ≤ g ∧ wx.cell? ⟨g, 0, none⟩ = some (.int .i64 p) ∧ wx.cell? ⟨g, 1, none⟩ = some (.int .i64 dh) ∧ wx.frozen? ⟨g, 0, none⟩ = false ∧ wx.frozen? ⟨g, 1, none⟩ = false ∧ Below w4.heap.size w4 wx)
  case first =>
    go_region_held3 (fun w' => Below w4.heap.size w4 w' ∧ w'.cell? ⟨w.heap.size + 1, 0, none⟩ = some (.int .i64 dl) ∧ w'.cell? ⟨w.heap.size + 1, 1, none⟩ = some (.int .i64 dh))
      ((refine HSZ.out _ ?_; (first | (with_reducible assumption) | (go_grown; done) | (exact Below.drew (by go_grown)))))
      (first | ((go_split_ands; (with_reducible refine (HI.out _).mono ?_); rintro e xa ⟨rfl, hb_xa⟩; have hB_xa : Below w4.heap.size w4 xa := below_after (by assumption) hb_xa; have hz_xa := hB_xa.size; have hy_xa := hb_xa.size; (try simp only [World.size_alloc, World.size_drew] at hy_xa); (try (have n00c_xa : xa.cell? ⟨w4.heap.size, 0, none⟩ = some (.int .i64 0) := ?_; rotate_left 1; focus (refine kp hb_xa ?_; go_cell; done))); (try (have n00f_xa : xa.frozen? ⟨w4.heap.size, 0, none⟩ = false := ?_; rotate_left 1; focus (refine kf hb_xa ?_ ?_ <;> (go_simp; done)))); (try (have n01c_xa : xa.cell? ⟨w4.heap.size, 1, none⟩ = some (.int .i64 0) := ?_; rotate_left 1; focus (refine kp hb_xa ?_; go_cell; done))); (try (have n01f_xa : xa.frozen? ⟨w4.heap.size, 1, none⟩ = false := ?_; rotate_left 1; focus (refine kf hb_xa ?_ ?_ <;> (go_simp; done)))))) | ((go_split_ands; (with_reducible refine (of17_any p dh _).mono ?_); rintro e xb ⟨rfl, hb_xb⟩; have hB_xb : Below w4.heap.size w4 xb := below_after (by assumption) hb_xb; have hz_xb := hB_xb.size; have hy_xb := hb_xb.size; (try simp only [World.size_alloc, World.size_drew] at hy_xb); (try (have n00c_xb : xb.cell? ⟨w4.heap.size, 0, none⟩ = some (.int .i64 0) := ?_; rotate_left 1; focus (refine kp hb_xb ?_; go_cell; done))); (try (have n00f_xb : xb.frozen? ⟨w4.heap.size, 0, none⟩ = false := ?_; rotate_left 1; focus (refine kf hb_xb ?_ ?_ <;> (go_simp; done)))); (try (have n01c_xb : xb.cell? ⟨w4.heap.size, 1, none⟩ = some (.int .i64 0) := ?_; rotate_left 1; focus (refine kp hb_xb ?_; go_cell; done))); (try (have n01f_xb : xb.frozen? ⟨w4.heap.size, 1, none⟩ = false := ?_; rotate_left 1; focus (refine kf hb_xb ?_ ?_ <;> (go_simp; done)))); (try (have n10c_xb : xb.cell? ⟨xa.heap.size, 0, none⟩ = some (.int .i64 0) := ?_; rotate_left 1; focus (refine kp hb_xb ?_; go_cell; done))); (try (have n10f_xb : xb.frozen? ⟨xa.heap.size, 0, none⟩ = false := ?_; rotate_left 1; focus (refine kf hb_xb ?_ ?_ <;> (go_simp; done)))); (try (have n11c_xb : xb.cell? ⟨xa.heap.size, 1, none⟩ = some (.int .i64 0) := ?_; rotate_left 1; focus (refine kp hb_xb ?_; go_cell; done))); (try (have n11f_xb : xb.frozen? ⟨xa.heap.size, 1, none⟩ = false := ?_; rotate_left 1; focus (refine kf hb_xb ?_ ?_ <;> (go_simp; done)))))))
    all_goals (go_wp2_with fail)
    all_goals go_meet
    all_goals (refine ⟨_, rfl, ?_, ?_, ?_, ?_, ?_, ?_⟩ <;> first | omega | go_cell | (go_simp; done) | (go_grown; done) | (exact Below.drew (by go_grown)) | (go_simp; omega))
  case rest =>
    obtain ⟨g_e, rfl, hge_e, c_e0, c_e1, f_e0, f_e1, hBc⟩ := hcut
    clear HSZ
    have hBz_e : Below w.heap.size w wc := below_after hB4 hBc
    have c_c0 : wc.cell? ⟨w.heap.size, 0, none⟩ = some (.int .i64 ct) := (hBc.cell (p := ⟨w.heap.size, 0, none⟩) lt_c).trans c_c0
    have c_c1 : wc.cell? ⟨w.heap.size, 1, none⟩ = some (.int .i64 clo) := (hBc.cell (p := ⟨w.heap.size, 1, none⟩) lt_c).trans c_c1
    have c_c2 : wc.cell? ⟨w.heap.size, 2, none⟩ = some (.int .i64 chi) := (hBc.cell (p := ⟨w.heap.size, 2, none⟩) lt_c).trans c_c2
    have c_c3 : wc.cell? ⟨w.heap.size, 3, none⟩ = some (.int .i64 cdr) := (hBc.cell (p := ⟨w.heap.size, 3, none⟩) lt_c).trans c_c3
    have c_d0 : wc.cell? ⟨w.heap.size + 1, 0, none⟩ = some (.int .i64 dl) := (hBc.cell (p := ⟨w.heap.size + 1, 0, none⟩) lt_d).trans c_d0
    have c_d1 : wc.cell? ⟨w.heap.size + 1, 1, none⟩ = some (.int .i64 dh) := (hBc.cell (p := ⟨w.heap.size + 1, 1, none⟩) lt_d).trans c_d1
    have c_y0 : wc.cell? ⟨w.heap.size + 1 + 1, 0, none⟩ = some (.int .i64 tlo) := (hBc.cell (p := ⟨w.heap.size + 1 + 1, 0, none⟩) lt_y).trans c_y0
    have c_y1 : wc.cell? ⟨w.heap.size + 1 + 1, 1, none⟩ = some (.int .i64 thi) := (hBc.cell (p := ⟨w.heap.size + 1 + 1, 1, none⟩) lt_y).trans c_y1
    have ne_c_e : w.heap.size ≠ g_e := by omega
    have en_c_e : g_e ≠ w.heap.size := by omega
    have ne_d_e : w.heap.size + 1 ≠ g_e := by omega
    have en_d_e : g_e ≠ w.heap.size + 1 := by omega
    have ne_y_e : w.heap.size + 1 + 1 ≠ g_e := by omega
    have en_y_e : g_e ≠ w.heap.size + 1 + 1 := by omega
    have hB5 := hBz_e
    have hw5 := hB5.size
    clear hBc
    go_wp2_with fail
    refine (HJ.out _).mono ?_
    rintro e w6 ⟨rfl, hb6⟩
    have hB6 : Below w.heap.size w w6 := below_after (by go_grown) hb6
    have hz6 := hb6.size
    try simp only [World.size_alloc, World.size_setCell, World.size_drew] at hz6
    have hw6 := hB6.size
    replace c_c0 : w6.cell? ⟨w.heap.size, 0, none⟩ = some (.int .i64 ct) := kp hb6 (by go_cell)
    replace c_c1 : w6.cell? ⟨w.heap.size, 1, none⟩ = some (.int .i64 clo) := kp hb6 (by go_cell)
    replace c_c2 : w6.cell? ⟨w.heap.size, 2, none⟩ = some (.int .i64 chi) := kp hb6 (by go_cell)
    replace c_c3 : w6.cell? ⟨w.heap.size, 3, none⟩ = some (.int .i64 cdr) := kp hb6 (by go_cell)
    replace c_d0 : w6.cell? ⟨w.heap.size + 1, 0, none⟩ = some (.int .i64 dl) := kp hb6 (by go_cell)
    replace c_d1 : w6.cell? ⟨w.heap.size + 1, 1, none⟩ = some (.int .i64 dh) := kp hb6 (by go_cell)
    replace c_y0 : w6.cell? ⟨w.heap.size + 1 + 1, 0, none⟩ = some (.int .i64 tlo) := kp hb6 (by go_cell)
    replace c_y1 : w6.cell? ⟨w.heap.size + 1 + 1, 1, none⟩ = some (.int .i64 thi) := kp hb6 (by go_cell)
    replace f_e0 : w6.frozen? ⟨g_e, 0, none⟩ = false := kf hb6 (by go_simp) (by go_simp)
    replace f_e1 : w6.frozen? ⟨g_e, 1, none⟩ = false := kf hb6 (by go_simp) (by go_simp)
    replace c_e0 : w6.cell? ⟨g_e, 0, none⟩ = some (.int .i64 p) := kp hb6 (by go_cell)
    replace c_e1 : w6.cell? ⟨g_e, 1, none⟩ = some (.int .i64 dh) := kp hb6 (by go_cell)
    clear hb6 hB5
    go_upto_region 6 with fail
    have x_c0 : (w6.setCell ⟨g_e, 1, none⟩ (.int .i64 r)).cell? ⟨w.heap.size, 0, none⟩ = some (.int .i64 ct) := by go_cell
    have x_c1 : (w6.setCell ⟨g_e, 1, none⟩ (.int .i64 r)).cell? ⟨w.heap.size, 1, none⟩ = some (.int .i64 clo) := by go_cell
    have x_c2 : (w6.setCell ⟨g_e, 1, none⟩ (.int .i64 r)).cell? ⟨w.heap.size, 2, none⟩ = some (.int .i64 chi) := by go_cell
    have x_c3 : (w6.setCell ⟨g_e, 1, none⟩ (.int .i64 r)).cell? ⟨w.heap.size, 3, none⟩ = some (.int .i64 cdr) := by go_cell
    have x_d0 : (w6.setCell ⟨g_e, 1, none⟩ (.int .i64 r)).cell? ⟨w.heap.size + 1, 0, none⟩ = some (.int .i64 dl) := by go_cell
    have x_d1 : (w6.setCell ⟨g_e, 1, none⟩ (.int .i64 r)).cell? ⟨w.heap.size + 1, 1, none⟩ = some (.int .i64 dh) := by go_cell
    have x_y0 : (w6.setCell ⟨g_e, 1, none⟩ (.int .i64 r)).cell? ⟨w.heap.size + 1 + 1, 0, none⟩ = some (.int .i64 tlo) := by go_cell
    have x_y1 : (w6.setCell ⟨g_e, 1, none⟩ (.int .i64 r)).cell? ⟨w.heap.size + 1 + 1, 1, none⟩ = some (.int .i64 thi) := by go_cell
    have x_e0 : (w6.setCell ⟨g_e, 1, none⟩ (.int .i64 r)).cell? ⟨g_e, 0, none⟩ = some (.int .i64 p) := by go_cell
    have x_e1 : (w6.setCell ⟨g_e, 1, none⟩ (.int .i64 r)).cell? ⟨g_e, 1, none⟩ = some (.int .i64 r) := by go_cell
    have y_e0 : (w6.setCell ⟨g_e, 1, none⟩ (.int .i64 r)).frozen? ⟨g_e, 0, none⟩ = false := by go_simp
    have y_e1 : (w6.setCell ⟨g_e, 1, none⟩ (.int .i64 r)).frozen? ⟨g_e, 1, none⟩ = false := by go_simp
    have hBq : Below w.heap.size w (w6.setCell ⟨g_e, 1, none⟩ (.int .i64 r)) := by go_grown
    clear c_c0 c_c1 c_c2 c_c3
    clear c_d0 c_d1
    clear c_y0 c_y1
    clear c_e0 c_e1 f_e0 f_e1
    generalize (w6.setCell ⟨g_e, 1, none⟩ (.int .i64 r)) = z6 at *
    have c_c0 := x_c0
    have c_c1 := x_c1
    have c_c2 := x_c2
    have c_c3 := x_c3
    clear x_c0 x_c1 x_c2 x_c3
    have c_d0 := x_d0
    have c_d1 := x_d1
    clear x_d0 x_d1
    have c_y0 := x_y0
    have c_y1 := x_y1
    clear x_y0 x_y1
    have c_e0 := x_e0
    have c_e1 := x_e1
    have f_e0 := y_e0
    have f_e1 := y_e1
    clear x_e0 x_e1 y_e0 y_e1
    have hB7 := hBq
    have hw7 := hB7.size
    clear hBq
    have lt_c := World.block_lt_of_cell? _ _ c_c0
    simp only at lt_c
    have lt_d := World.block_lt_of_cell? _ _ c_d0
    simp only at lt_d
    have lt_y := World.block_lt_of_cell? _ _ c_y0
    simp only at lt_y
    have lt_e := World.block_lt_of_cell? _ _ c_e0
    simp only at lt_e
    go_upto_region 6 with fail
    have HSZ := Lib.hid (show ∀ w', Below z6.heap.size z6 w' → Below z6.heap.size z6 w' ∧ w'.cell? ⟨w.heap.size + 1 + 1, 0, none⟩ = some (.int .i64 tlo) ∧ w'.cell? ⟨w.heap.size + 1 + 1, 1, none⟩ = some (.int .i64 thi) from fun w' h9 => ⟨h9, (h9.cell (p := ⟨w.heap.size + 1 + 1, 0, none⟩) lt_y).trans c_y0, (h9.cell (p := ⟨w.heap.size + 1 + 1, 1, none⟩) lt_y).trans c_y1⟩)
    go_cut [19] (fun sv wx => ∃ g, sv = .pointer (some ⟨g, 0, none⟩) ∧ z6.heap.size ≤ g ∧ wx.cell? ⟨g, 0, none⟩ = some (.int .i64 u) ∧ wx.cell? ⟨g, 1, none⟩ = some (.int .i64 thi) ∧ wx.frozen? ⟨g, 0, none⟩ = false ∧ wx.frozen? ⟨g, 1, none⟩ = false ∧ Below z6.heap.size z6 wx)
    case first =>
      go_region_held3 (fun w' => Below z6.heap.size z6 w' ∧ w'.cell? ⟨w.heap.size + 1 + 1, 0, none⟩ = some (.int .i64 tlo) ∧ w'.cell? ⟨w.heap.size + 1 + 1, 1, none⟩ = some (.int .i64 thi))
        ((refine HSZ.out _ ?_; (first | (with_reducible assumption) | (go_grown; done) | (exact Below.drew (by go_grown)))))
        (first | ((go_split_ands; (with_reducible refine (HK.out _).mono ?_); rintro e xc ⟨rfl, hb_xc⟩; have hB_xc : Below z6.heap.size z6 xc := below_after (by assumption) hb_xc; have hz_xc := hB_xc.size; have hy_xc := hb_xc.size; (try simp only [World.size_alloc, World.size_drew] at hy_xc); (try (have n00c_xc : xc.cell? ⟨z6.heap.size, 0, none⟩ = some (.int .i64 0) := ?_; rotate_left 1; focus (refine kp hb_xc ?_; go_cell; done))); (try (have n00f_xc : xc.frozen? ⟨z6.heap.size, 0, none⟩ = false := ?_; rotate_left 1; focus (refine kf hb_xc ?_ ?_ <;> (go_simp; done)))); (try (have n01c_xc : xc.cell? ⟨z6.heap.size, 1, none⟩ = some (.int .i64 0) := ?_; rotate_left 1; focus (refine kp hb_xc ?_; go_cell; done))); (try (have n01f_xc : xc.frozen? ⟨z6.heap.size, 1, none⟩ = false := ?_; rotate_left 1; focus (refine kf hb_xc ?_ ?_ <;> (go_simp; done)))))) | ((go_split_ands; (with_reducible refine (of17_any u thi _).mono ?_); rintro e xd ⟨rfl, hb_xd⟩; have hB_xd : Below z6.heap.size z6 xd := below_after (by assumption) hb_xd; have hz_xd := hB_xd.size; have hy_xd := hb_xd.size; (try simp only [World.size_alloc, World.size_drew] at hy_xd); (try (have n00c_xd : xd.cell? ⟨z6.heap.size, 0, none⟩ = some (.int .i64 0) := ?_; rotate_left 1; focus (refine kp hb_xd ?_; go_cell; done))); (try (have n00f_xd : xd.frozen? ⟨z6.heap.size, 0, none⟩ = false := ?_; rotate_left 1; focus (refine kf hb_xd ?_ ?_ <;> (go_simp; done)))); (try (have n01c_xd : xd.cell? ⟨z6.heap.size, 1, none⟩ = some (.int .i64 0) := ?_; rotate_left 1; focus (refine kp hb_xd ?_; go_cell; done))); (try (have n01f_xd : xd.frozen? ⟨z6.heap.size, 1, none⟩ = false := ?_; rotate_left 1; focus (refine kf hb_xd ?_ ?_ <;> (go_simp; done)))); (try (have n10c_xd : xd.cell? ⟨xc.heap.size, 0, none⟩ = some (.int .i64 0) := ?_; rotate_left 1; focus (refine kp hb_xd ?_; go_cell; done))); (try (have n10f_xd : xd.frozen? ⟨xc.heap.size, 0, none⟩ = false := ?_; rotate_left 1; focus (refine kf hb_xd ?_ ?_ <;> (go_simp; done)))); (try (have n11c_xd : xd.cell? ⟨xc.heap.size, 1, none⟩ = some (.int .i64 0) := ?_; rotate_left 1; focus (refine kp hb_xd ?_; go_cell; done))); (try (have n11f_xd : xd.frozen? ⟨xc.heap.size, 1, none⟩ = false := ?_; rotate_left 1; focus (refine kf hb_xd ?_ ?_ <;> (go_simp; done)))))))
      all_goals (go_wp2_with fail)
      all_goals go_meet
      all_goals (refine ⟨_, rfl, ?_, ?_, ?_, ?_, ?_, ?_⟩ <;> first | omega | go_cell | (go_simp; done) | (go_grown; done) | (exact Below.drew (by go_grown)) | (go_simp; omega))
    case rest =>
      obtain ⟨g_t, rfl, hge_t, c_t0, c_t1, f_t0, f_t1, hBc⟩ := hcut
      clear HSZ
      have hBz_t : Below w.heap.size w wc := below_after hB7 hBc
      have c_c0 : wc.cell? ⟨w.heap.size, 0, none⟩ = some (.int .i64 ct) := (hBc.cell (p := ⟨w.heap.size, 0, none⟩) lt_c).trans c_c0
      have c_c1 : wc.cell? ⟨w.heap.size, 1, none⟩ = some (.int .i64 clo) := (hBc.cell (p := ⟨w.heap.size, 1, none⟩) lt_c).trans c_c1
      have c_c2 : wc.cell? ⟨w.heap.size, 2, none⟩ = some (.int .i64 chi) := (hBc.cell (p := ⟨w.heap.size, 2, none⟩) lt_c).trans c_c2
      have c_c3 : wc.cell? ⟨w.heap.size, 3, none⟩ = some (.int .i64 cdr) := (hBc.cell (p := ⟨w.heap.size, 3, none⟩) lt_c).trans c_c3
      have c_d0 : wc.cell? ⟨w.heap.size + 1, 0, none⟩ = some (.int .i64 dl) := (hBc.cell (p := ⟨w.heap.size + 1, 0, none⟩) lt_d).trans c_d0
      have c_d1 : wc.cell? ⟨w.heap.size + 1, 1, none⟩ = some (.int .i64 dh) := (hBc.cell (p := ⟨w.heap.size + 1, 1, none⟩) lt_d).trans c_d1
      have c_y0 : wc.cell? ⟨w.heap.size + 1 + 1, 0, none⟩ = some (.int .i64 tlo) := (hBc.cell (p := ⟨w.heap.size + 1 + 1, 0, none⟩) lt_y).trans c_y0
      have c_y1 : wc.cell? ⟨w.heap.size + 1 + 1, 1, none⟩ = some (.int .i64 thi) := (hBc.cell (p := ⟨w.heap.size + 1 + 1, 1, none⟩) lt_y).trans c_y1
      have f_e0 : wc.frozen? ⟨g_e, 0, none⟩ = false := (hBc.frozen (p := ⟨g_e, 0, none⟩) lt_e).trans f_e0
      have f_e1 : wc.frozen? ⟨g_e, 1, none⟩ = false := (hBc.frozen (p := ⟨g_e, 1, none⟩) lt_e).trans f_e1
      have c_e0 : wc.cell? ⟨g_e, 0, none⟩ = some (.int .i64 p) := (hBc.cell (p := ⟨g_e, 0, none⟩) lt_e).trans c_e0
      have c_e1 : wc.cell? ⟨g_e, 1, none⟩ = some (.int .i64 r) := (hBc.cell (p := ⟨g_e, 1, none⟩) lt_e).trans c_e1
      have ne_c_t : w.heap.size ≠ g_t := by omega
      have en_c_t : g_t ≠ w.heap.size := by omega
      have ne_d_t : w.heap.size + 1 ≠ g_t := by omega
      have en_d_t : g_t ≠ w.heap.size + 1 := by omega
      have ne_y_t : w.heap.size + 1 + 1 ≠ g_t := by omega
      have en_y_t : g_t ≠ w.heap.size + 1 + 1 := by omega
      have ne_e_t : g_e ≠ g_t := by omega
      have en_e_t : g_t ≠ g_e := by omega
      have hB8 := hBz_t
      have hw8 := hB8.size
      clear hBc
      go_wp2_with fail
      refine (HL.out _).mono ?_
      rintro e w9 ⟨rfl, hb9⟩
      have hB9 : Below w.heap.size w w9 := below_after (by go_grown) hb9
      have hz9 := hb9.size
      try simp only [World.size_alloc, World.size_setCell, World.size_drew] at hz9
      have hw9 := hB9.size
      replace c_c0 : w9.cell? ⟨w.heap.size, 0, none⟩ = some (.int .i64 ct) := kp hb9 (by go_cell)
      replace c_c1 : w9.cell? ⟨w.heap.size, 1, none⟩ = some (.int .i64 clo) := kp hb9 (by go_cell)
      replace c_c2 : w9.cell? ⟨w.heap.size, 2, none⟩ = some (.int .i64 chi) := kp hb9 (by go_cell)
      replace c_c3 : w9.cell? ⟨w.heap.size, 3, none⟩ = some (.int .i64 cdr) := kp hb9 (by go_cell)
      replace c_d0 : w9.cell? ⟨w.heap.size + 1, 0, none⟩ = some (.int .i64 dl) := kp hb9 (by go_cell)
      replace c_d1 : w9.cell? ⟨w.heap.size + 1, 1, none⟩ = some (.int .i64 dh) := kp hb9 (by go_cell)
      replace c_y0 : w9.cell? ⟨w.heap.size + 1 + 1, 0, none⟩ = some (.int .i64 tlo) := kp hb9 (by go_cell)
      replace c_y1 : w9.cell? ⟨w.heap.size + 1 + 1, 1, none⟩ = some (.int .i64 thi) := kp hb9 (by go_cell)
      replace f_e0 : w9.frozen? ⟨g_e, 0, none⟩ = false := kf hb9 (by go_simp) (by go_simp)
      replace f_e1 : w9.frozen? ⟨g_e, 1, none⟩ = false := kf hb9 (by go_simp) (by go_simp)
      replace c_e0 : w9.cell? ⟨g_e, 0, none⟩ = some (.int .i64 p) := kp hb9 (by go_cell)
      replace c_e1 : w9.cell? ⟨g_e, 1, none⟩ = some (.int .i64 r) := kp hb9 (by go_cell)
      replace f_t0 : w9.frozen? ⟨g_t, 0, none⟩ = false := kf hb9 (by go_simp) (by go_simp)
      replace f_t1 : w9.frozen? ⟨g_t, 1, none⟩ = false := kf hb9 (by go_simp) (by go_simp)
      replace c_t0 : w9.cell? ⟨g_t, 0, none⟩ = some (.int .i64 u) := kp hb9 (by go_cell)
      replace c_t1 : w9.cell? ⟨g_t, 1, none⟩ = some (.int .i64 thi) := kp hb9 (by go_cell)
      clear hb9 hB8
      go_wp2_with fail
      refine (HA.out _ (HXS.out _ (by go_grown))).mono ?_
      rintro e w10 ⟨rfl, hb10⟩
      have hB10 : Below w.heap.size w w10 := below_after (by go_grown) hb10
      have hz10 := hb10.size
      try simp only [World.size_alloc, World.size_setCell, World.size_drew] at hz10
      have hw10 := hB10.size
      replace c_c0 : w10.cell? ⟨w.heap.size, 0, none⟩ = some (.int .i64 ct) := kp hb10 (by go_cell)
      replace c_c1 : w10.cell? ⟨w.heap.size, 1, none⟩ = some (.int .i64 clo) := kp hb10 (by go_cell)
      replace c_c2 : w10.cell? ⟨w.heap.size, 2, none⟩ = some (.int .i64 chi) := kp hb10 (by go_cell)
      replace c_c3 : w10.cell? ⟨w.heap.size, 3, none⟩ = some (.int .i64 cdr) := kp hb10 (by go_cell)
      replace c_d0 : w10.cell? ⟨w.heap.size + 1, 0, none⟩ = some (.int .i64 dl) := kp hb10 (by go_cell)
      replace c_d1 : w10.cell? ⟨w.heap.size + 1, 1, none⟩ = some (.int .i64 dh) := kp hb10 (by go_cell)
      replace c_y0 : w10.cell? ⟨w.heap.size + 1 + 1, 0, none⟩ = some (.int .i64 tlo) := kp hb10 (by go_cell)
      replace c_y1 : w10.cell? ⟨w.heap.size + 1 + 1, 1, none⟩ = some (.int .i64 thi) := kp hb10 (by go_cell)
      replace f_e0 : w10.frozen? ⟨g_e, 0, none⟩ = false := kf hb10 (by go_simp) (by go_simp)
      replace f_e1 : w10.frozen? ⟨g_e, 1, none⟩ = false := kf hb10 (by go_simp) (by go_simp)
      replace c_e0 : w10.cell? ⟨g_e, 0, none⟩ = some (.int .i64 p) := kp hb10 (by go_cell)
      replace c_e1 : w10.cell? ⟨g_e, 1, none⟩ = some (.int .i64 r) := kp hb10 (by go_cell)
      replace f_t0 : w10.frozen? ⟨g_t, 0, none⟩ = false := kf hb10 (by go_simp) (by go_simp)
      replace f_t1 : w10.frozen? ⟨g_t, 1, none⟩ = false := kf hb10 (by go_simp) (by go_simp)
      replace c_t0 : w10.cell? ⟨g_t, 0, none⟩ = some (.int .i64 u) := kp hb10 (by go_cell)
      replace c_t1 : w10.cell? ⟨g_t, 1, none⟩ = some (.int .i64 v) := kp hb10 (by go_cell)
      clear hb10 hB9
      have ls_e := World.block_lt_of_cell? _ _ c_e0
      simp only at ls_e
      have ns_e : g_e ≠ w10.heap.size := by omega
      have ms_e : w10.heap.size ≠ g_e := by omega
      have ls_t := World.block_lt_of_cell? _ _ c_t0
      simp only at ls_t
      have ns_t : g_t ≠ w10.heap.size := by omega
      have ms_t : w10.heap.size ≠ g_t := by omega
      go_wp2_with fail
      refine (HB.out _ (HXS.out _ (by go_grown))).mono ?_
      rintro e w11 ⟨rfl, hb11⟩
      have hB11 : Below w.heap.size w w11 := below_after (by go_grown) hb11
      have hz11 := hb11.size
      try simp only [World.size_alloc, World.size_setCell, World.size_drew] at hz11
      have hw11 := hB11.size
      replace c_c0 : w11.cell? ⟨w.heap.size, 0, none⟩ = some (.int .i64 ct) := kp hb11 (by go_cell)
      replace c_c1 : w11.cell? ⟨w.heap.size, 1, none⟩ = some (.int .i64 clo) := kp hb11 (by go_cell)
      replace c_c2 : w11.cell? ⟨w.heap.size, 2, none⟩ = some (.int .i64 chi) := kp hb11 (by go_cell)
      replace c_c3 : w11.cell? ⟨w.heap.size, 3, none⟩ = some (.int .i64 cdr) := kp hb11 (by go_cell)
      replace c_d0 : w11.cell? ⟨w.heap.size + 1, 0, none⟩ = some (.int .i64 dl) := kp hb11 (by go_cell)
      replace c_d1 : w11.cell? ⟨w.heap.size + 1, 1, none⟩ = some (.int .i64 dh) := kp hb11 (by go_cell)
      replace c_y0 : w11.cell? ⟨w.heap.size + 1 + 1, 0, none⟩ = some (.int .i64 tlo) := kp hb11 (by go_cell)
      replace c_y1 : w11.cell? ⟨w.heap.size + 1 + 1, 1, none⟩ = some (.int .i64 thi) := kp hb11 (by go_cell)
      replace f_e0 : w11.frozen? ⟨g_e, 0, none⟩ = false := kf hb11 (by go_simp) (by go_simp)
      replace f_e1 : w11.frozen? ⟨g_e, 1, none⟩ = false := kf hb11 (by go_simp) (by go_simp)
      replace c_e0 : w11.cell? ⟨g_e, 0, none⟩ = some (.int .i64 p) := kp hb11 (by go_cell)
      replace c_e1 : w11.cell? ⟨g_e, 1, none⟩ = some (.int .i64 r) := kp hb11 (by go_cell)
      replace f_t0 : w11.frozen? ⟨g_t, 0, none⟩ = false := kf hb11 (by go_simp) (by go_simp)
      replace f_t1 : w11.frozen? ⟨g_t, 1, none⟩ = false := kf hb11 (by go_simp) (by go_simp)
      replace c_t0 : w11.cell? ⟨g_t, 0, none⟩ = some (.int .i64 u) := kp hb11 (by go_cell)
      replace c_t1 : w11.cell? ⟨g_t, 1, none⟩ = some (.int .i64 v) := kp hb11 (by go_cell)
      have f_s0 : w11.frozen? ⟨w10.heap.size, 0, none⟩ = false := kf hb11 (by go_simp) (by go_simp)
      have f_s1 : w11.frozen? ⟨w10.heap.size, 1, none⟩ = false := kf hb11 (by go_simp) (by go_simp)
      have c_s0 : w11.cell? ⟨w10.heap.size, 0, none⟩ = some (.int .i64 A1) := kp hb11 (by go_cell)
      have c_s1 : w11.cell? ⟨w10.heap.size, 1, none⟩ = some (.int .i64 A2) := kp hb11 (by go_cell)
      clear hb11 hB10
      have lq_e := World.block_lt_of_cell? _ _ c_e0
      simp only at lq_e
      have nq_e : g_e ≠ w11.heap.size := by omega
      have mq_e : w11.heap.size ≠ g_e := by omega
      have lq_t := World.block_lt_of_cell? _ _ c_t0
      simp only at lq_t
      have nq_t : g_t ≠ w11.heap.size := by omega
      have mq_t : w11.heap.size ≠ g_t := by omega
      go_wp2_with fail
      refine (HN.out _).mono ?_
      rintro e w12 ⟨rfl, hb12⟩
      have hB12 : Below w.heap.size w w12 := below_after (by go_grown) hb12
      have hz12 := hb12.size
      try simp only [World.size_alloc, World.size_setCell, World.size_drew] at hz12
      have hw12 := hB12.size
      replace c_c0 : w12.cell? ⟨w.heap.size, 0, none⟩ = some (.int .i64 ct) := kp hb12 (by go_cell)
      replace c_c1 : w12.cell? ⟨w.heap.size, 1, none⟩ = some (.int .i64 clo) := kp hb12 (by go_cell)
      replace c_c2 : w12.cell? ⟨w.heap.size, 2, none⟩ = some (.int .i64 chi) := kp hb12 (by go_cell)
      replace c_c3 : w12.cell? ⟨w.heap.size, 3, none⟩ = some (.int .i64 cdr) := kp hb12 (by go_cell)
      replace c_d0 : w12.cell? ⟨w.heap.size + 1, 0, none⟩ = some (.int .i64 dl) := kp hb12 (by go_cell)
      replace c_d1 : w12.cell? ⟨w.heap.size + 1, 1, none⟩ = some (.int .i64 dh) := kp hb12 (by go_cell)
      replace c_y0 : w12.cell? ⟨w.heap.size + 1 + 1, 0, none⟩ = some (.int .i64 tlo) := kp hb12 (by go_cell)
      replace c_y1 : w12.cell? ⟨w.heap.size + 1 + 1, 1, none⟩ = some (.int .i64 thi) := kp hb12 (by go_cell)
      replace f_e0 : w12.frozen? ⟨g_e, 0, none⟩ = false := kf hb12 (by go_simp) (by go_simp)
      replace f_e1 : w12.frozen? ⟨g_e, 1, none⟩ = false := kf hb12 (by go_simp) (by go_simp)
      replace c_e0 : w12.cell? ⟨g_e, 0, none⟩ = some (.int .i64 p) := kp hb12 (by go_cell)
      replace c_e1 : w12.cell? ⟨g_e, 1, none⟩ = some (.int .i64 r) := kp hb12 (by go_cell)
      replace f_t0 : w12.frozen? ⟨g_t, 0, none⟩ = false := kf hb12 (by go_simp) (by go_simp)
      replace f_t1 : w12.frozen? ⟨g_t, 1, none⟩ = false := kf hb12 (by go_simp) (by go_simp)
      replace c_t0 : w12.cell? ⟨g_t, 0, none⟩ = some (.int .i64 u) := kp hb12 (by go_cell)
      replace c_t1 : w12.cell? ⟨g_t, 1, none⟩ = some (.int .i64 v) := kp hb12 (by go_cell)
      replace f_s0 : w12.frozen? ⟨w10.heap.size, 0, none⟩ = false := kf hb12 (by go_simp) (by go_simp)
      replace f_s1 : w12.frozen? ⟨w10.heap.size, 1, none⟩ = false := kf hb12 (by go_simp) (by go_simp)
      replace c_s0 : w12.cell? ⟨w10.heap.size, 0, none⟩ = some (.int .i64 A1) := kp hb12 (by go_cell)
      replace c_s1 : w12.cell? ⟨w10.heap.size, 1, none⟩ = some (.int .i64 A2) := kp hb12 (by go_cell)
      have f_q0 : w12.frozen? ⟨w11.heap.size, 0, none⟩ = false := kf hb12 (by go_simp) (by go_simp)
      have f_q1 : w12.frozen? ⟨w11.heap.size, 1, none⟩ = false := kf hb12 (by go_simp) (by go_simp)
      have c_q0 : w12.cell? ⟨w11.heap.size, 0, none⟩ = some (.int .i64 B1) := kp hb12 (by go_cell)
      have c_q1 : w12.cell? ⟨w11.heap.size, 1, none⟩ = some (.int .i64 B2) := kp hb12 (by go_cell)
      clear hb12 hB11
      go_wp2_with fail
      refine (HC.out _ (HXS.out _ (by go_grown))).mono ?_
      rintro e w13 ⟨rfl, hb13⟩
      have hB13 : Below w.heap.size w w13 := below_after (by go_grown) hb13
      have hz13 := hb13.size
      try simp only [World.size_alloc, World.size_setCell, World.size_drew] at hz13
      have hw13 := hB13.size
      replace c_c0 : w13.cell? ⟨w.heap.size, 0, none⟩ = some (.int .i64 ct) := kp hb13 (by go_cell)
      replace c_c1 : w13.cell? ⟨w.heap.size, 1, none⟩ = some (.int .i64 clo) := kp hb13 (by go_cell)
      replace c_c2 : w13.cell? ⟨w.heap.size, 2, none⟩ = some (.int .i64 chi) := kp hb13 (by go_cell)
      replace c_c3 : w13.cell? ⟨w.heap.size, 3, none⟩ = some (.int .i64 cdr) := kp hb13 (by go_cell)
      replace c_d0 : w13.cell? ⟨w.heap.size + 1, 0, none⟩ = some (.int .i64 dl) := kp hb13 (by go_cell)
      replace c_d1 : w13.cell? ⟨w.heap.size + 1, 1, none⟩ = some (.int .i64 dh) := kp hb13 (by go_cell)
      replace c_y0 : w13.cell? ⟨w.heap.size + 1 + 1, 0, none⟩ = some (.int .i64 tlo) := kp hb13 (by go_cell)
      replace c_y1 : w13.cell? ⟨w.heap.size + 1 + 1, 1, none⟩ = some (.int .i64 thi) := kp hb13 (by go_cell)
      replace f_e0 : w13.frozen? ⟨g_e, 0, none⟩ = false := kf hb13 (by go_simp) (by go_simp)
      replace f_e1 : w13.frozen? ⟨g_e, 1, none⟩ = false := kf hb13 (by go_simp) (by go_simp)
      replace c_e0 : w13.cell? ⟨g_e, 0, none⟩ = some (.int .i64 p) := kp hb13 (by go_cell)
      replace c_e1 : w13.cell? ⟨g_e, 1, none⟩ = some (.int .i64 r) := kp hb13 (by go_cell)
      replace f_t0 : w13.frozen? ⟨g_t, 0, none⟩ = false := kf hb13 (by go_simp) (by go_simp)
      replace f_t1 : w13.frozen? ⟨g_t, 1, none⟩ = false := kf hb13 (by go_simp) (by go_simp)
      replace c_t0 : w13.cell? ⟨g_t, 0, none⟩ = some (.int .i64 u) := kp hb13 (by go_cell)
      replace c_t1 : w13.cell? ⟨g_t, 1, none⟩ = some (.int .i64 v) := kp hb13 (by go_cell)
      replace f_s0 : w13.frozen? ⟨w10.heap.size, 0, none⟩ = false := kf hb13 (by go_simp) (by go_simp)
      replace f_s1 : w13.frozen? ⟨w10.heap.size, 1, none⟩ = false := kf hb13 (by go_simp) (by go_simp)
      replace c_s0 : w13.cell? ⟨w10.heap.size, 0, none⟩ = some (.int .i64 A1) := kp hb13 (by go_cell)
      replace c_s1 : w13.cell? ⟨w10.heap.size, 1, none⟩ = some (.int .i64 A2) := kp hb13 (by go_cell)
      replace f_q0 : w13.frozen? ⟨w11.heap.size, 0, none⟩ = false := kf hb13 (by go_simp) (by go_simp)
      replace f_q1 : w13.frozen? ⟨w11.heap.size, 1, none⟩ = false := kf hb13 (by go_simp) (by go_simp)
      replace c_q0 : w13.cell? ⟨w11.heap.size, 0, none⟩ = some (.int .i64 B1) := kp hb13 (by go_cell)
      replace c_q1 : w13.cell? ⟨w11.heap.size, 1, none⟩ = some (.int .i64 B2) := kp hb13 (by go_cell)
      clear hb13 hB12
      go_wp2_with fail
      refine (HE.out _ (HXS.out _ (by go_grown))).mono ?_
      rintro e w14 ⟨rfl, hb14⟩
      have hB14 : Below w.heap.size w w14 := below_after (by go_grown) hb14
      have hz14 := hb14.size
      try simp only [World.size_alloc, World.size_setCell, World.size_drew] at hz14
      have hw14 := hB14.size
      replace c_c0 : w14.cell? ⟨w.heap.size, 0, none⟩ = some (.int .i64 ct) := kp hb14 (by go_cell)
      replace c_c1 : w14.cell? ⟨w.heap.size, 1, none⟩ = some (.int .i64 clo) := kp hb14 (by go_cell)
      replace c_c2 : w14.cell? ⟨w.heap.size, 2, none⟩ = some (.int .i64 chi) := kp hb14 (by go_cell)
      replace c_c3 : w14.cell? ⟨w.heap.size, 3, none⟩ = some (.int .i64 cdr) := kp hb14 (by go_cell)
      replace c_d0 : w14.cell? ⟨w.heap.size + 1, 0, none⟩ = some (.int .i64 dl) := kp hb14 (by go_cell)
      replace c_d1 : w14.cell? ⟨w.heap.size + 1, 1, none⟩ = some (.int .i64 dh) := kp hb14 (by go_cell)
      replace c_y0 : w14.cell? ⟨w.heap.size + 1 + 1, 0, none⟩ = some (.int .i64 tlo) := kp hb14 (by go_cell)
      replace c_y1 : w14.cell? ⟨w.heap.size + 1 + 1, 1, none⟩ = some (.int .i64 thi) := kp hb14 (by go_cell)
      replace f_e0 : w14.frozen? ⟨g_e, 0, none⟩ = false := kf hb14 (by go_simp) (by go_simp)
      replace f_e1 : w14.frozen? ⟨g_e, 1, none⟩ = false := kf hb14 (by go_simp) (by go_simp)
      replace c_e0 : w14.cell? ⟨g_e, 0, none⟩ = some (.int .i64 p) := kp hb14 (by go_cell)
      replace c_e1 : w14.cell? ⟨g_e, 1, none⟩ = some (.int .i64 r) := kp hb14 (by go_cell)
      replace f_t0 : w14.frozen? ⟨g_t, 0, none⟩ = false := kf hb14 (by go_simp) (by go_simp)
      replace f_t1 : w14.frozen? ⟨g_t, 1, none⟩ = false := kf hb14 (by go_simp) (by go_simp)
      replace c_t0 : w14.cell? ⟨g_t, 0, none⟩ = some (.int .i64 u) := kp hb14 (by go_cell)
      replace c_t1 : w14.cell? ⟨g_t, 1, none⟩ = some (.int .i64 v) := kp hb14 (by go_cell)
      replace f_s0 : w14.frozen? ⟨w10.heap.size, 0, none⟩ = false := kf hb14 (by go_simp) (by go_simp)
      replace f_s1 : w14.frozen? ⟨w10.heap.size, 1, none⟩ = false := kf hb14 (by go_simp) (by go_simp)
      replace c_s0 : w14.cell? ⟨w10.heap.size, 0, none⟩ = some (.int .i64 D1) := kp hb14 (by go_cell)
      replace c_s1 : w14.cell? ⟨w10.heap.size, 1, none⟩ = some (.int .i64 D2) := kp hb14 (by go_cell)
      replace f_q0 : w14.frozen? ⟨w11.heap.size, 0, none⟩ = false := kf hb14 (by go_simp) (by go_simp)
      replace f_q1 : w14.frozen? ⟨w11.heap.size, 1, none⟩ = false := kf hb14 (by go_simp) (by go_simp)
      replace c_q0 : w14.cell? ⟨w11.heap.size, 0, none⟩ = some (.int .i64 B1) := kp hb14 (by go_cell)
      replace c_q1 : w14.cell? ⟨w11.heap.size, 1, none⟩ = some (.int .i64 B2) := kp hb14 (by go_cell)
      clear hb14 hB13
      rcases hQ.out with hq | hq
      · have hq2 : (D3 == 0) = false := by simp [hq]
        have hq3 : (D3 != 0) = true := by simp [hq]
        rcases hR.out with hr | hr | hr
        · have hr2 : (T3 == 0) = false := by simp [hr]
          have hr3 : (T3 != 0) = true := by simp [hr]
          go_wp2_with fail
          refine (HG.out _ (HXS.out _ (by go_grown))).mono ?_
          rintro e w15 ⟨rfl, hb15⟩
          have hB15 : Below w.heap.size w w15 := below_after (by go_grown) hb15
          have hz15 := hb15.size
          try simp only [World.size_alloc, World.size_setCell, World.size_drew] at hz15
          have hw15 := hB15.size
          replace c_c0 : w15.cell? ⟨w.heap.size, 0, none⟩ = some (.int .i64 ct) := kp hb15 (by go_cell)
          replace c_c1 : w15.cell? ⟨w.heap.size, 1, none⟩ = some (.int .i64 clo) := kp hb15 (by go_cell)
          replace c_c2 : w15.cell? ⟨w.heap.size, 2, none⟩ = some (.int .i64 chi) := kp hb15 (by go_cell)
          replace c_c3 : w15.cell? ⟨w.heap.size, 3, none⟩ = some (.int .i64 cdr) := kp hb15 (by go_cell)
          replace c_d0 : w15.cell? ⟨w.heap.size + 1, 0, none⟩ = some (.int .i64 dl) := kp hb15 (by go_cell)
          replace c_d1 : w15.cell? ⟨w.heap.size + 1, 1, none⟩ = some (.int .i64 dh) := kp hb15 (by go_cell)
          replace c_y0 : w15.cell? ⟨w.heap.size + 1 + 1, 0, none⟩ = some (.int .i64 tlo) := kp hb15 (by go_cell)
          replace c_y1 : w15.cell? ⟨w.heap.size + 1 + 1, 1, none⟩ = some (.int .i64 thi) := kp hb15 (by go_cell)
          replace f_e0 : w15.frozen? ⟨g_e, 0, none⟩ = false := kf hb15 (by go_simp) (by go_simp)
          replace f_e1 : w15.frozen? ⟨g_e, 1, none⟩ = false := kf hb15 (by go_simp) (by go_simp)
          replace c_e0 : w15.cell? ⟨g_e, 0, none⟩ = some (.int .i64 p) := kp hb15 (by go_cell)
          replace c_e1 : w15.cell? ⟨g_e, 1, none⟩ = some (.int .i64 r) := kp hb15 (by go_cell)
          replace f_t0 : w15.frozen? ⟨g_t, 0, none⟩ = false := kf hb15 (by go_simp) (by go_simp)
          replace f_t1 : w15.frozen? ⟨g_t, 1, none⟩ = false := kf hb15 (by go_simp) (by go_simp)
          replace c_t0 : w15.cell? ⟨g_t, 0, none⟩ = some (.int .i64 u) := kp hb15 (by go_cell)
          replace c_t1 : w15.cell? ⟨g_t, 1, none⟩ = some (.int .i64 v) := kp hb15 (by go_cell)
          replace f_s0 : w15.frozen? ⟨w10.heap.size, 0, none⟩ = false := kf hb15 (by go_simp) (by go_simp)
          replace f_s1 : w15.frozen? ⟨w10.heap.size, 1, none⟩ = false := kf hb15 (by go_simp) (by go_simp)
          replace c_s0 : w15.cell? ⟨w10.heap.size, 0, none⟩ = some (.int .i64 D1) := kp hb15 (by go_cell)
          replace c_s1 : w15.cell? ⟨w10.heap.size, 1, none⟩ = some (.int .i64 D2) := kp hb15 (by go_cell)
          replace f_q0 : w15.frozen? ⟨w11.heap.size, 0, none⟩ = false := kf hb15 (by go_simp) (by go_simp)
          replace f_q1 : w15.frozen? ⟨w11.heap.size, 1, none⟩ = false := kf hb15 (by go_simp) (by go_simp)
          replace c_q0 : w15.cell? ⟨w11.heap.size, 0, none⟩ = some (.int .i64 E1) := kp hb15 (by go_cell)
          replace c_q1 : w15.cell? ⟨w11.heap.size, 1, none⟩ = some (.int .i64 E2) := kp hb15 (by go_cell)
          clear hb15 hB14
          go_wp2_with fail
          refine (HM.out _ (HXS.out _ (by go_grown))).mono ?_
          rintro e w16 ⟨rfl, hb16⟩
          have hB16 : Below w.heap.size w w16 := below_after (by go_grown) hb16
          have hz16 := hb16.size
          try simp only [World.size_alloc, World.size_setCell, World.size_drew] at hz16
          have hw16 := hB16.size
          replace c_c0 : w16.cell? ⟨w.heap.size, 0, none⟩ = some (.int .i64 ct) := kp hb16 (by go_cell)
          replace c_c1 : w16.cell? ⟨w.heap.size, 1, none⟩ = some (.int .i64 clo) := kp hb16 (by go_cell)
          replace c_c2 : w16.cell? ⟨w.heap.size, 2, none⟩ = some (.int .i64 chi) := kp hb16 (by go_cell)
          replace c_c3 : w16.cell? ⟨w.heap.size, 3, none⟩ = some (.int .i64 cdr) := kp hb16 (by go_cell)
          replace c_d0 : w16.cell? ⟨w.heap.size + 1, 0, none⟩ = some (.int .i64 dl) := kp hb16 (by go_cell)
          replace c_d1 : w16.cell? ⟨w.heap.size + 1, 1, none⟩ = some (.int .i64 dh) := kp hb16 (by go_cell)
          replace c_y0 : w16.cell? ⟨w.heap.size + 1 + 1, 0, none⟩ = some (.int .i64 tlo) := kp hb16 (by go_cell)
          replace c_y1 : w16.cell? ⟨w.heap.size + 1 + 1, 1, none⟩ = some (.int .i64 thi) := kp hb16 (by go_cell)
          replace f_e0 : w16.frozen? ⟨g_e, 0, none⟩ = false := kf hb16 (by go_simp) (by go_simp)
          replace f_e1 : w16.frozen? ⟨g_e, 1, none⟩ = false := kf hb16 (by go_simp) (by go_simp)
          replace c_e0 : w16.cell? ⟨g_e, 0, none⟩ = some (.int .i64 p) := kp hb16 (by go_cell)
          replace c_e1 : w16.cell? ⟨g_e, 1, none⟩ = some (.int .i64 r) := kp hb16 (by go_cell)
          replace f_t0 : w16.frozen? ⟨g_t, 0, none⟩ = false := kf hb16 (by go_simp) (by go_simp)
          replace f_t1 : w16.frozen? ⟨g_t, 1, none⟩ = false := kf hb16 (by go_simp) (by go_simp)
          replace c_t0 : w16.cell? ⟨g_t, 0, none⟩ = some (.int .i64 u) := kp hb16 (by go_cell)
          replace c_t1 : w16.cell? ⟨g_t, 1, none⟩ = some (.int .i64 v) := kp hb16 (by go_cell)
          replace f_s0 : w16.frozen? ⟨w10.heap.size, 0, none⟩ = false := kf hb16 (by go_simp) (by go_simp)
          replace f_s1 : w16.frozen? ⟨w10.heap.size, 1, none⟩ = false := kf hb16 (by go_simp) (by go_simp)
          replace c_s0 : w16.cell? ⟨w10.heap.size, 0, none⟩ = some (.int .i64 T1) := kp hb16 (by go_cell)
          replace c_s1 : w16.cell? ⟨w10.heap.size, 1, none⟩ = some (.int .i64 T2) := kp hb16 (by go_cell)
          replace f_q0 : w16.frozen? ⟨w11.heap.size, 0, none⟩ = false := kf hb16 (by go_simp) (by go_simp)
          replace f_q1 : w16.frozen? ⟨w11.heap.size, 1, none⟩ = false := kf hb16 (by go_simp) (by go_simp)
          replace c_q0 : w16.cell? ⟨w11.heap.size, 0, none⟩ = some (.int .i64 E1) := kp hb16 (by go_cell)
          replace c_q1 : w16.cell? ⟨w11.heap.size, 1, none⟩ = some (.int .i64 E2) := kp hb16 (by go_cell)
          clear hb16 hB15
          go_wp2_with fail
          go_ret
          exact ⟨rfl, by go_grown⟩
        · subst hr
          by_cases ht0 : T3 = 0
          · subst ht0
            go_wp2_with fail
            refine (HG.out _ (HXS.out _ (by go_grown))).mono ?_
            rintro e w15 ⟨rfl, hb15⟩
            have hB15 : Below w.heap.size w w15 := below_after (by go_grown) hb15
            have hz15 := hb15.size
            try simp only [World.size_alloc, World.size_setCell, World.size_drew] at hz15
            have hw15 := hB15.size
            replace c_c0 : w15.cell? ⟨w.heap.size, 0, none⟩ = some (.int .i64 ct) := kp hb15 (by go_cell)
            replace c_c1 : w15.cell? ⟨w.heap.size, 1, none⟩ = some (.int .i64 clo) := kp hb15 (by go_cell)
            replace c_c2 : w15.cell? ⟨w.heap.size, 2, none⟩ = some (.int .i64 chi) := kp hb15 (by go_cell)
            replace c_c3 : w15.cell? ⟨w.heap.size, 3, none⟩ = some (.int .i64 cdr) := kp hb15 (by go_cell)
            replace c_d0 : w15.cell? ⟨w.heap.size + 1, 0, none⟩ = some (.int .i64 dl) := kp hb15 (by go_cell)
            replace c_d1 : w15.cell? ⟨w.heap.size + 1, 1, none⟩ = some (.int .i64 dh) := kp hb15 (by go_cell)
            replace c_y0 : w15.cell? ⟨w.heap.size + 1 + 1, 0, none⟩ = some (.int .i64 tlo) := kp hb15 (by go_cell)
            replace c_y1 : w15.cell? ⟨w.heap.size + 1 + 1, 1, none⟩ = some (.int .i64 thi) := kp hb15 (by go_cell)
            replace f_e0 : w15.frozen? ⟨g_e, 0, none⟩ = false := kf hb15 (by go_simp) (by go_simp)
            replace f_e1 : w15.frozen? ⟨g_e, 1, none⟩ = false := kf hb15 (by go_simp) (by go_simp)
            replace c_e0 : w15.cell? ⟨g_e, 0, none⟩ = some (.int .i64 p) := kp hb15 (by go_cell)
            replace c_e1 : w15.cell? ⟨g_e, 1, none⟩ = some (.int .i64 r) := kp hb15 (by go_cell)
            replace f_t0 : w15.frozen? ⟨g_t, 0, none⟩ = false := kf hb15 (by go_simp) (by go_simp)
            replace f_t1 : w15.frozen? ⟨g_t, 1, none⟩ = false := kf hb15 (by go_simp) (by go_simp)
            replace c_t0 : w15.cell? ⟨g_t, 0, none⟩ = some (.int .i64 u) := kp hb15 (by go_cell)
            replace c_t1 : w15.cell? ⟨g_t, 1, none⟩ = some (.int .i64 v) := kp hb15 (by go_cell)
            replace f_s0 : w15.frozen? ⟨w10.heap.size, 0, none⟩ = false := kf hb15 (by go_simp) (by go_simp)
            replace f_s1 : w15.frozen? ⟨w10.heap.size, 1, none⟩ = false := kf hb15 (by go_simp) (by go_simp)
            replace c_s0 : w15.cell? ⟨w10.heap.size, 0, none⟩ = some (.int .i64 D1) := kp hb15 (by go_cell)
            replace c_s1 : w15.cell? ⟨w10.heap.size, 1, none⟩ = some (.int .i64 D2) := kp hb15 (by go_cell)
            replace f_q0 : w15.frozen? ⟨w11.heap.size, 0, none⟩ = false := kf hb15 (by go_simp) (by go_simp)
            replace f_q1 : w15.frozen? ⟨w11.heap.size, 1, none⟩ = false := kf hb15 (by go_simp) (by go_simp)
            replace c_q0 : w15.cell? ⟨w11.heap.size, 0, none⟩ = some (.int .i64 E1) := kp hb15 (by go_cell)
            replace c_q1 : w15.cell? ⟨w11.heap.size, 1, none⟩ = some (.int .i64 E2) := kp hb15 (by go_cell)
            clear hb15 hB14
            go_wp2_with fail
            refine (HM.out _ (HXS.out _ (by go_grown))).mono ?_
            rintro e w16 ⟨rfl, hb16⟩
            have hB16 : Below w.heap.size w w16 := below_after (by go_grown) hb16
            have hz16 := hb16.size
            try simp only [World.size_alloc, World.size_setCell, World.size_drew] at hz16
            have hw16 := hB16.size
            replace c_c0 : w16.cell? ⟨w.heap.size, 0, none⟩ = some (.int .i64 ct) := kp hb16 (by go_cell)
            replace c_c1 : w16.cell? ⟨w.heap.size, 1, none⟩ = some (.int .i64 clo) := kp hb16 (by go_cell)
            replace c_c2 : w16.cell? ⟨w.heap.size, 2, none⟩ = some (.int .i64 chi) := kp hb16 (by go_cell)
            replace c_c3 : w16.cell? ⟨w.heap.size, 3, none⟩ = some (.int .i64 cdr) := kp hb16 (by go_cell)
            replace c_d0 : w16.cell? ⟨w.heap.size + 1, 0, none⟩ = some (.int .i64 dl) := kp hb16 (by go_cell)
            replace c_d1 : w16.cell? ⟨w.heap.size + 1, 1, none⟩ = some (.int .i64 dh) := kp hb16 (by go_cell)
            replace c_y0 : w16.cell? ⟨w.heap.size + 1 + 1, 0, none⟩ = some (.int .i64 tlo) := kp hb16 (by go_cell)
            replace c_y1 : w16.cell? ⟨w.heap.size + 1 + 1, 1, none⟩ = some (.int .i64 thi) := kp hb16 (by go_cell)
            replace f_e0 : w16.frozen? ⟨g_e, 0, none⟩ = false := kf hb16 (by go_simp) (by go_simp)
            replace f_e1 : w16.frozen? ⟨g_e, 1, none⟩ = false := kf hb16 (by go_simp) (by go_simp)
            replace c_e0 : w16.cell? ⟨g_e, 0, none⟩ = some (.int .i64 p) := kp hb16 (by go_cell)
            replace c_e1 : w16.cell? ⟨g_e, 1, none⟩ = some (.int .i64 r) := kp hb16 (by go_cell)
            replace f_t0 : w16.frozen? ⟨g_t, 0, none⟩ = false := kf hb16 (by go_simp) (by go_simp)
            replace f_t1 : w16.frozen? ⟨g_t, 1, none⟩ = false := kf hb16 (by go_simp) (by go_simp)
            replace c_t0 : w16.cell? ⟨g_t, 0, none⟩ = some (.int .i64 u) := kp hb16 (by go_cell)
            replace c_t1 : w16.cell? ⟨g_t, 1, none⟩ = some (.int .i64 v) := kp hb16 (by go_cell)
            replace f_s0 : w16.frozen? ⟨w10.heap.size, 0, none⟩ = false := kf hb16 (by go_simp) (by go_simp)
            replace f_s1 : w16.frozen? ⟨w10.heap.size, 1, none⟩ = false := kf hb16 (by go_simp) (by go_simp)
            replace c_s0 : w16.cell? ⟨w10.heap.size, 0, none⟩ = some (.int .i64 T1) := kp hb16 (by go_cell)
            replace c_s1 : w16.cell? ⟨w10.heap.size, 1, none⟩ = some (.int .i64 T2) := kp hb16 (by go_cell)
            replace f_q0 : w16.frozen? ⟨w11.heap.size, 0, none⟩ = false := kf hb16 (by go_simp) (by go_simp)
            replace f_q1 : w16.frozen? ⟨w11.heap.size, 1, none⟩ = false := kf hb16 (by go_simp) (by go_simp)
            replace c_q0 : w16.cell? ⟨w11.heap.size, 0, none⟩ = some (.int .i64 E1) := kp hb16 (by go_cell)
            replace c_q1 : w16.cell? ⟨w11.heap.size, 1, none⟩ = some (.int .i64 E2) := kp hb16 (by go_cell)
            clear hb16 hB15
            go_wp2_with fail
            go_ret
            exact ⟨rfl, by go_grown⟩
          · have hr2 : (T3 == 0) = false := by simp [ht0]
            have hr3 : (T3 != 0) = true := by simp [ht0]
            go_wp2_with fail
            refine (HG.out _ (HXS.out _ (by go_grown))).mono ?_
            rintro e w15 ⟨rfl, hb15⟩
            have hB15 : Below w.heap.size w w15 := below_after (by go_grown) hb15
            have hz15 := hb15.size
            try simp only [World.size_alloc, World.size_setCell, World.size_drew] at hz15
            have hw15 := hB15.size
            replace c_c0 : w15.cell? ⟨w.heap.size, 0, none⟩ = some (.int .i64 ct) := kp hb15 (by go_cell)
            replace c_c1 : w15.cell? ⟨w.heap.size, 1, none⟩ = some (.int .i64 clo) := kp hb15 (by go_cell)
            replace c_c2 : w15.cell? ⟨w.heap.size, 2, none⟩ = some (.int .i64 chi) := kp hb15 (by go_cell)
            replace c_c3 : w15.cell? ⟨w.heap.size, 3, none⟩ = some (.int .i64 cdr) := kp hb15 (by go_cell)
            replace c_d0 : w15.cell? ⟨w.heap.size + 1, 0, none⟩ = some (.int .i64 dl) := kp hb15 (by go_cell)
            replace c_d1 : w15.cell? ⟨w.heap.size + 1, 1, none⟩ = some (.int .i64 dh) := kp hb15 (by go_cell)
            replace c_y0 : w15.cell? ⟨w.heap.size + 1 + 1, 0, none⟩ = some (.int .i64 tlo) := kp hb15 (by go_cell)
            replace c_y1 : w15.cell? ⟨w.heap.size + 1 + 1, 1, none⟩ = some (.int .i64 thi) := kp hb15 (by go_cell)
            replace f_e0 : w15.frozen? ⟨g_e, 0, none⟩ = false := kf hb15 (by go_simp) (by go_simp)
            replace f_e1 : w15.frozen? ⟨g_e, 1, none⟩ = false := kf hb15 (by go_simp) (by go_simp)
            replace c_e0 : w15.cell? ⟨g_e, 0, none⟩ = some (.int .i64 p) := kp hb15 (by go_cell)
            replace c_e1 : w15.cell? ⟨g_e, 1, none⟩ = some (.int .i64 r) := kp hb15 (by go_cell)
            replace f_t0 : w15.frozen? ⟨g_t, 0, none⟩ = false := kf hb15 (by go_simp) (by go_simp)
            replace f_t1 : w15.frozen? ⟨g_t, 1, none⟩ = false := kf hb15 (by go_simp) (by go_simp)
            replace c_t0 : w15.cell? ⟨g_t, 0, none⟩ = some (.int .i64 u) := kp hb15 (by go_cell)
            replace c_t1 : w15.cell? ⟨g_t, 1, none⟩ = some (.int .i64 v) := kp hb15 (by go_cell)
            replace f_s0 : w15.frozen? ⟨w10.heap.size, 0, none⟩ = false := kf hb15 (by go_simp) (by go_simp)
            replace f_s1 : w15.frozen? ⟨w10.heap.size, 1, none⟩ = false := kf hb15 (by go_simp) (by go_simp)
            replace c_s0 : w15.cell? ⟨w10.heap.size, 0, none⟩ = some (.int .i64 D1) := kp hb15 (by go_cell)
            replace c_s1 : w15.cell? ⟨w10.heap.size, 1, none⟩ = some (.int .i64 D2) := kp hb15 (by go_cell)
            replace f_q0 : w15.frozen? ⟨w11.heap.size, 0, none⟩ = false := kf hb15 (by go_simp) (by go_simp)
            replace f_q1 : w15.frozen? ⟨w11.heap.size, 1, none⟩ = false := kf hb15 (by go_simp) (by go_simp)
            replace c_q0 : w15.cell? ⟨w11.heap.size, 0, none⟩ = some (.int .i64 E1) := kp hb15 (by go_cell)
            replace c_q1 : w15.cell? ⟨w11.heap.size, 1, none⟩ = some (.int .i64 E2) := kp hb15 (by go_cell)
            clear hb15 hB14
            go_wp2_with fail
            refine (HM.out _ (HXS.out _ (by go_grown))).mono ?_
            rintro e w16 ⟨rfl, hb16⟩
            have hB16 : Below w.heap.size w w16 := below_after (by go_grown) hb16
            have hz16 := hb16.size
            try simp only [World.size_alloc, World.size_setCell, World.size_drew] at hz16
            have hw16 := hB16.size
            replace c_c0 : w16.cell? ⟨w.heap.size, 0, none⟩ = some (.int .i64 ct) := kp hb16 (by go_cell)
            replace c_c1 : w16.cell? ⟨w.heap.size, 1, none⟩ = some (.int .i64 clo) := kp hb16 (by go_cell)
            replace c_c2 : w16.cell? ⟨w.heap.size, 2, none⟩ = some (.int .i64 chi) := kp hb16 (by go_cell)
            replace c_c3 : w16.cell? ⟨w.heap.size, 3, none⟩ = some (.int .i64 cdr) := kp hb16 (by go_cell)
            replace c_d0 : w16.cell? ⟨w.heap.size + 1, 0, none⟩ = some (.int .i64 dl) := kp hb16 (by go_cell)
            replace c_d1 : w16.cell? ⟨w.heap.size + 1, 1, none⟩ = some (.int .i64 dh) := kp hb16 (by go_cell)
            replace c_y0 : w16.cell? ⟨w.heap.size + 1 + 1, 0, none⟩ = some (.int .i64 tlo) := kp hb16 (by go_cell)
            replace c_y1 : w16.cell? ⟨w.heap.size + 1 + 1, 1, none⟩ = some (.int .i64 thi) := kp hb16 (by go_cell)
            replace f_e0 : w16.frozen? ⟨g_e, 0, none⟩ = false := kf hb16 (by go_simp) (by go_simp)
            replace f_e1 : w16.frozen? ⟨g_e, 1, none⟩ = false := kf hb16 (by go_simp) (by go_simp)
            replace c_e0 : w16.cell? ⟨g_e, 0, none⟩ = some (.int .i64 p) := kp hb16 (by go_cell)
            replace c_e1 : w16.cell? ⟨g_e, 1, none⟩ = some (.int .i64 r) := kp hb16 (by go_cell)
            replace f_t0 : w16.frozen? ⟨g_t, 0, none⟩ = false := kf hb16 (by go_simp) (by go_simp)
            replace f_t1 : w16.frozen? ⟨g_t, 1, none⟩ = false := kf hb16 (by go_simp) (by go_simp)
            replace c_t0 : w16.cell? ⟨g_t, 0, none⟩ = some (.int .i64 u) := kp hb16 (by go_cell)
            replace c_t1 : w16.cell? ⟨g_t, 1, none⟩ = some (.int .i64 v) := kp hb16 (by go_cell)
            replace f_s0 : w16.frozen? ⟨w10.heap.size, 0, none⟩ = false := kf hb16 (by go_simp) (by go_simp)
            replace f_s1 : w16.frozen? ⟨w10.heap.size, 1, none⟩ = false := kf hb16 (by go_simp) (by go_simp)
            replace c_s0 : w16.cell? ⟨w10.heap.size, 0, none⟩ = some (.int .i64 T1) := kp hb16 (by go_cell)
            replace c_s1 : w16.cell? ⟨w10.heap.size, 1, none⟩ = some (.int .i64 T2) := kp hb16 (by go_cell)
            replace f_q0 : w16.frozen? ⟨w11.heap.size, 0, none⟩ = false := kf hb16 (by go_simp) (by go_simp)
            replace f_q1 : w16.frozen? ⟨w11.heap.size, 1, none⟩ = false := kf hb16 (by go_simp) (by go_simp)
            replace c_q0 : w16.cell? ⟨w11.heap.size, 0, none⟩ = some (.int .i64 E1) := kp hb16 (by go_cell)
            replace c_q1 : w16.cell? ⟨w11.heap.size, 1, none⟩ = some (.int .i64 E2) := kp hb16 (by go_cell)
            clear hb16 hB15
            go_wp2_with fail
            go_ret
            exact ⟨rfl, by go_grown⟩
        · have hP2 := HP.out
          rw [show (decide (T1 ≤ U1) && decide (U2 ≤ T2)) = true by simp; omega] at hP2
          have HP2 := Lib.hid hP2
          have hr9 := hr.1
          clear hP2 hr
          subst hr9
          by_cases ht0 : T3 = 0
          · subst ht0
            go_wp2_with fail
            refine (HG.out _ (HXS.out _ (by go_grown))).mono ?_
            rintro e w15 ⟨rfl, hb15⟩
            have hB15 : Below w.heap.size w w15 := below_after (by go_grown) hb15
            have hz15 := hb15.size
            try simp only [World.size_alloc, World.size_setCell, World.size_drew] at hz15
            have hw15 := hB15.size
            replace c_c0 : w15.cell? ⟨w.heap.size, 0, none⟩ = some (.int .i64 ct) := kp hb15 (by go_cell)
            replace c_c1 : w15.cell? ⟨w.heap.size, 1, none⟩ = some (.int .i64 clo) := kp hb15 (by go_cell)
            replace c_c2 : w15.cell? ⟨w.heap.size, 2, none⟩ = some (.int .i64 chi) := kp hb15 (by go_cell)
            replace c_c3 : w15.cell? ⟨w.heap.size, 3, none⟩ = some (.int .i64 cdr) := kp hb15 (by go_cell)
            replace c_d0 : w15.cell? ⟨w.heap.size + 1, 0, none⟩ = some (.int .i64 dl) := kp hb15 (by go_cell)
            replace c_d1 : w15.cell? ⟨w.heap.size + 1, 1, none⟩ = some (.int .i64 dh) := kp hb15 (by go_cell)
            replace c_y0 : w15.cell? ⟨w.heap.size + 1 + 1, 0, none⟩ = some (.int .i64 tlo) := kp hb15 (by go_cell)
            replace c_y1 : w15.cell? ⟨w.heap.size + 1 + 1, 1, none⟩ = some (.int .i64 thi) := kp hb15 (by go_cell)
            replace f_e0 : w15.frozen? ⟨g_e, 0, none⟩ = false := kf hb15 (by go_simp) (by go_simp)
            replace f_e1 : w15.frozen? ⟨g_e, 1, none⟩ = false := kf hb15 (by go_simp) (by go_simp)
            replace c_e0 : w15.cell? ⟨g_e, 0, none⟩ = some (.int .i64 p) := kp hb15 (by go_cell)
            replace c_e1 : w15.cell? ⟨g_e, 1, none⟩ = some (.int .i64 r) := kp hb15 (by go_cell)
            replace f_t0 : w15.frozen? ⟨g_t, 0, none⟩ = false := kf hb15 (by go_simp) (by go_simp)
            replace f_t1 : w15.frozen? ⟨g_t, 1, none⟩ = false := kf hb15 (by go_simp) (by go_simp)
            replace c_t0 : w15.cell? ⟨g_t, 0, none⟩ = some (.int .i64 u) := kp hb15 (by go_cell)
            replace c_t1 : w15.cell? ⟨g_t, 1, none⟩ = some (.int .i64 v) := kp hb15 (by go_cell)
            replace f_s0 : w15.frozen? ⟨w10.heap.size, 0, none⟩ = false := kf hb15 (by go_simp) (by go_simp)
            replace f_s1 : w15.frozen? ⟨w10.heap.size, 1, none⟩ = false := kf hb15 (by go_simp) (by go_simp)
            replace c_s0 : w15.cell? ⟨w10.heap.size, 0, none⟩ = some (.int .i64 D1) := kp hb15 (by go_cell)
            replace c_s1 : w15.cell? ⟨w10.heap.size, 1, none⟩ = some (.int .i64 D2) := kp hb15 (by go_cell)
            replace f_q0 : w15.frozen? ⟨w11.heap.size, 0, none⟩ = false := kf hb15 (by go_simp) (by go_simp)
            replace f_q1 : w15.frozen? ⟨w11.heap.size, 1, none⟩ = false := kf hb15 (by go_simp) (by go_simp)
            replace c_q0 : w15.cell? ⟨w11.heap.size, 0, none⟩ = some (.int .i64 E1) := kp hb15 (by go_cell)
            replace c_q1 : w15.cell? ⟨w11.heap.size, 1, none⟩ = some (.int .i64 E2) := kp hb15 (by go_cell)
            clear hb15 hB14
            go_wp2_with fail
            refine (HM.out _ (HXS.out _ (by go_grown))).mono ?_
            rintro e w16 ⟨rfl, hb16⟩
            have hB16 : Below w.heap.size w w16 := below_after (by go_grown) hb16
            have hz16 := hb16.size
            try simp only [World.size_alloc, World.size_setCell, World.size_drew] at hz16
            have hw16 := hB16.size
            replace c_c0 : w16.cell? ⟨w.heap.size, 0, none⟩ = some (.int .i64 ct) := kp hb16 (by go_cell)
            replace c_c1 : w16.cell? ⟨w.heap.size, 1, none⟩ = some (.int .i64 clo) := kp hb16 (by go_cell)
            replace c_c2 : w16.cell? ⟨w.heap.size, 2, none⟩ = some (.int .i64 chi) := kp hb16 (by go_cell)
            replace c_c3 : w16.cell? ⟨w.heap.size, 3, none⟩ = some (.int .i64 cdr) := kp hb16 (by go_cell)
            replace c_d0 : w16.cell? ⟨w.heap.size + 1, 0, none⟩ = some (.int .i64 dl) := kp hb16 (by go_cell)
            replace c_d1 : w16.cell? ⟨w.heap.size + 1, 1, none⟩ = some (.int .i64 dh) := kp hb16 (by go_cell)
            replace c_y0 : w16.cell? ⟨w.heap.size + 1 + 1, 0, none⟩ = some (.int .i64 tlo) := kp hb16 (by go_cell)
            replace c_y1 : w16.cell? ⟨w.heap.size + 1 + 1, 1, none⟩ = some (.int .i64 thi) := kp hb16 (by go_cell)
            replace f_e0 : w16.frozen? ⟨g_e, 0, none⟩ = false := kf hb16 (by go_simp) (by go_simp)
            replace f_e1 : w16.frozen? ⟨g_e, 1, none⟩ = false := kf hb16 (by go_simp) (by go_simp)
            replace c_e0 : w16.cell? ⟨g_e, 0, none⟩ = some (.int .i64 p) := kp hb16 (by go_cell)
            replace c_e1 : w16.cell? ⟨g_e, 1, none⟩ = some (.int .i64 r) := kp hb16 (by go_cell)
            replace f_t0 : w16.frozen? ⟨g_t, 0, none⟩ = false := kf hb16 (by go_simp) (by go_simp)
            replace f_t1 : w16.frozen? ⟨g_t, 1, none⟩ = false := kf hb16 (by go_simp) (by go_simp)
            replace c_t0 : w16.cell? ⟨g_t, 0, none⟩ = some (.int .i64 u) := kp hb16 (by go_cell)
            replace c_t1 : w16.cell? ⟨g_t, 1, none⟩ = some (.int .i64 v) := kp hb16 (by go_cell)
            replace f_s0 : w16.frozen? ⟨w10.heap.size, 0, none⟩ = false := kf hb16 (by go_simp) (by go_simp)
            replace f_s1 : w16.frozen? ⟨w10.heap.size, 1, none⟩ = false := kf hb16 (by go_simp) (by go_simp)
            replace c_s0 : w16.cell? ⟨w10.heap.size, 0, none⟩ = some (.int .i64 T1) := kp hb16 (by go_cell)
            replace c_s1 : w16.cell? ⟨w10.heap.size, 1, none⟩ = some (.int .i64 T2) := kp hb16 (by go_cell)
            replace f_q0 : w16.frozen? ⟨w11.heap.size, 0, none⟩ = false := kf hb16 (by go_simp) (by go_simp)
            replace f_q1 : w16.frozen? ⟨w11.heap.size, 1, none⟩ = false := kf hb16 (by go_simp) (by go_simp)
            replace c_q0 : w16.cell? ⟨w11.heap.size, 0, none⟩ = some (.int .i64 E1) := kp hb16 (by go_cell)
            replace c_q1 : w16.cell? ⟨w11.heap.size, 1, none⟩ = some (.int .i64 E2) := kp hb16 (by go_cell)
            clear hb16 hB15
            go_wp2_with fail
            refine (HP2.out _).mono ?_
            rintro e w17 ⟨rfl, hb17⟩
            have hB17 : Below w.heap.size w w17 := below_after (by go_grown) hb17
            have hz17 := hb17.size
            try simp only [World.size_alloc, World.size_setCell, World.size_drew] at hz17
            have hw17 := hB17.size
            replace c_c0 : w17.cell? ⟨w.heap.size, 0, none⟩ = some (.int .i64 ct) := kp hb17 (by go_cell)
            replace c_c1 : w17.cell? ⟨w.heap.size, 1, none⟩ = some (.int .i64 clo) := kp hb17 (by go_cell)
            replace c_c2 : w17.cell? ⟨w.heap.size, 2, none⟩ = some (.int .i64 chi) := kp hb17 (by go_cell)
            replace c_c3 : w17.cell? ⟨w.heap.size, 3, none⟩ = some (.int .i64 cdr) := kp hb17 (by go_cell)
            replace c_d0 : w17.cell? ⟨w.heap.size + 1, 0, none⟩ = some (.int .i64 dl) := kp hb17 (by go_cell)
            replace c_d1 : w17.cell? ⟨w.heap.size + 1, 1, none⟩ = some (.int .i64 dh) := kp hb17 (by go_cell)
            replace c_y0 : w17.cell? ⟨w.heap.size + 1 + 1, 0, none⟩ = some (.int .i64 tlo) := kp hb17 (by go_cell)
            replace c_y1 : w17.cell? ⟨w.heap.size + 1 + 1, 1, none⟩ = some (.int .i64 thi) := kp hb17 (by go_cell)
            replace f_e0 : w17.frozen? ⟨g_e, 0, none⟩ = false := kf hb17 (by go_simp) (by go_simp)
            replace f_e1 : w17.frozen? ⟨g_e, 1, none⟩ = false := kf hb17 (by go_simp) (by go_simp)
            replace c_e0 : w17.cell? ⟨g_e, 0, none⟩ = some (.int .i64 p) := kp hb17 (by go_cell)
            replace c_e1 : w17.cell? ⟨g_e, 1, none⟩ = some (.int .i64 r) := kp hb17 (by go_cell)
            replace f_t0 : w17.frozen? ⟨g_t, 0, none⟩ = false := kf hb17 (by go_simp) (by go_simp)
            replace f_t1 : w17.frozen? ⟨g_t, 1, none⟩ = false := kf hb17 (by go_simp) (by go_simp)
            replace c_t0 : w17.cell? ⟨g_t, 0, none⟩ = some (.int .i64 u) := kp hb17 (by go_cell)
            replace c_t1 : w17.cell? ⟨g_t, 1, none⟩ = some (.int .i64 v) := kp hb17 (by go_cell)
            replace f_s0 : w17.frozen? ⟨w10.heap.size, 0, none⟩ = false := kf hb17 (by go_simp) (by go_simp)
            replace f_s1 : w17.frozen? ⟨w10.heap.size, 1, none⟩ = false := kf hb17 (by go_simp) (by go_simp)
            replace c_s0 : w17.cell? ⟨w10.heap.size, 0, none⟩ = some (.int .i64 T1) := kp hb17 (by go_cell)
            replace c_s1 : w17.cell? ⟨w10.heap.size, 1, none⟩ = some (.int .i64 T2) := kp hb17 (by go_cell)
            replace f_q0 : w17.frozen? ⟨w11.heap.size, 0, none⟩ = false := kf hb17 (by go_simp) (by go_simp)
            replace f_q1 : w17.frozen? ⟨w11.heap.size, 1, none⟩ = false := kf hb17 (by go_simp) (by go_simp)
            replace c_q0 : w17.cell? ⟨w11.heap.size, 0, none⟩ = some (.int .i64 U1) := kp hb17 (by go_cell)
            replace c_q1 : w17.cell? ⟨w11.heap.size, 1, none⟩ = some (.int .i64 U2) := kp hb17 (by go_cell)
            clear hb17 hB16
            go_wp2_with fail
            go_ret
            exact ⟨rfl, by go_grown⟩
          · have hr2 : (T3 == 0) = false := by simp [ht0]
            have hr3 : (T3 != 0) = true := by simp [ht0]
            go_wp2_with fail
            refine (HG.out _ (HXS.out _ (by go_grown))).mono ?_
            rintro e w15 ⟨rfl, hb15⟩
            have hB15 : Below w.heap.size w w15 := below_after (by go_grown) hb15
            have hz15 := hb15.size
            try simp only [World.size_alloc, World.size_setCell, World.size_drew] at hz15
            have hw15 := hB15.size
            replace c_c0 : w15.cell? ⟨w.heap.size, 0, none⟩ = some (.int .i64 ct) := kp hb15 (by go_cell)
            replace c_c1 : w15.cell? ⟨w.heap.size, 1, none⟩ = some (.int .i64 clo) := kp hb15 (by go_cell)
            replace c_c2 : w15.cell? ⟨w.heap.size, 2, none⟩ = some (.int .i64 chi) := kp hb15 (by go_cell)
            replace c_c3 : w15.cell? ⟨w.heap.size, 3, none⟩ = some (.int .i64 cdr) := kp hb15 (by go_cell)
            replace c_d0 : w15.cell? ⟨w.heap.size + 1, 0, none⟩ = some (.int .i64 dl) := kp hb15 (by go_cell)
            replace c_d1 : w15.cell? ⟨w.heap.size + 1, 1, none⟩ = some (.int .i64 dh) := kp hb15 (by go_cell)
            replace c_y0 : w15.cell? ⟨w.heap.size + 1 + 1, 0, none⟩ = some (.int .i64 tlo) := kp hb15 (by go_cell)
            replace c_y1 : w15.cell? ⟨w.heap.size + 1 + 1, 1, none⟩ = some (.int .i64 thi) := kp hb15 (by go_cell)
            replace f_e0 : w15.frozen? ⟨g_e, 0, none⟩ = false := kf hb15 (by go_simp) (by go_simp)
            replace f_e1 : w15.frozen? ⟨g_e, 1, none⟩ = false := kf hb15 (by go_simp) (by go_simp)
            replace c_e0 : w15.cell? ⟨g_e, 0, none⟩ = some (.int .i64 p) := kp hb15 (by go_cell)
            replace c_e1 : w15.cell? ⟨g_e, 1, none⟩ = some (.int .i64 r) := kp hb15 (by go_cell)
            replace f_t0 : w15.frozen? ⟨g_t, 0, none⟩ = false := kf hb15 (by go_simp) (by go_simp)
            replace f_t1 : w15.frozen? ⟨g_t, 1, none⟩ = false := kf hb15 (by go_simp) (by go_simp)
            replace c_t0 : w15.cell? ⟨g_t, 0, none⟩ = some (.int .i64 u) := kp hb15 (by go_cell)
            replace c_t1 : w15.cell? ⟨g_t, 1, none⟩ = some (.int .i64 v) := kp hb15 (by go_cell)
            replace f_s0 : w15.frozen? ⟨w10.heap.size, 0, none⟩ = false := kf hb15 (by go_simp) (by go_simp)
            replace f_s1 : w15.frozen? ⟨w10.heap.size, 1, none⟩ = false := kf hb15 (by go_simp) (by go_simp)
            replace c_s0 : w15.cell? ⟨w10.heap.size, 0, none⟩ = some (.int .i64 D1) := kp hb15 (by go_cell)
            replace c_s1 : w15.cell? ⟨w10.heap.size, 1, none⟩ = some (.int .i64 D2) := kp hb15 (by go_cell)
            replace f_q0 : w15.frozen? ⟨w11.heap.size, 0, none⟩ = false := kf hb15 (by go_simp) (by go_simp)
            replace f_q1 : w15.frozen? ⟨w11.heap.size, 1, none⟩ = false := kf hb15 (by go_simp) (by go_simp)
            replace c_q0 : w15.cell? ⟨w11.heap.size, 0, none⟩ = some (.int .i64 E1) := kp hb15 (by go_cell)
            replace c_q1 : w15.cell? ⟨w11.heap.size, 1, none⟩ = some (.int .i64 E2) := kp hb15 (by go_cell)
            clear hb15 hB14
            go_wp2_with fail
            refine (HM.out _ (HXS.out _ (by go_grown))).mono ?_
            rintro e w16 ⟨rfl, hb16⟩
            have hB16 : Below w.heap.size w w16 := below_after (by go_grown) hb16
            have hz16 := hb16.size
            try simp only [World.size_alloc, World.size_setCell, World.size_drew] at hz16
            have hw16 := hB16.size
            replace c_c0 : w16.cell? ⟨w.heap.size, 0, none⟩ = some (.int .i64 ct) := kp hb16 (by go_cell)
            replace c_c1 : w16.cell? ⟨w.heap.size, 1, none⟩ = some (.int .i64 clo) := kp hb16 (by go_cell)
            replace c_c2 : w16.cell? ⟨w.heap.size, 2, none⟩ = some (.int .i64 chi) := kp hb16 (by go_cell)
            replace c_c3 : w16.cell? ⟨w.heap.size, 3, none⟩ = some (.int .i64 cdr) := kp hb16 (by go_cell)
            replace c_d0 : w16.cell? ⟨w.heap.size + 1, 0, none⟩ = some (.int .i64 dl) := kp hb16 (by go_cell)
            replace c_d1 : w16.cell? ⟨w.heap.size + 1, 1, none⟩ = some (.int .i64 dh) := kp hb16 (by go_cell)
            replace c_y0 : w16.cell? ⟨w.heap.size + 1 + 1, 0, none⟩ = some (.int .i64 tlo) := kp hb16 (by go_cell)
            replace c_y1 : w16.cell? ⟨w.heap.size + 1 + 1, 1, none⟩ = some (.int .i64 thi) := kp hb16 (by go_cell)
            replace f_e0 : w16.frozen? ⟨g_e, 0, none⟩ = false := kf hb16 (by go_simp) (by go_simp)
            replace f_e1 : w16.frozen? ⟨g_e, 1, none⟩ = false := kf hb16 (by go_simp) (by go_simp)
            replace c_e0 : w16.cell? ⟨g_e, 0, none⟩ = some (.int .i64 p) := kp hb16 (by go_cell)
            replace c_e1 : w16.cell? ⟨g_e, 1, none⟩ = some (.int .i64 r) := kp hb16 (by go_cell)
            replace f_t0 : w16.frozen? ⟨g_t, 0, none⟩ = false := kf hb16 (by go_simp) (by go_simp)
            replace f_t1 : w16.frozen? ⟨g_t, 1, none⟩ = false := kf hb16 (by go_simp) (by go_simp)
            replace c_t0 : w16.cell? ⟨g_t, 0, none⟩ = some (.int .i64 u) := kp hb16 (by go_cell)
            replace c_t1 : w16.cell? ⟨g_t, 1, none⟩ = some (.int .i64 v) := kp hb16 (by go_cell)
            replace f_s0 : w16.frozen? ⟨w10.heap.size, 0, none⟩ = false := kf hb16 (by go_simp) (by go_simp)
            replace f_s1 : w16.frozen? ⟨w10.heap.size, 1, none⟩ = false := kf hb16 (by go_simp) (by go_simp)
            replace c_s0 : w16.cell? ⟨w10.heap.size, 0, none⟩ = some (.int .i64 T1) := kp hb16 (by go_cell)
            replace c_s1 : w16.cell? ⟨w10.heap.size, 1, none⟩ = some (.int .i64 T2) := kp hb16 (by go_cell)
            replace f_q0 : w16.frozen? ⟨w11.heap.size, 0, none⟩ = false := kf hb16 (by go_simp) (by go_simp)
            replace f_q1 : w16.frozen? ⟨w11.heap.size, 1, none⟩ = false := kf hb16 (by go_simp) (by go_simp)
            replace c_q0 : w16.cell? ⟨w11.heap.size, 0, none⟩ = some (.int .i64 E1) := kp hb16 (by go_cell)
            replace c_q1 : w16.cell? ⟨w11.heap.size, 1, none⟩ = some (.int .i64 E2) := kp hb16 (by go_cell)
            clear hb16 hB15
            go_wp2_with fail
            go_ret
            exact ⟨rfl, by go_grown⟩
      · have hq2 := hq.1
        have hO2 := HO.out
        rw [show (decide (D1 ≤ E1) && decide (E2 ≤ D2)) = true by simp; omega] at hO2
        have HO2 := Lib.hid hO2
        clear hO2 hq
        subst hq2
        by_cases hq0 : D3 = 0
        · subst hq0
          rcases hR.out with hr | hr | hr
          · have hr2 : (T3 == 0) = false := by simp [hr]
            have hr3 : (T3 != 0) = true := by simp [hr]
            go_wp2_with fail
            refine (HO2.out _).mono ?_
            rintro e w15 ⟨rfl, hb15⟩
            have hB15 : Below w.heap.size w w15 := below_after (by go_grown) hb15
            have hz15 := hb15.size
            try simp only [World.size_alloc, World.size_setCell, World.size_drew] at hz15
            have hw15 := hB15.size
            replace c_c0 : w15.cell? ⟨w.heap.size, 0, none⟩ = some (.int .i64 ct) := kp hb15 (by go_cell)
            replace c_c1 : w15.cell? ⟨w.heap.size, 1, none⟩ = some (.int .i64 clo) := kp hb15 (by go_cell)
            replace c_c2 : w15.cell? ⟨w.heap.size, 2, none⟩ = some (.int .i64 chi) := kp hb15 (by go_cell)
            replace c_c3 : w15.cell? ⟨w.heap.size, 3, none⟩ = some (.int .i64 cdr) := kp hb15 (by go_cell)
            replace c_d0 : w15.cell? ⟨w.heap.size + 1, 0, none⟩ = some (.int .i64 dl) := kp hb15 (by go_cell)
            replace c_d1 : w15.cell? ⟨w.heap.size + 1, 1, none⟩ = some (.int .i64 dh) := kp hb15 (by go_cell)
            replace c_y0 : w15.cell? ⟨w.heap.size + 1 + 1, 0, none⟩ = some (.int .i64 tlo) := kp hb15 (by go_cell)
            replace c_y1 : w15.cell? ⟨w.heap.size + 1 + 1, 1, none⟩ = some (.int .i64 thi) := kp hb15 (by go_cell)
            replace f_e0 : w15.frozen? ⟨g_e, 0, none⟩ = false := kf hb15 (by go_simp) (by go_simp)
            replace f_e1 : w15.frozen? ⟨g_e, 1, none⟩ = false := kf hb15 (by go_simp) (by go_simp)
            replace c_e0 : w15.cell? ⟨g_e, 0, none⟩ = some (.int .i64 p) := kp hb15 (by go_cell)
            replace c_e1 : w15.cell? ⟨g_e, 1, none⟩ = some (.int .i64 r) := kp hb15 (by go_cell)
            replace f_t0 : w15.frozen? ⟨g_t, 0, none⟩ = false := kf hb15 (by go_simp) (by go_simp)
            replace f_t1 : w15.frozen? ⟨g_t, 1, none⟩ = false := kf hb15 (by go_simp) (by go_simp)
            replace c_t0 : w15.cell? ⟨g_t, 0, none⟩ = some (.int .i64 u) := kp hb15 (by go_cell)
            replace c_t1 : w15.cell? ⟨g_t, 1, none⟩ = some (.int .i64 v) := kp hb15 (by go_cell)
            replace f_s0 : w15.frozen? ⟨w10.heap.size, 0, none⟩ = false := kf hb15 (by go_simp) (by go_simp)
            replace f_s1 : w15.frozen? ⟨w10.heap.size, 1, none⟩ = false := kf hb15 (by go_simp) (by go_simp)
            replace c_s0 : w15.cell? ⟨w10.heap.size, 0, none⟩ = some (.int .i64 D1) := kp hb15 (by go_cell)
            replace c_s1 : w15.cell? ⟨w10.heap.size, 1, none⟩ = some (.int .i64 D2) := kp hb15 (by go_cell)
            replace f_q0 : w15.frozen? ⟨w11.heap.size, 0, none⟩ = false := kf hb15 (by go_simp) (by go_simp)
            replace f_q1 : w15.frozen? ⟨w11.heap.size, 1, none⟩ = false := kf hb15 (by go_simp) (by go_simp)
            replace c_q0 : w15.cell? ⟨w11.heap.size, 0, none⟩ = some (.int .i64 E1) := kp hb15 (by go_cell)
            replace c_q1 : w15.cell? ⟨w11.heap.size, 1, none⟩ = some (.int .i64 E2) := kp hb15 (by go_cell)
            clear hb15 hB14
            go_wp2_with fail
            refine (HG.out _ (HXS.out _ (by go_grown))).mono ?_
            rintro e w16 ⟨rfl, hb16⟩
            have hB16 : Below w.heap.size w w16 := below_after (by go_grown) hb16
            have hz16 := hb16.size
            try simp only [World.size_alloc, World.size_setCell, World.size_drew] at hz16
            have hw16 := hB16.size
            replace c_c0 : w16.cell? ⟨w.heap.size, 0, none⟩ = some (.int .i64 ct) := kp hb16 (by go_cell)
            replace c_c1 : w16.cell? ⟨w.heap.size, 1, none⟩ = some (.int .i64 clo) := kp hb16 (by go_cell)
            replace c_c2 : w16.cell? ⟨w.heap.size, 2, none⟩ = some (.int .i64 chi) := kp hb16 (by go_cell)
            replace c_c3 : w16.cell? ⟨w.heap.size, 3, none⟩ = some (.int .i64 cdr) := kp hb16 (by go_cell)
            replace c_d0 : w16.cell? ⟨w.heap.size + 1, 0, none⟩ = some (.int .i64 dl) := kp hb16 (by go_cell)
            replace c_d1 : w16.cell? ⟨w.heap.size + 1, 1, none⟩ = some (.int .i64 dh) := kp hb16 (by go_cell)
            replace c_y0 : w16.cell? ⟨w.heap.size + 1 + 1, 0, none⟩ = some (.int .i64 tlo) := kp hb16 (by go_cell)
            replace c_y1 : w16.cell? ⟨w.heap.size + 1 + 1, 1, none⟩ = some (.int .i64 thi) := kp hb16 (by go_cell)
            replace f_e0 : w16.frozen? ⟨g_e, 0, none⟩ = false := kf hb16 (by go_simp) (by go_simp)
            replace f_e1 : w16.frozen? ⟨g_e, 1, none⟩ = false := kf hb16 (by go_simp) (by go_simp)
            replace c_e0 : w16.cell? ⟨g_e, 0, none⟩ = some (.int .i64 p) := kp hb16 (by go_cell)
            replace c_e1 : w16.cell? ⟨g_e, 1, none⟩ = some (.int .i64 r) := kp hb16 (by go_cell)
            replace f_t0 : w16.frozen? ⟨g_t, 0, none⟩ = false := kf hb16 (by go_simp) (by go_simp)
            replace f_t1 : w16.frozen? ⟨g_t, 1, none⟩ = false := kf hb16 (by go_simp) (by go_simp)
            replace c_t0 : w16.cell? ⟨g_t, 0, none⟩ = some (.int .i64 u) := kp hb16 (by go_cell)
            replace c_t1 : w16.cell? ⟨g_t, 1, none⟩ = some (.int .i64 v) := kp hb16 (by go_cell)
            replace f_s0 : w16.frozen? ⟨w10.heap.size, 0, none⟩ = false := kf hb16 (by go_simp) (by go_simp)
            replace f_s1 : w16.frozen? ⟨w10.heap.size, 1, none⟩ = false := kf hb16 (by go_simp) (by go_simp)
            replace c_s0 : w16.cell? ⟨w10.heap.size, 0, none⟩ = some (.int .i64 D1) := kp hb16 (by go_cell)
            replace c_s1 : w16.cell? ⟨w10.heap.size, 1, none⟩ = some (.int .i64 D2) := kp hb16 (by go_cell)
            replace f_q0 : w16.frozen? ⟨w11.heap.size, 0, none⟩ = false := kf hb16 (by go_simp) (by go_simp)
            replace f_q1 : w16.frozen? ⟨w11.heap.size, 1, none⟩ = false := kf hb16 (by go_simp) (by go_simp)
            replace c_q0 : w16.cell? ⟨w11.heap.size, 0, none⟩ = some (.int .i64 E1) := kp hb16 (by go_cell)
            replace c_q1 : w16.cell? ⟨w11.heap.size, 1, none⟩ = some (.int .i64 E2) := kp hb16 (by go_cell)
            clear hb16 hB15
            go_wp2_with fail
            refine (HM.out _ (HXS.out _ (by go_grown))).mono ?_
            rintro e w17 ⟨rfl, hb17⟩
            have hB17 : Below w.heap.size w w17 := below_after (by go_grown) hb17
            have hz17 := hb17.size
            try simp only [World.size_alloc, World.size_setCell, World.size_drew] at hz17
            have hw17 := hB17.size
            replace c_c0 : w17.cell? ⟨w.heap.size, 0, none⟩ = some (.int .i64 ct) := kp hb17 (by go_cell)
            replace c_c1 : w17.cell? ⟨w.heap.size, 1, none⟩ = some (.int .i64 clo) := kp hb17 (by go_cell)
            replace c_c2 : w17.cell? ⟨w.heap.size, 2, none⟩ = some (.int .i64 chi) := kp hb17 (by go_cell)
            replace c_c3 : w17.cell? ⟨w.heap.size, 3, none⟩ = some (.int .i64 cdr) := kp hb17 (by go_cell)
            replace c_d0 : w17.cell? ⟨w.heap.size + 1, 0, none⟩ = some (.int .i64 dl) := kp hb17 (by go_cell)
            replace c_d1 : w17.cell? ⟨w.heap.size + 1, 1, none⟩ = some (.int .i64 dh) := kp hb17 (by go_cell)
            replace c_y0 : w17.cell? ⟨w.heap.size + 1 + 1, 0, none⟩ = some (.int .i64 tlo) := kp hb17 (by go_cell)
            replace c_y1 : w17.cell? ⟨w.heap.size + 1 + 1, 1, none⟩ = some (.int .i64 thi) := kp hb17 (by go_cell)
            replace f_e0 : w17.frozen? ⟨g_e, 0, none⟩ = false := kf hb17 (by go_simp) (by go_simp)
            replace f_e1 : w17.frozen? ⟨g_e, 1, none⟩ = false := kf hb17 (by go_simp) (by go_simp)
            replace c_e0 : w17.cell? ⟨g_e, 0, none⟩ = some (.int .i64 p) := kp hb17 (by go_cell)
            replace c_e1 : w17.cell? ⟨g_e, 1, none⟩ = some (.int .i64 r) := kp hb17 (by go_cell)
            replace f_t0 : w17.frozen? ⟨g_t, 0, none⟩ = false := kf hb17 (by go_simp) (by go_simp)
            replace f_t1 : w17.frozen? ⟨g_t, 1, none⟩ = false := kf hb17 (by go_simp) (by go_simp)
            replace c_t0 : w17.cell? ⟨g_t, 0, none⟩ = some (.int .i64 u) := kp hb17 (by go_cell)
            replace c_t1 : w17.cell? ⟨g_t, 1, none⟩ = some (.int .i64 v) := kp hb17 (by go_cell)
            replace f_s0 : w17.frozen? ⟨w10.heap.size, 0, none⟩ = false := kf hb17 (by go_simp) (by go_simp)
            replace f_s1 : w17.frozen? ⟨w10.heap.size, 1, none⟩ = false := kf hb17 (by go_simp) (by go_simp)
            replace c_s0 : w17.cell? ⟨w10.heap.size, 0, none⟩ = some (.int .i64 T1) := kp hb17 (by go_cell)
            replace c_s1 : w17.cell? ⟨w10.heap.size, 1, none⟩ = some (.int .i64 T2) := kp hb17 (by go_cell)
            replace f_q0 : w17.frozen? ⟨w11.heap.size, 0, none⟩ = false := kf hb17 (by go_simp) (by go_simp)
            replace f_q1 : w17.frozen? ⟨w11.heap.size, 1, none⟩ = false := kf hb17 (by go_simp) (by go_simp)
            replace c_q0 : w17.cell? ⟨w11.heap.size, 0, none⟩ = some (.int .i64 E1) := kp hb17 (by go_cell)
            replace c_q1 : w17.cell? ⟨w11.heap.size, 1, none⟩ = some (.int .i64 E2) := kp hb17 (by go_cell)
            clear hb17 hB16
            go_wp2_with fail
            go_ret
            exact ⟨rfl, by go_grown⟩
          · subst hr
            by_cases ht0 : T3 = 0
            · subst ht0
              go_wp2_with fail
              refine (HO2.out _).mono ?_
              rintro e w15 ⟨rfl, hb15⟩
              have hB15 : Below w.heap.size w w15 := below_after (by go_grown) hb15
              have hz15 := hb15.size
              try simp only [World.size_alloc, World.size_setCell, World.size_drew] at hz15
              have hw15 := hB15.size
              replace c_c0 : w15.cell? ⟨w.heap.size, 0, none⟩ = some (.int .i64 ct) := kp hb15 (by go_cell)
              replace c_c1 : w15.cell? ⟨w.heap.size, 1, none⟩ = some (.int .i64 clo) := kp hb15 (by go_cell)
              replace c_c2 : w15.cell? ⟨w.heap.size, 2, none⟩ = some (.int .i64 chi) := kp hb15 (by go_cell)
              replace c_c3 : w15.cell? ⟨w.heap.size, 3, none⟩ = some (.int .i64 cdr) := kp hb15 (by go_cell)
              replace c_d0 : w15.cell? ⟨w.heap.size + 1, 0, none⟩ = some (.int .i64 dl) := kp hb15 (by go_cell)
              replace c_d1 : w15.cell? ⟨w.heap.size + 1, 1, none⟩ = some (.int .i64 dh) := kp hb15 (by go_cell)
              replace c_y0 : w15.cell? ⟨w.heap.size + 1 + 1, 0, none⟩ = some (.int .i64 tlo) := kp hb15 (by go_cell)
              replace c_y1 : w15.cell? ⟨w.heap.size + 1 + 1, 1, none⟩ = some (.int .i64 thi) := kp hb15 (by go_cell)
              replace f_e0 : w15.frozen? ⟨g_e, 0, none⟩ = false := kf hb15 (by go_simp) (by go_simp)
              replace f_e1 : w15.frozen? ⟨g_e, 1, none⟩ = false := kf hb15 (by go_simp) (by go_simp)
              replace c_e0 : w15.cell? ⟨g_e, 0, none⟩ = some (.int .i64 p) := kp hb15 (by go_cell)
              replace c_e1 : w15.cell? ⟨g_e, 1, none⟩ = some (.int .i64 r) := kp hb15 (by go_cell)
              replace f_t0 : w15.frozen? ⟨g_t, 0, none⟩ = false := kf hb15 (by go_simp) (by go_simp)
              replace f_t1 : w15.frozen? ⟨g_t, 1, none⟩ = false := kf hb15 (by go_simp) (by go_simp)
              replace c_t0 : w15.cell? ⟨g_t, 0, none⟩ = some (.int .i64 u) := kp hb15 (by go_cell)
              replace c_t1 : w15.cell? ⟨g_t, 1, none⟩ = some (.int .i64 v) := kp hb15 (by go_cell)
              replace f_s0 : w15.frozen? ⟨w10.heap.size, 0, none⟩ = false := kf hb15 (by go_simp) (by go_simp)
              replace f_s1 : w15.frozen? ⟨w10.heap.size, 1, none⟩ = false := kf hb15 (by go_simp) (by go_simp)
              replace c_s0 : w15.cell? ⟨w10.heap.size, 0, none⟩ = some (.int .i64 D1) := kp hb15 (by go_cell)
              replace c_s1 : w15.cell? ⟨w10.heap.size, 1, none⟩ = some (.int .i64 D2) := kp hb15 (by go_cell)
              replace f_q0 : w15.frozen? ⟨w11.heap.size, 0, none⟩ = false := kf hb15 (by go_simp) (by go_simp)
              replace f_q1 : w15.frozen? ⟨w11.heap.size, 1, none⟩ = false := kf hb15 (by go_simp) (by go_simp)
              replace c_q0 : w15.cell? ⟨w11.heap.size, 0, none⟩ = some (.int .i64 E1) := kp hb15 (by go_cell)
              replace c_q1 : w15.cell? ⟨w11.heap.size, 1, none⟩ = some (.int .i64 E2) := kp hb15 (by go_cell)
              clear hb15 hB14
              go_wp2_with fail
              refine (HG.out _ (HXS.out _ (by go_grown))).mono ?_
              rintro e w16 ⟨rfl, hb16⟩
              have hB16 : Below w.heap.size w w16 := below_after (by go_grown) hb16
              have hz16 := hb16.size
              try simp only [World.size_alloc, World.size_setCell, World.size_drew] at hz16
              have hw16 := hB16.size
              replace c_c0 : w16.cell? ⟨w.heap.size, 0, none⟩ = some (.int .i64 ct) := kp hb16 (by go_cell)
              replace c_c1 : w16.cell? ⟨w.heap.size, 1, none⟩ = some (.int .i64 clo) := kp hb16 (by go_cell)
              replace c_c2 : w16.cell? ⟨w.heap.size, 2, none⟩ = some (.int .i64 chi) := kp hb16 (by go_cell)
              replace c_c3 : w16.cell? ⟨w.heap.size, 3, none⟩ = some (.int .i64 cdr) := kp hb16 (by go_cell)
              replace c_d0 : w16.cell? ⟨w.heap.size + 1, 0, none⟩ = some (.int .i64 dl) := kp hb16 (by go_cell)
              replace c_d1 : w16.cell? ⟨w.heap.size + 1, 1, none⟩ = some (.int .i64 dh) := kp hb16 (by go_cell)
              replace c_y0 : w16.cell? ⟨w.heap.size + 1 + 1, 0, none⟩ = some (.int .i64 tlo) := kp hb16 (by go_cell)
              replace c_y1 : w16.cell? ⟨w.heap.size + 1 + 1, 1, none⟩ = some (.int .i64 thi) := kp hb16 (by go_cell)
              replace f_e0 : w16.frozen? ⟨g_e, 0, none⟩ = false := kf hb16 (by go_simp) (by go_simp)
              replace f_e1 : w16.frozen? ⟨g_e, 1, none⟩ = false := kf hb16 (by go_simp) (by go_simp)
              replace c_e0 : w16.cell? ⟨g_e, 0, none⟩ = some (.int .i64 p) := kp hb16 (by go_cell)
              replace c_e1 : w16.cell? ⟨g_e, 1, none⟩ = some (.int .i64 r) := kp hb16 (by go_cell)
              replace f_t0 : w16.frozen? ⟨g_t, 0, none⟩ = false := kf hb16 (by go_simp) (by go_simp)
              replace f_t1 : w16.frozen? ⟨g_t, 1, none⟩ = false := kf hb16 (by go_simp) (by go_simp)
              replace c_t0 : w16.cell? ⟨g_t, 0, none⟩ = some (.int .i64 u) := kp hb16 (by go_cell)
              replace c_t1 : w16.cell? ⟨g_t, 1, none⟩ = some (.int .i64 v) := kp hb16 (by go_cell)
              replace f_s0 : w16.frozen? ⟨w10.heap.size, 0, none⟩ = false := kf hb16 (by go_simp) (by go_simp)
              replace f_s1 : w16.frozen? ⟨w10.heap.size, 1, none⟩ = false := kf hb16 (by go_simp) (by go_simp)
              replace c_s0 : w16.cell? ⟨w10.heap.size, 0, none⟩ = some (.int .i64 D1) := kp hb16 (by go_cell)
              replace c_s1 : w16.cell? ⟨w10.heap.size, 1, none⟩ = some (.int .i64 D2) := kp hb16 (by go_cell)
              replace f_q0 : w16.frozen? ⟨w11.heap.size, 0, none⟩ = false := kf hb16 (by go_simp) (by go_simp)
              replace f_q1 : w16.frozen? ⟨w11.heap.size, 1, none⟩ = false := kf hb16 (by go_simp) (by go_simp)
              replace c_q0 : w16.cell? ⟨w11.heap.size, 0, none⟩ = some (.int .i64 E1) := kp hb16 (by go_cell)
              replace c_q1 : w16.cell? ⟨w11.heap.size, 1, none⟩ = some (.int .i64 E2) := kp hb16 (by go_cell)
              clear hb16 hB15
              go_wp2_with fail
              refine (HM.out _ (HXS.out _ (by go_grown))).mono ?_
              rintro e w17 ⟨rfl, hb17⟩
              have hB17 : Below w.heap.size w w17 := below_after (by go_grown) hb17
              have hz17 := hb17.size
              try simp only [World.size_alloc, World.size_setCell, World.size_drew] at hz17
              have hw17 := hB17.size
              replace c_c0 : w17.cell? ⟨w.heap.size, 0, none⟩ = some (.int .i64 ct) := kp hb17 (by go_cell)
              replace c_c1 : w17.cell? ⟨w.heap.size, 1, none⟩ = some (.int .i64 clo) := kp hb17 (by go_cell)
              replace c_c2 : w17.cell? ⟨w.heap.size, 2, none⟩ = some (.int .i64 chi) := kp hb17 (by go_cell)
              replace c_c3 : w17.cell? ⟨w.heap.size, 3, none⟩ = some (.int .i64 cdr) := kp hb17 (by go_cell)
              replace c_d0 : w17.cell? ⟨w.heap.size + 1, 0, none⟩ = some (.int .i64 dl) := kp hb17 (by go_cell)
              replace c_d1 : w17.cell? ⟨w.heap.size + 1, 1, none⟩ = some (.int .i64 dh) := kp hb17 (by go_cell)
              replace c_y0 : w17.cell? ⟨w.heap.size + 1 + 1, 0, none⟩ = some (.int .i64 tlo) := kp hb17 (by go_cell)
              replace c_y1 : w17.cell? ⟨w.heap.size + 1 + 1, 1, none⟩ = some (.int .i64 thi) := kp hb17 (by go_cell)
              replace f_e0 : w17.frozen? ⟨g_e, 0, none⟩ = false := kf hb17 (by go_simp) (by go_simp)
              replace f_e1 : w17.frozen? ⟨g_e, 1, none⟩ = false := kf hb17 (by go_simp) (by go_simp)
              replace c_e0 : w17.cell? ⟨g_e, 0, none⟩ = some (.int .i64 p) := kp hb17 (by go_cell)
              replace c_e1 : w17.cell? ⟨g_e, 1, none⟩ = some (.int .i64 r) := kp hb17 (by go_cell)
              replace f_t0 : w17.frozen? ⟨g_t, 0, none⟩ = false := kf hb17 (by go_simp) (by go_simp)
              replace f_t1 : w17.frozen? ⟨g_t, 1, none⟩ = false := kf hb17 (by go_simp) (by go_simp)
              replace c_t0 : w17.cell? ⟨g_t, 0, none⟩ = some (.int .i64 u) := kp hb17 (by go_cell)
              replace c_t1 : w17.cell? ⟨g_t, 1, none⟩ = some (.int .i64 v) := kp hb17 (by go_cell)
              replace f_s0 : w17.frozen? ⟨w10.heap.size, 0, none⟩ = false := kf hb17 (by go_simp) (by go_simp)
              replace f_s1 : w17.frozen? ⟨w10.heap.size, 1, none⟩ = false := kf hb17 (by go_simp) (by go_simp)
              replace c_s0 : w17.cell? ⟨w10.heap.size, 0, none⟩ = some (.int .i64 T1) := kp hb17 (by go_cell)
              replace c_s1 : w17.cell? ⟨w10.heap.size, 1, none⟩ = some (.int .i64 T2) := kp hb17 (by go_cell)
              replace f_q0 : w17.frozen? ⟨w11.heap.size, 0, none⟩ = false := kf hb17 (by go_simp) (by go_simp)
              replace f_q1 : w17.frozen? ⟨w11.heap.size, 1, none⟩ = false := kf hb17 (by go_simp) (by go_simp)
              replace c_q0 : w17.cell? ⟨w11.heap.size, 0, none⟩ = some (.int .i64 E1) := kp hb17 (by go_cell)
              replace c_q1 : w17.cell? ⟨w11.heap.size, 1, none⟩ = some (.int .i64 E2) := kp hb17 (by go_cell)
              clear hb17 hB16
              go_wp2_with fail
              go_ret
              exact ⟨rfl, by go_grown⟩
            · have hr2 : (T3 == 0) = false := by simp [ht0]
              have hr3 : (T3 != 0) = true := by simp [ht0]
              go_wp2_with fail
              refine (HO2.out _).mono ?_
              rintro e w15 ⟨rfl, hb15⟩
              have hB15 : Below w.heap.size w w15 := below_after (by go_grown) hb15
              have hz15 := hb15.size
              try simp only [World.size_alloc, World.size_setCell, World.size_drew] at hz15
              have hw15 := hB15.size
              replace c_c0 : w15.cell? ⟨w.heap.size, 0, none⟩ = some (.int .i64 ct) := kp hb15 (by go_cell)
              replace c_c1 : w15.cell? ⟨w.heap.size, 1, none⟩ = some (.int .i64 clo) := kp hb15 (by go_cell)
              replace c_c2 : w15.cell? ⟨w.heap.size, 2, none⟩ = some (.int .i64 chi) := kp hb15 (by go_cell)
              replace c_c3 : w15.cell? ⟨w.heap.size, 3, none⟩ = some (.int .i64 cdr) := kp hb15 (by go_cell)
              replace c_d0 : w15.cell? ⟨w.heap.size + 1, 0, none⟩ = some (.int .i64 dl) := kp hb15 (by go_cell)
              replace c_d1 : w15.cell? ⟨w.heap.size + 1, 1, none⟩ = some (.int .i64 dh) := kp hb15 (by go_cell)
              replace c_y0 : w15.cell? ⟨w.heap.size + 1 + 1, 0, none⟩ = some (.int .i64 tlo) := kp hb15 (by go_cell)
              replace c_y1 : w15.cell? ⟨w.heap.size + 1 + 1, 1, none⟩ = some (.int .i64 thi) := kp hb15 (by go_cell)
              replace f_e0 : w15.frozen? ⟨g_e, 0, none⟩ = false := kf hb15 (by go_simp) (by go_simp)
              replace f_e1 : w15.frozen? ⟨g_e, 1, none⟩ = false := kf hb15 (by go_simp) (by go_simp)
              replace c_e0 : w15.cell? ⟨g_e, 0, none⟩ = some (.int .i64 p) := kp hb15 (by go_cell)
              replace c_e1 : w15.cell? ⟨g_e, 1, none⟩ = some (.int .i64 r) := kp hb15 (by go_cell)
              replace f_t0 : w15.frozen? ⟨g_t, 0, none⟩ = false := kf hb15 (by go_simp) (by go_simp)
              replace f_t1 : w15.frozen? ⟨g_t, 1, none⟩ = false := kf hb15 (by go_simp) (by go_simp)
              replace c_t0 : w15.cell? ⟨g_t, 0, none⟩ = some (.int .i64 u) := kp hb15 (by go_cell)
              replace c_t1 : w15.cell? ⟨g_t, 1, none⟩ = some (.int .i64 v) := kp hb15 (by go_cell)
              replace f_s0 : w15.frozen? ⟨w10.heap.size, 0, none⟩ = false := kf hb15 (by go_simp) (by go_simp)
              replace f_s1 : w15.frozen? ⟨w10.heap.size, 1, none⟩ = false := kf hb15 (by go_simp) (by go_simp)
              replace c_s0 : w15.cell? ⟨w10.heap.size, 0, none⟩ = some (.int .i64 D1) := kp hb15 (by go_cell)
              replace c_s1 : w15.cell? ⟨w10.heap.size, 1, none⟩ = some (.int .i64 D2) := kp hb15 (by go_cell)
              replace f_q0 : w15.frozen? ⟨w11.heap.size, 0, none⟩ = false := kf hb15 (by go_simp) (by go_simp)
              replace f_q1 : w15.frozen? ⟨w11.heap.size, 1, none⟩ = false := kf hb15 (by go_simp) (by go_simp)
              replace c_q0 : w15.cell? ⟨w11.heap.size, 0, none⟩ = some (.int .i64 E1) := kp hb15 (by go_cell)
              replace c_q1 : w15.cell? ⟨w11.heap.size, 1, none⟩ = some (.int .i64 E2) := kp hb15 (by go_cell)
              clear hb15 hB14
              go_wp2_with fail
              refine (HG.out _ (HXS.out _ (by go_grown))).mono ?_
              rintro e w16 ⟨rfl, hb16⟩
              have hB16 : Below w.heap.size w w16 := below_after (by go_grown) hb16
              have hz16 := hb16.size
              try simp only [World.size_alloc, World.size_setCell, World.size_drew] at hz16
              have hw16 := hB16.size
              replace c_c0 : w16.cell? ⟨w.heap.size, 0, none⟩ = some (.int .i64 ct) := kp hb16 (by go_cell)
              replace c_c1 : w16.cell? ⟨w.heap.size, 1, none⟩ = some (.int .i64 clo) := kp hb16 (by go_cell)
              replace c_c2 : w16.cell? ⟨w.heap.size, 2, none⟩ = some (.int .i64 chi) := kp hb16 (by go_cell)
              replace c_c3 : w16.cell? ⟨w.heap.size, 3, none⟩ = some (.int .i64 cdr) := kp hb16 (by go_cell)
              replace c_d0 : w16.cell? ⟨w.heap.size + 1, 0, none⟩ = some (.int .i64 dl) := kp hb16 (by go_cell)
              replace c_d1 : w16.cell? ⟨w.heap.size + 1, 1, none⟩ = some (.int .i64 dh) := kp hb16 (by go_cell)
              replace c_y0 : w16.cell? ⟨w.heap.size + 1 + 1, 0, none⟩ = some (.int .i64 tlo) := kp hb16 (by go_cell)
              replace c_y1 : w16.cell? ⟨w.heap.size + 1 + 1, 1, none⟩ = some (.int .i64 thi) := kp hb16 (by go_cell)
              replace f_e0 : w16.frozen? ⟨g_e, 0, none⟩ = false := kf hb16 (by go_simp) (by go_simp)
              replace f_e1 : w16.frozen? ⟨g_e, 1, none⟩ = false := kf hb16 (by go_simp) (by go_simp)
              replace c_e0 : w16.cell? ⟨g_e, 0, none⟩ = some (.int .i64 p) := kp hb16 (by go_cell)
              replace c_e1 : w16.cell? ⟨g_e, 1, none⟩ = some (.int .i64 r) := kp hb16 (by go_cell)
              replace f_t0 : w16.frozen? ⟨g_t, 0, none⟩ = false := kf hb16 (by go_simp) (by go_simp)
              replace f_t1 : w16.frozen? ⟨g_t, 1, none⟩ = false := kf hb16 (by go_simp) (by go_simp)
              replace c_t0 : w16.cell? ⟨g_t, 0, none⟩ = some (.int .i64 u) := kp hb16 (by go_cell)
              replace c_t1 : w16.cell? ⟨g_t, 1, none⟩ = some (.int .i64 v) := kp hb16 (by go_cell)
              replace f_s0 : w16.frozen? ⟨w10.heap.size, 0, none⟩ = false := kf hb16 (by go_simp) (by go_simp)
              replace f_s1 : w16.frozen? ⟨w10.heap.size, 1, none⟩ = false := kf hb16 (by go_simp) (by go_simp)
              replace c_s0 : w16.cell? ⟨w10.heap.size, 0, none⟩ = some (.int .i64 D1) := kp hb16 (by go_cell)
              replace c_s1 : w16.cell? ⟨w10.heap.size, 1, none⟩ = some (.int .i64 D2) := kp hb16 (by go_cell)
              replace f_q0 : w16.frozen? ⟨w11.heap.size, 0, none⟩ = false := kf hb16 (by go_simp) (by go_simp)
              replace f_q1 : w16.frozen? ⟨w11.heap.size, 1, none⟩ = false := kf hb16 (by go_simp) (by go_simp)
              replace c_q0 : w16.cell? ⟨w11.heap.size, 0, none⟩ = some (.int .i64 E1) := kp hb16 (by go_cell)
              replace c_q1 : w16.cell? ⟨w11.heap.size, 1, none⟩ = some (.int .i64 E2) := kp hb16 (by go_cell)
              clear hb16 hB15
              go_wp2_with fail
              refine (HM.out _ (HXS.out _ (by go_grown))).mono ?_
              rintro e w17 ⟨rfl, hb17⟩
              have hB17 : Below w.heap.size w w17 := below_after (by go_grown) hb17
              have hz17 := hb17.size
              try simp only [World.size_alloc, World.size_setCell, World.size_drew] at hz17
              have hw17 := hB17.size
              replace c_c0 : w17.cell? ⟨w.heap.size, 0, none⟩ = some (.int .i64 ct) := kp hb17 (by go_cell)
              replace c_c1 : w17.cell? ⟨w.heap.size, 1, none⟩ = some (.int .i64 clo) := kp hb17 (by go_cell)
              replace c_c2 : w17.cell? ⟨w.heap.size, 2, none⟩ = some (.int .i64 chi) := kp hb17 (by go_cell)
              replace c_c3 : w17.cell? ⟨w.heap.size, 3, none⟩ = some (.int .i64 cdr) := kp hb17 (by go_cell)
              replace c_d0 : w17.cell? ⟨w.heap.size + 1, 0, none⟩ = some (.int .i64 dl) := kp hb17 (by go_cell)
              replace c_d1 : w17.cell? ⟨w.heap.size + 1, 1, none⟩ = some (.int .i64 dh) := kp hb17 (by go_cell)
              replace c_y0 : w17.cell? ⟨w.heap.size + 1 + 1, 0, none⟩ = some (.int .i64 tlo) := kp hb17 (by go_cell)
              replace c_y1 : w17.cell? ⟨w.heap.size + 1 + 1, 1, none⟩ = some (.int .i64 thi) := kp hb17 (by go_cell)
              replace f_e0 : w17.frozen? ⟨g_e, 0, none⟩ = false := kf hb17 (by go_simp) (by go_simp)
              replace f_e1 : w17.frozen? ⟨g_e, 1, none⟩ = false := kf hb17 (by go_simp) (by go_simp)
              replace c_e0 : w17.cell? ⟨g_e, 0, none⟩ = some (.int .i64 p) := kp hb17 (by go_cell)
              replace c_e1 : w17.cell? ⟨g_e, 1, none⟩ = some (.int .i64 r) := kp hb17 (by go_cell)
              replace f_t0 : w17.frozen? ⟨g_t, 0, none⟩ = false := kf hb17 (by go_simp) (by go_simp)
              replace f_t1 : w17.frozen? ⟨g_t, 1, none⟩ = false := kf hb17 (by go_simp) (by go_simp)
              replace c_t0 : w17.cell? ⟨g_t, 0, none⟩ = some (.int .i64 u) := kp hb17 (by go_cell)
              replace c_t1 : w17.cell? ⟨g_t, 1, none⟩ = some (.int .i64 v) := kp hb17 (by go_cell)
              replace f_s0 : w17.frozen? ⟨w10.heap.size, 0, none⟩ = false := kf hb17 (by go_simp) (by go_simp)
              replace f_s1 : w17.frozen? ⟨w10.heap.size, 1, none⟩ = false := kf hb17 (by go_simp) (by go_simp)
              replace c_s0 : w17.cell? ⟨w10.heap.size, 0, none⟩ = some (.int .i64 T1) := kp hb17 (by go_cell)
              replace c_s1 : w17.cell? ⟨w10.heap.size, 1, none⟩ = some (.int .i64 T2) := kp hb17 (by go_cell)
              replace f_q0 : w17.frozen? ⟨w11.heap.size, 0, none⟩ = false := kf hb17 (by go_simp) (by go_simp)
              replace f_q1 : w17.frozen? ⟨w11.heap.size, 1, none⟩ = false := kf hb17 (by go_simp) (by go_simp)
              replace c_q0 : w17.cell? ⟨w11.heap.size, 0, none⟩ = some (.int .i64 E1) := kp hb17 (by go_cell)
              replace c_q1 : w17.cell? ⟨w11.heap.size, 1, none⟩ = some (.int .i64 E2) := kp hb17 (by go_cell)
              clear hb17 hB16
              go_wp2_with fail
              go_ret
              exact ⟨rfl, by go_grown⟩
          · have hP2 := HP.out
            rw [show (decide (T1 ≤ U1) && decide (U2 ≤ T2)) = true by simp; omega] at hP2
            have HP2 := Lib.hid hP2
            have hr9 := hr.1
            clear hP2 hr
            subst hr9
            by_cases ht0 : T3 = 0
            · subst ht0
              go_wp2_with fail
              refine (HO2.out _).mono ?_
              rintro e w15 ⟨rfl, hb15⟩
              have hB15 : Below w.heap.size w w15 := below_after (by go_grown) hb15
              have hz15 := hb15.size
              try simp only [World.size_alloc, World.size_setCell, World.size_drew] at hz15
              have hw15 := hB15.size
              replace c_c0 : w15.cell? ⟨w.heap.size, 0, none⟩ = some (.int .i64 ct) := kp hb15 (by go_cell)
              replace c_c1 : w15.cell? ⟨w.heap.size, 1, none⟩ = some (.int .i64 clo) := kp hb15 (by go_cell)
              replace c_c2 : w15.cell? ⟨w.heap.size, 2, none⟩ = some (.int .i64 chi) := kp hb15 (by go_cell)
              replace c_c3 : w15.cell? ⟨w.heap.size, 3, none⟩ = some (.int .i64 cdr) := kp hb15 (by go_cell)
              replace c_d0 : w15.cell? ⟨w.heap.size + 1, 0, none⟩ = some (.int .i64 dl) := kp hb15 (by go_cell)
              replace c_d1 : w15.cell? ⟨w.heap.size + 1, 1, none⟩ = some (.int .i64 dh) := kp hb15 (by go_cell)
              replace c_y0 : w15.cell? ⟨w.heap.size + 1 + 1, 0, none⟩ = some (.int .i64 tlo) := kp hb15 (by go_cell)
              replace c_y1 : w15.cell? ⟨w.heap.size + 1 + 1, 1, none⟩ = some (.int .i64 thi) := kp hb15 (by go_cell)
              replace f_e0 : w15.frozen? ⟨g_e, 0, none⟩ = false := kf hb15 (by go_simp) (by go_simp)
              replace f_e1 : w15.frozen? ⟨g_e, 1, none⟩ = false := kf hb15 (by go_simp) (by go_simp)
              replace c_e0 : w15.cell? ⟨g_e, 0, none⟩ = some (.int .i64 p) := kp hb15 (by go_cell)
              replace c_e1 : w15.cell? ⟨g_e, 1, none⟩ = some (.int .i64 r) := kp hb15 (by go_cell)
              replace f_t0 : w15.frozen? ⟨g_t, 0, none⟩ = false := kf hb15 (by go_simp) (by go_simp)
              replace f_t1 : w15.frozen? ⟨g_t, 1, none⟩ = false := kf hb15 (by go_simp) (by go_simp)
              replace c_t0 : w15.cell? ⟨g_t, 0, none⟩ = some (.int .i64 u) := kp hb15 (by go_cell)
              replace c_t1 : w15.cell? ⟨g_t, 1, none⟩ = some (.int .i64 v) := kp hb15 (by go_cell)
              replace f_s0 : w15.frozen? ⟨w10.heap.size, 0, none⟩ = false := kf hb15 (by go_simp) (by go_simp)
              replace f_s1 : w15.frozen? ⟨w10.heap.size, 1, none⟩ = false := kf hb15 (by go_simp) (by go_simp)
              replace c_s0 : w15.cell? ⟨w10.heap.size, 0, none⟩ = some (.int .i64 D1) := kp hb15 (by go_cell)
              replace c_s1 : w15.cell? ⟨w10.heap.size, 1, none⟩ = some (.int .i64 D2) := kp hb15 (by go_cell)
              replace f_q0 : w15.frozen? ⟨w11.heap.size, 0, none⟩ = false := kf hb15 (by go_simp) (by go_simp)
              replace f_q1 : w15.frozen? ⟨w11.heap.size, 1, none⟩ = false := kf hb15 (by go_simp) (by go_simp)
              replace c_q0 : w15.cell? ⟨w11.heap.size, 0, none⟩ = some (.int .i64 E1) := kp hb15 (by go_cell)
              replace c_q1 : w15.cell? ⟨w11.heap.size, 1, none⟩ = some (.int .i64 E2) := kp hb15 (by go_cell)
              clear hb15 hB14
              go_wp2_with fail
              refine (HG.out _ (HXS.out _ (by go_grown))).mono ?_
              rintro e w16 ⟨rfl, hb16⟩
              have hB16 : Below w.heap.size w w16 := below_after (by go_grown) hb16
              have hz16 := hb16.size
              try simp only [World.size_alloc, World.size_setCell, World.size_drew] at hz16
              have hw16 := hB16.size
              replace c_c0 : w16.cell? ⟨w.heap.size, 0, none⟩ = some (.int .i64 ct) := kp hb16 (by go_cell)
              replace c_c1 : w16.cell? ⟨w.heap.size, 1, none⟩ = some (.int .i64 clo) := kp hb16 (by go_cell)
              replace c_c2 : w16.cell? ⟨w.heap.size, 2, none⟩ = some (.int .i64 chi) := kp hb16 (by go_cell)
              replace c_c3 : w16.cell? ⟨w.heap.size, 3, none⟩ = some (.int .i64 cdr) := kp hb16 (by go_cell)
              replace c_d0 : w16.cell? ⟨w.heap.size + 1, 0, none⟩ = some (.int .i64 dl) := kp hb16 (by go_cell)
              replace c_d1 : w16.cell? ⟨w.heap.size + 1, 1, none⟩ = some (.int .i64 dh) := kp hb16 (by go_cell)
              replace c_y0 : w16.cell? ⟨w.heap.size + 1 + 1, 0, none⟩ = some (.int .i64 tlo) := kp hb16 (by go_cell)
              replace c_y1 : w16.cell? ⟨w.heap.size + 1 + 1, 1, none⟩ = some (.int .i64 thi) := kp hb16 (by go_cell)
              replace f_e0 : w16.frozen? ⟨g_e, 0, none⟩ = false := kf hb16 (by go_simp) (by go_simp)
              replace f_e1 : w16.frozen? ⟨g_e, 1, none⟩ = false := kf hb16 (by go_simp) (by go_simp)
              replace c_e0 : w16.cell? ⟨g_e, 0, none⟩ = some (.int .i64 p) := kp hb16 (by go_cell)
              replace c_e1 : w16.cell? ⟨g_e, 1, none⟩ = some (.int .i64 r) := kp hb16 (by go_cell)
              replace f_t0 : w16.frozen? ⟨g_t, 0, none⟩ = false := kf hb16 (by go_simp) (by go_simp)
              replace f_t1 : w16.frozen? ⟨g_t, 1, none⟩ = false := kf hb16 (by go_simp) (by go_simp)
              replace c_t0 : w16.cell? ⟨g_t, 0, none⟩ = some (.int .i64 u) := kp hb16 (by go_cell)
              replace c_t1 : w16.cell? ⟨g_t, 1, none⟩ = some (.int .i64 v) := kp hb16 (by go_cell)
              replace f_s0 : w16.frozen? ⟨w10.heap.size, 0, none⟩ = false := kf hb16 (by go_simp) (by go_simp)
              replace f_s1 : w16.frozen? ⟨w10.heap.size, 1, none⟩ = false := kf hb16 (by go_simp) (by go_simp)
              replace c_s0 : w16.cell? ⟨w10.heap.size, 0, none⟩ = some (.int .i64 D1) := kp hb16 (by go_cell)
              replace c_s1 : w16.cell? ⟨w10.heap.size, 1, none⟩ = some (.int .i64 D2) := kp hb16 (by go_cell)
              replace f_q0 : w16.frozen? ⟨w11.heap.size, 0, none⟩ = false := kf hb16 (by go_simp) (by go_simp)
              replace f_q1 : w16.frozen? ⟨w11.heap.size, 1, none⟩ = false := kf hb16 (by go_simp) (by go_simp)
              replace c_q0 : w16.cell? ⟨w11.heap.size, 0, none⟩ = some (.int .i64 E1) := kp hb16 (by go_cell)
              replace c_q1 : w16.cell? ⟨w11.heap.size, 1, none⟩ = some (.int .i64 E2) := kp hb16 (by go_cell)
              clear hb16 hB15
              go_wp2_with fail
              refine (HM.out _ (HXS.out _ (by go_grown))).mono ?_
              rintro e w17 ⟨rfl, hb17⟩
              have hB17 : Below w.heap.size w w17 := below_after (by go_grown) hb17
              have hz17 := hb17.size
              try simp only [World.size_alloc, World.size_setCell, World.size_drew] at hz17
              have hw17 := hB17.size
              replace c_c0 : w17.cell? ⟨w.heap.size, 0, none⟩ = some (.int .i64 ct) := kp hb17 (by go_cell)
              replace c_c1 : w17.cell? ⟨w.heap.size, 1, none⟩ = some (.int .i64 clo) := kp hb17 (by go_cell)
              replace c_c2 : w17.cell? ⟨w.heap.size, 2, none⟩ = some (.int .i64 chi) := kp hb17 (by go_cell)
              replace c_c3 : w17.cell? ⟨w.heap.size, 3, none⟩ = some (.int .i64 cdr) := kp hb17 (by go_cell)
              replace c_d0 : w17.cell? ⟨w.heap.size + 1, 0, none⟩ = some (.int .i64 dl) := kp hb17 (by go_cell)
              replace c_d1 : w17.cell? ⟨w.heap.size + 1, 1, none⟩ = some (.int .i64 dh) := kp hb17 (by go_cell)
              replace c_y0 : w17.cell? ⟨w.heap.size + 1 + 1, 0, none⟩ = some (.int .i64 tlo) := kp hb17 (by go_cell)
              replace c_y1 : w17.cell? ⟨w.heap.size + 1 + 1, 1, none⟩ = some (.int .i64 thi) := kp hb17 (by go_cell)
              replace f_e0 : w17.frozen? ⟨g_e, 0, none⟩ = false := kf hb17 (by go_simp) (by go_simp)
              replace f_e1 : w17.frozen? ⟨g_e, 1, none⟩ = false := kf hb17 (by go_simp) (by go_simp)
              replace c_e0 : w17.cell? ⟨g_e, 0, none⟩ = some (.int .i64 p) := kp hb17 (by go_cell)
              replace c_e1 : w17.cell? ⟨g_e, 1, none⟩ = some (.int .i64 r) := kp hb17 (by go_cell)
              replace f_t0 : w17.frozen? ⟨g_t, 0, none⟩ = false := kf hb17 (by go_simp) (by go_simp)
              replace f_t1 : w17.frozen? ⟨g_t, 1, none⟩ = false := kf hb17 (by go_simp) (by go_simp)
              replace c_t0 : w17.cell? ⟨g_t, 0, none⟩ = some (.int .i64 u) := kp hb17 (by go_cell)
              replace c_t1 : w17.cell? ⟨g_t, 1, none⟩ = some (.int .i64 v) := kp hb17 (by go_cell)
              replace f_s0 : w17.frozen? ⟨w10.heap.size, 0, none⟩ = false := kf hb17 (by go_simp) (by go_simp)
              replace f_s1 : w17.frozen? ⟨w10.heap.size, 1, none⟩ = false := kf hb17 (by go_simp) (by go_simp)
              replace c_s0 : w17.cell? ⟨w10.heap.size, 0, none⟩ = some (.int .i64 T1) := kp hb17 (by go_cell)
              replace c_s1 : w17.cell? ⟨w10.heap.size, 1, none⟩ = some (.int .i64 T2) := kp hb17 (by go_cell)
              replace f_q0 : w17.frozen? ⟨w11.heap.size, 0, none⟩ = false := kf hb17 (by go_simp) (by go_simp)
              replace f_q1 : w17.frozen? ⟨w11.heap.size, 1, none⟩ = false := kf hb17 (by go_simp) (by go_simp)
              replace c_q0 : w17.cell? ⟨w11.heap.size, 0, none⟩ = some (.int .i64 E1) := kp hb17 (by go_cell)
              replace c_q1 : w17.cell? ⟨w11.heap.size, 1, none⟩ = some (.int .i64 E2) := kp hb17 (by go_cell)
              clear hb17 hB16
              go_wp2_with fail
              refine (HP2.out _).mono ?_
              rintro e w18 ⟨rfl, hb18⟩
              have hB18 : Below w.heap.size w w18 := below_after (by go_grown) hb18
              have hz18 := hb18.size
              try simp only [World.size_alloc, World.size_setCell, World.size_drew] at hz18
              have hw18 := hB18.size
              replace c_c0 : w18.cell? ⟨w.heap.size, 0, none⟩ = some (.int .i64 ct) := kp hb18 (by go_cell)
              replace c_c1 : w18.cell? ⟨w.heap.size, 1, none⟩ = some (.int .i64 clo) := kp hb18 (by go_cell)
              replace c_c2 : w18.cell? ⟨w.heap.size, 2, none⟩ = some (.int .i64 chi) := kp hb18 (by go_cell)
              replace c_c3 : w18.cell? ⟨w.heap.size, 3, none⟩ = some (.int .i64 cdr) := kp hb18 (by go_cell)
              replace c_d0 : w18.cell? ⟨w.heap.size + 1, 0, none⟩ = some (.int .i64 dl) := kp hb18 (by go_cell)
              replace c_d1 : w18.cell? ⟨w.heap.size + 1, 1, none⟩ = some (.int .i64 dh) := kp hb18 (by go_cell)
              replace c_y0 : w18.cell? ⟨w.heap.size + 1 + 1, 0, none⟩ = some (.int .i64 tlo) := kp hb18 (by go_cell)
              replace c_y1 : w18.cell? ⟨w.heap.size + 1 + 1, 1, none⟩ = some (.int .i64 thi) := kp hb18 (by go_cell)
              replace f_e0 : w18.frozen? ⟨g_e, 0, none⟩ = false := kf hb18 (by go_simp) (by go_simp)
              replace f_e1 : w18.frozen? ⟨g_e, 1, none⟩ = false := kf hb18 (by go_simp) (by go_simp)
              replace c_e0 : w18.cell? ⟨g_e, 0, none⟩ = some (.int .i64 p) := kp hb18 (by go_cell)
              replace c_e1 : w18.cell? ⟨g_e, 1, none⟩ = some (.int .i64 r) := kp hb18 (by go_cell)
              replace f_t0 : w18.frozen? ⟨g_t, 0, none⟩ = false := kf hb18 (by go_simp) (by go_simp)
              replace f_t1 : w18.frozen? ⟨g_t, 1, none⟩ = false := kf hb18 (by go_simp) (by go_simp)
              replace c_t0 : w18.cell? ⟨g_t, 0, none⟩ = some (.int .i64 u) := kp hb18 (by go_cell)
              replace c_t1 : w18.cell? ⟨g_t, 1, none⟩ = some (.int .i64 v) := kp hb18 (by go_cell)
              replace f_s0 : w18.frozen? ⟨w10.heap.size, 0, none⟩ = false := kf hb18 (by go_simp) (by go_simp)
              replace f_s1 : w18.frozen? ⟨w10.heap.size, 1, none⟩ = false := kf hb18 (by go_simp) (by go_simp)
              replace c_s0 : w18.cell? ⟨w10.heap.size, 0, none⟩ = some (.int .i64 T1) := kp hb18 (by go_cell)
              replace c_s1 : w18.cell? ⟨w10.heap.size, 1, none⟩ = some (.int .i64 T2) := kp hb18 (by go_cell)
              replace f_q0 : w18.frozen? ⟨w11.heap.size, 0, none⟩ = false := kf hb18 (by go_simp) (by go_simp)
              replace f_q1 : w18.frozen? ⟨w11.heap.size, 1, none⟩ = false := kf hb18 (by go_simp) (by go_simp)
              replace c_q0 : w18.cell? ⟨w11.heap.size, 0, none⟩ = some (.int .i64 U1) := kp hb18 (by go_cell)
              replace c_q1 : w18.cell? ⟨w11.heap.size, 1, none⟩ = some (.int .i64 U2) := kp hb18 (by go_cell)
              clear hb18 hB17
              go_wp2_with fail
              go_ret
              exact ⟨rfl, by go_grown⟩
            · have hr2 : (T3 == 0) = false := by simp [ht0]
              have hr3 : (T3 != 0) = true := by simp [ht0]
              go_wp2_with fail
              refine (HO2.out _).mono ?_
              rintro e w15 ⟨rfl, hb15⟩
              have hB15 : Below w.heap.size w w15 := below_after (by go_grown) hb15
              have hz15 := hb15.size
              try simp only [World.size_alloc, World.size_setCell, World.size_drew] at hz15
              have hw15 := hB15.size
              replace c_c0 : w15.cell? ⟨w.heap.size, 0, none⟩ = some (.int .i64 ct) := kp hb15 (by go_cell)
              replace c_c1 : w15.cell? ⟨w.heap.size, 1, none⟩ = some (.int .i64 clo) := kp hb15 (by go_cell)
              replace c_c2 : w15.cell? ⟨w.heap.size, 2, none⟩ = some (.int .i64 chi) := kp hb15 (by go_cell)
              replace c_c3 : w15.cell? ⟨w.heap.size, 3, none⟩ = some (.int .i64 cdr) := kp hb15 (by go_cell)
              replace c_d0 : w15.cell? ⟨w.heap.size + 1, 0, none⟩ = some (.int .i64 dl) := kp hb15 (by go_cell)
              replace c_d1 : w15.cell? ⟨w.heap.size + 1, 1, none⟩ = some (.int .i64 dh) := kp hb15 (by go_cell)
              replace c_y0 : w15.cell? ⟨w.heap.size + 1 + 1, 0, none⟩ = some (.int .i64 tlo) := kp hb15 (by go_cell)
              replace c_y1 : w15.cell? ⟨w.heap.size + 1 + 1, 1, none⟩ = some (.int .i64 thi) := kp hb15 (by go_cell)
              replace f_e0 : w15.frozen? ⟨g_e, 0, none⟩ = false := kf hb15 (by go_simp) (by go_simp)
              replace f_e1 : w15.frozen? ⟨g_e, 1, none⟩ = false := kf hb15 (by go_simp) (by go_simp)
              replace c_e0 : w15.cell? ⟨g_e, 0, none⟩ = some (.int .i64 p) := kp hb15 (by go_cell)
              replace c_e1 : w15.cell? ⟨g_e, 1, none⟩ = some (.int .i64 r) := kp hb15 (by go_cell)
              replace f_t0 : w15.frozen? ⟨g_t, 0, none⟩ = false := kf hb15 (by go_simp) (by go_simp)
              replace f_t1 : w15.frozen? ⟨g_t, 1, none⟩ = false := kf hb15 (by go_simp) (by go_simp)
              replace c_t0 : w15.cell? ⟨g_t, 0, none⟩ = some (.int .i64 u) := kp hb15 (by go_cell)
              replace c_t1 : w15.cell? ⟨g_t, 1, none⟩ = some (.int .i64 v) := kp hb15 (by go_cell)
              replace f_s0 : w15.frozen? ⟨w10.heap.size, 0, none⟩ = false := kf hb15 (by go_simp) (by go_simp)
              replace f_s1 : w15.frozen? ⟨w10.heap.size, 1, none⟩ = false := kf hb15 (by go_simp) (by go_simp)
              replace c_s0 : w15.cell? ⟨w10.heap.size, 0, none⟩ = some (.int .i64 D1) := kp hb15 (by go_cell)
              replace c_s1 : w15.cell? ⟨w10.heap.size, 1, none⟩ = some (.int .i64 D2) := kp hb15 (by go_cell)
              replace f_q0 : w15.frozen? ⟨w11.heap.size, 0, none⟩ = false := kf hb15 (by go_simp) (by go_simp)
              replace f_q1 : w15.frozen? ⟨w11.heap.size, 1, none⟩ = false := kf hb15 (by go_simp) (by go_simp)
              replace c_q0 : w15.cell? ⟨w11.heap.size, 0, none⟩ = some (.int .i64 E1) := kp hb15 (by go_cell)
              replace c_q1 : w15.cell? ⟨w11.heap.size, 1, none⟩ = some (.int .i64 E2) := kp hb15 (by go_cell)
              clear hb15 hB14
              go_wp2_with fail
              refine (HG.out _ (HXS.out _ (by go_grown))).mono ?_
              rintro e w16 ⟨rfl, hb16⟩
              have hB16 : Below w.heap.size w w16 := below_after (by go_grown) hb16
              have hz16 := hb16.size
              try simp only [World.size_alloc, World.size_setCell, World.size_drew] at hz16
              have hw16 := hB16.size
              replace c_c0 : w16.cell? ⟨w.heap.size, 0, none⟩ = some (.int .i64 ct) := kp hb16 (by go_cell)
              replace c_c1 : w16.cell? ⟨w.heap.size, 1, none⟩ = some (.int .i64 clo) := kp hb16 (by go_cell)
              replace c_c2 : w16.cell? ⟨w.heap.size, 2, none⟩ = some (.int .i64 chi) := kp hb16 (by go_cell)
              replace c_c3 : w16.cell? ⟨w.heap.size, 3, none⟩ = some (.int .i64 cdr) := kp hb16 (by go_cell)
              replace c_d0 : w16.cell? ⟨w.heap.size + 1, 0, none⟩ = some (.int .i64 dl) := kp hb16 (by go_cell)
              replace c_d1 : w16.cell? ⟨w.heap.size + 1, 1, none⟩ = some (.int .i64 dh) := kp hb16 (by go_cell)
              replace c_y0 : w16.cell? ⟨w.heap.size + 1 + 1, 0, none⟩ = some (.int .i64 tlo) := kp hb16 (by go_cell)
              replace c_y1 : w16.cell? ⟨w.heap.size + 1 + 1, 1, none⟩ = some (.int .i64 thi) := kp hb16 (by go_cell)
              replace f_e0 : w16.frozen? ⟨g_e, 0, none⟩ = false := kf hb16 (by go_simp) (by go_simp)
              replace f_e1 : w16.frozen? ⟨g_e, 1, none⟩ = false := kf hb16 (by go_simp) (by go_simp)
              replace c_e0 : w16.cell? ⟨g_e, 0, none⟩ = some (.int .i64 p) := kp hb16 (by go_cell)
              replace c_e1 : w16.cell? ⟨g_e, 1, none⟩ = some (.int .i64 r) := kp hb16 (by go_cell)
              replace f_t0 : w16.frozen? ⟨g_t, 0, none⟩ = false := kf hb16 (by go_simp) (by go_simp)
              replace f_t1 : w16.frozen? ⟨g_t, 1, none⟩ = false := kf hb16 (by go_simp) (by go_simp)
              replace c_t0 : w16.cell? ⟨g_t, 0, none⟩ = some (.int .i64 u) := kp hb16 (by go_cell)
              replace c_t1 : w16.cell? ⟨g_t, 1, none⟩ = some (.int .i64 v) := kp hb16 (by go_cell)
              replace f_s0 : w16.frozen? ⟨w10.heap.size, 0, none⟩ = false := kf hb16 (by go_simp) (by go_simp)
              replace f_s1 : w16.frozen? ⟨w10.heap.size, 1, none⟩ = false := kf hb16 (by go_simp) (by go_simp)
              replace c_s0 : w16.cell? ⟨w10.heap.size, 0, none⟩ = some (.int .i64 D1) := kp hb16 (by go_cell)
              replace c_s1 : w16.cell? ⟨w10.heap.size, 1, none⟩ = some (.int .i64 D2) := kp hb16 (by go_cell)
              replace f_q0 : w16.frozen? ⟨w11.heap.size, 0, none⟩ = false := kf hb16 (by go_simp) (by go_simp)
              replace f_q1 : w16.frozen? ⟨w11.heap.size, 1, none⟩ = false := kf hb16 (by go_simp) (by go_simp)
              replace c_q0 : w16.cell? ⟨w11.heap.size, 0, none⟩ = some (.int .i64 E1) := kp hb16 (by go_cell)
              replace c_q1 : w16.cell? ⟨w11.heap.size, 1, none⟩ = some (.int .i64 E2) := kp hb16 (by go_cell)
              clear hb16 hB15
              go_wp2_with fail
              refine (HM.out _ (HXS.out _ (by go_grown))).mono ?_
              rintro e w17 ⟨rfl, hb17⟩
              have hB17 : Below w.heap.size w w17 := below_after (by go_grown) hb17
              have hz17 := hb17.size
              try simp only [World.size_alloc, World.size_setCell, World.size_drew] at hz17
              have hw17 := hB17.size
              replace c_c0 : w17.cell? ⟨w.heap.size, 0, none⟩ = some (.int .i64 ct) := kp hb17 (by go_cell)
              replace c_c1 : w17.cell? ⟨w.heap.size, 1, none⟩ = some (.int .i64 clo) := kp hb17 (by go_cell)
              replace c_c2 : w17.cell? ⟨w.heap.size, 2, none⟩ = some (.int .i64 chi) := kp hb17 (by go_cell)
              replace c_c3 : w17.cell? ⟨w.heap.size, 3, none⟩ = some (.int .i64 cdr) := kp hb17 (by go_cell)
              replace c_d0 : w17.cell? ⟨w.heap.size + 1, 0, none⟩ = some (.int .i64 dl) := kp hb17 (by go_cell)
              replace c_d1 : w17.cell? ⟨w.heap.size + 1, 1, none⟩ = some (.int .i64 dh) := kp hb17 (by go_cell)
              replace c_y0 : w17.cell? ⟨w.heap.size + 1 + 1, 0, none⟩ = some (.int .i64 tlo) := kp hb17 (by go_cell)
              replace c_y1 : w17.cell? ⟨w.heap.size + 1 + 1, 1, none⟩ = some (.int .i64 thi) := kp hb17 (by go_cell)
              replace f_e0 : w17.frozen? ⟨g_e, 0, none⟩ = false := kf hb17 (by go_simp) (by go_simp)
              replace f_e1 : w17.frozen? ⟨g_e, 1, none⟩ = false := kf hb17 (by go_simp) (by go_simp)
              replace c_e0 : w17.cell? ⟨g_e, 0, none⟩ = some (.int .i64 p) := kp hb17 (by go_cell)
              replace c_e1 : w17.cell? ⟨g_e, 1, none⟩ = some (.int .i64 r) := kp hb17 (by go_cell)
              replace f_t0 : w17.frozen? ⟨g_t, 0, none⟩ = false := kf hb17 (by go_simp) (by go_simp)
              replace f_t1 : w17.frozen? ⟨g_t, 1, none⟩ = false := kf hb17 (by go_simp) (by go_simp)
              replace c_t0 : w17.cell? ⟨g_t, 0, none⟩ = some (.int .i64 u) := kp hb17 (by go_cell)
              replace c_t1 : w17.cell? ⟨g_t, 1, none⟩ = some (.int .i64 v) := kp hb17 (by go_cell)
              replace f_s0 : w17.frozen? ⟨w10.heap.size, 0, none⟩ = false := kf hb17 (by go_simp) (by go_simp)
              replace f_s1 : w17.frozen? ⟨w10.heap.size, 1, none⟩ = false := kf hb17 (by go_simp) (by go_simp)
              replace c_s0 : w17.cell? ⟨w10.heap.size, 0, none⟩ = some (.int .i64 T1) := kp hb17 (by go_cell)
              replace c_s1 : w17.cell? ⟨w10.heap.size, 1, none⟩ = some (.int .i64 T2) := kp hb17 (by go_cell)
              replace f_q0 : w17.frozen? ⟨w11.heap.size, 0, none⟩ = false := kf hb17 (by go_simp) (by go_simp)
              replace f_q1 : w17.frozen? ⟨w11.heap.size, 1, none⟩ = false := kf hb17 (by go_simp) (by go_simp)
              replace c_q0 : w17.cell? ⟨w11.heap.size, 0, none⟩ = some (.int .i64 E1) := kp hb17 (by go_cell)
              replace c_q1 : w17.cell? ⟨w11.heap.size, 1, none⟩ = some (.int .i64 E2) := kp hb17 (by go_cell)
              clear hb17 hB16
              go_wp2_with fail
              go_ret
              exact ⟨rfl, by go_grown⟩
        · have hq2 : (D3 == 0) = false := by simp [hq0]
          have hq3 : (D3 != 0) = true := by simp [hq0]
          rcases hR.out with hr | hr | hr
          · have hr2 : (T3 == 0) = false := by simp [hr]
            have hr3 : (T3 != 0) = true := by simp [hr]
            go_wp2_with fail
            refine (HG.out _ (HXS.out _ (by go_grown))).mono ?_
            rintro e w15 ⟨rfl, hb15⟩
            have hB15 : Below w.heap.size w w15 := below_after (by go_grown) hb15
            have hz15 := hb15.size
            try simp only [World.size_alloc, World.size_setCell, World.size_drew] at hz15
            have hw15 := hB15.size
            replace c_c0 : w15.cell? ⟨w.heap.size, 0, none⟩ = some (.int .i64 ct) := kp hb15 (by go_cell)
            replace c_c1 : w15.cell? ⟨w.heap.size, 1, none⟩ = some (.int .i64 clo) := kp hb15 (by go_cell)
            replace c_c2 : w15.cell? ⟨w.heap.size, 2, none⟩ = some (.int .i64 chi) := kp hb15 (by go_cell)
            replace c_c3 : w15.cell? ⟨w.heap.size, 3, none⟩ = some (.int .i64 cdr) := kp hb15 (by go_cell)
            replace c_d0 : w15.cell? ⟨w.heap.size + 1, 0, none⟩ = some (.int .i64 dl) := kp hb15 (by go_cell)
            replace c_d1 : w15.cell? ⟨w.heap.size + 1, 1, none⟩ = some (.int .i64 dh) := kp hb15 (by go_cell)
            replace c_y0 : w15.cell? ⟨w.heap.size + 1 + 1, 0, none⟩ = some (.int .i64 tlo) := kp hb15 (by go_cell)
            replace c_y1 : w15.cell? ⟨w.heap.size + 1 + 1, 1, none⟩ = some (.int .i64 thi) := kp hb15 (by go_cell)
            replace f_e0 : w15.frozen? ⟨g_e, 0, none⟩ = false := kf hb15 (by go_simp) (by go_simp)
            replace f_e1 : w15.frozen? ⟨g_e, 1, none⟩ = false := kf hb15 (by go_simp) (by go_simp)
            replace c_e0 : w15.cell? ⟨g_e, 0, none⟩ = some (.int .i64 p) := kp hb15 (by go_cell)
            replace c_e1 : w15.cell? ⟨g_e, 1, none⟩ = some (.int .i64 r) := kp hb15 (by go_cell)
            replace f_t0 : w15.frozen? ⟨g_t, 0, none⟩ = false := kf hb15 (by go_simp) (by go_simp)
            replace f_t1 : w15.frozen? ⟨g_t, 1, none⟩ = false := kf hb15 (by go_simp) (by go_simp)
            replace c_t0 : w15.cell? ⟨g_t, 0, none⟩ = some (.int .i64 u) := kp hb15 (by go_cell)
            replace c_t1 : w15.cell? ⟨g_t, 1, none⟩ = some (.int .i64 v) := kp hb15 (by go_cell)
            replace f_s0 : w15.frozen? ⟨w10.heap.size, 0, none⟩ = false := kf hb15 (by go_simp) (by go_simp)
            replace f_s1 : w15.frozen? ⟨w10.heap.size, 1, none⟩ = false := kf hb15 (by go_simp) (by go_simp)
            replace c_s0 : w15.cell? ⟨w10.heap.size, 0, none⟩ = some (.int .i64 D1) := kp hb15 (by go_cell)
            replace c_s1 : w15.cell? ⟨w10.heap.size, 1, none⟩ = some (.int .i64 D2) := kp hb15 (by go_cell)
            replace f_q0 : w15.frozen? ⟨w11.heap.size, 0, none⟩ = false := kf hb15 (by go_simp) (by go_simp)
            replace f_q1 : w15.frozen? ⟨w11.heap.size, 1, none⟩ = false := kf hb15 (by go_simp) (by go_simp)
            replace c_q0 : w15.cell? ⟨w11.heap.size, 0, none⟩ = some (.int .i64 E1) := kp hb15 (by go_cell)
            replace c_q1 : w15.cell? ⟨w11.heap.size, 1, none⟩ = some (.int .i64 E2) := kp hb15 (by go_cell)
            clear hb15 hB14
            go_wp2_with fail
            refine (HM.out _ (HXS.out _ (by go_grown))).mono ?_
            rintro e w16 ⟨rfl, hb16⟩
            have hB16 : Below w.heap.size w w16 := below_after (by go_grown) hb16
            have hz16 := hb16.size
            try simp only [World.size_alloc, World.size_setCell, World.size_drew] at hz16
            have hw16 := hB16.size
            replace c_c0 : w16.cell? ⟨w.heap.size, 0, none⟩ = some (.int .i64 ct) := kp hb16 (by go_cell)
            replace c_c1 : w16.cell? ⟨w.heap.size, 1, none⟩ = some (.int .i64 clo) := kp hb16 (by go_cell)
            replace c_c2 : w16.cell? ⟨w.heap.size, 2, none⟩ = some (.int .i64 chi) := kp hb16 (by go_cell)
            replace c_c3 : w16.cell? ⟨w.heap.size, 3, none⟩ = some (.int .i64 cdr) := kp hb16 (by go_cell)
            replace c_d0 : w16.cell? ⟨w.heap.size + 1, 0, none⟩ = some (.int .i64 dl) := kp hb16 (by go_cell)
            replace c_d1 : w16.cell? ⟨w.heap.size + 1, 1, none⟩ = some (.int .i64 dh) := kp hb16 (by go_cell)
            replace c_y0 : w16.cell? ⟨w.heap.size + 1 + 1, 0, none⟩ = some (.int .i64 tlo) := kp hb16 (by go_cell)
            replace c_y1 : w16.cell? ⟨w.heap.size + 1 + 1, 1, none⟩ = some (.int .i64 thi) := kp hb16 (by go_cell)
            replace f_e0 : w16.frozen? ⟨g_e, 0, none⟩ = false := kf hb16 (by go_simp) (by go_simp)
            replace f_e1 : w16.frozen? ⟨g_e, 1, none⟩ = false := kf hb16 (by go_simp) (by go_simp)
            replace c_e0 : w16.cell? ⟨g_e, 0, none⟩ = some (.int .i64 p) := kp hb16 (by go_cell)
            replace c_e1 : w16.cell? ⟨g_e, 1, none⟩ = some (.int .i64 r) := kp hb16 (by go_cell)
            replace f_t0 : w16.frozen? ⟨g_t, 0, none⟩ = false := kf hb16 (by go_simp) (by go_simp)
            replace f_t1 : w16.frozen? ⟨g_t, 1, none⟩ = false := kf hb16 (by go_simp) (by go_simp)
            replace c_t0 : w16.cell? ⟨g_t, 0, none⟩ = some (.int .i64 u) := kp hb16 (by go_cell)
            replace c_t1 : w16.cell? ⟨g_t, 1, none⟩ = some (.int .i64 v) := kp hb16 (by go_cell)
            replace f_s0 : w16.frozen? ⟨w10.heap.size, 0, none⟩ = false := kf hb16 (by go_simp) (by go_simp)
            replace f_s1 : w16.frozen? ⟨w10.heap.size, 1, none⟩ = false := kf hb16 (by go_simp) (by go_simp)
            replace c_s0 : w16.cell? ⟨w10.heap.size, 0, none⟩ = some (.int .i64 T1) := kp hb16 (by go_cell)
            replace c_s1 : w16.cell? ⟨w10.heap.size, 1, none⟩ = some (.int .i64 T2) := kp hb16 (by go_cell)
            replace f_q0 : w16.frozen? ⟨w11.heap.size, 0, none⟩ = false := kf hb16 (by go_simp) (by go_simp)
            replace f_q1 : w16.frozen? ⟨w11.heap.size, 1, none⟩ = false := kf hb16 (by go_simp) (by go_simp)
            replace c_q0 : w16.cell? ⟨w11.heap.size, 0, none⟩ = some (.int .i64 E1) := kp hb16 (by go_cell)
            replace c_q1 : w16.cell? ⟨w11.heap.size, 1, none⟩ = some (.int .i64 E2) := kp hb16 (by go_cell)
            clear hb16 hB15
            go_wp2_with fail
            go_ret
            exact ⟨rfl, by go_grown⟩
          · subst hr
            by_cases ht0 : T3 = 0
            · subst ht0
              go_wp2_with fail
              refine (HG.out _ (HXS.out _ (by go_grown))).mono ?_
              rintro e w15 ⟨rfl, hb15⟩
              have hB15 : Below w.heap.size w w15 := below_after (by go_grown) hb15
              have hz15 := hb15.size
              try simp only [World.size_alloc, World.size_setCell, World.size_drew] at hz15
              have hw15 := hB15.size
              replace c_c0 : w15.cell? ⟨w.heap.size, 0, none⟩ = some (.int .i64 ct) := kp hb15 (by go_cell)
              replace c_c1 : w15.cell? ⟨w.heap.size, 1, none⟩ = some (.int .i64 clo) := kp hb15 (by go_cell)
              replace c_c2 : w15.cell? ⟨w.heap.size, 2, none⟩ = some (.int .i64 chi) := kp hb15 (by go_cell)
              replace c_c3 : w15.cell? ⟨w.heap.size, 3, none⟩ = some (.int .i64 cdr) := kp hb15 (by go_cell)
              replace c_d0 : w15.cell? ⟨w.heap.size + 1, 0, none⟩ = some (.int .i64 dl) := kp hb15 (by go_cell)
              replace c_d1 : w15.cell? ⟨w.heap.size + 1, 1, none⟩ = some (.int .i64 dh) := kp hb15 (by go_cell)
              replace c_y0 : w15.cell? ⟨w.heap.size + 1 + 1, 0, none⟩ = some (.int .i64 tlo) := kp hb15 (by go_cell)
              replace c_y1 : w15.cell? ⟨w.heap.size + 1 + 1, 1, none⟩ = some (.int .i64 thi) := kp hb15 (by go_cell)
              replace f_e0 : w15.frozen? ⟨g_e, 0, none⟩ = false := kf hb15 (by go_simp) (by go_simp)
              replace f_e1 : w15.frozen? ⟨g_e, 1, none⟩ = false := kf hb15 (by go_simp) (by go_simp)
              replace c_e0 : w15.cell? ⟨g_e, 0, none⟩ = some (.int .i64 p) := kp hb15 (by go_cell)
              replace c_e1 : w15.cell? ⟨g_e, 1, none⟩ = some (.int .i64 r) := kp hb15 (by go_cell)
              replace f_t0 : w15.frozen? ⟨g_t, 0, none⟩ = false := kf hb15 (by go_simp) (by go_simp)
              replace f_t1 : w15.frozen? ⟨g_t, 1, none⟩ = false := kf hb15 (by go_simp) (by go_simp)
              replace c_t0 : w15.cell? ⟨g_t, 0, none⟩ = some (.int .i64 u) := kp hb15 (by go_cell)
              replace c_t1 : w15.cell? ⟨g_t, 1, none⟩ = some (.int .i64 v) := kp hb15 (by go_cell)
              replace f_s0 : w15.frozen? ⟨w10.heap.size, 0, none⟩ = false := kf hb15 (by go_simp) (by go_simp)
              replace f_s1 : w15.frozen? ⟨w10.heap.size, 1, none⟩ = false := kf hb15 (by go_simp) (by go_simp)
              replace c_s0 : w15.cell? ⟨w10.heap.size, 0, none⟩ = some (.int .i64 D1) := kp hb15 (by go_cell)
              replace c_s1 : w15.cell? ⟨w10.heap.size, 1, none⟩ = some (.int .i64 D2) := kp hb15 (by go_cell)
              replace f_q0 : w15.frozen? ⟨w11.heap.size, 0, none⟩ = false := kf hb15 (by go_simp) (by go_simp)
              replace f_q1 : w15.frozen? ⟨w11.heap.size, 1, none⟩ = false := kf hb15 (by go_simp) (by go_simp)
              replace c_q0 : w15.cell? ⟨w11.heap.size, 0, none⟩ = some (.int .i64 E1) := kp hb15 (by go_cell)
              replace c_q1 : w15.cell? ⟨w11.heap.size, 1, none⟩ = some (.int .i64 E2) := kp hb15 (by go_cell)
              clear hb15 hB14
              go_wp2_with fail
              refine (HM.out _ (HXS.out _ (by go_grown))).mono ?_
              rintro e w16 ⟨rfl, hb16⟩
              have hB16 : Below w.heap.size w w16 := below_after (by go_grown) hb16
              have hz16 := hb16.size
              try simp only [World.size_alloc, World.size_setCell, World.size_drew] at hz16
              have hw16 := hB16.size
              replace c_c0 : w16.cell? ⟨w.heap.size, 0, none⟩ = some (.int .i64 ct) := kp hb16 (by go_cell)
              replace c_c1 : w16.cell? ⟨w.heap.size, 1, none⟩ = some (.int .i64 clo) := kp hb16 (by go_cell)
              replace c_c2 : w16.cell? ⟨w.heap.size, 2, none⟩ = some (.int .i64 chi) := kp hb16 (by go_cell)
              replace c_c3 : w16.cell? ⟨w.heap.size, 3, none⟩ = some (.int .i64 cdr) := kp hb16 (by go_cell)
              replace c_d0 : w16.cell? ⟨w.heap.size + 1, 0, none⟩ = some (.int .i64 dl) := kp hb16 (by go_cell)
              replace c_d1 : w16.cell? ⟨w.heap.size + 1, 1, none⟩ = some (.int .i64 dh) := kp hb16 (by go_cell)
              replace c_y0 : w16.cell? ⟨w.heap.size + 1 + 1, 0, none⟩ = some (.int .i64 tlo) := kp hb16 (by go_cell)
              replace c_y1 : w16.cell? ⟨w.heap.size + 1 + 1, 1, none⟩ = some (.int .i64 thi) := kp hb16 (by go_cell)
              replace f_e0 : w16.frozen? ⟨g_e, 0, none⟩ = false := kf hb16 (by go_simp) (by go_simp)
              replace f_e1 : w16.frozen? ⟨g_e, 1, none⟩ = false := kf hb16 (by go_simp) (by go_simp)
              replace c_e0 : w16.cell? ⟨g_e, 0, none⟩ = some (.int .i64 p) := kp hb16 (by go_cell)
              replace c_e1 : w16.cell? ⟨g_e, 1, none⟩ = some (.int .i64 r) := kp hb16 (by go_cell)
              replace f_t0 : w16.frozen? ⟨g_t, 0, none⟩ = false := kf hb16 (by go_simp) (by go_simp)
              replace f_t1 : w16.frozen? ⟨g_t, 1, none⟩ = false := kf hb16 (by go_simp) (by go_simp)
              replace c_t0 : w16.cell? ⟨g_t, 0, none⟩ = some (.int .i64 u) := kp hb16 (by go_cell)
              replace c_t1 : w16.cell? ⟨g_t, 1, none⟩ = some (.int .i64 v) := kp hb16 (by go_cell)
              replace f_s0 : w16.frozen? ⟨w10.heap.size, 0, none⟩ = false := kf hb16 (by go_simp) (by go_simp)
              replace f_s1 : w16.frozen? ⟨w10.heap.size, 1, none⟩ = false := kf hb16 (by go_simp) (by go_simp)
              replace c_s0 : w16.cell? ⟨w10.heap.size, 0, none⟩ = some (.int .i64 T1) := kp hb16 (by go_cell)
              replace c_s1 : w16.cell? ⟨w10.heap.size, 1, none⟩ = some (.int .i64 T2) := kp hb16 (by go_cell)
              replace f_q0 : w16.frozen? ⟨w11.heap.size, 0, none⟩ = false := kf hb16 (by go_simp) (by go_simp)
              replace f_q1 : w16.frozen? ⟨w11.heap.size, 1, none⟩ = false := kf hb16 (by go_simp) (by go_simp)
              replace c_q0 : w16.cell? ⟨w11.heap.size, 0, none⟩ = some (.int .i64 E1) := kp hb16 (by go_cell)
              replace c_q1 : w16.cell? ⟨w11.heap.size, 1, none⟩ = some (.int .i64 E2) := kp hb16 (by go_cell)
              clear hb16 hB15
              go_wp2_with fail
              go_ret
              exact ⟨rfl, by go_grown⟩
            · have hr2 : (T3 == 0) = false := by simp [ht0]
              have hr3 : (T3 != 0) = true := by simp [ht0]
              go_wp2_with fail
              refine (HG.out _ (HXS.out _ (by go_grown))).mono ?_
              rintro e w15 ⟨rfl, hb15⟩
              have hB15 : Below w.heap.size w w15 := below_after (by go_grown) hb15
              have hz15 := hb15.size
              try simp only [World.size_alloc, World.size_setCell, World.size_drew] at hz15
              have hw15 := hB15.size
              replace c_c0 : w15.cell? ⟨w.heap.size, 0, none⟩ = some (.int .i64 ct) := kp hb15 (by go_cell)
              replace c_c1 : w15.cell? ⟨w.heap.size, 1, none⟩ = some (.int .i64 clo) := kp hb15 (by go_cell)
              replace c_c2 : w15.cell? ⟨w.heap.size, 2, none⟩ = some (.int .i64 chi) := kp hb15 (by go_cell)
              replace c_c3 : w15.cell? ⟨w.heap.size, 3, none⟩ = some (.int .i64 cdr) := kp hb15 (by go_cell)
              replace c_d0 : w15.cell? ⟨w.heap.size + 1, 0, none⟩ = some (.int .i64 dl) := kp hb15 (by go_cell)
              replace c_d1 : w15.cell? ⟨w.heap.size + 1, 1, none⟩ = some (.int .i64 dh) := kp hb15 (by go_cell)
              replace c_y0 : w15.cell? ⟨w.heap.size + 1 + 1, 0, none⟩ = some (.int .i64 tlo) := kp hb15 (by go_cell)
              replace c_y1 : w15.cell? ⟨w.heap.size + 1 + 1, 1, none⟩ = some (.int .i64 thi) := kp hb15 (by go_cell)
              replace f_e0 : w15.frozen? ⟨g_e, 0, none⟩ = false := kf hb15 (by go_simp) (by go_simp)
              replace f_e1 : w15.frozen? ⟨g_e, 1, none⟩ = false := kf hb15 (by go_simp) (by go_simp)
              replace c_e0 : w15.cell? ⟨g_e, 0, none⟩ = some (.int .i64 p) := kp hb15 (by go_cell)
              replace c_e1 : w15.cell? ⟨g_e, 1, none⟩ = some (.int .i64 r) := kp hb15 (by go_cell)
              replace f_t0 : w15.frozen? ⟨g_t, 0, none⟩ = false := kf hb15 (by go_simp) (by go_simp)
              replace f_t1 : w15.frozen? ⟨g_t, 1, none⟩ = false := kf hb15 (by go_simp) (by go_simp)
              replace c_t0 : w15.cell? ⟨g_t, 0, none⟩ = some (.int .i64 u) := kp hb15 (by go_cell)
              replace c_t1 : w15.cell? ⟨g_t, 1, none⟩ = some (.int .i64 v) := kp hb15 (by go_cell)
              replace f_s0 : w15.frozen? ⟨w10.heap.size, 0, none⟩ = false := kf hb15 (by go_simp) (by go_simp)
              replace f_s1 : w15.frozen? ⟨w10.heap.size, 1, none⟩ = false := kf hb15 (by go_simp) (by go_simp)
              replace c_s0 : w15.cell? ⟨w10.heap.size, 0, none⟩ = some (.int .i64 D1) := kp hb15 (by go_cell)
              replace c_s1 : w15.cell? ⟨w10.heap.size, 1, none⟩ = some (.int .i64 D2) := kp hb15 (by go_cell)
              replace f_q0 : w15.frozen? ⟨w11.heap.size, 0, none⟩ = false := kf hb15 (by go_simp) (by go_simp)
              replace f_q1 : w15.frozen? ⟨w11.heap.size, 1, none⟩ = false := kf hb15 (by go_simp) (by go_simp)
              replace c_q0 : w15.cell? ⟨w11.heap.size, 0, none⟩ = some (.int .i64 E1) := kp hb15 (by go_cell)
              replace c_q1 : w15.cell? ⟨w11.heap.size, 1, none⟩ = some (.int .i64 E2) := kp hb15 (by go_cell)
              clear hb15 hB14
              go_wp2_with fail
              refine (HM.out _ (HXS.out _ (by go_grown))).mono ?_
              rintro e w16 ⟨rfl, hb16⟩
              have hB16 : Below w.heap.size w w16 := below_after (by go_grown) hb16
              have hz16 := hb16.size
              try simp only [World.size_alloc, World.size_setCell, World.size_drew] at hz16
              have hw16 := hB16.size
              replace c_c0 : w16.cell? ⟨w.heap.size, 0, none⟩ = some (.int .i64 ct) := kp hb16 (by go_cell)
              replace c_c1 : w16.cell? ⟨w.heap.size, 1, none⟩ = some (.int .i64 clo) := kp hb16 (by go_cell)
              replace c_c2 : w16.cell? ⟨w.heap.size, 2, none⟩ = some (.int .i64 chi) := kp hb16 (by go_cell)
              replace c_c3 : w16.cell? ⟨w.heap.size, 3, none⟩ = some (.int .i64 cdr) := kp hb16 (by go_cell)
              replace c_d0 : w16.cell? ⟨w.heap.size + 1, 0, none⟩ = some (.int .i64 dl) := kp hb16 (by go_cell)
              replace c_d1 : w16.cell? ⟨w.heap.size + 1, 1, none⟩ = some (.int .i64 dh) := kp hb16 (by go_cell)
              replace c_y0 : w16.cell? ⟨w.heap.size + 1 + 1, 0, none⟩ = some (.int .i64 tlo) := kp hb16 (by go_cell)
              replace c_y1 : w16.cell? ⟨w.heap.size + 1 + 1, 1, none⟩ = some (.int .i64 thi) := kp hb16 (by go_cell)
              replace f_e0 : w16.frozen? ⟨g_e, 0, none⟩ = false := kf hb16 (by go_simp) (by go_simp)
              replace f_e1 : w16.frozen? ⟨g_e, 1, none⟩ = false := kf hb16 (by go_simp) (by go_simp)
              replace c_e0 : w16.cell? ⟨g_e, 0, none⟩ = some (.int .i64 p) := kp hb16 (by go_cell)
              replace c_e1 : w16.cell? ⟨g_e, 1, none⟩ = some (.int .i64 r) := kp hb16 (by go_cell)
              replace f_t0 : w16.frozen? ⟨g_t, 0, none⟩ = false := kf hb16 (by go_simp) (by go_simp)
              replace f_t1 : w16.frozen? ⟨g_t, 1, none⟩ = false := kf hb16 (by go_simp) (by go_simp)
              replace c_t0 : w16.cell? ⟨g_t, 0, none⟩ = some (.int .i64 u) := kp hb16 (by go_cell)
              replace c_t1 : w16.cell? ⟨g_t, 1, none⟩ = some (.int .i64 v) := kp hb16 (by go_cell)
              replace f_s0 : w16.frozen? ⟨w10.heap.size, 0, none⟩ = false := kf hb16 (by go_simp) (by go_simp)
              replace f_s1 : w16.frozen? ⟨w10.heap.size, 1, none⟩ = false := kf hb16 (by go_simp) (by go_simp)
              replace c_s0 : w16.cell? ⟨w10.heap.size, 0, none⟩ = some (.int .i64 T1) := kp hb16 (by go_cell)
              replace c_s1 : w16.cell? ⟨w10.heap.size, 1, none⟩ = some (.int .i64 T2) := kp hb16 (by go_cell)
              replace f_q0 : w16.frozen? ⟨w11.heap.size, 0, none⟩ = false := kf hb16 (by go_simp) (by go_simp)
              replace f_q1 : w16.frozen? ⟨w11.heap.size, 1, none⟩ = false := kf hb16 (by go_simp) (by go_simp)
              replace c_q0 : w16.cell? ⟨w11.heap.size, 0, none⟩ = some (.int .i64 E1) := kp hb16 (by go_cell)
              replace c_q1 : w16.cell? ⟨w11.heap.size, 1, none⟩ = some (.int .i64 E2) := kp hb16 (by go_cell)
              clear hb16 hB15
              go_wp2_with fail
              go_ret
              exact ⟨rfl, by go_grown⟩
          · have hP2 := HP.out
            rw [show (decide (T1 ≤ U1) && decide (U2 ≤ T2)) = true by simp; omega] at hP2
            have HP2 := Lib.hid hP2
            have hr9 := hr.1
            clear hP2 hr
            subst hr9
            by_cases ht0 : T3 = 0
            · subst ht0
              go_wp2_with fail
              refine (HG.out _ (HXS.out _ (by go_grown))).mono ?_
              rintro e w15 ⟨rfl, hb15⟩
              have hB15 : Below w.heap.size w w15 := below_after (by go_grown) hb15
              have hz15 := hb15.size
              try simp only [World.size_alloc, World.size_setCell, World.size_drew] at hz15
              have hw15 := hB15.size
              replace c_c0 : w15.cell? ⟨w.heap.size, 0, none⟩ = some (.int .i64 ct) := kp hb15 (by go_cell)
              replace c_c1 : w15.cell? ⟨w.heap.size, 1, none⟩ = some (.int .i64 clo) := kp hb15 (by go_cell)
              replace c_c2 : w15.cell? ⟨w.heap.size, 2, none⟩ = some (.int .i64 chi) := kp hb15 (by go_cell)
              replace c_c3 : w15.cell? ⟨w.heap.size, 3, none⟩ = some (.int .i64 cdr) := kp hb15 (by go_cell)
              replace c_d0 : w15.cell? ⟨w.heap.size + 1, 0, none⟩ = some (.int .i64 dl) := kp hb15 (by go_cell)
              replace c_d1 : w15.cell? ⟨w.heap.size + 1, 1, none⟩ = some (.int .i64 dh) := kp hb15 (by go_cell)
              replace c_y0 : w15.cell? ⟨w.heap.size + 1 + 1, 0, none⟩ = some (.int .i64 tlo) := kp hb15 (by go_cell)
              replace c_y1 : w15.cell? ⟨w.heap.size + 1 + 1, 1, none⟩ = some (.int .i64 thi) := kp hb15 (by go_cell)
              replace f_e0 : w15.frozen? ⟨g_e, 0, none⟩ = false := kf hb15 (by go_simp) (by go_simp)
              replace f_e1 : w15.frozen? ⟨g_e, 1, none⟩ = false := kf hb15 (by go_simp) (by go_simp)
              replace c_e0 : w15.cell? ⟨g_e, 0, none⟩ = some (.int .i64 p) := kp hb15 (by go_cell)
              replace c_e1 : w15.cell? ⟨g_e, 1, none⟩ = some (.int .i64 r) := kp hb15 (by go_cell)
              replace f_t0 : w15.frozen? ⟨g_t, 0, none⟩ = false := kf hb15 (by go_simp) (by go_simp)
              replace f_t1 : w15.frozen? ⟨g_t, 1, none⟩ = false := kf hb15 (by go_simp) (by go_simp)
              replace c_t0 : w15.cell? ⟨g_t, 0, none⟩ = some (.int .i64 u) := kp hb15 (by go_cell)
              replace c_t1 : w15.cell? ⟨g_t, 1, none⟩ = some (.int .i64 v) := kp hb15 (by go_cell)
              replace f_s0 : w15.frozen? ⟨w10.heap.size, 0, none⟩ = false := kf hb15 (by go_simp) (by go_simp)
              replace f_s1 : w15.frozen? ⟨w10.heap.size, 1, none⟩ = false := kf hb15 (by go_simp) (by go_simp)
              replace c_s0 : w15.cell? ⟨w10.heap.size, 0, none⟩ = some (.int .i64 D1) := kp hb15 (by go_cell)
              replace c_s1 : w15.cell? ⟨w10.heap.size, 1, none⟩ = some (.int .i64 D2) := kp hb15 (by go_cell)
              replace f_q0 : w15.frozen? ⟨w11.heap.size, 0, none⟩ = false := kf hb15 (by go_simp) (by go_simp)
              replace f_q1 : w15.frozen? ⟨w11.heap.size, 1, none⟩ = false := kf hb15 (by go_simp) (by go_simp)
              replace c_q0 : w15.cell? ⟨w11.heap.size, 0, none⟩ = some (.int .i64 E1) := kp hb15 (by go_cell)
              replace c_q1 : w15.cell? ⟨w11.heap.size, 1, none⟩ = some (.int .i64 E2) := kp hb15 (by go_cell)
              clear hb15 hB14
              go_wp2_with fail
              refine (HM.out _ (HXS.out _ (by go_grown))).mono ?_
              rintro e w16 ⟨rfl, hb16⟩
              have hB16 : Below w.heap.size w w16 := below_after (by go_grown) hb16
              have hz16 := hb16.size
              try simp only [World.size_alloc, World.size_setCell, World.size_drew] at hz16
              have hw16 := hB16.size
              replace c_c0 : w16.cell? ⟨w.heap.size, 0, none⟩ = some (.int .i64 ct) := kp hb16 (by go_cell)
              replace c_c1 : w16.cell? ⟨w.heap.size, 1, none⟩ = some (.int .i64 clo) := kp hb16 (by go_cell)
              replace c_c2 : w16.cell? ⟨w.heap.size, 2, none⟩ = some (.int .i64 chi) := kp hb16 (by go_cell)
              replace c_c3 : w16.cell? ⟨w.heap.size, 3, none⟩ = some (.int .i64 cdr) := kp hb16 (by go_cell)
              replace c_d0 : w16.cell? ⟨w.heap.size + 1, 0, none⟩ = some (.int .i64 dl) := kp hb16 (by go_cell)
              replace c_d1 : w16.cell? ⟨w.heap.size + 1, 1, none⟩ = some (.int .i64 dh) := kp hb16 (by go_cell)
              replace c_y0 : w16.cell? ⟨w.heap.size + 1 + 1, 0, none⟩ = some (.int .i64 tlo) := kp hb16 (by go_cell)
              replace c_y1 : w16.cell? ⟨w.heap.size + 1 + 1, 1, none⟩ = some (.int .i64 thi) := kp hb16 (by go_cell)
              replace f_e0 : w16.frozen? ⟨g_e, 0, none⟩ = false := kf hb16 (by go_simp) (by go_simp)
              replace f_e1 : w16.frozen? ⟨g_e, 1, none⟩ = false := kf hb16 (by go_simp) (by go_simp)
              replace c_e0 : w16.cell? ⟨g_e, 0, none⟩ = some (.int .i64 p) := kp hb16 (by go_cell)
              replace c_e1 : w16.cell? ⟨g_e, 1, none⟩ = some (.int .i64 r) := kp hb16 (by go_cell)
              replace f_t0 : w16.frozen? ⟨g_t, 0, none⟩ = false := kf hb16 (by go_simp) (by go_simp)
              replace f_t1 : w16.frozen? ⟨g_t, 1, none⟩ = false := kf hb16 (by go_simp) (by go_simp)
              replace c_t0 : w16.cell? ⟨g_t, 0, none⟩ = some (.int .i64 u) := kp hb16 (by go_cell)
              replace c_t1 : w16.cell? ⟨g_t, 1, none⟩ = some (.int .i64 v) := kp hb16 (by go_cell)
              replace f_s0 : w16.frozen? ⟨w10.heap.size, 0, none⟩ = false := kf hb16 (by go_simp) (by go_simp)
              replace f_s1 : w16.frozen? ⟨w10.heap.size, 1, none⟩ = false := kf hb16 (by go_simp) (by go_simp)
              replace c_s0 : w16.cell? ⟨w10.heap.size, 0, none⟩ = some (.int .i64 T1) := kp hb16 (by go_cell)
              replace c_s1 : w16.cell? ⟨w10.heap.size, 1, none⟩ = some (.int .i64 T2) := kp hb16 (by go_cell)
              replace f_q0 : w16.frozen? ⟨w11.heap.size, 0, none⟩ = false := kf hb16 (by go_simp) (by go_simp)
              replace f_q1 : w16.frozen? ⟨w11.heap.size, 1, none⟩ = false := kf hb16 (by go_simp) (by go_simp)
              replace c_q0 : w16.cell? ⟨w11.heap.size, 0, none⟩ = some (.int .i64 E1) := kp hb16 (by go_cell)
              replace c_q1 : w16.cell? ⟨w11.heap.size, 1, none⟩ = some (.int .i64 E2) := kp hb16 (by go_cell)
              clear hb16 hB15
              go_wp2_with fail
              refine (HP2.out _).mono ?_
              rintro e w17 ⟨rfl, hb17⟩
              have hB17 : Below w.heap.size w w17 := below_after (by go_grown) hb17
              have hz17 := hb17.size
              try simp only [World.size_alloc, World.size_setCell, World.size_drew] at hz17
              have hw17 := hB17.size
              replace c_c0 : w17.cell? ⟨w.heap.size, 0, none⟩ = some (.int .i64 ct) := kp hb17 (by go_cell)
              replace c_c1 : w17.cell? ⟨w.heap.size, 1, none⟩ = some (.int .i64 clo) := kp hb17 (by go_cell)
              replace c_c2 : w17.cell? ⟨w.heap.size, 2, none⟩ = some (.int .i64 chi) := kp hb17 (by go_cell)
              replace c_c3 : w17.cell? ⟨w.heap.size, 3, none⟩ = some (.int .i64 cdr) := kp hb17 (by go_cell)
              replace c_d0 : w17.cell? ⟨w.heap.size + 1, 0, none⟩ = some (.int .i64 dl) := kp hb17 (by go_cell)
              replace c_d1 : w17.cell? ⟨w.heap.size + 1, 1, none⟩ = some (.int .i64 dh) := kp hb17 (by go_cell)
              replace c_y0 : w17.cell? ⟨w.heap.size + 1 + 1, 0, none⟩ = some (.int .i64 tlo) := kp hb17 (by go_cell)
              replace c_y1 : w17.cell? ⟨w.heap.size + 1 + 1, 1, none⟩ = some (.int .i64 thi) := kp hb17 (by go_cell)
              replace f_e0 : w17.frozen? ⟨g_e, 0, none⟩ = false := kf hb17 (by go_simp) (by go_simp)
              replace f_e1 : w17.frozen? ⟨g_e, 1, none⟩ = false := kf hb17 (by go_simp) (by go_simp)
              replace c_e0 : w17.cell? ⟨g_e, 0, none⟩ = some (.int .i64 p) := kp hb17 (by go_cell)
              replace c_e1 : w17.cell? ⟨g_e, 1, none⟩ = some (.int .i64 r) := kp hb17 (by go_cell)
              replace f_t0 : w17.frozen? ⟨g_t, 0, none⟩ = false := kf hb17 (by go_simp) (by go_simp)
              replace f_t1 : w17.frozen? ⟨g_t, 1, none⟩ = false := kf hb17 (by go_simp) (by go_simp)
              replace c_t0 : w17.cell? ⟨g_t, 0, none⟩ = some (.int .i64 u) := kp hb17 (by go_cell)
              replace c_t1 : w17.cell? ⟨g_t, 1, none⟩ = some (.int .i64 v) := kp hb17 (by go_cell)
              replace f_s0 : w17.frozen? ⟨w10.heap.size, 0, none⟩ = false := kf hb17 (by go_simp) (by go_simp)
              replace f_s1 : w17.frozen? ⟨w10.heap.size, 1, none⟩ = false := kf hb17 (by go_simp) (by go_simp)
              replace c_s0 : w17.cell? ⟨w10.heap.size, 0, none⟩ = some (.int .i64 T1) := kp hb17 (by go_cell)
              replace c_s1 : w17.cell? ⟨w10.heap.size, 1, none⟩ = some (.int .i64 T2) := kp hb17 (by go_cell)
              replace f_q0 : w17.frozen? ⟨w11.heap.size, 0, none⟩ = false := kf hb17 (by go_simp) (by go_simp)
              replace f_q1 : w17.frozen? ⟨w11.heap.size, 1, none⟩ = false := kf hb17 (by go_simp) (by go_simp)
              replace c_q0 : w17.cell? ⟨w11.heap.size, 0, none⟩ = some (.int .i64 U1) := kp hb17 (by go_cell)
              replace c_q1 : w17.cell? ⟨w11.heap.size, 1, none⟩ = some (.int .i64 U2) := kp hb17 (by go_cell)
              clear hb17 hB16
              go_wp2_with fail
              go_ret
              exact ⟨rfl, by go_grown⟩
            · have hr2 : (T3 == 0) = false := by simp [ht0]
              have hr3 : (T3 != 0) = true := by simp [ht0]
              go_wp2_with fail
              refine (HG.out _ (HXS.out _ (by go_grown))).mono ?_
              rintro e w15 ⟨rfl, hb15⟩
              have hB15 : Below w.heap.size w w15 := below_after (by go_grown) hb15
              have hz15 := hb15.size
              try simp only [World.size_alloc, World.size_setCell, World.size_drew] at hz15
              have hw15 := hB15.size
              replace c_c0 : w15.cell? ⟨w.heap.size, 0, none⟩ = some (.int .i64 ct) := kp hb15 (by go_cell)
              replace c_c1 : w15.cell? ⟨w.heap.size, 1, none⟩ = some (.int .i64 clo) := kp hb15 (by go_cell)
              replace c_c2 : w15.cell? ⟨w.heap.size, 2, none⟩ = some (.int .i64 chi) := kp hb15 (by go_cell)
              replace c_c3 : w15.cell? ⟨w.heap.size, 3, none⟩ = some (.int .i64 cdr) := kp hb15 (by go_cell)
              replace c_d0 : w15.cell? ⟨w.heap.size + 1, 0, none⟩ = some (.int .i64 dl) := kp hb15 (by go_cell)
              replace c_d1 : w15.cell? ⟨w.heap.size + 1, 1, none⟩ = some (.int .i64 dh) := kp hb15 (by go_cell)
              replace c_y0 : w15.cell? ⟨w.heap.size + 1 + 1, 0, none⟩ = some (.int .i64 tlo) := kp hb15 (by go_cell)
              replace c_y1 : w15.cell? ⟨w.heap.size + 1 + 1, 1, none⟩ = some (.int .i64 thi) := kp hb15 (by go_cell)
              replace f_e0 : w15.frozen? ⟨g_e, 0, none⟩ = false := kf hb15 (by go_simp) (by go_simp)
              replace f_e1 : w15.frozen? ⟨g_e, 1, none⟩ = false := kf hb15 (by go_simp) (by go_simp)
              replace c_e0 : w15.cell? ⟨g_e, 0, none⟩ = some (.int .i64 p) := kp hb15 (by go_cell)
              replace c_e1 : w15.cell? ⟨g_e, 1, none⟩ = some (.int .i64 r) := kp hb15 (by go_cell)
              replace f_t0 : w15.frozen? ⟨g_t, 0, none⟩ = false := kf hb15 (by go_simp) (by go_simp)
              replace f_t1 : w15.frozen? ⟨g_t, 1, none⟩ = false := kf hb15 (by go_simp) (by go_simp)
              replace c_t0 : w15.cell? ⟨g_t, 0, none⟩ = some (.int .i64 u) := kp hb15 (by go_cell)
              replace c_t1 : w15.cell? ⟨g_t, 1, none⟩ = some (.int .i64 v) := kp hb15 (by go_cell)
              replace f_s0 : w15.frozen? ⟨w10.heap.size, 0, none⟩ = false := kf hb15 (by go_simp) (by go_simp)
              replace f_s1 : w15.frozen? ⟨w10.heap.size, 1, none⟩ = false := kf hb15 (by go_simp) (by go_simp)
              replace c_s0 : w15.cell? ⟨w10.heap.size, 0, none⟩ = some (.int .i64 D1) := kp hb15 (by go_cell)
              replace c_s1 : w15.cell? ⟨w10.heap.size, 1, none⟩ = some (.int .i64 D2) := kp hb15 (by go_cell)
              replace f_q0 : w15.frozen? ⟨w11.heap.size, 0, none⟩ = false := kf hb15 (by go_simp) (by go_simp)
              replace f_q1 : w15.frozen? ⟨w11.heap.size, 1, none⟩ = false := kf hb15 (by go_simp) (by go_simp)
              replace c_q0 : w15.cell? ⟨w11.heap.size, 0, none⟩ = some (.int .i64 E1) := kp hb15 (by go_cell)
              replace c_q1 : w15.cell? ⟨w11.heap.size, 1, none⟩ = some (.int .i64 E2) := kp hb15 (by go_cell)
              clear hb15 hB14
              go_wp2_with fail
              refine (HM.out _ (HXS.out _ (by go_grown))).mono ?_
              rintro e w16 ⟨rfl, hb16⟩
              have hB16 : Below w.heap.size w w16 := below_after (by go_grown) hb16
              have hz16 := hb16.size
              try simp only [World.size_alloc, World.size_setCell, World.size_drew] at hz16
              have hw16 := hB16.size
              replace c_c0 : w16.cell? ⟨w.heap.size, 0, none⟩ = some (.int .i64 ct) := kp hb16 (by go_cell)
              replace c_c1 : w16.cell? ⟨w.heap.size, 1, none⟩ = some (.int .i64 clo) := kp hb16 (by go_cell)
              replace c_c2 : w16.cell? ⟨w.heap.size, 2, none⟩ = some (.int .i64 chi) := kp hb16 (by go_cell)
              replace c_c3 : w16.cell? ⟨w.heap.size, 3, none⟩ = some (.int .i64 cdr) := kp hb16 (by go_cell)
              replace c_d0 : w16.cell? ⟨w.heap.size + 1, 0, none⟩ = some (.int .i64 dl) := kp hb16 (by go_cell)
              replace c_d1 : w16.cell? ⟨w.heap.size + 1, 1, none⟩ = some (.int .i64 dh) := kp hb16 (by go_cell)
              replace c_y0 : w16.cell? ⟨w.heap.size + 1 + 1, 0, none⟩ = some (.int .i64 tlo) := kp hb16 (by go_cell)
              replace c_y1 : w16.cell? ⟨w.heap.size + 1 + 1, 1, none⟩ = some (.int .i64 thi) := kp hb16 (by go_cell)
              replace f_e0 : w16.frozen? ⟨g_e, 0, none⟩ = false := kf hb16 (by go_simp) (by go_simp)
              replace f_e1 : w16.frozen? ⟨g_e, 1, none⟩ = false := kf hb16 (by go_simp) (by go_simp)
              replace c_e0 : w16.cell? ⟨g_e, 0, none⟩ = some (.int .i64 p) := kp hb16 (by go_cell)
              replace c_e1 : w16.cell? ⟨g_e, 1, none⟩ = some (.int .i64 r) := kp hb16 (by go_cell)
              replace f_t0 : w16.frozen? ⟨g_t, 0, none⟩ = false := kf hb16 (by go_simp) (by go_simp)
              replace f_t1 : w16.frozen? ⟨g_t, 1, none⟩ = false := kf hb16 (by go_simp) (by go_simp)
              replace c_t0 : w16.cell? ⟨g_t, 0, none⟩ = some (.int .i64 u) := kp hb16 (by go_cell)
              replace c_t1 : w16.cell? ⟨g_t, 1, none⟩ = some (.int .i64 v) := kp hb16 (by go_cell)
              replace f_s0 : w16.frozen? ⟨w10.heap.size, 0, none⟩ = false := kf hb16 (by go_simp) (by go_simp)
              replace f_s1 : w16.frozen? ⟨w10.heap.size, 1, none⟩ = false := kf hb16 (by go_simp) (by go_simp)
              replace c_s0 : w16.cell? ⟨w10.heap.size, 0, none⟩ = some (.int .i64 T1) := kp hb16 (by go_cell)
              replace c_s1 : w16.cell? ⟨w10.heap.size, 1, none⟩ = some (.int .i64 T2) := kp hb16 (by go_cell)
              replace f_q0 : w16.frozen? ⟨w11.heap.size, 0, none⟩ = false := kf hb16 (by go_simp) (by go_simp)
              replace f_q1 : w16.frozen? ⟨w11.heap.size, 1, none⟩ = false := kf hb16 (by go_simp) (by go_simp)
              replace c_q0 : w16.cell? ⟨w11.heap.size, 0, none⟩ = some (.int .i64 E1) := kp hb16 (by go_cell)
              replace c_q1 : w16.cell? ⟨w11.heap.size, 1, none⟩ = some (.int .i64 E2) := kp hb16 (by go_cell)
              clear hb16 hB15
              go_wp2_with fail
              go_ret
              exact ⟨rfl, by go_grown⟩
theorem wi_walk (A : Option Addr) (n c : Nat) (xs : List Wt) (ct clo chi cdr dl dh tlo thi sent got lo hi : Int) (w : World) (hn : xs.length = n) (hx : Wts? w.heap.size w A xs) (hl0 : 0 ≤ lo) (hl1 : lo < 18446744073709551616) (hi0 : 0 ≤ hi) (hi1 : hi < 18446744073709551616) : Calls Try.prog 21 #[.slice A n c, .agg #[.int .i64 ct, .int .i64 clo, .int .i64 chi, .int .i64 cdr], .agg #[.int .i64 dl, .int .i64 dh], .agg #[.int .i64 tlo, .int .i64 thi], .int .i64 sent, .int .i64 got, .int .u64 lo, .int .u64 hi] w fun e w' => e = .returned (.bool true) ∧ Below w.heap.size w w' := by
  by_cases h0 : n ≤ 25
  · cases h1 : depB dl dh with
    | false => exact wi_b A n c xs ct clo chi cdr dl dh tlo thi sent got lo hi w h0 h1
    | true =>
      cases h2 : timB tlo thi with
      | false => exact wi_c A n c xs ct clo chi cdr dl dh tlo thi sent got lo hi w h0 h1 h2
      | true => exact wi_go A n c xs ct clo chi cdr dl dh tlo thi sent got lo hi w hn hx h0 h1 h2 hl0 hl1 hi0 hi1
  · exact wi_a A n c xs ct clo chi cdr dl dh tlo thi sent got lo hi w (by omega)
end Go.Proofs.Ytollpjdnahemeaa
