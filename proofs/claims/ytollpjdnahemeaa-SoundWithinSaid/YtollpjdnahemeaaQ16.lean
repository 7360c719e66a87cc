import Derived.Test.YtollpjdnahemeaaQ14
import Derived.Deep.RegionHeld3
import Derived.Deep.DeepCutAuto
namespace Go.Proofs.Ytollpjdnahemeaa
open Go.RowKit Go.Shelf
set_option linter.unusedSimpArgs false
set_option linter.unusedVariables false
attribute [local go_sem ↓] Go.wp_at_zero Go.wp_at_succ
set_option maxHeartbeats 1600000 in
set_option maxRecDepth 100000 in
theorem in17_any (lo hi i : Int) (w : World) (h0 : lo ≤ hi) (h1 : -1000000000000 ≤ lo) (h2 : hi ≤ 1000000000000) (hi0 : 0 ≤ i) (hi1 : i < 18446744073709551616) :
    Calls Try.prog 69 #[.agg #[.int .i64 lo, .int .i64 hi], .int .u64 i] w fun e w' => e = .returned (.int .i64 (lo + i % (hi - lo + 1))) ∧ Below w.heap.size w w' := by
  have m1 : 0 ≤ i % (hi - lo + 1) := Int.emod_nonneg _ (by omega)
  have m2 : i % (hi - lo + 1) < hi - lo + 1 := Int.emod_lt_of_pos _ (by omega)
  go_enter Try.func69, Try.ntmps69
  go_wp2_with fail
  go_quiet (fail)
  go_wp2_with fail
  go_ret
  exact ⟨rfl, bdn (by go_grown) _⟩
theorem in_range (lo hi i : Int) (h0 : lo ≤ hi) : lo ≤ lo + i % (hi - lo + 1) ∧ lo + i % (hi - lo + 1) ≤ hi := by
  have m1 : 0 ≤ i % (hi - lo + 1) := Int.emod_nonneg _ (by omega)
  have m2 : i % (hi - lo + 1) < hi - lo + 1 := Int.emod_lt_of_pos _ (by omega)
  omega
theorem mul_mono2 {a b c d : Int} (h0 : 0 ≤ a) (h1 : a ≤ b) (h2 : 0 ≤ c) (h3 : c ≤ d) : a * c ≤ b * d := Int.mul_le_mul h1 h3 h2 (by omega)
set_option maxHeartbeats 1600000 in
set_option maxRecDepth 100000 in
theorem trav_many (A : Option Addr) (n c : Nat) (xs : List Wt) (dl dh tlo thi i k : Int) (w : World) (h25 : 25 < n) : Calls Try.prog 19 #[.slice A n c, .agg #[.int .i64 dl, .int .i64 dh], .agg #[.int .i64 tlo, .int .i64 thi], .int .u64 i, .int .u64 k] w fun e w' => e = .returned (.bool true) ∧ Below w.heap.size w w' := by
  have hF := fun W => bel (Few_any A n c W)
  rw [show decide (n ≤ 25) = false by simp; omega] at hF
  have HF := Lib.hid hF
  clear hF
  go_enter Try.func19, Try.ntmps19
  go_wp2_with fail
  refine (head17_any _).mono ?_
  rintro e w1 ⟨rfl, hb1⟩
  have hB1 : Below w.heap.size w w1 := below_after (by go_grown) hb1
  have hz1 := hb1.size
  try simp only [World.size_alloc, World.size_setCell, World.size_drew] at hz1
  have hw1 := hB1.size
  have c_d0 : w1.cell? ⟨w.heap.size, 0, none⟩ = some (.int .i64 dl) := kp hb1 (by go_cell)
  have c_d1 : w1.cell? ⟨w.heap.size, 1, none⟩ = some (.int .i64 dh) := kp hb1 (by go_cell)
  have c_t0 : w1.cell? ⟨w.heap.size + 1, 0, none⟩ = some (.int .i64 tlo) := kp hb1 (by go_cell)
  have c_t1 : w1.cell? ⟨w.heap.size + 1, 1, none⟩ = some (.int .i64 thi) := kp hb1 (by go_cell)
  clear hb1
  go_wp2_with fail
  refine (HF.out _).mono ?_
  rintro e w2 ⟨rfl, hb2⟩
  have hB2 : Below w.heap.size w w2 := below_after (by go_grown) hb2
  have hz2 := hb2.size
  try simp only [World.size_alloc, World.size_setCell, World.size_drew] at hz2
  have hw2 := hB2.size
  replace c_d0 : w2.cell? ⟨w.heap.size, 0, none⟩ = some (.int .i64 dl) := kp hb2 (by go_cell)
  replace c_d1 : w2.cell? ⟨w.heap.size, 1, none⟩ = some (.int .i64 dh) := kp hb2 (by go_cell)
  replace c_t0 : w2.cell? ⟨w.heap.size + 1, 0, none⟩ = some (.int .i64 tlo) := kp hb2 (by go_cell)
  replace c_t1 : w2.cell? ⟨w.heap.size + 1, 1, none⟩ = some (.int .i64 thi) := kp hb2 (by go_cell)
  clear hb2 hB1
  go_wp2_with fail
  go_ret
  exact ⟨rfl, by go_grown⟩
set_option maxHeartbeats 1600000 in
set_option maxRecDepth 100000 in
theorem trav_b (A : Option Addr) (n c : Nat) (xs : List Wt) (dl dh tlo thi i k : Int) (w : World) (hn : xs.length = n) (hx : Wts? w.heap.size w A xs) (h25 : n ≤ 25) (h : (wValid xs && depB dl dh) = false) : Calls Try.prog 19 #[.slice A n c, .agg #[.int .i64 dl, .int .i64 dh], .agg #[.int .i64 tlo, .int .i64 thi], .int .u64 i, .int .u64 k] w fun e w' => e = .returned (.bool true) ∧ Below w.heap.size w w' := by
  have HXS := Lib.hid (hxs_of hx)
  have hF := fun W => bel (Few_any A n c W)
  rw [show decide (n ≤ 25) = true by simp; omega] at hF
  have HF := Lib.hid hF
  have hA := fun W h => Speed_any A n c xs dl dh W hn (by omega) h
  have hC := fun W h => Dist_any A n c xs dl dh tlo thi W hn (by omega) h
  rw [speedS_no h] at hA
  rw [distS_no (by rw [h]; rfl)] at hC
  have HA := Lib.hid hA
  have HC := Lib.hid hC
  clear hx hn hA hC hF
  go_enter Try.func19, Try.ntmps19
  go_wp2_with fail
  refine (head17_any _).mono ?_
  rintro e w1 ⟨rfl, hb1⟩
  have hB1 : Below w.heap.size w w1 := below_after (by go_grown) hb1
  have hz1 := hb1.size
  try simp only [World.size_alloc, World.size_setCell, World.size_drew] at hz1
  have hw1 := hB1.size
  have c_d0 : w1.cell? ⟨w.heap.size, 0, none⟩ = some (.int .i64 dl) := kp hb1 (by go_cell)
  have c_d1 : w1.cell? ⟨w.heap.size, 1, none⟩ = some (.int .i64 dh) := kp hb1 (by go_cell)
  have c_t0 : w1.cell? ⟨w.heap.size + 1, 0, none⟩ = some (.int .i64 tlo) := kp hb1 (by go_cell)
  have c_t1 : w1.cell? ⟨w.heap.size + 1, 1, none⟩ = some (.int .i64 thi) := kp hb1 (by go_cell)
  clear hb1
  go_wp2_with fail
  refine (HF.out _).mono ?_
  rintro e w2 ⟨rfl, hb2⟩
  have hB2 : Below w.heap.size w w2 := below_after (by go_grown) hb2
  have hz2 := hb2.size
  try simp only [World.size_alloc, World.size_setCell, World.size_drew] at hz2
  have hw2 := hB2.size
  replace c_d0 : w2.cell? ⟨w.heap.size, 0, none⟩ = some (.int .i64 dl) := kp hb2 (by go_cell)
  replace c_d1 : w2.cell? ⟨w.heap.size, 1, none⟩ = some (.int .i64 dh) := kp hb2 (by go_cell)
  replace c_t0 : w2.cell? ⟨w.heap.size + 1, 0, none⟩ = some (.int .i64 tlo) := kp hb2 (by go_cell)
  replace c_t1 : w2.cell? ⟨w.heap.size + 1, 1, none⟩ = some (.int .i64 thi) := kp hb2 (by go_cell)
  clear hb2 hB1
  go_wp2_with fail
  refine (HA.out _ (HXS.out _ (by go_grown))).mono ?_
  rintro e w3 ⟨rfl, hb3⟩
  have hB3 : Below w.heap.size w w3 := below_after (by go_grown) hb3
  have hz3 := hb3.size
  try simp only [World.size_alloc, World.size_setCell, World.size_drew] at hz3
  have hw3 := hB3.size
  replace c_d0 : w3.cell? ⟨w.heap.size, 0, none⟩ = some (.int .i64 dl) := kp hb3 (by go_cell)
  replace c_d1 : w3.cell? ⟨w.heap.size, 1, none⟩ = some (.int .i64 dh) := kp hb3 (by go_cell)
  replace c_t0 : w3.cell? ⟨w.heap.size + 1, 0, none⟩ = some (.int .i64 tlo) := kp hb3 (by go_cell)
  replace c_t1 : w3.cell? ⟨w.heap.size + 1, 1, none⟩ = some (.int .i64 thi) := kp hb3 (by go_cell)
  clear hb3 hB2
  go_wp2_with fail
  refine (HC.out _ (HXS.out _ (by go_grown))).mono ?_
  rintro e w4 ⟨rfl, hb4⟩
  have hB4 : Below w.heap.size w w4 := below_after (by go_grown) hb4
  have hz4 := hb4.size
  try simp only [World.size_alloc, World.size_setCell, World.size_drew] at hz4
  have hw4 := hB4.size
  replace c_d0 : w4.cell? ⟨w.heap.size, 0, none⟩ = some (.int .i64 dl) := kp hb4 (by go_cell)
  replace c_d1 : w4.cell? ⟨w.heap.size, 1, none⟩ = some (.int .i64 dh) := kp hb4 (by go_cell)
  replace c_t0 : w4.cell? ⟨w.heap.size + 1, 0, none⟩ = some (.int .i64 tlo) := kp hb4 (by go_cell)
  replace c_t1 : w4.cell? ⟨w.heap.size + 1, 1, none⟩ = some (.int .i64 thi) := kp hb4 (by go_cell)
  have c_s0 : w4.cell? ⟨w3.heap.size, 0, none⟩ = some (.int .i64 0) := kp hb4 (by go_cell)
  have c_s1 : w4.cell? ⟨w3.heap.size, 1, none⟩ = some (.int .i64 0) := kp hb4 (by go_cell)
  clear hb4 hB3
  go_wp2_with fail
  go_ret
  exact ⟨rfl, by go_grown⟩
set_option maxHeartbeats 1600000 in
set_option maxRecDepth 100000 in
theorem trav_c (A : Option Addr) (n c : Nat) (xs : List Wt) (dl dh tlo thi i k : Int) (w : World) (hn : xs.length = n) (hx : Wts? w.heap.size w A xs) (h25 : n ≤ 25) (h : (wValid xs && depB dl dh) = true) (e9 : Int) (hd9 : distS xs dl dh tlo thi = (0, 0, e9)) (he9 : e9 ≠ 0) : Calls Try.prog 19 #[.slice A n c, .agg #[.int .i64 dl, .int .i64 dh], .agg #[.int .i64 tlo, .int .i64 thi], .int .u64 i, .int .u64 k] w fun e w' => e = .returned (.bool true) ∧ Below w.heap.size w w' := by
  have HXS := Lib.hid (hxs_of hx)
  have hF := fun W => bel (Few_any A n c W)
  rw [show decide (n ≤ 25) = true by simp; omega] at hF
  have HF := Lib.hid hF
  have hA := fun W h => Speed_any A n c xs dl dh W hn (by omega) h
  have hC := fun W h => Dist_any A n c xs dl dh tlo thi W hn (by omega) h
  rw [speedS_ok h] at hA
  rw [hd9] at hC
  generalize (speedP dl dh xs).1 = s1 at *
  generalize (speedP dl dh xs).2 = s2 at *
  have he8 : (e9 == 0) = false := by simp [he9]
  have he7 : (e9 != 0) = true := by simp [he9]
  have HA := Lib.hid hA
  have HC := Lib.hid hC
  clear hx hn hA hC hF hd9
  go_enter Try.func19, Try.ntmps19
  go_wp2_with fail
  refine (head17_any _).mono ?_
  rintro e w1 ⟨rfl, hb1⟩
  have hB1 : Below w.heap.size w w1 := below_after (by go_grown) hb1
  have hz1 := hb1.size
  try simp only [World.size_alloc, World.size_setCell, World.size_drew] at hz1
  have hw1 := hB1.size
  have c_d0 : w1.cell? ⟨w.heap.size, 0, none⟩ = some (.int .i64 dl) := kp hb1 (by go_cell)
  have c_d1 : w1.cell? ⟨w.heap.size, 1, none⟩ = some (.int .i64 dh) := kp hb1 (by go_cell)
  have c_t0 : w1.cell? ⟨w.heap.size + 1, 0, none⟩ = some (.int .i64 tlo) := kp hb1 (by go_cell)
  have c_t1 : w1.cell? ⟨w.heap.size + 1, 1, none⟩ = some (.int .i64 thi) := kp hb1 (by go_cell)
  clear hb1
  go_wp2_with fail
  refine (HF.out _).mono ?_
  rintro e w2 ⟨rfl, hb2⟩
  have hB2 : Below w.heap.size w w2 := below_after (by go_grown) hb2
  have hz2 := hb2.size
  try simp only [World.size_alloc, World.size_setCell, World.size_drew] at hz2
  have hw2 := hB2.size
  replace c_d0 : w2.cell? ⟨w.heap.size, 0, none⟩ = some (.int .i64 dl) := kp hb2 (by go_cell)
  replace c_d1 : w2.cell? ⟨w.heap.size, 1, none⟩ = some (.int .i64 dh) := kp hb2 (by go_cell)
  replace c_t0 : w2.cell? ⟨w.heap.size + 1, 0, none⟩ = some (.int .i64 tlo) := kp hb2 (by go_cell)
  replace c_t1 : w2.cell? ⟨w.heap.size + 1, 1, none⟩ = some (.int .i64 thi) := kp hb2 (by go_cell)
  clear hb2 hB1
  go_wp2_with fail
  refine (HA.out _ (HXS.out _ (by go_grown))).mono ?_
  rintro e w3 ⟨rfl, hb3⟩
  have hB3 : Below w.heap.size w w3 := below_after (by go_grown) hb3
  have hz3 := hb3.size
  try simp only [World.size_alloc, World.size_setCell, World.size_drew] at hz3
  have hw3 := hB3.size
  replace c_d0 : w3.cell? ⟨w.heap.size, 0, none⟩ = some (.int .i64 dl) := kp hb3 (by go_cell)
  replace c_d1 : w3.cell? ⟨w.heap.size, 1, none⟩ = some (.int .i64 dh) := kp hb3 (by go_cell)
  replace c_t0 : w3.cell? ⟨w.heap.size + 1, 0, none⟩ = some (.int .i64 tlo) := kp hb3 (by go_cell)
  replace c_t1 : w3.cell? ⟨w.heap.size + 1, 1, none⟩ = some (.int .i64 thi) := kp hb3 (by go_cell)
  clear hb3 hB2
  go_wp2_with fail
  refine (HC.out _ (HXS.out _ (by go_grown))).mono ?_
  rintro e w4 ⟨rfl, hb4⟩
  have hB4 : Below w.heap.size w w4 := below_after (by go_grown) hb4
  have hz4 := hb4.size
  try simp only [World.size_alloc, World.size_setCell, World.size_drew] at hz4
  have hw4 := hB4.size
  replace c_d0 : w4.cell? ⟨w.heap.size, 0, none⟩ = some (.int .i64 dl) := kp hb4 (by go_cell)
  replace c_d1 : w4.cell? ⟨w.heap.size, 1, none⟩ = some (.int .i64 dh) := kp hb4 (by go_cell)
  replace c_t0 : w4.cell? ⟨w.heap.size + 1, 0, none⟩ = some (.int .i64 tlo) := kp hb4 (by go_cell)
  replace c_t1 : w4.cell? ⟨w.heap.size + 1, 1, none⟩ = some (.int .i64 thi) := kp hb4 (by go_cell)
  have c_s0 : w4.cell? ⟨w3.heap.size, 0, none⟩ = some (.int .i64 s1) := kp hb4 (by go_cell)
  have c_s1 : w4.cell? ⟨w3.heap.size, 1, none⟩ = some (.int .i64 s2) := kp hb4 (by go_cell)
  clear hb4 hB3
  go_wp2_with fail
  go_ret
  exact ⟨rfl, by go_grown⟩
set_option maxHeartbeats 1600000 in
set_option maxRecDepth 100000 in
theorem trav_go (A : Option Addr) (n c : Nat) (xs : List Wt) (dl dh tlo thi i k : Int) (w : World) (hn : xs.length = n) (hx : Wts? w.heap.size w A xs) (h25 : n ≤ 25) (hi0 : 0 ≤ i) (hi1 : i < 18446744073709551616) (hk0 : 0 ≤ k) (hk1 : k < 18446744073709551616) (h : (wValid xs && depB dl dh) = true) (ht : timB tlo thi = true) (hd9 : ¬ 100000 < ((speedP dl dh xs).2 * thi + 999) / 1000) : Calls Try.prog 19 #[.slice A n c, .agg #[.int .i64 dl, .int .i64 dh], .agg #[.int .i64 tlo, .int .i64 thi], .int .u64 i, .int .u64 k] w fun e w' => e = .returned (.bool true) ∧ Below w.heap.size w w' := by
  have HXS := Lib.hid (hxs_of hx)
  have hF := fun W => bel (Few_any A n c W)
  rw [show decide (n ≤ 25) = true by simp; omega] at hF
  have HF := Lib.hid hF
  have hA := fun W h => Speed_any A n c xs dl dh W hn (by omega) h
  have hC := fun W h => Dist_any A n c xs dl dh tlo thi W hn (by omega) h
  rw [speedS_ok h] at hA
  rw [distS_ok (by rw [h, ht]; rfl), distsS, show ((1000 : Int) - 1) = 999 by rfl, if_neg hd9] at hC
  have ok := speedP_ok (and_left h) (and_right h)
  obtain ⟨o1, o2, o3⟩ := ok
  have tb := (timB_iff tlo thi).1 ht
  have hT := fun W => RTimes17_any tlo thi W
  rw [ht] at hT
  simp only at hC
  generalize (speedP dl dh xs).1 = s1 at *
  generalize (speedP dl dh xs).2 = s2 at *
  have hI := fun W => in17_any s1 s2 i W o2 (by omega) (by omega) hi0 hi1
  have hJ := fun W => in17_any tlo thi k W tb.2.1 (by omega) (by omega) hk0 hk1
  have ra := in_range s1 s2 i o2
  have rb := in_range tlo thi k tb.2.1
  generalize s1 + i % (s2 - s1 + 1) = a at *
  generalize tlo + k % (thi - tlo + 1) = b at *
  have p1 := mul_mono2 (a := s1) (b := a) (c := tlo) (d := b) (by omega) ra.1 tb.1 rb.1
  have p2 := mul_mono2 (a := a) (b := s2) (c := b) (d := thi) (by omega) ra.2 (by omega) rb.2
  have p3 := (prod_sp (a := s1) (b := tlo) (by omega) (by omega) (by omega) (by omega)).1
  have p4 := (prod_sp (a := s2) (b := thi) (by omega) (by omega) (by omega) (by omega)).2
  have hw1 : IntKind.i64.wrap (a * b) = a * b := IntWalk.i64_in _ (by omega)
  have hK := fun W => bel (Floor_any (a * b) 1000 W (by omega) (by omega) (by omega) (by omega))
  have hL := fun W => bel (Ceil_any (a * b) 1000 W (by omega) (by omega) (by omega) (by omega))
  have hM := fun W => In_any (s1 * tlo / 1000) ((s2 * thi + 999) / 1000) (a * b / 1000) W
  rw [show (decide (s1 * tlo / 1000 ≤ a * b / 1000) && decide (a * b / 1000 ≤ (s2 * thi + 999) / 1000)) = true by simp; omega] at hM
  have hO := fun W => In_any (s1 * tlo / 1000) ((s2 * thi + 999) / 1000) (-(-(a * b) / 1000)) W
  rw [show (decide (s1 * tlo / 1000 ≤ -(-(a * b) / 1000)) && decide (-(-(a * b) / 1000) ≤ (s2 * thi + 999) / 1000)) = true by simp; omega] at hO
  generalize s1 * tlo / 1000 = d1 at *
  generalize (s2 * thi + 999) / 1000 = d2 at *
  generalize hp : a * b = P at *
  generalize P / 1000 = q1 at *
  generalize -(-P / 1000) = q2 at *
  have HA := Lib.hid hA
  have HC := Lib.hid hC
  have HT := Lib.hid hT
  have HI := Lib.hid hI
  have HJ := Lib.hid hJ
  have HK := Lib.hid hK
  have HL := Lib.hid hL
  have HM := Lib.hid hM
  have HO := Lib.hid hO
  clear hx hn h ht hF p1 p2 p3 p4 ra rb tb hA hC hT hI hJ hK hL hM hO
  go_enter Try.func19, Try.ntmps19
  go_wp2_with fail
  refine (head17_any _).mono ?_
  rintro e w1 ⟨rfl, hb1⟩
  have hB1 : Below w.heap.size w w1 := below_after (by go_grown) hb1
  have hz1 := hb1.size
  try simp only [World.size_alloc, World.size_setCell, World.size_drew] at hz1
  have hw1 := hB1.size
  have c_d0 : w1.cell? ⟨w.heap.size, 0, none⟩ = some (.int .i64 dl) := kp hb1 (by go_cell)
  have c_d1 : w1.cell? ⟨w.heap.size, 1, none⟩ = some (.int .i64 dh) := kp hb1 (by go_cell)
  have c_t0 : w1.cell? ⟨w.heap.size + 1, 0, none⟩ = some (.int .i64 tlo) := kp hb1 (by go_cell)
  have c_t1 : w1.cell? ⟨w.heap.size + 1, 1, none⟩ = some (.int .i64 thi) := kp hb1 (by go_cell)
  clear hb1
  go_wp2_with fail
  refine (HF.out _).mono ?_
  rintro e w2 ⟨rfl, hb2⟩
  have hB2 : Below w.heap.size w w2 := below_after (by go_grown) hb2
  have hz2 := hb2.size
  try simp only [World.size_alloc, World.size_setCell, World.size_drew] at hz2
  have hw2 := hB2.size
  replace c_d0 : w2.cell? ⟨w.heap.size, 0, none⟩ = some (.int .i64 dl) := kp hb2 (by go_cell)
  replace c_d1 : w2.cell? ⟨w.heap.size, 1, none⟩ = some (.int .i64 dh) := kp hb2 (by go_cell)
  replace c_t0 : w2.cell? ⟨w.heap.size + 1, 0, none⟩ = some (.int .i64 tlo) := kp hb2 (by go_cell)
  replace c_t1 : w2.cell? ⟨w.heap.size + 1, 1, none⟩ = some (.int .i64 thi) := kp hb2 (by go_cell)
  clear hb2 hB1
  go_wp2_with fail
  refine (HA.out _ (HXS.out _ (by go_grown))).mono ?_
  rintro e w3 ⟨rfl, hb3⟩
  have hB3 : Below w.heap.size w w3 := below_after (by go_grown) hb3
  have hz3 := hb3.size
  try simp only [World.size_alloc, World.size_setCell, World.size_drew] at hz3
  have hw3 := hB3.size
  replace c_d0 : w3.cell? ⟨w.heap.size, 0, none⟩ = some (.int .i64 dl) := kp hb3 (by go_cell)
  replace c_d1 : w3.cell? ⟨w.heap.size, 1, none⟩ = some (.int .i64 dh) := kp hb3 (by go_cell)
  replace c_t0 : w3.cell? ⟨w.heap.size + 1, 0, none⟩ = some (.int .i64 tlo) := kp hb3 (by go_cell)
  replace c_t1 : w3.cell? ⟨w.heap.size + 1, 1, none⟩ = some (.int .i64 thi) := kp hb3 (by go_cell)
  clear hb3 hB2
  go_wp2_with fail
  refine (HC.out _ (HXS.out _ (by go_grown))).mono ?_
  rintro e w4 ⟨rfl, hb4⟩
  have hB4 : Below w.heap.size w w4 := below_after (by go_grown) hb4
  have hz4 := hb4.size
  try simp only [World.size_alloc, World.size_setCell, World.size_drew] at hz4
  have hw4 := hB4.size
  replace c_d0 : w4.cell? ⟨w.heap.size, 0, none⟩ = some (.int .i64 dl) := kp hb4 (by go_cell)
  replace c_d1 : w4.cell? ⟨w.heap.size, 1, none⟩ = some (.int .i64 dh) := kp hb4 (by go_cell)
  replace c_t0 : w4.cell? ⟨w.heap.size + 1, 0, none⟩ = some (.int .i64 tlo) := kp hb4 (by go_cell)
  replace c_t1 : w4.cell? ⟨w.heap.size + 1, 1, none⟩ = some (.int .i64 thi) := kp hb4 (by go_cell)
  have c_s0 : w4.cell? ⟨w3.heap.size, 0, none⟩ = some (.int .i64 s1) := kp hb4 (by go_cell)
  have c_s1 : w4.cell? ⟨w3.heap.size, 1, none⟩ = some (.int .i64 s2) := kp hb4 (by go_cell)
  clear hb4 hB3
  go_wp2_with fail
  refine (HT.out _).mono ?_
  rintro e w5 ⟨rfl, hb5⟩
  have hB5 : Below w.heap.size w w5 := below_after (by go_grown) hb5
  have hz5 := hb5.size
  try simp only [World.size_alloc, World.size_setCell, World.size_drew] at hz5
  have hw5 := hB5.size
  replace c_d0 : w5.cell? ⟨w.heap.size, 0, none⟩ = some (.int .i64 dl) := kp hb5 (by go_cell)
  replace c_d1 : w5.cell? ⟨w.heap.size, 1, none⟩ = some (.int .i64 dh) := kp hb5 (by go_cell)
  replace c_t0 : w5.cell? ⟨w.heap.size + 1, 0, none⟩ = some (.int .i64 tlo) := kp hb5 (by go_cell)
  replace c_t1 : w5.cell? ⟨w.heap.size + 1, 1, none⟩ = some (.int .i64 thi) := kp hb5 (by go_cell)
  replace c_s0 : w5.cell? ⟨w3.heap.size, 0, none⟩ = some (.int .i64 s1) := kp hb5 (by go_cell)
  replace c_s1 : w5.cell? ⟨w3.heap.size, 1, none⟩ = some (.int .i64 s2) := kp hb5 (by go_cell)
  have c_r0 : w5.cell? ⟨w4.heap.size, 0, none⟩ = some (.int .i64 d1) := kp hb5 (by go_cell)
  have c_r1 : w5.cell? ⟨w4.heap.size, 1, none⟩ = some (.int .i64 d2) := kp hb5 (by go_cell)
  clear hb5 hB4
  go_upto_region 8 with fail
  go_region_held3 (fun w' => Below w.heap.size w w' ∧ w'.cell? ⟨w.heap.size + 1, 0, none⟩ = some (.int .i64 tlo) ∧ w'.cell? ⟨w.heap.size + 1, 1, none⟩ = some (.int .i64 thi) ∧ w'.cell? ⟨w3.heap.size, 0, none⟩ = some (.int .i64 s1) ∧ w'.cell? ⟨w3.heap.size, 1, none⟩ = some (.int .i64 s2) ∧ w'.cell? ⟨w4.heap.size, 0, none⟩ = some (.int .i64 d1) ∧ w'.cell? ⟨w4.heap.size, 1, none⟩ = some (.int .i64 d2))
    ((go_split_ands; refine ⟨?_, ?_, ?_, ?_, ?_, ?_, ?_⟩; (focus (first | (with_reducible assumption) | (go_grown; done) | (exact Below.drew (by go_grown)))); (focus (first | (with_reducible assumption) | go_cell | (go_simp; done))); (focus (first | (with_reducible assumption) | go_cell | (go_simp; done))); (focus (first | (with_reducible assumption) | go_cell | (go_simp; done))); (focus (first | (with_reducible assumption) | go_cell | (go_simp; done))); (focus (first | (with_reducible assumption) | go_cell | (go_simp; done))); (focus (first | (with_reducible assumption) | go_cell | (go_simp; done)))))
    (first | ((go_split_ands; (with_reducible refine (HI.out _).mono ?_); rintro e xa ⟨rfl, hb_xa⟩; have hB_xa : Below w.heap.size w xa := below_after (by assumption) hb_xa; have hw_xa := hB_xa.size; have c_t0_xa : xa.cell? ⟨w.heap.size + 1, 0, none⟩ = some (.int .i64 tlo) := kp hb_xa (by assumption); have c_t1_xa : xa.cell? ⟨w.heap.size + 1, 1, none⟩ = some (.int .i64 thi) := kp hb_xa (by assumption); have c_s0_xa : xa.cell? ⟨w3.heap.size, 0, none⟩ = some (.int .i64 s1) := kp hb_xa (by assumption); have c_s1_xa : xa.cell? ⟨w3.heap.size, 1, none⟩ = some (.int .i64 s2) := kp hb_xa (by assumption); have c_r0_xa : xa.cell? ⟨w4.heap.size, 0, none⟩ = some (.int .i64 d1) := kp hb_xa (by assumption); have c_r1_xa : xa.cell? ⟨w4.heap.size, 1, none⟩ = some (.int .i64 d2) := kp hb_xa (by assumption))) | ((go_split_ands; (with_reducible refine (HJ.out _).mono ?_); rintro e xb ⟨rfl, hb_xb⟩; have hB_xb : Below w.heap.size w xb := below_after (by assumption) hb_xb; have hw_xb := hB_xb.size; have c_t0_xb : xb.cell? ⟨w.heap.size + 1, 0, none⟩ = some (.int .i64 tlo) := kp hb_xb (by assumption); have c_t1_xb : xb.cell? ⟨w.heap.size + 1, 1, none⟩ = some (.int .i64 thi) := kp hb_xb (by assumption); have c_s0_xb : xb.cell? ⟨w3.heap.size, 0, none⟩ = some (.int .i64 s1) := kp hb_xb (by assumption); have c_s1_xb : xb.cell? ⟨w3.heap.size, 1, none⟩ = some (.int .i64 s2) := kp hb_xb (by assumption); have c_r0_xb : xb.cell? ⟨w4.heap.size, 0, none⟩ = some (.int .i64 d1) := kp hb_xb (by assumption); have c_r1_xb : xb.cell? ⟨w4.heap.size, 1, none⟩ = some (.int .i64 d2) := kp hb_xb (by assumption))))
  all_goals go_split_ands
  replace c_t0 := c_t0_xb
  replace c_t1 := c_t1_xb
  replace c_s0 := c_s0_xb
  replace c_s1 := c_s1_xb
  replace c_r0 := c_r0_xb
  replace c_r1 := c_r1_xb
  have hB6 := hB_xb
  have hw6 := hw_xb
  go_upto_region 9 with fail
  go_region_held3 (fun w' => Below w.heap.size w w' ∧ w'.cell? ⟨w4.heap.size, 0, none⟩ = some (.int .i64 d1) ∧ w'.cell? ⟨w4.heap.size, 1, none⟩ = some (.int .i64 d2))
    ((go_split_ands; refine ⟨?_, ?_, ?_⟩; (focus (first | (with_reducible assumption) | (go_grown; done) | (exact Below.drew (by go_grown)))); (focus (first | (with_reducible assumption) | go_cell | (go_simp; done))); (focus (first | (with_reducible assumption) | go_cell | (go_simp; done)))))
    (first | ((go_split_ands; (with_reducible refine (HK.out _).mono ?_); rintro e xc ⟨rfl, hb_xc⟩; have hB_xc : Below w.heap.size w xc := below_after (by assumption) hb_xc; have hw_xc := hB_xc.size; have c_r0_xc : xc.cell? ⟨w4.heap.size, 0, none⟩ = some (.int .i64 d1) := kp hb_xc (by assumption); have c_r1_xc : xc.cell? ⟨w4.heap.size, 1, none⟩ = some (.int .i64 d2) := kp hb_xc (by assumption))) | ((go_split_ands; (with_reducible refine (HM.out _).mono ?_); rintro e xd ⟨rfl, hb_xd⟩; have hB_xd : Below w.heap.size w xd := below_after (by assumption) hb_xd; have hw_xd := hB_xd.size; have c_r0_xd : xd.cell? ⟨w4.heap.size, 0, none⟩ = some (.int .i64 d1) := kp hb_xd (by assumption); have c_r1_xd : xd.cell? ⟨w4.heap.size, 1, none⟩ = some (.int .i64 d2) := kp hb_xd (by assumption))) | ((go_split_ands; (with_reducible refine (HL.out _).mono ?_); rintro e xe ⟨rfl, hb_xe⟩; have hB_xe : Below w.heap.size w xe := below_after (by assumption) hb_xe; have hw_xe := hB_xe.size; have c_r0_xe : xe.cell? ⟨w4.heap.size, 0, none⟩ = some (.int .i64 d1) := kp hb_xe (by assumption); have c_r1_xe : xe.cell? ⟨w4.heap.size, 1, none⟩ = some (.int .i64 d2) := kp hb_xe (by assumption))) | ((go_split_ands; (with_reducible refine (HO.out _).mono ?_); rintro e xf ⟨rfl, hb_xf⟩; have hB_xf : Below w.heap.size w xf := below_after (by assumption) hb_xf; have hw_xf := hB_xf.size; have c_r0_xf : xf.cell? ⟨w4.heap.size, 0, none⟩ = some (.int .i64 d1) := kp hb_xf (by assumption); have c_r1_xf : xf.cell? ⟨w4.heap.size, 1, none⟩ = some (.int .i64 d2) := kp hb_xf (by assumption))))
  all_goals go_split_ands
  replace c_r0 := c_r0_xf
  replace c_r1 := c_r1_xf
  have hB7 := hB_xf
  have hw7 := hw_xf
  all_goals (go_wp2_with fail)
  all_goals go_ret
  all_goals (refine ⟨rfl, ?_⟩ <;> first | assumption | (go_grown; done) | (exact Below.drew (by go_grown)))
theorem trav_walk (A : Option Addr) (n c : Nat) (xs : List Wt) (dl dh tlo thi i k : Int) (w : World) (hn : xs.length = n) (hx : Wts? w.heap.size w A xs) (hi0 : 0 ≤ i) (hi1 : i < 18446744073709551616) (hk0 : 0 ≤ k) (hk1 : k < 18446744073709551616) : Calls Try.prog 19 #[.slice A n c, .agg #[.int .i64 dl, .int .i64 dh], .agg #[.int .i64 tlo, .int .i64 thi], .int .u64 i, .int .u64 k] w fun e w' => e = .returned (.bool true) ∧ Below w.heap.size w w' := by
  by_cases h25 : n ≤ 25
  · cases h : (wValid xs && depB dl dh) with
    | false => exact trav_b A n c xs dl dh tlo thi i k w hn hx h25 h
    | true =>
      cases ht : timB tlo thi with
      | false => exact trav_c A n c xs dl dh tlo thi i k w hn hx h25 h 1 (distS_no (by rw [h, ht]; rfl)) (by omega)
      | true =>
        by_cases hd9 : 100000 < ((speedP dl dh xs).2 * thi + 999) / 1000
        · exact trav_c A n c xs dl dh tlo thi i k w hn hx h25 h 3 (by rw [distS_ok (by rw [h, ht]; rfl), distsS, show ((1000 : Int) - 1) = 999 by rfl, if_pos hd9]) (by omega)
        · exact trav_go A n c xs dl dh tlo thi i k w hn hx h25 hi0 hi1 hk0 hk1 h ht hd9
  · exact trav_many A n c xs dl dh tlo thi i k w (by omega)
end Go.Proofs.Ytollpjdnahemeaa
