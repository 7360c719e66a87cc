import Derived.Test.YtollpjdnahemeaaS3
import Derived.BigQuiet
import Derived.Deep.QuietTactic
namespace Go.Proofs.Ytollpjdnahemeaa
open Go.RowKit
set_option linter.unusedSimpArgs false
set_option linter.unusedVariables false

theorem bdn {B : Nat} {a w : World} (h : Below B a w) (n : Nat) : Below B a (w.drewN n) := h.trans ⟨rfl, rfl, rfl, Nat.le_refl _, fun _ _ => rfl⟩
theorem tdiv_floor (n d : Int) (hd : 0 < d) : n / d = if n.tmod d < 0 then n.tdiv d - 1 else n.tdiv d := by
  have h1 := Int.mul_tdiv_add_tmod n d
  have h2 := Int.tmod_lt_of_pos n hd
  have h3 : -d < n.tmod d := by
    rcases Int.le_total 0 n with h | h
    · have := Int.tmod_nonneg d h
      omega
    · have h4 := Int.tmod_lt_of_pos (-n) hd
      rw [Int.neg_tmod] at h4
      omega
  generalize n.tmod d = r at *
  generalize n.tdiv d = q at *
  split
  · rw [← h1]
    rw [show d * q + r = (r + d) + d * (q - 1) by rw [Int.mul_sub]; omega]
    rw [Int.add_mul_ediv_left _ _ (by omega), Int.ediv_eq_zero_of_lt (by omega) (by omega)]
    omega
  · rw [← h1]
    rw [show d * q + r = r + d * q by omega]
    rw [Int.add_mul_ediv_left _ _ (by omega), Int.ediv_eq_zero_of_lt (by omega) (by omega)]
    omega

set_option maxHeartbeats 400000 in
theorem Floor_any (n d : Int) (w : World) (hd : 0 < d) (hd2 : d ≤ 1000000000) (h1 : -4000000000000000000 ≤ n) (h2 : n ≤ 4000000000000000000) :
    Calls Try.prog 29 #[.int .i64 n, .int .i64 d] w fun e w' => e = .returned (.int .i64 (n / d)) ∧ w = w' := by
  have hf := tdiv_floor n d hd
  have b1 : -4000000000000000000 ≤ n / d := Int.le_ediv_of_mul_le hd (by omega)
  have b2 : n / d ≤ 4000000000000000000 := Int.ediv_le_of_le_mul hd (by omega)
  by_cases hm : n.tmod d < 0
  · rw [if_pos hm] at hf
    have q1 : -3999999999999999999 ≤ n.tdiv d := by omega
    have q2 : n.tdiv d ≤ 4000000000000000001 := by omega
    have HF := Lib.hid hf
    clear hf b1 b2
    go_enter Try.func29, Try.ntmps29
    go_wp2_with fail
    go_ret
    exact ⟨ret_int HF.out.symm, rfl⟩
  · rw [if_neg hm] at hf
    have HF := Lib.hid hf
    clear hf b1 b2
    go_enter Try.func29, Try.ntmps29
    go_wp2_with fail
    go_ret
    exact ⟨ret_int HF.out.symm, rfl⟩
set_option maxHeartbeats 400000 in
theorem in_any (lo hi i : Int) (w : World) (h0 : lo ≤ hi) (h1 : -1000000000000 ≤ lo) (h2 : hi ≤ 1000000000000) (hi0 : 0 ≤ i) (hi1 : i < 18446744073709551616) :
    Calls Try.prog 28 #[.agg #[.int .i64 lo, .int .i64 hi], .int .u64 i] w fun e w' => e = .returned (.int .i64 (lo + i % (hi - lo + 1))) ∧ Below w.heap.size w w' := by
  have m1 : 0 ≤ i % (hi - lo + 1) := Int.emod_nonneg _ (by omega)
  have m2 : i % (hi - lo + 1) < hi - lo + 1 := Int.emod_lt_of_pos _ (by omega)
  go_enter Try.func28, Try.ntmps28
  go_wp2_with fail
  go_quiet (fail)
  go_wp2_with fail
  go_ret
  exact ⟨rfl, bdn (by go_grown) _⟩

set_option maxHeartbeats 400000 in
theorem Ceil_any (n d : Int) (w : World) (hd : 0 < d) (hd2 : d ≤ 1000000000) (h1 : -4000000000000000000 ≤ n) (h2 : n ≤ 4000000000000000000) :
    Calls Try.prog 30 #[.int .i64 n, .int .i64 d] w fun e w' => e = .returned (.int .i64 (-((-n) / d))) ∧ w = w' := by
  have b1 : -4000000000000000000 ≤ (-n) / d := Int.le_ediv_of_mul_le hd (by omega)
  have b2 : (-n) / d ≤ 4000000000000000000 := Int.ediv_le_of_le_mul hd (by omega)
  have HC := fun W => Floor_any (-n) d W hd hd2 (by omega) (by omega)
  have HF := Lib.hid HC
  clear HC
  generalize hq : (-n) / d = q at *
  clear hq
  go_enter Try.func30, Try.ntmps30
  go_wp2_with fail
  refine (HF.out _).mono ?_
  rintro e w1 ⟨rfl, rfl⟩
  go_wp2_with fail
  go_ret
  exact ⟨rfl, rfl⟩

set_option maxHeartbeats 400000 in
theorem In_any (lo hi n : Int) (w : World) :
    Calls Try.prog 31 #[.agg #[.int .i64 lo, .int .i64 hi], .int .i64 n] w fun e w' => e = .returned (.bool (decide (lo ≤ n) && decide (n ≤ hi))) ∧ Below w.heap.size w w' := by
  go_enter Try.func31, Try.ntmps31
  go_wp2_with fail
  all_goals
    go_ret
    refine ⟨ret_bool ?_, by go_grown⟩
    simp [*] <;> try omega

set_option maxHeartbeats 400000 in
theorem Within_any (al ah bl bh : Int) (w : World) :
    Calls Try.prog 36 #[.agg #[.int .i64 al, .int .i64 ah], .agg #[.int .i64 bl, .int .i64 bh]] w fun e w' => e = .returned (.bool (decide (bl ≤ al) && decide (ah ≤ bh))) ∧ Below w.heap.size w w' := by
  go_enter Try.func36, Try.ntmps36
  go_wp2_with fail
  all_goals
    go_ret
    refine ⟨ret_bool ?_, by go_grown⟩
    simp [*] <;> try omega

theorem ret_span1 {R : Ending → World → Prop} {fn : Func} {p : Tmp} {a : Act} {w : World} {B : Nat} {lo hi : Int} (hres : fn.results = #[.cell p 23]) (hd : a.defers = [])
    (hp : a.tmps.getD p undef = .pointer (some ⟨B, 0, none⟩)) (c : w.cell? ⟨B, 0, none⟩ = some (.int .i64 lo) ∧ w.cell? ⟨B, 1, none⟩ = some (.int .i64 hi))
    (hR : R (.returned (.agg #[.int .i64 lo, .int .i64 hi])) w) : bodyPost Try.prog fn R .ret a w := by
  refine bodyPost_ret (v := .agg #[.int .i64 lo, .int .i64 hi]) ?_ hd hR
  have hp' : a.tmps[p]?.getD undef = .pointer (some ⟨B, 0, none⟩) := by simpa using hp
  simp only [results, hres]
  simp [Sem.run_bind, Result.andThen, hp', go_sem, c.1, c.2]

set_option maxHeartbeats 400000 in
theorem of_any (lo hi : Int) (w : World) :
    Calls Try.prog 32 #[.int .i64 lo, .int .i64 hi] w fun e w' => e = .returned (.agg #[.int .i64 lo, .int .i64 hi]) ∧ Below w.heap.size w w' := by
  go_enter Try.func32, Try.ntmps32
  go_wp2_with fail
  refine ret_span1 (B := w.heap.size) rfl rfl rfl ⟨by go_cell, by go_cell⟩ ⟨rfl, by go_grown⟩

set_option maxHeartbeats 400000 in
theorem of17_any (lo hi : Int) (w : World) :
    Calls Try.prog 70 #[.int .i64 lo, .int .i64 hi] w fun e w' => e = .returned (.agg #[.int .i64 lo, .int .i64 hi]) ∧ Below w.heap.size w w' := by
  go_enter Try.func70, Try.ntmps70
  go_wp2_with fail
  refine ret_span1 (B := w.heap.size) rfl rfl rfl ⟨by go_cell, by go_cell⟩ ⟨rfl, by go_grown⟩


set_option maxHeartbeats 400000 in
theorem result_any (lo hi : Int) (w : World) :
    Calls Try.prog 76 #[.agg #[.int .i64 lo, .int .i64 hi]] w fun e w' => e = .returned (.tuple #[.agg #[.int .i64 (leastS lo hi).1, .int .i64 (leastS lo hi).2.1], .int .i64 (leastS lo hi).2.2]) ∧ Below w.heap.size w w' := by
  have H := fun w => RValid_any lo hi w
  cases hv : vld lo hi
  case false =>
    have hr : leastS lo hi = (0, 0, 3) := by simp [leastS, hv]
    rw [hv] at H
    have HV := Lib.hid H
    have HR := Lib.hid hr
    clear hv H hr
    go_enter Try.func76, Try.ntmps76
    go_wp2_with fail
    refine (HV.out _).mono ?_
    rintro e w1 ⟨rfl, hb1⟩
    have hB1 : Below w.heap.size w w1 := below_after (by go_grown) hb1
    have hz1 := hb1.size
    try simp only [World.size_alloc, World.size_setCell, World.size_drew] at hz1
    have c_a0 : w1.cell? ⟨w.heap.size, 0, none⟩ = some (.int .i64 lo) := kp hb1 (by go_cell)
    have c_a1 : w1.cell? ⟨w.heap.size, 1, none⟩ = some (.int .i64 hi) := kp hb1 (by go_cell)
    have f_r0 : w1.frozen? ⟨w.heap.size + 1, 0, none⟩ = false := kf hb1 (by go_simp) (by go_simp)
    have f_r1 : w1.frozen? ⟨w.heap.size + 1, 1, none⟩ = false := kf hb1 (by go_simp) (by go_simp)
    have c_r0 : w1.cell? ⟨w.heap.size + 1, 0, none⟩ = some (.int .i64 0) := kp hb1 (by go_cell)
    have c_r1 : w1.cell? ⟨w.heap.size + 1, 1, none⟩ = some (.int .i64 0) := kp hb1 (by go_cell)
    clear hb1
    go_wp2_with fail
    rw [HR.out]
    refine ret_span (B := w.heap.size + 1) rfl rfl rfl (set2s _ _ (by go_simp) (by go_simp)) ⟨rfl, ?_⟩
    go_grown
  case true =>
    have hr : leastS lo hi = (lo, hi, 0) := by simp [leastS, hv]
    rw [hv] at H
    have HV := Lib.hid H
    have HR := Lib.hid hr
    clear hv H hr
    go_enter Try.func76, Try.ntmps76
    go_wp2_with fail
    refine (HV.out _).mono ?_
    rintro e w1 ⟨rfl, hb1⟩
    have hB1 : Below w.heap.size w w1 := below_after (by go_grown) hb1
    have hz1 := hb1.size
    try simp only [World.size_alloc, World.size_setCell, World.size_drew] at hz1
    have c_a0 : w1.cell? ⟨w.heap.size, 0, none⟩ = some (.int .i64 lo) := kp hb1 (by go_cell)
    have c_a1 : w1.cell? ⟨w.heap.size, 1, none⟩ = some (.int .i64 hi) := kp hb1 (by go_cell)
    have f_r0 : w1.frozen? ⟨w.heap.size + 1, 0, none⟩ = false := kf hb1 (by go_simp) (by go_simp)
    have f_r1 : w1.frozen? ⟨w.heap.size + 1, 1, none⟩ = false := kf hb1 (by go_simp) (by go_simp)
    have c_r0 : w1.cell? ⟨w.heap.size + 1, 0, none⟩ = some (.int .i64 0) := kp hb1 (by go_cell)
    have c_r1 : w1.cell? ⟨w.heap.size + 1, 1, none⟩ = some (.int .i64 0) := kp hb1 (by go_cell)
    clear hb1
    go_wp2_with fail
    rw [HR.out]
    refine ret_span (B := w.heap.size + 1) rfl rfl rfl (set2s _ _ (by go_simp) (by go_simp)) ⟨rfl, ?_⟩
    go_grown

set_option maxHeartbeats 400000 in
theorem both_any (al ah bl bh : Int) (w : World) :
    Calls Try.prog 75 #[.agg #[.int .i64 al, .int .i64 ah], .agg #[.int .i64 bl, .int .i64 bh]] w fun e w' => e = .returned (.bool (vld al ah && vld bl bh)) ∧ Below w.heap.size w w' := by
  have H1 := fun w => RValid_any al ah w
  have H2 := fun w => RValid_any bl bh w
  generalize vld al ah = x at *
  generalize vld bl bh = y at *
  have HV1 := Lib.hid H1
  have HV2 := Lib.hid H2
  clear H1 H2
  cases x <;> cases y
  all_goals
    go_enter Try.func75, Try.ntmps75
    go_wp2_with fail
    refine (HV1.out _).mono ?_
    rintro e w1 ⟨rfl, hb1⟩
    have hB1 : Below w.heap.size w w1 := below_after (by go_grown) hb1
    have hz1 := hb1.size
    try simp only [World.size_alloc, World.size_setCell, World.size_drew] at hz1
    have c_a0 : w1.cell? ⟨w.heap.size, 0, none⟩ = some (.int .i64 al) := kp hb1 (by go_cell)
    have c_a1 : w1.cell? ⟨w.heap.size, 1, none⟩ = some (.int .i64 ah) := kp hb1 (by go_cell)
    have c_b0 : w1.cell? ⟨w.heap.size + 1, 0, none⟩ = some (.int .i64 bl) := kp hb1 (by go_cell)
    have c_b1 : w1.cell? ⟨w.heap.size + 1, 1, none⟩ = some (.int .i64 bh) := kp hb1 (by go_cell)
    clear hb1
    go_wp2_with fail
    refine (HV2.out _).mono ?_
    rintro e w2 ⟨rfl, hb2⟩
    have hB2 : Below w.heap.size w w2 := below_after (by go_grown) hb2
    have hz2 := hb2.size
    try simp only [World.size_alloc, World.size_setCell, World.size_drew] at hz2
    replace c_a0 : w2.cell? ⟨w.heap.size, 0, none⟩ = some (.int .i64 al) := kp hb2 (by go_cell)
    replace c_a1 : w2.cell? ⟨w.heap.size, 1, none⟩ = some (.int .i64 ah) := kp hb2 (by go_cell)
    replace c_b0 : w2.cell? ⟨w.heap.size + 1, 0, none⟩ = some (.int .i64 bl) := kp hb2 (by go_cell)
    replace c_b1 : w2.cell? ⟨w.heap.size + 1, 1, none⟩ = some (.int .i64 bh) := kp hb2 (by go_cell)
    clear hb2 hB1
    go_wp2_with fail
    go_ret
    exact ⟨rfl, by go_grown⟩

def partsB (lo hi : Int) : Bool := vld lo hi && decide (0 ≤ lo) && decide (hi ≤ 1000000)

set_option maxHeartbeats 400000 in
theorem Parts_any (lo hi : Int) (w : World) :
    Calls Try.prog 27 #[.agg #[.int .i64 lo, .int .i64 hi]] w fun e w' => e = .returned (.bool (partsB lo hi)) ∧ Below w.heap.size w w' := by
  have H1 := fun w => RValid_any lo hi w
  have hr : ∀ b, vld lo hi = b → partsB lo hi = (b && decide (0 ≤ lo) && decide (hi ≤ 1000000)) := by rintro b rfl; rfl
  cases hx : vld lo hi
  all_goals
    rw [hx] at H1
    have HV1 := Lib.hid H1
    have HR := Lib.hid (hr _ hx)
    clear H1 hx hr
    go_enter Try.func27, Try.ntmps27
    go_wp2_with fail
    refine (HV1.out _).mono ?_
    rintro e w1 ⟨rfl, hb1⟩
    have hB1 : Below w.heap.size w w1 := below_after (by go_grown) hb1
    have hz1 := hb1.size
    try simp only [World.size_alloc, World.size_setCell, World.size_drew] at hz1
    have c_a0 : w1.cell? ⟨w.heap.size, 0, none⟩ = some (.int .i64 lo) := kp hb1 (by go_cell)
    have c_a1 : w1.cell? ⟨w.heap.size, 1, none⟩ = some (.int .i64 hi) := kp hb1 (by go_cell)
    clear hb1
    go_wp2_with fail
    all_goals
      go_ret
      refine ⟨ret_bool ?_, by go_grown⟩
      rw [HR.out]
      simp [*] <;> try omega

set_option maxHeartbeats 400000 in
theorem RHas_any (lo hi n : Int) (w : World) :
    Calls Try.prog 40 #[.agg #[.int .i64 lo, .int .i64 hi], .int .i64 n] w fun e w' => e = .returned (.tuple #[.bool (hasS lo hi n).1, .int .i64 (hasS lo hi n).2]) ∧ Below w.heap.size w w' := by
  have H := fun w => RValid_any lo hi w
  have HI := fun w => In_any lo hi n w
  have HN := Lib.hid HI
  clear HI
  cases hv : vld lo hi
  case false =>
    have hr : hasS lo hi n = (false, 1) := by simp [hasS, hv]
    rw [hv] at H
    have HV := Lib.hid H
    have HR := Lib.hid hr
    clear hv H hr
    generalize (decide (lo ≤ n) && decide (n ≤ hi)) = x at *
    go_enter Try.func40, Try.ntmps40
    go_wp2_with fail
    refine (HV.out _).mono ?_
    rintro e w1 ⟨rfl, hb1⟩
    have hB1 : Below w.heap.size w w1 := below_after (by go_grown) hb1
    have hz1 := hb1.size
    try simp only [World.size_alloc, World.size_setCell, World.size_drew] at hz1
    have c_a0 : w1.cell? ⟨w.heap.size, 0, none⟩ = some (.int .i64 lo) := kp hb1 (by go_cell)
    have c_a1 : w1.cell? ⟨w.heap.size, 1, none⟩ = some (.int .i64 hi) := kp hb1 (by go_cell)
    clear hb1
    go_wp2_with fail
    go_ret2
    exact ⟨by rw [HR.out]; rfl, by go_grown⟩
  case true =>
    have hr : hasS lo hi n = (decide (lo ≤ n) && decide (n ≤ hi), 0) := by simp [hasS, hv]
    rw [hv] at H
    have HV := Lib.hid H
    have HR := Lib.hid hr
    clear hv H hr
    generalize (decide (lo ≤ n) && decide (n ≤ hi)) = x at *
    go_enter Try.func40, Try.ntmps40
    go_wp2_with fail
    refine (HV.out _).mono ?_
    rintro e w1 ⟨rfl, hb1⟩
    have hB1 : Below w.heap.size w w1 := below_after (by go_grown) hb1
    have hz1 := hb1.size
    try simp only [World.size_alloc, World.size_setCell, World.size_drew] at hz1
    have c_a0 : w1.cell? ⟨w.heap.size, 0, none⟩ = some (.int .i64 lo) := kp hb1 (by go_cell)
    have c_a1 : w1.cell? ⟨w.heap.size, 1, none⟩ = some (.int .i64 hi) := kp hb1 (by go_cell)
    clear hb1
    go_wp2_with fail
    refine (HN.out _).mono ?_
    rintro e w2 ⟨rfl, hb2⟩
    have hB2 : Below w.heap.size w w2 := below_after (by go_grown) hb2
    have hz2 := hb2.size
    try simp only [World.size_alloc, World.size_setCell, World.size_drew] at hz2
    clear hb2 hB1
    go_wp2_with fail
    go_ret2
    exact ⟨by rw [HR.out]; rfl, by go_grown⟩

set_option maxHeartbeats 400000 in
theorem RAdd_any (al ah bl bh : Int) (w : World) :
    Calls Try.prog 41 #[.agg #[.int .i64 al, .int .i64 ah], .agg #[.int .i64 bl, .int .i64 bh]] w fun e w' => e = .returned (.tuple #[.agg #[.int .i64 (addS al ah bl bh).1, .int .i64 (addS al ah bl bh).2.1], .int .i64 (addS al ah bl bh).2.2]) ∧ Below w.heap.size w w' := by
  have H := fun w => both_any al ah bl bh w
  cases hv : (vld al ah && vld bl bh)
  case false =>
    have hr : addS al ah bl bh = (0, 0, 1) := by simp [addS, hv]
    rw [hv] at H
    have HV := Lib.hid H
    have HR := Lib.hid hr
    clear hv H hr
    go_enter Try.func41, Try.ntmps41
    go_wp2_with fail
    refine (HV.out _).mono ?_
    rintro e w1 ⟨rfl, hb1⟩
    have hB1 : Below w.heap.size w w1 := below_after (by go_grown) hb1
    have hz1 := hb1.size
    try simp only [World.size_alloc, World.size_setCell, World.size_drew] at hz1
    have f_r0 : w1.frozen? ⟨w.heap.size + 1 + 1, 0, none⟩ = false := kf hb1 (by go_simp) (by go_simp)
    have f_r1 : w1.frozen? ⟨w.heap.size + 1 + 1, 1, none⟩ = false := kf hb1 (by go_simp) (by go_simp)
    have c_r0 : w1.cell? ⟨w.heap.size + 1 + 1, 0, none⟩ = some (.int .i64 0) := kp hb1 (by go_cell)
    have c_r1 : w1.cell? ⟨w.heap.size + 1 + 1, 1, none⟩ = some (.int .i64 0) := kp hb1 (by go_cell)
    clear hb1
    go_wp2_with fail
    rw [HR.out]
    refine ret_span (B := w.heap.size + 1 + 1) rfl rfl rfl (set2s _ _ (by go_simp) (by go_simp)) ⟨rfl, ?_⟩
    go_grown
  case true =>
    have hr : addS al ah bl bh = leastS (al + bl) (ah + bh) := by simp [addS, hv]
    rw [hv] at H
    have HV := Lib.hid H
    have HR := Lib.hid hr
    have va := vld_bounds (and_left hv)
    have vb := vld_bounds (and_right hv)
    obtain ⟨va1, va2, va3⟩ := va
    obtain ⟨vb1, vb2, vb3⟩ := vb
    clear hv H hr
    go_enter Try.func41, Try.ntmps41
    go_wp2_with fail
    refine (HV.out _).mono ?_
    rintro e w1 ⟨rfl, hb1⟩
    have hB1 : Below w.heap.size w w1 := below_after (by go_grown) hb1
    have hz1 := hb1.size
    try simp only [World.size_alloc, World.size_setCell, World.size_drew] at hz1
    have c_a0 : w1.cell? ⟨w.heap.size, 0, none⟩ = some (.int .i64 al) := kp hb1 (by go_cell)
    have c_a1 : w1.cell? ⟨w.heap.size, 1, none⟩ = some (.int .i64 ah) := kp hb1 (by go_cell)
    have c_b0 : w1.cell? ⟨w.heap.size + 1, 0, none⟩ = some (.int .i64 bl) := kp hb1 (by go_cell)
    have c_b1 : w1.cell? ⟨w.heap.size + 1, 1, none⟩ = some (.int .i64 bh) := kp hb1 (by go_cell)
    have f_r0 : w1.frozen? ⟨w.heap.size + 1 + 1, 0, none⟩ = false := kf hb1 (by go_simp) (by go_simp)
    have f_r1 : w1.frozen? ⟨w.heap.size + 1 + 1, 1, none⟩ = false := kf hb1 (by go_simp) (by go_simp)
    have c_r0 : w1.cell? ⟨w.heap.size + 1 + 1, 0, none⟩ = some (.int .i64 0) := kp hb1 (by go_cell)
    have c_r1 : w1.cell? ⟨w.heap.size + 1 + 1, 1, none⟩ = some (.int .i64 0) := kp hb1 (by go_cell)
    clear hb1
    go_wp2_with fail
    refine (result_any _ _ _).mono ?_
    rintro e w2 ⟨rfl, hb2⟩
    have hB2 : Below w.heap.size w w2 := below_after (by go_grown) hb2
    have hz2 := hb2.size
    try simp only [World.size_alloc, World.size_setCell, World.size_drew] at hz2
    replace f_r0 : w2.frozen? ⟨w.heap.size + 1 + 1, 0, none⟩ = false := kf hb2 (by go_simp) (by go_simp)
    replace f_r1 : w2.frozen? ⟨w.heap.size + 1 + 1, 1, none⟩ = false := kf hb2 (by go_simp) (by go_simp)
    replace c_r0 : w2.cell? ⟨w.heap.size + 1 + 1, 0, none⟩ = some (.int .i64 0) := kp hb2 (by go_cell)
    replace c_r1 : w2.cell? ⟨w.heap.size + 1 + 1, 1, none⟩ = some (.int .i64 0) := kp hb2 (by go_cell)
    clear hb2 hB1
    go_wp2_with fail
    rw [HR.out]
    refine ret_span (B := w.heap.size + 1 + 1) rfl rfl rfl (set2s _ _ (by go_simp) (by go_simp)) ⟨rfl, ?_⟩
    go_grown

set_option maxHeartbeats 400000 in
theorem RSub_any (al ah bl bh : Int) (w : World) :
    Calls Try.prog 42 #[.agg #[.int .i64 al, .int .i64 ah], .agg #[.int .i64 bl, .int .i64 bh]] w fun e w' => e = .returned (.tuple #[.agg #[.int .i64 (subS al ah bl bh).1, .int .i64 (subS al ah bl bh).2.1], .int .i64 (subS al ah bl bh).2.2]) ∧ Below w.heap.size w w' := by
  have H := fun w => both_any al ah bl bh w
  cases hv : (vld al ah && vld bl bh)
  case false =>
    have hr : subS al ah bl bh = (0, 0, 1) := by simp [subS, hv]
    rw [hv] at H
    have HV := Lib.hid H
    have HR := Lib.hid hr
    clear hv H hr
    go_enter Try.func42, Try.ntmps42
    go_wp2_with fail
    refine (HV.out _).mono ?_
    rintro e w1 ⟨rfl, hb1⟩
    have hB1 : Below w.heap.size w w1 := below_after (by go_grown) hb1
    have hz1 := hb1.size
    try simp only [World.size_alloc, World.size_setCell, World.size_drew] at hz1
    have f_r0 : w1.frozen? ⟨w.heap.size + 1 + 1, 0, none⟩ = false := kf hb1 (by go_simp) (by go_simp)
    have f_r1 : w1.frozen? ⟨w.heap.size + 1 + 1, 1, none⟩ = false := kf hb1 (by go_simp) (by go_simp)
    have c_r0 : w1.cell? ⟨w.heap.size + 1 + 1, 0, none⟩ = some (.int .i64 0) := kp hb1 (by go_cell)
    have c_r1 : w1.cell? ⟨w.heap.size + 1 + 1, 1, none⟩ = some (.int .i64 0) := kp hb1 (by go_cell)
    clear hb1
    go_wp2_with fail
    rw [HR.out]
    refine ret_span (B := w.heap.size + 1 + 1) rfl rfl rfl (set2s _ _ (by go_simp) (by go_simp)) ⟨rfl, ?_⟩
    go_grown
  case true =>
    have hr : subS al ah bl bh = leastS (al - bh) (ah - bl) := by simp [subS, hv]
    rw [hv] at H
    have HV := Lib.hid H
    have HR := Lib.hid hr
    have va := vld_bounds (and_left hv)
    have vb := vld_bounds (and_right hv)
    obtain ⟨va1, va2, va3⟩ := va
    obtain ⟨vb1, vb2, vb3⟩ := vb
    clear hv H hr
    go_enter Try.func42, Try.ntmps42
    go_wp2_with fail
    refine (HV.out _).mono ?_
    rintro e w1 ⟨rfl, hb1⟩
    have hB1 : Below w.heap.size w w1 := below_after (by go_grown) hb1
    have hz1 := hb1.size
    try simp only [World.size_alloc, World.size_setCell, World.size_drew] at hz1
    have c_a0 : w1.cell? ⟨w.heap.size, 0, none⟩ = some (.int .i64 al) := kp hb1 (by go_cell)
    have c_a1 : w1.cell? ⟨w.heap.size, 1, none⟩ = some (.int .i64 ah) := kp hb1 (by go_cell)
    have c_b0 : w1.cell? ⟨w.heap.size + 1, 0, none⟩ = some (.int .i64 bl) := kp hb1 (by go_cell)
    have c_b1 : w1.cell? ⟨w.heap.size + 1, 1, none⟩ = some (.int .i64 bh) := kp hb1 (by go_cell)
    have f_r0 : w1.frozen? ⟨w.heap.size + 1 + 1, 0, none⟩ = false := kf hb1 (by go_simp) (by go_simp)
    have f_r1 : w1.frozen? ⟨w.heap.size + 1 + 1, 1, none⟩ = false := kf hb1 (by go_simp) (by go_simp)
    have c_r0 : w1.cell? ⟨w.heap.size + 1 + 1, 0, none⟩ = some (.int .i64 0) := kp hb1 (by go_cell)
    have c_r1 : w1.cell? ⟨w.heap.size + 1 + 1, 1, none⟩ = some (.int .i64 0) := kp hb1 (by go_cell)
    clear hb1
    go_wp2_with fail
    refine (result_any _ _ _).mono ?_
    rintro e w2 ⟨rfl, hb2⟩
    have hB2 : Below w.heap.size w w2 := below_after (by go_grown) hb2
    have hz2 := hb2.size
    try simp only [World.size_alloc, World.size_setCell, World.size_drew] at hz2
    replace f_r0 : w2.frozen? ⟨w.heap.size + 1 + 1, 0, none⟩ = false := kf hb2 (by go_simp) (by go_simp)
    replace f_r1 : w2.frozen? ⟨w.heap.size + 1 + 1, 1, none⟩ = false := kf hb2 (by go_simp) (by go_simp)
    replace c_r0 : w2.cell? ⟨w.heap.size + 1 + 1, 0, none⟩ = some (.int .i64 0) := kp hb2 (by go_cell)
    replace c_r1 : w2.cell? ⟨w.heap.size + 1 + 1, 1, none⟩ = some (.int .i64 0) := kp hb2 (by go_cell)
    clear hb2 hB1
    go_wp2_with fail
    rw [HR.out]
    refine ret_span (B := w.heap.size + 1 + 1) rfl rfl rfl (set2s _ _ (by go_simp) (by go_simp)) ⟨rfl, ?_⟩
    go_grown

set_option maxHeartbeats 400000 in
theorem RJoin_any (al ah bl bh : Int) (w : World) :
    Calls Try.prog 44 #[.agg #[.int .i64 al, .int .i64 ah], .agg #[.int .i64 bl, .int .i64 bh]] w fun e w' => e = .returned (.tuple #[.agg #[.int .i64 (joinS al ah bl bh).1, .int .i64 (joinS al ah bl bh).2.1], .int .i64 (joinS al ah bl bh).2.2]) ∧ Below w.heap.size w w' := by
  have H := fun w => both_any al ah bl bh w
  cases hv : (vld al ah && vld bl bh)
  case false =>
    have hr : joinS al ah bl bh = (0, 0, 1) := by simp [joinS, hv]
    rw [hv] at H
    have HV := Lib.hid H
    have HR := Lib.hid hr
    clear hv H hr
    go_enter Try.func44, Try.ntmps44
    go_wp2_with fail
    refine (HV.out _).mono ?_
    rintro e w1 ⟨rfl, hb1⟩
    have hB1 : Below w.heap.size w w1 := below_after (by go_grown) hb1
    have hz1 := hb1.size
    try simp only [World.size_alloc, World.size_setCell, World.size_drew] at hz1
    have f_r0 : w1.frozen? ⟨w.heap.size + 1 + 1, 0, none⟩ = false := kf hb1 (by go_simp) (by go_simp)
    have f_r1 : w1.frozen? ⟨w.heap.size + 1 + 1, 1, none⟩ = false := kf hb1 (by go_simp) (by go_simp)
    have c_r0 : w1.cell? ⟨w.heap.size + 1 + 1, 0, none⟩ = some (.int .i64 0) := kp hb1 (by go_cell)
    have c_r1 : w1.cell? ⟨w.heap.size + 1 + 1, 1, none⟩ = some (.int .i64 0) := kp hb1 (by go_cell)
    clear hb1
    go_wp2_with fail
    rw [HR.out]
    refine ret_span (B := w.heap.size + 1 + 1) rfl rfl rfl (set2s _ _ (by go_simp) (by go_simp)) ⟨rfl, ?_⟩
    go_grown
  case true =>
    have hr : joinS al ah bl bh = (min al bl, max ah bh, 0) := by simp [joinS, hv]
    rw [hv] at H
    have HV := Lib.hid H
    have va := vld_bounds (and_left hv)
    have vb := vld_bounds (and_right hv)
    obtain ⟨va1, va2, va3⟩ := va
    obtain ⟨vb1, vb2, vb3⟩ := vb
    clear hv H
    by_cases h1 : bl < al
    · by_cases h2 : ah < bh
      · have hr2 : joinS al ah bl bh = (bl, bh, 0) := by rw [hr, show min al bl = bl by omega, show max ah bh = bh by omega]
        have HR := Lib.hid hr2
        clear hr hr2
        go_enter Try.func44, Try.ntmps44
        go_wp2_with fail
        refine (HV.out _).mono ?_
        rintro e w1 ⟨rfl, hb1⟩
        have hB1 : Below w.heap.size w w1 := below_after (by go_grown) hb1
        have hz1 := hb1.size
        try simp only [World.size_alloc, World.size_setCell, World.size_drew] at hz1
        have c_a0 : w1.cell? ⟨w.heap.size, 0, none⟩ = some (.int .i64 al) := kp hb1 (by go_cell)
        have c_a1 : w1.cell? ⟨w.heap.size, 1, none⟩ = some (.int .i64 ah) := kp hb1 (by go_cell)
        have c_b0 : w1.cell? ⟨w.heap.size + 1, 0, none⟩ = some (.int .i64 bl) := kp hb1 (by go_cell)
        have c_b1 : w1.cell? ⟨w.heap.size + 1, 1, none⟩ = some (.int .i64 bh) := kp hb1 (by go_cell)
        have f_r0 : w1.frozen? ⟨w.heap.size + 1 + 1, 0, none⟩ = false := kf hb1 (by go_simp) (by go_simp)
        have f_r1 : w1.frozen? ⟨w.heap.size + 1 + 1, 1, none⟩ = false := kf hb1 (by go_simp) (by go_simp)
        have c_r0 : w1.cell? ⟨w.heap.size + 1 + 1, 0, none⟩ = some (.int .i64 0) := kp hb1 (by go_cell)
        have c_r1 : w1.cell? ⟨w.heap.size + 1 + 1, 1, none⟩ = some (.int .i64 0) := kp hb1 (by go_cell)
        clear hb1
        go_wp2_with fail
        rw [HR.out]
        refine ret_span (B := w.heap.size + 1 + 1) rfl rfl rfl (set2s _ _ (by go_simp) (by go_simp)) ⟨rfl, ?_⟩
        go_grown
      · have hr2 : joinS al ah bl bh = (bl, ah, 0) := by rw [hr, show min al bl = bl by omega, show max ah bh = ah by omega]
        have HR := Lib.hid hr2
        clear hr hr2
        go_enter Try.func44, Try.ntmps44
        go_wp2_with fail
        refine (HV.out _).mono ?_
        rintro e w1 ⟨rfl, hb1⟩
        have hB1 : Below w.heap.size w w1 := below_after (by go_grown) hb1
        have hz1 := hb1.size
        try simp only [World.size_alloc, World.size_setCell, World.size_drew] at hz1
        have c_a0 : w1.cell? ⟨w.heap.size, 0, none⟩ = some (.int .i64 al) := kp hb1 (by go_cell)
        have c_a1 : w1.cell? ⟨w.heap.size, 1, none⟩ = some (.int .i64 ah) := kp hb1 (by go_cell)
        have c_b0 : w1.cell? ⟨w.heap.size + 1, 0, none⟩ = some (.int .i64 bl) := kp hb1 (by go_cell)
        have c_b1 : w1.cell? ⟨w.heap.size + 1, 1, none⟩ = some (.int .i64 bh) := kp hb1 (by go_cell)
        have f_r0 : w1.frozen? ⟨w.heap.size + 1 + 1, 0, none⟩ = false := kf hb1 (by go_simp) (by go_simp)
        have f_r1 : w1.frozen? ⟨w.heap.size + 1 + 1, 1, none⟩ = false := kf hb1 (by go_simp) (by go_simp)
        have c_r0 : w1.cell? ⟨w.heap.size + 1 + 1, 0, none⟩ = some (.int .i64 0) := kp hb1 (by go_cell)
        have c_r1 : w1.cell? ⟨w.heap.size + 1 + 1, 1, none⟩ = some (.int .i64 0) := kp hb1 (by go_cell)
        clear hb1
        go_wp2_with fail
        rw [HR.out]
        refine ret_span (B := w.heap.size + 1 + 1) rfl rfl rfl (set2s _ _ (by go_simp) (by go_simp)) ⟨rfl, ?_⟩
        go_grown
    · by_cases h2 : ah < bh
      · have hr2 : joinS al ah bl bh = (al, bh, 0) := by rw [hr, show min al bl = al by omega, show max ah bh = bh by omega]
        have HR := Lib.hid hr2
        clear hr hr2
        go_enter Try.func44, Try.ntmps44
        go_wp2_with fail
        refine (HV.out _).mono ?_
        rintro e w1 ⟨rfl, hb1⟩
        have hB1 : Below w.heap.size w w1 := below_after (by go_grown) hb1
        have hz1 := hb1.size
        try simp only [World.size_alloc, World.size_setCell, World.size_drew] at hz1
        have c_a0 : w1.cell? ⟨w.heap.size, 0, none⟩ = some (.int .i64 al) := kp hb1 (by go_cell)
        have c_a1 : w1.cell? ⟨w.heap.size, 1, none⟩ = some (.int .i64 ah) := kp hb1 (by go_cell)
        have c_b0 : w1.cell? ⟨w.heap.size + 1, 0, none⟩ = some (.int .i64 bl) := kp hb1 (by go_cell)
        have c_b1 : w1.cell? ⟨w.heap.size + 1, 1, none⟩ = some (.int .i64 bh) := kp hb1 (by go_cell)
        have f_r0 : w1.frozen? ⟨w.heap.size + 1 + 1, 0, none⟩ = false := kf hb1 (by go_simp) (by go_simp)
        have f_r1 : w1.frozen? ⟨w.heap.size + 1 + 1, 1, none⟩ = false := kf hb1 (by go_simp) (by go_simp)
        have c_r0 : w1.cell? ⟨w.heap.size + 1 + 1, 0, none⟩ = some (.int .i64 0) := kp hb1 (by go_cell)
        have c_r1 : w1.cell? ⟨w.heap.size + 1 + 1, 1, none⟩ = some (.int .i64 0) := kp hb1 (by go_cell)
        clear hb1
        go_wp2_with fail
        rw [HR.out]
        refine ret_span (B := w.heap.size + 1 + 1) rfl rfl rfl (set2s _ _ (by go_simp) (by go_simp)) ⟨rfl, ?_⟩
        go_grown
      · have hr2 : joinS al ah bl bh = (al, ah, 0) := by rw [hr, show min al bl = al by omega, show max ah bh = ah by omega]
        have HR := Lib.hid hr2
        clear hr hr2
        go_enter Try.func44, Try.ntmps44
        go_wp2_with fail
        refine (HV.out _).mono ?_
        rintro e w1 ⟨rfl, hb1⟩
        have hB1 : Below w.heap.size w w1 := below_after (by go_grown) hb1
        have hz1 := hb1.size
        try simp only [World.size_alloc, World.size_setCell, World.size_drew] at hz1
        have c_a0 : w1.cell? ⟨w.heap.size, 0, none⟩ = some (.int .i64 al) := kp hb1 (by go_cell)
        have c_a1 : w1.cell? ⟨w.heap.size, 1, none⟩ = some (.int .i64 ah) := kp hb1 (by go_cell)
        have c_b0 : w1.cell? ⟨w.heap.size + 1, 0, none⟩ = some (.int .i64 bl) := kp hb1 (by go_cell)
        have c_b1 : w1.cell? ⟨w.heap.size + 1, 1, none⟩ = some (.int .i64 bh) := kp hb1 (by go_cell)
        have f_r0 : w1.frozen? ⟨w.heap.size + 1 + 1, 0, none⟩ = false := kf hb1 (by go_simp) (by go_simp)
        have f_r1 : w1.frozen? ⟨w.heap.size + 1 + 1, 1, none⟩ = false := kf hb1 (by go_simp) (by go_simp)
        have c_r0 : w1.cell? ⟨w.heap.size + 1 + 1, 0, none⟩ = some (.int .i64 0) := kp hb1 (by go_cell)
        have c_r1 : w1.cell? ⟨w.heap.size + 1 + 1, 1, none⟩ = some (.int .i64 0) := kp hb1 (by go_cell)
        clear hb1
        go_wp2_with fail
        rw [HR.out]
        refine ret_span (B := w.heap.size + 1 + 1) rfl rfl rfl (set2s _ _ (by go_simp) (by go_simp)) ⟨rfl, ?_⟩
        go_grown

set_option maxHeartbeats 400000 in
theorem RMeet_any (al ah bl bh : Int) (w : World) :
    Calls Try.prog 43 #[.agg #[.int .i64 al, .int .i64 ah], .agg #[.int .i64 bl, .int .i64 bh]] w fun e w' => e = .returned (.tuple #[.agg #[.int .i64 (meetS al ah bl bh).1, .int .i64 (meetS al ah bl bh).2.1], .bool (meetS al ah bl bh).2.2.1, .int .i64 (meetS al ah bl bh).2.2.2]) ∧ Below w.heap.size w w' := by
  have H := fun w => both_any al ah bl bh w
  cases hv : (vld al ah && vld bl bh)
  case false =>
    have hr : meetS al ah bl bh = (0, 0, false, 1) := by simp [meetS, hv]
    rw [hv] at H
    have HV := Lib.hid H
    have HR := Lib.hid hr
    clear hv H hr
    go_enter Try.func43, Try.ntmps43
    go_wp2_with fail
    refine (HV.out _).mono ?_
    rintro e w1 ⟨rfl, hb1⟩
    have hB1 : Below w.heap.size w w1 := below_after (by go_grown) hb1
    have hz1 := hb1.size
    try simp only [World.size_alloc, World.size_setCell, World.size_drew] at hz1
    have f_r0 : w1.frozen? ⟨w.heap.size + 1 + 1, 0, none⟩ = false := kf hb1 (by go_simp) (by go_simp)
    have f_r1 : w1.frozen? ⟨w.heap.size + 1 + 1, 1, none⟩ = false := kf hb1 (by go_simp) (by go_simp)
    have c_r0 : w1.cell? ⟨w.heap.size + 1 + 1, 0, none⟩ = some (.int .i64 0) := kp hb1 (by go_cell)
    have c_r1 : w1.cell? ⟨w.heap.size + 1 + 1, 1, none⟩ = some (.int .i64 0) := kp hb1 (by go_cell)
    clear hb1
    go_wp2_with fail
    rw [HR.out]
    refine ret_span_bool (B := w.heap.size + 1 + 1) rfl rfl rfl (set2s _ _ (by go_simp) (by go_simp)) ⟨rfl, ?_⟩
    go_grown
  case true =>
    have hr : meetS al ah bl bh = if min ah bh < max al bl then (0, 0, false, 0) else (max al bl, min ah bh, true, 0) := by simp [meetS, hv]
    rw [hv] at H
    have HV := Lib.hid H
    have va := vld_bounds (and_left hv)
    have vb := vld_bounds (and_right hv)
    obtain ⟨va1, va2, va3⟩ := va
    obtain ⟨vb1, vb2, vb3⟩ := vb
    clear hv H
    by_cases h1 : al < bl
    · by_cases h2 : bh < ah
      · by_cases h3 : bh < bl
        · exfalso; omega
        · have hr2 : meetS al ah bl bh = (bl, bh, true, 0) := by rw [hr, show max al bl = bl by omega, show min ah bh = bh by omega]; simp [h3]
          have HR := Lib.hid hr2
          clear hr hr2
          go_enter Try.func43, Try.ntmps43
          go_wp2_with fail
          refine (HV.out _).mono ?_
          rintro e w1 ⟨rfl, hb1⟩
          have hB1 : Below w.heap.size w w1 := below_after (by go_grown) hb1
          have hz1 := hb1.size
          try simp only [World.size_alloc, World.size_setCell, World.size_drew] at hz1
          have c_a0 : w1.cell? ⟨w.heap.size, 0, none⟩ = some (.int .i64 al) := kp hb1 (by go_cell)
          have c_a1 : w1.cell? ⟨w.heap.size, 1, none⟩ = some (.int .i64 ah) := kp hb1 (by go_cell)
          have c_b0 : w1.cell? ⟨w.heap.size + 1, 0, none⟩ = some (.int .i64 bl) := kp hb1 (by go_cell)
          have c_b1 : w1.cell? ⟨w.heap.size + 1, 1, none⟩ = some (.int .i64 bh) := kp hb1 (by go_cell)
          have f_r0 : w1.frozen? ⟨w.heap.size + 1 + 1, 0, none⟩ = false := kf hb1 (by go_simp) (by go_simp)
          have f_r1 : w1.frozen? ⟨w.heap.size + 1 + 1, 1, none⟩ = false := kf hb1 (by go_simp) (by go_simp)
          have c_r0 : w1.cell? ⟨w.heap.size + 1 + 1, 0, none⟩ = some (.int .i64 0) := kp hb1 (by go_cell)
          have c_r1 : w1.cell? ⟨w.heap.size + 1 + 1, 1, none⟩ = some (.int .i64 0) := kp hb1 (by go_cell)
          clear hb1
          go_wp2_with fail
          rw [HR.out]
          refine ret_span_bool (B := w.heap.size + 1 + 1) rfl rfl rfl (set2s _ _ (by go_simp) (by go_simp)) ⟨rfl, ?_⟩
          go_grown
      · by_cases h3 : ah < bl
        · have hr2 : meetS al ah bl bh = (0, 0, false, 0) := by rw [hr, show max al bl = bl by omega, show min ah bh = ah by omega]; simp [h3]
          have HR := Lib.hid hr2
          clear hr hr2
          go_enter Try.func43, Try.ntmps43
          go_wp2_with fail
          refine (HV.out _).mono ?_
          rintro e w1 ⟨rfl, hb1⟩
          have hB1 : Below w.heap.size w w1 := below_after (by go_grown) hb1
          have hz1 := hb1.size
          try simp only [World.size_alloc, World.size_setCell, World.size_drew] at hz1
          have c_a0 : w1.cell? ⟨w.heap.size, 0, none⟩ = some (.int .i64 al) := kp hb1 (by go_cell)
          have c_a1 : w1.cell? ⟨w.heap.size, 1, none⟩ = some (.int .i64 ah) := kp hb1 (by go_cell)
          have c_b0 : w1.cell? ⟨w.heap.size + 1, 0, none⟩ = some (.int .i64 bl) := kp hb1 (by go_cell)
          have c_b1 : w1.cell? ⟨w.heap.size + 1, 1, none⟩ = some (.int .i64 bh) := kp hb1 (by go_cell)
          have f_r0 : w1.frozen? ⟨w.heap.size + 1 + 1, 0, none⟩ = false := kf hb1 (by go_simp) (by go_simp)
          have f_r1 : w1.frozen? ⟨w.heap.size + 1 + 1, 1, none⟩ = false := kf hb1 (by go_simp) (by go_simp)
          have c_r0 : w1.cell? ⟨w.heap.size + 1 + 1, 0, none⟩ = some (.int .i64 0) := kp hb1 (by go_cell)
          have c_r1 : w1.cell? ⟨w.heap.size + 1 + 1, 1, none⟩ = some (.int .i64 0) := kp hb1 (by go_cell)
          clear hb1
          go_wp2_with fail
          rw [HR.out]
          refine ret_span_bool (B := w.heap.size + 1 + 1) rfl rfl rfl (set2s _ _ (by go_simp) (by go_simp)) ⟨rfl, ?_⟩
          go_grown
        · have hr2 : meetS al ah bl bh = (bl, ah, true, 0) := by rw [hr, show max al bl = bl by omega, show min ah bh = ah by omega]; simp [h3]
          have HR := Lib.hid hr2
          clear hr hr2
          go_enter Try.func43, Try.ntmps43
          go_wp2_with fail
          refine (HV.out _).mono ?_
          rintro e w1 ⟨rfl, hb1⟩
          have hB1 : Below w.heap.size w w1 := below_after (by go_grown) hb1
          have hz1 := hb1.size
          try simp only [World.size_alloc, World.size_setCell, World.size_drew] at hz1
          have c_a0 : w1.cell? ⟨w.heap.size, 0, none⟩ = some (.int .i64 al) := kp hb1 (by go_cell)
          have c_a1 : w1.cell? ⟨w.heap.size, 1, none⟩ = some (.int .i64 ah) := kp hb1 (by go_cell)
          have c_b0 : w1.cell? ⟨w.heap.size + 1, 0, none⟩ = some (.int .i64 bl) := kp hb1 (by go_cell)
          have c_b1 : w1.cell? ⟨w.heap.size + 1, 1, none⟩ = some (.int .i64 bh) := kp hb1 (by go_cell)
          have f_r0 : w1.frozen? ⟨w.heap.size + 1 + 1, 0, none⟩ = false := kf hb1 (by go_simp) (by go_simp)
          have f_r1 : w1.frozen? ⟨w.heap.size + 1 + 1, 1, none⟩ = false := kf hb1 (by go_simp) (by go_simp)
          have c_r0 : w1.cell? ⟨w.heap.size + 1 + 1, 0, none⟩ = some (.int .i64 0) := kp hb1 (by go_cell)
          have c_r1 : w1.cell? ⟨w.heap.size + 1 + 1, 1, none⟩ = some (.int .i64 0) := kp hb1 (by go_cell)
          clear hb1
          go_wp2_with fail
          rw [HR.out]
          refine ret_span_bool (B := w.heap.size + 1 + 1) rfl rfl rfl (set2s _ _ (by go_simp) (by go_simp)) ⟨rfl, ?_⟩
          go_grown
    · by_cases h2 : bh < ah
      · by_cases h3 : bh < al
        · have hr2 : meetS al ah bl bh = (0, 0, false, 0) := by rw [hr, show max al bl = al by omega, show min ah bh = bh by omega]; simp [h3]
          have HR := Lib.hid hr2
          clear hr hr2
          go_enter Try.func43, Try.ntmps43
          go_wp2_with fail
          refine (HV.out _).mono ?_
          rintro e w1 ⟨rfl, hb1⟩
          have hB1 : Below w.heap.size w w1 := below_after (by go_grown) hb1
          have hz1 := hb1.size
          try simp only [World.size_alloc, World.size_setCell, World.size_drew] at hz1
          have c_a0 : w1.cell? ⟨w.heap.size, 0, none⟩ = some (.int .i64 al) := kp hb1 (by go_cell)
          have c_a1 : w1.cell? ⟨w.heap.size, 1, none⟩ = some (.int .i64 ah) := kp hb1 (by go_cell)
          have c_b0 : w1.cell? ⟨w.heap.size + 1, 0, none⟩ = some (.int .i64 bl) := kp hb1 (by go_cell)
          have c_b1 : w1.cell? ⟨w.heap.size + 1, 1, none⟩ = some (.int .i64 bh) := kp hb1 (by go_cell)
          have f_r0 : w1.frozen? ⟨w.heap.size + 1 + 1, 0, none⟩ = false := kf hb1 (by go_simp) (by go_simp)
          have f_r1 : w1.frozen? ⟨w.heap.size + 1 + 1, 1, none⟩ = false := kf hb1 (by go_simp) (by go_simp)
          have c_r0 : w1.cell? ⟨w.heap.size + 1 + 1, 0, none⟩ = some (.int .i64 0) := kp hb1 (by go_cell)
          have c_r1 : w1.cell? ⟨w.heap.size + 1 + 1, 1, none⟩ = some (.int .i64 0) := kp hb1 (by go_cell)
          clear hb1
          go_wp2_with fail
          rw [HR.out]
          refine ret_span_bool (B := w.heap.size + 1 + 1) rfl rfl rfl (set2s _ _ (by go_simp) (by go_simp)) ⟨rfl, ?_⟩
          go_grown
        · have hr2 : meetS al ah bl bh = (al, bh, true, 0) := by rw [hr, show max al bl = al by omega, show min ah bh = bh by omega]; simp [h3]
          have HR := Lib.hid hr2
          clear hr hr2
          go_enter Try.func43, Try.ntmps43
          go_wp2_with fail
          refine (HV.out _).mono ?_
          rintro e w1 ⟨rfl, hb1⟩
          have hB1 : Below w.heap.size w w1 := below_after (by go_grown) hb1
          have hz1 := hb1.size
          try simp only [World.size_alloc, World.size_setCell, World.size_drew] at hz1
          have c_a0 : w1.cell? ⟨w.heap.size, 0, none⟩ = some (.int .i64 al) := kp hb1 (by go_cell)
          have c_a1 : w1.cell? ⟨w.heap.size, 1, none⟩ = some (.int .i64 ah) := kp hb1 (by go_cell)
          have c_b0 : w1.cell? ⟨w.heap.size + 1, 0, none⟩ = some (.int .i64 bl) := kp hb1 (by go_cell)
          have c_b1 : w1.cell? ⟨w.heap.size + 1, 1, none⟩ = some (.int .i64 bh) := kp hb1 (by go_cell)
          have f_r0 : w1.frozen? ⟨w.heap.size + 1 + 1, 0, none⟩ = false := kf hb1 (by go_simp) (by go_simp)
          have f_r1 : w1.frozen? ⟨w.heap.size + 1 + 1, 1, none⟩ = false := kf hb1 (by go_simp) (by go_simp)
          have c_r0 : w1.cell? ⟨w.heap.size + 1 + 1, 0, none⟩ = some (.int .i64 0) := kp hb1 (by go_cell)
          have c_r1 : w1.cell? ⟨w.heap.size + 1 + 1, 1, none⟩ = some (.int .i64 0) := kp hb1 (by go_cell)
          clear hb1
          go_wp2_with fail
          rw [HR.out]
          refine ret_span_bool (B := w.heap.size + 1 + 1) rfl rfl rfl (set2s _ _ (by go_simp) (by go_simp)) ⟨rfl, ?_⟩
          go_grown
      · by_cases h3 : ah < al
        · exfalso; omega
        · have hr2 : meetS al ah bl bh = (al, ah, true, 0) := by rw [hr, show max al bl = al by omega, show min ah bh = ah by omega]; simp [h3]
          have HR := Lib.hid hr2
          clear hr hr2
          go_enter Try.func43, Try.ntmps43
          go_wp2_with fail
          refine (HV.out _).mono ?_
          rintro e w1 ⟨rfl, hb1⟩
          have hB1 : Below w.heap.size w w1 := below_after (by go_grown) hb1
          have hz1 := hb1.size
          try simp only [World.size_alloc, World.size_setCell, World.size_drew] at hz1
          have c_a0 : w1.cell? ⟨w.heap.size, 0, none⟩ = some (.int .i64 al) := kp hb1 (by go_cell)
          have c_a1 : w1.cell? ⟨w.heap.size, 1, none⟩ = some (.int .i64 ah) := kp hb1 (by go_cell)
          have c_b0 : w1.cell? ⟨w.heap.size + 1, 0, none⟩ = some (.int .i64 bl) := kp hb1 (by go_cell)
          have c_b1 : w1.cell? ⟨w.heap.size + 1, 1, none⟩ = some (.int .i64 bh) := kp hb1 (by go_cell)
          have f_r0 : w1.frozen? ⟨w.heap.size + 1 + 1, 0, none⟩ = false := kf hb1 (by go_simp) (by go_simp)
          have f_r1 : w1.frozen? ⟨w.heap.size + 1 + 1, 1, none⟩ = false := kf hb1 (by go_simp) (by go_simp)
          have c_r0 : w1.cell? ⟨w.heap.size + 1 + 1, 0, none⟩ = some (.int .i64 0) := kp hb1 (by go_cell)
          have c_r1 : w1.cell? ⟨w.heap.size + 1 + 1, 1, none⟩ = some (.int .i64 0) := kp hb1 (by go_cell)
          clear hb1
          go_wp2_with fail
          rw [HR.out]
          refine ret_span_bool (B := w.heap.size + 1 + 1) rfl rfl rfl (set2s _ _ (by go_simp) (by go_simp)) ⟨rfl, ?_⟩
          go_grown

end Go.Proofs.Ytollpjdnahemeaa
