import Derived.Test.YtollpjdnahemeaaS2
namespace Go.Proofs.Ytollpjdnahemeaa
open Go.RowKit
set_option linter.unusedSimpArgs false
set_option linter.unusedVariables false

theorem vld_bounds {lo hi : Int} (h : vld lo hi = true) : lo ≤ hi ∧ -1000000000000 ≤ lo ∧ hi ≤ 1000000000000 := by
  simp [vld] at h; omega
theorem and_left {a b : Bool} (h : (a && b) = true) : a = true := by cases a <;> simp_all
theorem and_right {a b : Bool} (h : (a && b) = true) : b = true := by cases a <;> simp_all

def addS (al ah bl bh : Int) : Int × Int × Int := if vld al ah && vld bl bh then leastS (al + bl) (ah + bh) else (0, 0, 1)
def subS (al ah bl bh : Int) : Int × Int × Int := if vld al ah && vld bl bh then leastS (al - bh) (ah - bl) else (0, 0, 1)
def joinS (al ah bl bh : Int) : Int × Int × Int := if vld al ah && vld bl bh then (min al bl, max ah bh, 0) else (0, 0, 1)
/-- what both have: the span, whether there is one, the error -/
def meetS (al ah bl bh : Int) : Int × Int × Bool × Int :=
  if vld al ah && vld bl bh then (if min ah bh < max al bl then (0, 0, false, 0) else (max al bl, min ah bh, true, 0)) else (0, 0, false, 1)
def hasS (lo hi n : Int) : Bool × Int := if vld lo hi then (decide (lo ≤ n) && decide (n ≤ hi), 0) else (false, 1)

theorem set2s {w : World} {B : Nat} (v0 v1 : Value) (h0 : (w.cell? ⟨B, 0, none⟩).isSome = true) (h1 : (w.cell? ⟨B, 1, none⟩).isSome = true) :
    ((w.setCell ⟨B, 0, none⟩ v0).setCell ⟨B, 1, none⟩ v1).cell? ⟨B, 0, none⟩ = some v0 ∧ ((w.setCell ⟨B, 0, none⟩ v0).setCell ⟨B, 1, none⟩ v1).cell? ⟨B, 1, none⟩ = some v1 := by
  obtain ⟨x, hx⟩ := Option.isSome_iff_exists.1 h0
  obtain ⟨y, hy⟩ := Option.isSome_iff_exists.1 h1
  exact set2 v0 v1 hx hy

theorem ret_span_bool {R : Ending → World → Prop} {fn : Func} {p u t : Tmp} {a : Act} {w : World} {B : Nat} {lo hi : Int} (hres : fn.results = #[.cell p 23, .tmp u, .tmp t]) (hd : a.defers = [])
    (hp : a.tmps.getD p undef = .pointer (some ⟨B, 0, none⟩)) (c : w.cell? ⟨B, 0, none⟩ = some (.int .i64 lo) ∧ w.cell? ⟨B, 1, none⟩ = some (.int .i64 hi))
    (hR : R (.returned (.tuple #[.agg #[.int .i64 lo, .int .i64 hi], a.tmps.getD u undef, a.tmps.getD t undef])) w) : bodyPost Try.prog fn R .ret a w := by
  refine bodyPost_ret (v := .tuple #[.agg #[.int .i64 lo, .int .i64 hi], a.tmps.getD u undef, a.tmps.getD t undef]) ?_ hd hR
  have hp' : a.tmps[p]?.getD undef = .pointer (some ⟨B, 0, none⟩) := by simpa using hp
  simp only [results, hres]
  simp [Sem.run_bind, Result.andThen, hp', go_sem, c.1, c.2]

set_option maxHeartbeats 400000 in
theorem Add_any (al ah bl bh : Int) (w : World) :
    Calls Try.prog 33 #[.agg #[.int .i64 al, .int .i64 ah], .agg #[.int .i64 bl, .int .i64 bh]] w fun e w' => e = .returned (.tuple #[.agg #[.int .i64 (addS al ah bl bh).1, .int .i64 (addS al ah bl bh).2.1], .int .i64 (addS al ah bl bh).2.2]) ∧ Below w.heap.size w w' := by
  cases hv : (vld al ah && vld bl bh) with
  | false =>
    have hr : addS al ah bl bh = (0, 0, 1) := by simp [addS, hv]
    have H := fun b w hb c0 c1 c2 c3 => valid2_any b al ah bl bh w hb c0 c1 c2 c3
    rw [hv] at H
    have HV := Lib.hid H
    rw [hr]
    clear hv H hr
    go_enter Try.func33, Try.ntmps33
    go_wp2_with fail
    refine (HV.out _ _ (by go_size) (by go_cell) (by go_cell) (by go_cell) (by go_cell)).mono ?_
    rintro e w1 ⟨rfl, hb1⟩
    have hB1 : Below w.heap.size w w1 := below_after (by go_grown) hb1
    have hz1 := hb1.size
    try simp only [World.size_alloc, World.size_setCell, World.size_drew] at hz1
    have f_r0 : w1.frozen? ⟨w.heap.size + 1 + 1, 0, none⟩ = false := kf hb1 (by go_simp) (by go_simp)
    have f_r1 : w1.frozen? ⟨w.heap.size + 1 + 1, 1, none⟩ = false := kf hb1 (by go_simp) (by go_simp)
    have c_r0 : w1.cell? ⟨w.heap.size + 1 + 1, 0, none⟩ = some (.int .i64 0) := kp hb1 (by go_cell)
    have c_r1 : w1.cell? ⟨w.heap.size + 1 + 1, 1, none⟩ = some (.int .i64 0) := kp hb1 (by go_cell)
    clear hb1
    go_wp2_with fail
    refine ret_span (B := w.heap.size + 1 + 1) rfl rfl rfl (set2 _ _ c_r0 c_r1) ⟨rfl, ?_⟩
    go_grown
  | true =>
    have hr : addS al ah bl bh = leastS (al + bl) (ah + bh) := by simp [addS, hv]
    have H := fun b w hb c0 c1 c2 c3 => valid2_any b al ah bl bh w hb c0 c1 c2 c3
    rw [hv] at H
    have HV := Lib.hid H
    rw [hr]
    have va := vld_bounds (and_left hv)
    have vb := vld_bounds (and_right hv)
    obtain ⟨va1, va2, va3⟩ := va
    obtain ⟨vb1, vb2, vb3⟩ := vb
    have e1 : mnTo [al + bl, ah + bh] (2 - 1) = al + bl := by simp [mnTo]; omega
    have e2 : mxTo [al + bl, ah + bh] (2 - 1) = ah + bh := by simp [mxTo]; omega
    have HE1 := Lib.hid e1
    have HE2 := Lib.hid e2
    clear hv H hr e1 e2
    go_enter Try.func33, Try.ntmps33
    go_wp2_with fail
    refine (HV.out _ _ (by go_size) (by go_cell) (by go_cell) (by go_cell) (by go_cell)).mono ?_
    rintro e w1 ⟨rfl, hb1⟩
    have hB1 : Below w.heap.size w w1 := below_after (by go_grown) hb1
    have hz1 := hb1.size
    try simp only [World.size_alloc, World.size_setCell, World.size_drew] at hz1
    have c_a0 : w1.cell? ⟨w.heap.size, 0, none⟩ = some (.int .i64 al) := kp hb1 (by go_cell)
    have c_a1 : w1.cell? ⟨w.heap.size, 1, none⟩ = some (.int .i64 ah) := kp hb1 (by go_cell)
    have c_b0 : w1.cell? ⟨w.heap.size + 1, 0, none⟩ = some (.int .i64 bl) := kp hb1 (by go_cell)
    have c_b1 : w1.cell? ⟨w.heap.size + 1, 1, none⟩ = some (.int .i64 bh) := kp hb1 (by go_cell)
    have f_r0 : w1.frozen? ⟨w.heap.size + 1 + 1, 0, none⟩ = false := kf hb1 (by go_simp) (by go_simp)
    have f_r1 : w1.frozen? ⟨w.heap.size + 1 + 1, 1, none⟩ = false := kf hb1 (by go_simp) (by go_simp)
    have c_r0 : w1.cell? ⟨w.heap.size + 1 + 1, 0, none⟩ = some (.int .i64 0) := kp hb1 (by go_cell)
    have c_r1 : w1.cell? ⟨w.heap.size + 1 + 1, 1, none⟩ = some (.int .i64 0) := kp hb1 (by go_cell)
    clear hb1
    go_wp2_with fail
    have hc : ∀ i, i < 2 → (w1.alloc (.cells #[.int .i64 (al + bl), .int .i64 (ah + bh)] 3)).cell? ⟨w1.heap.size, 0 + i, none⟩ = some (.int .i64 ([al + bl, ah + bh].getD i 0)) := by
      intro i hi; match i, hi with | 0, _ => go_cell | 1, _ => go_cell
    have HC := Lib.hid hc
    clear hc
    refine (least_any _ 0 2 2 [al + bl, ah + bh] _ (by omega) (by rfl) (by omega) (by go_size) HC.out (al + bl) (ah + bh) HE1.out HE2.out).mono ?_
    rintro e w2 ⟨rfl, hb2⟩
    have hB2 : Below w.heap.size w w2 := below_after (by go_grown) hb2
    have hz2 := hb2.size
    try simp only [World.size_alloc, World.size_setCell, World.size_drew] at hz2
    replace f_r0 : w2.frozen? ⟨w.heap.size + 1 + 1, 0, none⟩ = false := kf hb2 (by go_simp) (by go_simp)
    replace f_r1 : w2.frozen? ⟨w.heap.size + 1 + 1, 1, none⟩ = false := kf hb2 (by go_simp) (by go_simp)
    replace c_r0 : w2.cell? ⟨w.heap.size + 1 + 1, 0, none⟩ = some (.int .i64 0) := kp hb2 (by go_cell)
    replace c_r1 : w2.cell? ⟨w.heap.size + 1 + 1, 1, none⟩ = some (.int .i64 0) := kp hb2 (by go_cell)
    clear hb2 hB1
    go_wp2_with fail
    refine ret_span (B := w.heap.size + 1 + 1) rfl rfl rfl (set2 _ _ c_r0 c_r1) ⟨rfl, ?_⟩
    go_grown

set_option maxHeartbeats 400000 in
theorem Sub_any (al ah bl bh : Int) (w : World) :
    Calls Try.prog 35 #[.agg #[.int .i64 al, .int .i64 ah], .agg #[.int .i64 bl, .int .i64 bh]] w fun e w' => e = .returned (.tuple #[.agg #[.int .i64 (subS al ah bl bh).1, .int .i64 (subS al ah bl bh).2.1], .int .i64 (subS al ah bl bh).2.2]) ∧ Below w.heap.size w w' := by
  cases hv : (vld al ah && vld bl bh) with
  | false =>
    have hr : subS al ah bl bh = (0, 0, 1) := by simp [subS, hv]
    have H := fun b w hb c0 c1 c2 c3 => valid2_any b al ah bl bh w hb c0 c1 c2 c3
    rw [hv] at H
    have HV := Lib.hid H
    rw [hr]
    clear hv H hr
    go_enter Try.func35, Try.ntmps35
    go_wp2_with fail
    refine (HV.out _ _ (by go_size) (by go_cell) (by go_cell) (by go_cell) (by go_cell)).mono ?_
    rintro e w1 ⟨rfl, hb1⟩
    have hB1 : Below w.heap.size w w1 := below_after (by go_grown) hb1
    have hz1 := hb1.size
    try simp only [World.size_alloc, World.size_setCell, World.size_drew] at hz1
    have f_r0 : w1.frozen? ⟨w.heap.size + 1 + 1, 0, none⟩ = false := kf hb1 (by go_simp) (by go_simp)
    have f_r1 : w1.frozen? ⟨w.heap.size + 1 + 1, 1, none⟩ = false := kf hb1 (by go_simp) (by go_simp)
    have c_r0 : w1.cell? ⟨w.heap.size + 1 + 1, 0, none⟩ = some (.int .i64 0) := kp hb1 (by go_cell)
    have c_r1 : w1.cell? ⟨w.heap.size + 1 + 1, 1, none⟩ = some (.int .i64 0) := kp hb1 (by go_cell)
    clear hb1
    go_wp2_with fail
    refine ret_span (B := w.heap.size + 1 + 1) rfl rfl rfl (set2 _ _ c_r0 c_r1) ⟨rfl, ?_⟩
    go_grown
  | true =>
    have hr : subS al ah bl bh = leastS (al - bh) (ah - bl) := by simp [subS, hv]
    have H := fun b w hb c0 c1 c2 c3 => valid2_any b al ah bl bh w hb c0 c1 c2 c3
    rw [hv] at H
    have HV := Lib.hid H
    rw [hr]
    have va := vld_bounds (and_left hv)
    have vb := vld_bounds (and_right hv)
    obtain ⟨va1, va2, va3⟩ := va
    obtain ⟨vb1, vb2, vb3⟩ := vb
    have e1 : mnTo [al - bh, ah - bl] (2 - 1) = al - bh := by simp [mnTo]; omega
    have e2 : mxTo [al - bh, ah - bl] (2 - 1) = ah - bl := by simp [mxTo]; omega
    have HE1 := Lib.hid e1
    have HE2 := Lib.hid e2
    clear hv H hr e1 e2
    go_enter Try.func35, Try.ntmps35
    go_wp2_with fail
    refine (HV.out _ _ (by go_size) (by go_cell) (by go_cell) (by go_cell) (by go_cell)).mono ?_
    rintro e w1 ⟨rfl, hb1⟩
    have hB1 : Below w.heap.size w w1 := below_after (by go_grown) hb1
    have hz1 := hb1.size
    try simp only [World.size_alloc, World.size_setCell, World.size_drew] at hz1
    have c_a0 : w1.cell? ⟨w.heap.size, 0, none⟩ = some (.int .i64 al) := kp hb1 (by go_cell)
    have c_a1 : w1.cell? ⟨w.heap.size, 1, none⟩ = some (.int .i64 ah) := kp hb1 (by go_cell)
    have c_b0 : w1.cell? ⟨w.heap.size + 1, 0, none⟩ = some (.int .i64 bl) := kp hb1 (by go_cell)
    have c_b1 : w1.cell? ⟨w.heap.size + 1, 1, none⟩ = some (.int .i64 bh) := kp hb1 (by go_cell)
    have f_r0 : w1.frozen? ⟨w.heap.size + 1 + 1, 0, none⟩ = false := kf hb1 (by go_simp) (by go_simp)
    have f_r1 : w1.frozen? ⟨w.heap.size + 1 + 1, 1, none⟩ = false := kf hb1 (by go_simp) (by go_simp)
    have c_r0 : w1.cell? ⟨w.heap.size + 1 + 1, 0, none⟩ = some (.int .i64 0) := kp hb1 (by go_cell)
    have c_r1 : w1.cell? ⟨w.heap.size + 1 + 1, 1, none⟩ = some (.int .i64 0) := kp hb1 (by go_cell)
    clear hb1
    go_wp2_with fail
    have hc : ∀ i, i < 2 → (w1.alloc (.cells #[.int .i64 (al - bh), .int .i64 (ah - bl)] 3)).cell? ⟨w1.heap.size, 0 + i, none⟩ = some (.int .i64 ([al - bh, ah - bl].getD i 0)) := by
      intro i hi; match i, hi with | 0, _ => go_cell | 1, _ => go_cell
    have HC := Lib.hid hc
    clear hc
    refine (least_any _ 0 2 2 [al - bh, ah - bl] _ (by omega) (by rfl) (by omega) (by go_size) HC.out (al - bh) (ah - bl) HE1.out HE2.out).mono ?_
    rintro e w2 ⟨rfl, hb2⟩
    have hB2 : Below w.heap.size w w2 := below_after (by go_grown) hb2
    have hz2 := hb2.size
    try simp only [World.size_alloc, World.size_setCell, World.size_drew] at hz2
    replace f_r0 : w2.frozen? ⟨w.heap.size + 1 + 1, 0, none⟩ = false := kf hb2 (by go_simp) (by go_simp)
    replace f_r1 : w2.frozen? ⟨w.heap.size + 1 + 1, 1, none⟩ = false := kf hb2 (by go_simp) (by go_simp)
    replace c_r0 : w2.cell? ⟨w.heap.size + 1 + 1, 0, none⟩ = some (.int .i64 0) := kp hb2 (by go_cell)
    replace c_r1 : w2.cell? ⟨w.heap.size + 1 + 1, 1, none⟩ = some (.int .i64 0) := kp hb2 (by go_cell)
    clear hb2 hB1
    go_wp2_with fail
    refine ret_span (B := w.heap.size + 1 + 1) rfl rfl rfl (set2 _ _ c_r0 c_r1) ⟨rfl, ?_⟩
    go_grown

set_option maxHeartbeats 400000 in
theorem Join_any (al ah bl bh : Int) (w : World) :
    Calls Try.prog 39 #[.agg #[.int .i64 al, .int .i64 ah], .agg #[.int .i64 bl, .int .i64 bh]] w fun e w' => e = .returned (.tuple #[.agg #[.int .i64 (joinS al ah bl bh).1, .int .i64 (joinS al ah bl bh).2.1], .int .i64 (joinS al ah bl bh).2.2]) ∧ Below w.heap.size w w' := by
  cases hv : (vld al ah && vld bl bh) with
  | false =>
    have hr : joinS al ah bl bh = (0, 0, 1) := by simp [joinS, hv]
    have H := fun b w hb c0 c1 c2 c3 => valid2_any b al ah bl bh w hb c0 c1 c2 c3
    rw [hv] at H
    have HV := Lib.hid H
    rw [hr]
    clear hv H hr
    go_enter Try.func39, Try.ntmps39
    go_wp2_with fail
    refine (HV.out _ _ (by go_size) (by go_cell) (by go_cell) (by go_cell) (by go_cell)).mono ?_
    rintro e w1 ⟨rfl, hb1⟩
    have hB1 : Below w.heap.size w w1 := below_after (by go_grown) hb1
    have hz1 := hb1.size
    try simp only [World.size_alloc, World.size_setCell, World.size_drew] at hz1
    have f_r0 : w1.frozen? ⟨w.heap.size + 1 + 1, 0, none⟩ = false := kf hb1 (by go_simp) (by go_simp)
    have f_r1 : w1.frozen? ⟨w.heap.size + 1 + 1, 1, none⟩ = false := kf hb1 (by go_simp) (by go_simp)
    have c_r0 : w1.cell? ⟨w.heap.size + 1 + 1, 0, none⟩ = some (.int .i64 0) := kp hb1 (by go_cell)
    have c_r1 : w1.cell? ⟨w.heap.size + 1 + 1, 1, none⟩ = some (.int .i64 0) := kp hb1 (by go_cell)
    clear hb1
    go_wp2_with fail
    refine ret_span (B := w.heap.size + 1 + 1) rfl rfl rfl (set2 _ _ c_r0 c_r1) ⟨rfl, ?_⟩
    go_grown
  | true =>
    have hr : joinS al ah bl bh = (min al bl, max ah bh, 0) := by simp [joinS, hv]
    have H := fun b w hb c0 c1 c2 c3 => valid2_any b al ah bl bh w hb c0 c1 c2 c3
    rw [hv] at H
    have HV := Lib.hid H
    rw [hr]
    have va := vld_bounds (and_left hv)
    have vb := vld_bounds (and_right hv)
    obtain ⟨va1, va2, va3⟩ := va
    obtain ⟨vb1, vb2, vb3⟩ := vb
    have e1 : mnTo [al, ah, bl, bh] (4 - 1) = min al bl := by simp [mnTo]; omega
    have e2 : mxTo [al, ah, bl, bh] (4 - 1) = max ah bh := by simp [mxTo]; omega
    have HE1 := Lib.hid e1
    have HE2 := Lib.hid e2
    have e3 : leastS (min al bl) (max ah bh) = (min al bl, max ah bh, 0) := by
      have : vld (min al bl) (max ah bh) = true := by simp [vld]; omega
      simp [leastS, this]
    have HE3 := Lib.hid e3
    clear e3
    clear hv H hr e1 e2
    go_enter Try.func39, Try.ntmps39
    go_wp2_with fail
    refine (HV.out _ _ (by go_size) (by go_cell) (by go_cell) (by go_cell) (by go_cell)).mono ?_
    rintro e w1 ⟨rfl, hb1⟩
    have hB1 : Below w.heap.size w w1 := below_after (by go_grown) hb1
    have hz1 := hb1.size
    try simp only [World.size_alloc, World.size_setCell, World.size_drew] at hz1
    have c_a0 : w1.cell? ⟨w.heap.size, 0, none⟩ = some (.int .i64 al) := kp hb1 (by go_cell)
    have c_a1 : w1.cell? ⟨w.heap.size, 1, none⟩ = some (.int .i64 ah) := kp hb1 (by go_cell)
    have c_b0 : w1.cell? ⟨w.heap.size + 1, 0, none⟩ = some (.int .i64 bl) := kp hb1 (by go_cell)
    have c_b1 : w1.cell? ⟨w.heap.size + 1, 1, none⟩ = some (.int .i64 bh) := kp hb1 (by go_cell)
    have f_r0 : w1.frozen? ⟨w.heap.size + 1 + 1, 0, none⟩ = false := kf hb1 (by go_simp) (by go_simp)
    have f_r1 : w1.frozen? ⟨w.heap.size + 1 + 1, 1, none⟩ = false := kf hb1 (by go_simp) (by go_simp)
    have c_r0 : w1.cell? ⟨w.heap.size + 1 + 1, 0, none⟩ = some (.int .i64 0) := kp hb1 (by go_cell)
    have c_r1 : w1.cell? ⟨w.heap.size + 1 + 1, 1, none⟩ = some (.int .i64 0) := kp hb1 (by go_cell)
    clear hb1
    go_wp2_with fail
    have hc : ∀ i, i < 4 → (w1.alloc (.cells #[.int .i64 al, .int .i64 ah, .int .i64 bl, .int .i64 bh] 3)).cell? ⟨w1.heap.size, 0 + i, none⟩ = some (.int .i64 ([al, ah, bl, bh].getD i 0)) := by
      intro i hi; match i, hi with | 0, _ => go_cell | 1, _ => go_cell | 2, _ => go_cell | 3, _ => go_cell
    have HC := Lib.hid hc
    clear hc
    refine (least_any _ 0 4 4 [al, ah, bl, bh] _ (by omega) (by rfl) (by omega) (by go_size) HC.out (min al bl) (max ah bh) HE1.out HE2.out).mono ?_
    rintro e w2 ⟨rfl, hb2⟩
    have hB2 : Below w.heap.size w w2 := below_after (by go_grown) hb2
    have hz2 := hb2.size
    try simp only [World.size_alloc, World.size_setCell, World.size_drew] at hz2
    replace f_r0 : w2.frozen? ⟨w.heap.size + 1 + 1, 0, none⟩ = false := kf hb2 (by go_simp) (by go_simp)
    replace f_r1 : w2.frozen? ⟨w.heap.size + 1 + 1, 1, none⟩ = false := kf hb2 (by go_simp) (by go_simp)
    replace c_r0 : w2.cell? ⟨w.heap.size + 1 + 1, 0, none⟩ = some (.int .i64 0) := kp hb2 (by go_cell)
    replace c_r1 : w2.cell? ⟨w.heap.size + 1 + 1, 1, none⟩ = some (.int .i64 0) := kp hb2 (by go_cell)
    clear hb2 hB1
    rw [HE3.out]
    go_wp2_with fail
    refine ret_span (B := w.heap.size + 1 + 1) rfl rfl rfl (set2 _ _ c_r0 c_r1) ⟨rfl, ?_⟩
    go_grown

set_option maxHeartbeats 400000 in
theorem Has_any (lo hi n : Int) (w : World) :
    Calls Try.prog 34 #[.agg #[.int .i64 lo, .int .i64 hi], .int .i64 n] w fun e w' => e = .returned (.tuple #[.bool (hasS lo hi n).1, .int .i64 (hasS lo hi n).2]) ∧ Below w.heap.size w w' := by
  have H := fun w => Valid_any lo hi w
  cases hv : vld lo hi with
  | false =>
    have hr : hasS lo hi n = (false, 1) := by simp [hasS, hv]
    rw [hv] at H
    have HV := Lib.hid H
    rw [hr]
    clear hv H hr
    go_enter Try.func34, Try.ntmps34
    go_wp2_with fail
    refine (HV.out _).mono ?_
    rintro e w1 ⟨rfl, hb1⟩
    have hB1 : Below w.heap.size w w1 := below_after (by go_grown) hb1
    have hz1 := hb1.size
    try simp only [World.size_alloc, World.size_setCell, World.size_drew] at hz1
    have c_a0 : w1.cell? ⟨w.heap.size, 0, none⟩ = some (.int .i64 lo) := kp hb1 (by go_cell)
    have c_a1 : w1.cell? ⟨w.heap.size, 1, none⟩ = some (.int .i64 hi) := kp hb1 (by go_cell)
    clear hb1
    go_wp2_with fail
    go_ret2
    exact ⟨rfl, by go_grown⟩
  | true =>
    have hr : hasS lo hi n = (decide (lo ≤ n) && decide (n ≤ hi), 0) := by simp [hasS, hv]
    rw [hv] at H
    have HV := Lib.hid H
    have HR := Lib.hid hr
    have vb := vld_bounds hv
    obtain ⟨vb1, vb2, vb3⟩ := vb
    clear hv H hr
    by_cases h1 : n < lo <;> by_cases h2 : hi < n
    · exfalso; omega
    all_goals
      go_enter Try.func34, Try.ntmps34
      go_wp2_with fail
      refine (HV.out _).mono ?_
      rintro e w1 ⟨rfl, hb1⟩
      have hB1 : Below w.heap.size w w1 := below_after (by go_grown) hb1
      have hz1 := hb1.size
      try simp only [World.size_alloc, World.size_setCell, World.size_drew] at hz1
      have c_a0 : w1.cell? ⟨w.heap.size, 0, none⟩ = some (.int .i64 lo) := kp hb1 (by go_cell)
      have c_a1 : w1.cell? ⟨w.heap.size, 1, none⟩ = some (.int .i64 hi) := kp hb1 (by go_cell)
      clear hb1
      go_wp2_with fail
      all_goals
        go_ret2
        refine ⟨?_, by go_grown⟩
        rw [HR.out]
        simp [*] <;> omega

set_option maxHeartbeats 400000 in
theorem Meet_any (al ah bl bh : Int) (w : World) :
    Calls Try.prog 37 #[.agg #[.int .i64 al, .int .i64 ah], .agg #[.int .i64 bl, .int .i64 bh]] w fun e w' => e = .returned (.tuple #[.agg #[.int .i64 (meetS al ah bl bh).1, .int .i64 (meetS al ah bl bh).2.1], .bool (meetS al ah bl bh).2.2.1, .int .i64 (meetS al ah bl bh).2.2.2]) ∧ Below w.heap.size w w' := by
  have H := fun b w hb c0 c1 c2 c3 => valid2_any b al ah bl bh w hb c0 c1 c2 c3
  cases hv : (vld al ah && vld bl bh) with
  | false =>
    have hr : meetS al ah bl bh = (0, 0, false, 1) := by simp [meetS, hv]
    rw [hv] at H
    have HV := Lib.hid H
    have HR := Lib.hid hr
    clear hv H hr
    go_enter Try.func37, Try.ntmps37
    go_wp2_with fail
    refine (HV.out _ _ (by go_size) (by go_cell) (by go_cell) (by go_cell) (by go_cell)).mono ?_
    rintro e w1 ⟨rfl, hb1⟩
    have hB1 : Below w.heap.size w w1 := below_after (by go_grown) hb1
    have hz1 := hb1.size
    try simp only [World.size_alloc, World.size_setCell, World.size_drew] at hz1
    have f_r0 : w1.frozen? ⟨w.heap.size + 1 + 1, 0, none⟩ = false := kf hb1 (by go_simp) (by go_simp)
    have f_r1 : w1.frozen? ⟨w.heap.size + 1 + 1, 1, none⟩ = false := kf hb1 (by go_simp) (by go_simp)
    have c_r0 : w1.cell? ⟨w.heap.size + 1 + 1, 0, none⟩ = some (.int .i64 0) := kp hb1 (by go_cell)
    have c_r1 : w1.cell? ⟨w.heap.size + 1 + 1, 1, none⟩ = some (.int .i64 0) := kp hb1 (by go_cell)
    clear hb1
    go_wp2_with fail
    rw [HR.out]
    refine ret_span_bool (B := w.heap.size + 1 + 1) rfl rfl rfl (set2 _ _ c_r0 c_r1) ⟨rfl, ?_⟩
    go_grown
  | true =>
    have hr : meetS al ah bl bh = if min ah bh < max al bl then (0, 0, false, 0) else (max al bl, min ah bh, true, 0) := by simp [meetS, hv]
    rw [hv] at H
    have HV := Lib.hid H
    have HR := Lib.hid hr
    have va := vld_bounds (and_left hv)
    have vb := vld_bounds (and_right hv)
    obtain ⟨va1, va2, va3⟩ := va
    obtain ⟨vb1, vb2, vb3⟩ := vb
    clear hv H hr
    by_cases h1 : al < bl
    · by_cases h2 : bh < ah
      · by_cases h3 : bh < bl
        · exfalso; omega
        · have hr : meetS al ah bl bh = (bl, bh, true, 0) := by
            rw [HR.out, show max al bl = bl by omega, show min ah bh = bh by omega]
            simp [h3]
          have HR' := Lib.hid hr
          clear hr HR
          go_enter Try.func37, Try.ntmps37
          go_wp2_with fail
          refine (HV.out _ _ (by go_size) (by go_cell) (by go_cell) (by go_cell) (by go_cell)).mono ?_
          rintro e w1 ⟨rfl, hb1⟩
          have hB1 : Below w.heap.size w w1 := below_after (by go_grown) hb1
          have hz1 := hb1.size
          try simp only [World.size_alloc, World.size_setCell, World.size_drew] at hz1
          have c_a0 : w1.cell? ⟨w.heap.size, 0, none⟩ = some (.int .i64 al) := kp hb1 (by go_cell)
          have c_a1 : w1.cell? ⟨w.heap.size, 1, none⟩ = some (.int .i64 ah) := kp hb1 (by go_cell)
          have c_b0 : w1.cell? ⟨w.heap.size + 1, 0, none⟩ = some (.int .i64 bl) := kp hb1 (by go_cell)
          have c_b1 : w1.cell? ⟨w.heap.size + 1, 1, none⟩ = some (.int .i64 bh) := kp hb1 (by go_cell)
          have f_r0 : w1.frozen? ⟨w.heap.size + 1 + 1, 0, none⟩ = false := kf hb1 (by go_simp) (by go_simp)
          have f_r1 : w1.frozen? ⟨w.heap.size + 1 + 1, 1, none⟩ = false := kf hb1 (by go_simp) (by go_simp)
          have c_r0 : w1.cell? ⟨w.heap.size + 1 + 1, 0, none⟩ = some (.int .i64 0) := kp hb1 (by go_cell)
          have c_r1 : w1.cell? ⟨w.heap.size + 1 + 1, 1, none⟩ = some (.int .i64 0) := kp hb1 (by go_cell)
          clear hb1
          go_wp2_with fail
          rw [HR'.out]
          refine ret_span_bool (B := w.heap.size + 1 + 1) rfl rfl rfl (set2s _ _ (by go_simp) (by go_simp)) ⟨rfl, ?_⟩
          go_grown
      · by_cases h3 : ah < bl
        · have hr : meetS al ah bl bh = (0, 0, false, 0) := by
            rw [HR.out, show max al bl = bl by omega, show min ah bh = ah by omega]
            simp [h3]
          have HR' := Lib.hid hr
          clear hr HR
          go_enter Try.func37, Try.ntmps37
          go_wp2_with fail
          refine (HV.out _ _ (by go_size) (by go_cell) (by go_cell) (by go_cell) (by go_cell)).mono ?_
          rintro e w1 ⟨rfl, hb1⟩
          have hB1 : Below w.heap.size w w1 := below_after (by go_grown) hb1
          have hz1 := hb1.size
          try simp only [World.size_alloc, World.size_setCell, World.size_drew] at hz1
          have c_a0 : w1.cell? ⟨w.heap.size, 0, none⟩ = some (.int .i64 al) := kp hb1 (by go_cell)
          have c_a1 : w1.cell? ⟨w.heap.size, 1, none⟩ = some (.int .i64 ah) := kp hb1 (by go_cell)
          have c_b0 : w1.cell? ⟨w.heap.size + 1, 0, none⟩ = some (.int .i64 bl) := kp hb1 (by go_cell)
          have c_b1 : w1.cell? ⟨w.heap.size + 1, 1, none⟩ = some (.int .i64 bh) := kp hb1 (by go_cell)
          have f_r0 : w1.frozen? ⟨w.heap.size + 1 + 1, 0, none⟩ = false := kf hb1 (by go_simp) (by go_simp)
          have f_r1 : w1.frozen? ⟨w.heap.size + 1 + 1, 1, none⟩ = false := kf hb1 (by go_simp) (by go_simp)
          have c_r0 : w1.cell? ⟨w.heap.size + 1 + 1, 0, none⟩ = some (.int .i64 0) := kp hb1 (by go_cell)
          have c_r1 : w1.cell? ⟨w.heap.size + 1 + 1, 1, none⟩ = some (.int .i64 0) := kp hb1 (by go_cell)
          clear hb1
          go_wp2_with fail
          rw [HR'.out]
          refine ret_span_bool (B := w.heap.size + 1 + 1) rfl rfl rfl (set2s _ _ (by go_simp) (by go_simp)) ⟨rfl, ?_⟩
          go_grown
        · have hr : meetS al ah bl bh = (bl, ah, true, 0) := by
            rw [HR.out, show max al bl = bl by omega, show min ah bh = ah by omega]
            simp [h3]
          have HR' := Lib.hid hr
          clear hr HR
          go_enter Try.func37, Try.ntmps37
          go_wp2_with fail
          refine (HV.out _ _ (by go_size) (by go_cell) (by go_cell) (by go_cell) (by go_cell)).mono ?_
          rintro e w1 ⟨rfl, hb1⟩
          have hB1 : Below w.heap.size w w1 := below_after (by go_grown) hb1
          have hz1 := hb1.size
          try simp only [World.size_alloc, World.size_setCell, World.size_drew] at hz1
          have c_a0 : w1.cell? ⟨w.heap.size, 0, none⟩ = some (.int .i64 al) := kp hb1 (by go_cell)
          have c_a1 : w1.cell? ⟨w.heap.size, 1, none⟩ = some (.int .i64 ah) := kp hb1 (by go_cell)
          have c_b0 : w1.cell? ⟨w.heap.size + 1, 0, none⟩ = some (.int .i64 bl) := kp hb1 (by go_cell)
          have c_b1 : w1.cell? ⟨w.heap.size + 1, 1, none⟩ = some (.int .i64 bh) := kp hb1 (by go_cell)
          have f_r0 : w1.frozen? ⟨w.heap.size + 1 + 1, 0, none⟩ = false := kf hb1 (by go_simp) (by go_simp)
          have f_r1 : w1.frozen? ⟨w.heap.size + 1 + 1, 1, none⟩ = false := kf hb1 (by go_simp) (by go_simp)
          have c_r0 : w1.cell? ⟨w.heap.size + 1 + 1, 0, none⟩ = some (.int .i64 0) := kp hb1 (by go_cell)
          have c_r1 : w1.cell? ⟨w.heap.size + 1 + 1, 1, none⟩ = some (.int .i64 0) := kp hb1 (by go_cell)
          clear hb1
          go_wp2_with fail
          rw [HR'.out]
          refine ret_span_bool (B := w.heap.size + 1 + 1) rfl rfl rfl (set2s _ _ (by go_simp) (by go_simp)) ⟨rfl, ?_⟩
          go_grown
    · by_cases h2 : bh < ah
      · by_cases h3 : bh < al
        · have hr : meetS al ah bl bh = (0, 0, false, 0) := by
            rw [HR.out, show max al bl = al by omega, show min ah bh = bh by omega]
            simp [h3]
          have HR' := Lib.hid hr
          clear hr HR
          go_enter Try.func37, Try.ntmps37
          go_wp2_with fail
          refine (HV.out _ _ (by go_size) (by go_cell) (by go_cell) (by go_cell) (by go_cell)).mono ?_
          rintro e w1 ⟨rfl, hb1⟩
          have hB1 : Below w.heap.size w w1 := below_after (by go_grown) hb1
          have hz1 := hb1.size
          try simp only [World.size_alloc, World.size_setCell, World.size_drew] at hz1
          have c_a0 : w1.cell? ⟨w.heap.size, 0, none⟩ = some (.int .i64 al) := kp hb1 (by go_cell)
          have c_a1 : w1.cell? ⟨w.heap.size, 1, none⟩ = some (.int .i64 ah) := kp hb1 (by go_cell)
          have c_b0 : w1.cell? ⟨w.heap.size + 1, 0, none⟩ = some (.int .i64 bl) := kp hb1 (by go_cell)
          have c_b1 : w1.cell? ⟨w.heap.size + 1, 1, none⟩ = some (.int .i64 bh) := kp hb1 (by go_cell)
          have f_r0 : w1.frozen? ⟨w.heap.size + 1 + 1, 0, none⟩ = false := kf hb1 (by go_simp) (by go_simp)
          have f_r1 : w1.frozen? ⟨w.heap.size + 1 + 1, 1, none⟩ = false := kf hb1 (by go_simp) (by go_simp)
          have c_r0 : w1.cell? ⟨w.heap.size + 1 + 1, 0, none⟩ = some (.int .i64 0) := kp hb1 (by go_cell)
          have c_r1 : w1.cell? ⟨w.heap.size + 1 + 1, 1, none⟩ = some (.int .i64 0) := kp hb1 (by go_cell)
          clear hb1
          go_wp2_with fail
          rw [HR'.out]
          refine ret_span_bool (B := w.heap.size + 1 + 1) rfl rfl rfl (set2s _ _ (by go_simp) (by go_simp)) ⟨rfl, ?_⟩
          go_grown
        · have hr : meetS al ah bl bh = (al, bh, true, 0) := by
            rw [HR.out, show max al bl = al by omega, show min ah bh = bh by omega]
            simp [h3]
          have HR' := Lib.hid hr
          clear hr HR
          go_enter Try.func37, Try.ntmps37
          go_wp2_with fail
          refine (HV.out _ _ (by go_size) (by go_cell) (by go_cell) (by go_cell) (by go_cell)).mono ?_
          rintro e w1 ⟨rfl, hb1⟩
          have hB1 : Below w.heap.size w w1 := below_after (by go_grown) hb1
          have hz1 := hb1.size
          try simp only [World.size_alloc, World.size_setCell, World.size_drew] at hz1
          have c_a0 : w1.cell? ⟨w.heap.size, 0, none⟩ = some (.int .i64 al) := kp hb1 (by go_cell)
          have c_a1 : w1.cell? ⟨w.heap.size, 1, none⟩ = some (.int .i64 ah) := kp hb1 (by go_cell)
          have c_b0 : w1.cell? ⟨w.heap.size + 1, 0, none⟩ = some (.int .i64 bl) := kp hb1 (by go_cell)
          have c_b1 : w1.cell? ⟨w.heap.size + 1, 1, none⟩ = some (.int .i64 bh) := kp hb1 (by go_cell)
          have f_r0 : w1.frozen? ⟨w.heap.size + 1 + 1, 0, none⟩ = false := kf hb1 (by go_simp) (by go_simp)
          have f_r1 : w1.frozen? ⟨w.heap.size + 1 + 1, 1, none⟩ = false := kf hb1 (by go_simp) (by go_simp)
          have c_r0 : w1.cell? ⟨w.heap.size + 1 + 1, 0, none⟩ = some (.int .i64 0) := kp hb1 (by go_cell)
          have c_r1 : w1.cell? ⟨w.heap.size + 1 + 1, 1, none⟩ = some (.int .i64 0) := kp hb1 (by go_cell)
          clear hb1
          go_wp2_with fail
          rw [HR'.out]
          refine ret_span_bool (B := w.heap.size + 1 + 1) rfl rfl rfl (set2s _ _ (by go_simp) (by go_simp)) ⟨rfl, ?_⟩
          go_grown
      · by_cases h3 : ah < al
        · exfalso; omega
        · have hr : meetS al ah bl bh = (al, ah, true, 0) := by
            rw [HR.out, show max al bl = al by omega, show min ah bh = ah by omega]
            simp [h3]
          have HR' := Lib.hid hr
          clear hr HR
          go_enter Try.func37, Try.ntmps37
          go_wp2_with fail
          refine (HV.out _ _ (by go_size) (by go_cell) (by go_cell) (by go_cell) (by go_cell)).mono ?_
          rintro e w1 ⟨rfl, hb1⟩
          have hB1 : Below w.heap.size w w1 := below_after (by go_grown) hb1
          have hz1 := hb1.size
          try simp only [World.size_alloc, World.size_setCell, World.size_drew] at hz1
          have c_a0 : w1.cell? ⟨w.heap.size, 0, none⟩ = some (.int .i64 al) := kp hb1 (by go_cell)
          have c_a1 : w1.cell? ⟨w.heap.size, 1, none⟩ = some (.int .i64 ah) := kp hb1 (by go_cell)
          have c_b0 : w1.cell? ⟨w.heap.size + 1, 0, none⟩ = some (.int .i64 bl) := kp hb1 (by go_cell)
          have c_b1 : w1.cell? ⟨w.heap.size + 1, 1, none⟩ = some (.int .i64 bh) := kp hb1 (by go_cell)
          have f_r0 : w1.frozen? ⟨w.heap.size + 1 + 1, 0, none⟩ = false := kf hb1 (by go_simp) (by go_simp)
          have f_r1 : w1.frozen? ⟨w.heap.size + 1 + 1, 1, none⟩ = false := kf hb1 (by go_simp) (by go_simp)
          have c_r0 : w1.cell? ⟨w.heap.size + 1 + 1, 0, none⟩ = some (.int .i64 0) := kp hb1 (by go_cell)
          have c_r1 : w1.cell? ⟨w.heap.size + 1 + 1, 1, none⟩ = some (.int .i64 0) := kp hb1 (by go_cell)
          clear hb1
          go_wp2_with fail
          rw [HR'.out]
          refine ret_span_bool (B := w.heap.size + 1 + 1) rfl rfl rfl (set2s _ _ (by go_simp) (by go_simp)) ⟨rfl, ?_⟩
          go_grown

end Go.Proofs.Ytollpjdnahemeaa
