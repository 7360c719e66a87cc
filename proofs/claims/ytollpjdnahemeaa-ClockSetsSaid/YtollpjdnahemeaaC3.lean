import Derived.Test.YtollpjdnahemeaaC2
namespace Go.Proofs.Ytollpjdnahemeaa
open Go.RowKit
set_option linter.unusedSimpArgs false
set_option linter.unusedVariables false
attribute [local go_sem ↓] Go.wp_at_zero Go.wp_at_succ
attribute [local go_sem] field_lo field_hi

/-- between two readings a clock goes wrong by no more than the readings gone by -/
theorem wrong_lip {t dr n m : Int} (h1 : 0 ≤ dr) (h2 : dr ≤ 1000) (h3 : n ≤ m) : wrongI t dr n ≤ wrongI t dr m + (m - n) ∧ wrongI t dr m ≤ wrongI t dr n + (m - n) := by
  have a1 : dr * max (n - t) (t - n) ≤ dr * (max (m - t) (t - m) + (m - n)) := Int.mul_le_mul_of_nonneg_left (by omega) h1
  have a2 : dr * max (m - t) (t - m) ≤ dr * (max (n - t) (t - n) + (m - n)) := Int.mul_le_mul_of_nonneg_left (by omega) h1
  have a3 : dr * (m - n) ≤ 1000 * (m - n) := Int.mul_le_mul_of_nonneg_right h2 (by omega)
  rw [Int.mul_add] at a1 a2
  unfold wrongI
  omega
theorem atHi_mono {t hi dr n m : Int} (h1 : 0 ≤ dr) (h2 : dr ≤ 1000) (h3 : n ≤ m) : atHi t hi dr n ≤ atHi t hi dr m := by
  have := wrong_lip (t := t) h1 h2 h3
  unfold atHi; omega
theorem atLo_mono {t lo dr n m : Int} (h1 : 0 ≤ dr) (h2 : dr ≤ 1000) (h3 : n ≤ m) : atLo t lo dr n ≤ atLo t lo dr m := by
  have := wrong_lip (t := t) h1 h2 h3
  unfold atLo; omega

theorem bs_spec (p : Int → Bool) (hm : ∀ n m, n ≤ m → p n = true → p m = true) : ∀ (k : Nat) (lo hi : Int), lo ≤ hi → hi - lo < 2 ^ k →
    lo ≤ bs p k lo hi ∧ bs p k lo hi ≤ hi ∧ (∀ n, lo ≤ n → n < bs p k lo hi → p n = false) ∧ (∀ n, bs p k lo hi ≤ n → n < hi → p n = true) := by
  intro k
  induction k with
  | zero =>
    intro lo hi h1 h2
    have : lo = hi := by simp at h2; omega
    subst this
    exact ⟨Int.le_refl _, Int.le_refl _, fun n h3 h4 => by simp [bs] at h4; omega, fun n h3 h4 => by simp [bs] at h3; omega⟩
  | succ k ih =>
    intro lo hi h1 h2
    rw [Int.pow_succ] at h2
    by_cases hlt : lo < hi
    · cases hq : p (lo + (hi - lo) / 2) with
      | true =>
        rw [bs_yes p k lo hi hlt hq]
        obtain ⟨a1, a2, a3, a4⟩ := ih lo (lo + (hi - lo) / 2) (by omega) (by omega)
        refine ⟨a1, by omega, a3, fun n h3 h4 => ?_⟩
        by_cases h5 : n < lo + (hi - lo) / 2
        · exact a4 n h3 h5
        · exact hm _ _ (by omega) hq
      | false =>
        rw [bs_no p k lo hi hlt hq]
        obtain ⟨a1, a2, a3, a4⟩ := ih (lo + (hi - lo) / 2 + 1) hi (by omega) (by omega)
        refine ⟨by omega, a2, fun n h3 h4 => ?_, a4⟩
        by_cases h5 : lo + (hi - lo) / 2 + 1 ≤ n
        · exact a3 n h5 h4
        · cases hn : p n with
          | false => rfl
          | true => rw [hm n _ (by omega) hn] at hq; cases hq
    · rw [bs_stop p _ lo hi hlt]
      exact ⟨Int.le_refl _, h1, fun n h3 h4 => by omega, fun n h3 h4 => by omega⟩

def firstI (t hi dr time : Int) : Int := bs (hiP t hi dr time) 31 0 1000000001
def untilI (t lo dr time : Int) : Int := bs (loP t lo dr time) 31 0 1000000001

theorem firstI_spec {t hi dr time : Int} (h1 : 0 ≤ dr) (h2 : dr ≤ 1000) : 0 ≤ firstI t hi dr time ∧ firstI t hi dr time ≤ 1000000001 ∧
    (∀ n, 0 ≤ n → n ≤ 1000000000 → (time ≤ atHi t hi dr n ↔ firstI t hi dr time ≤ n)) := by
  have hm : ∀ n m, n ≤ m → hiP t hi dr time n = true → hiP t hi dr time m = true := by
    intro n m h h'
    have := atHi_mono (t := t) (hi := hi) h1 h2 h
    simp [hiP] at h' ⊢; omega
  obtain ⟨a1, a2, a3, a4⟩ := bs_spec _ hm 31 0 1000000001 (by omega) (by decide)
  refine ⟨a1, a2, fun n hn1 hn2 => ⟨fun h => ?_, fun h => ?_⟩⟩
  · apply Decidable.byContradiction
    intro hc
    have := a3 n hn1 (by unfold firstI at hc; omega)
    simp [hiP] at this; omega
  · have := a4 n h (by omega)
    simpa [hiP] using this
theorem untilI_spec {t lo dr time : Int} (h1 : 0 ≤ dr) (h2 : dr ≤ 1000) : 0 ≤ untilI t lo dr time ∧ untilI t lo dr time ≤ 1000000001 ∧
    (∀ n, 0 ≤ n → n ≤ 1000000000 → (time < atLo t lo dr n ↔ untilI t lo dr time ≤ n)) := by
  have hm : ∀ n m, n ≤ m → loP t lo dr time n = true → loP t lo dr time m = true := by
    intro n m h h'
    have := atLo_mono (t := t) (lo := lo) h1 h2 h
    simp [loP] at h' ⊢; omega
  obtain ⟨a1, a2, a3, a4⟩ := bs_spec _ hm 31 0 1000000001 (by omega) (by decide)
  refine ⟨a1, a2, fun n hn1 hn2 => ⟨fun h => ?_, fun h => ?_⟩⟩
  · apply Decidable.byContradiction
    intro hc
    have := a3 n hn1 (by unfold untilI at hc; omega)
    simp [loP] at this; omega
  · have := a4 n h (by omega)
    simpa [loP] using this

def timeB (n : Int) : Bool := decide (-1000000000000 ≤ n) && decide (n ≤ 1000000000000)
def readingS (t lo hi dr time : Int) : Int × Int × Int :=
  if clkB t lo hi dr && timeB time then (if untilI t lo dr time ≤ firstI t hi dr time then (0, 0, 4) else (firstI t hi dr time, untilI t lo dr time - 1, 0)) else (0, 0, 1)

set_option maxHeartbeats 800000 in
set_option maxRecDepth 100000 in
theorem RFirst_any (t lo hi dr time : Int) (w : World) (h : clkB t lo hi dr = true) (ht1 : -1000000000000 ≤ time) (ht2 : time ≤ 1000000000000) :
    Calls Try.prog 83 #[.agg #[.int .i64 t, .int .i64 lo, .int .i64 hi, .int .i64 dr], .int .i64 time] w fun e w' => e = .returned (.int .i64 (firstI t hi dr time)) ∧ Below w.heap.size w w' := by
  obtain ⟨t1, t2, r1, r2, o1, o2, o3⟩ := clkB_bounds h
  obtain ⟨f1, f2, f3⟩ := firstI_spec (t := t) (hi := hi) (time := time) r1 r2
  generalize hR : firstI t hi dr time = R at *
  have HO := Lib.hid (fun w n hn => Of_any t lo hi dr n w h hn)
  have HF := Lib.hid f3
  clear h f3 hR
  go_enter Try.func83, Try.ntmps83
  go_wp2_with fail
  go_loopg [5, 6] 1000000002 (fun k s5 s6 wr => ∃ l h : Int, 0 ≤ l ∧ l ≤ h ∧ h ≤ 1000000001 ∧ h - l < k ∧ s5 = .int .i64 l ∧ s6 = .int .i64 h ∧ l ≤ R ∧ R ≤ h ∧ Below w.heap.size w wr ∧
      wr.cell? ⟨w.heap.size, 0, none⟩ = some (.int .i64 t) ∧ wr.cell? ⟨w.heap.size, 1, none⟩ = some (.int .i64 lo) ∧ wr.cell? ⟨w.heap.size, 2, none⟩ = some (.int .i64 hi) ∧ wr.cell? ⟨w.heap.size, 3, none⟩ = some (.int .i64 dr))
  case atStart => exact ⟨0, 1000000001, by omega, by omega, by omega, by omega, rfl, rfl, by omega, by omega, by go_grown, by go_cell, by go_cell, by go_cell, by go_cell⟩
  case round =>
    obtain ⟨l, hh, l1, l2, l3, l4, rfl, rfl, l5, l6, hBr, c_c0, c_c1, c_c2, c_c3⟩ := hrel
    by_cases hlt : l < hh
    · have hrd : readB ((l + hh) / 2) = true := by simp [readB]; omega
      have hcall := HO.out wr _ hrd
      have hf := HF.out ((l + hh) / 2) (by omega) (by omega)
      generalize atHi t hi dr ((l + hh) / 2) = y at *
      generalize atLo t lo dr ((l + hh) / 2) = z at *
      have HC := Lib.hid hcall
      clear hcall hrd
      by_cases hy : time ≤ y
      · have hr := hf.1 hy
        clear hf
        go_wp2_with fail
        refine (HC.out).mono ?_
        rintro e z1 ⟨rfl, hb1⟩
        have hB1 : Below w.heap.size w z1 := below_after (by go_grown) hb1
        have hz1 := hb1.size
        try simp only [World.size_alloc, World.size_setCell, World.size_drew] at hz1
        have hw1 := hB1.size
        replace c_c0 : z1.cell? ⟨w.heap.size, 0, none⟩ = some (.int .i64 t) := kp hb1 (by go_cell)
        replace c_c1 : z1.cell? ⟨w.heap.size, 1, none⟩ = some (.int .i64 lo) := kp hb1 (by go_cell)
        replace c_c2 : z1.cell? ⟨w.heap.size, 2, none⟩ = some (.int .i64 hi) := kp hb1 (by go_cell)
        replace c_c3 : z1.cell? ⟨w.heap.size, 3, none⟩ = some (.int .i64 dr) := kp hb1 (by go_cell)
        clear hb1
        go_wp2_with fail
        go_roundg (gk - 1)
        case measure => omega
        case rel => exact ⟨l, (l + hh) / 2, by omega, by omega, by omega, by omega, rfl, rfl, by omega, by omega, by go_grown, by go_cell, by go_cell, by go_cell, by go_cell⟩
      · have hr : ¬ R ≤ (l + hh) / 2 := fun h => hy (hf.2 h)
        clear hf
        go_wp2_with fail
        refine (HC.out).mono ?_
        rintro e z1 ⟨rfl, hb1⟩
        have hB1 : Below w.heap.size w z1 := below_after (by go_grown) hb1
        have hz1 := hb1.size
        try simp only [World.size_alloc, World.size_setCell, World.size_drew] at hz1
        have hw1 := hB1.size
        replace c_c0 : z1.cell? ⟨w.heap.size, 0, none⟩ = some (.int .i64 t) := kp hb1 (by go_cell)
        replace c_c1 : z1.cell? ⟨w.heap.size, 1, none⟩ = some (.int .i64 lo) := kp hb1 (by go_cell)
        replace c_c2 : z1.cell? ⟨w.heap.size, 2, none⟩ = some (.int .i64 hi) := kp hb1 (by go_cell)
        replace c_c3 : z1.cell? ⟨w.heap.size, 3, none⟩ = some (.int .i64 dr) := kp hb1 (by go_cell)
        clear hb1
        go_wp2_with fail
        go_roundg (gk - 1)
        case measure => omega
        case rel => exact ⟨(l + hh) / 2 + 1, hh, by omega, by omega, by omega, by omega, rfl, rfl, by omega, by omega, by go_grown, by go_cell, by go_cell, by go_cell, by go_cell⟩
    · have hs : l = R := by omega
      have HS := Lib.hid hs
      clear hs
      go_wp2_with fail
      go_ret
      exact ⟨ret_int HS.out, by go_grown⟩

set_option maxHeartbeats 800000 in
set_option maxRecDepth 100000 in
theorem RLast_any (t lo hi dr time : Int) (w : World) (h : clkB t lo hi dr = true) (ht1 : -1000000000000 ≤ time) (ht2 : time ≤ 1000000000000) :
    Calls Try.prog 84 #[.agg #[.int .i64 t, .int .i64 lo, .int .i64 hi, .int .i64 dr], .int .i64 time] w fun e w' => e = .returned (.int .i64 (untilI t lo dr time - 1)) ∧ Below w.heap.size w w' := by
  obtain ⟨t1, t2, r1, r2, o1, o2, o3⟩ := clkB_bounds h
  obtain ⟨f1, f2, f3⟩ := untilI_spec (t := t) (lo := lo) (time := time) r1 r2
  generalize hR : untilI t lo dr time = R at *
  have HO := Lib.hid (fun w n hn => Of_any t lo hi dr n w h hn)
  have HF := Lib.hid f3
  clear h f3 hR
  go_enter Try.func84, Try.ntmps84
  go_wp2_with fail
  go_loopg [5, 6] 1000000002 (fun k s5 s6 wr => ∃ l h : Int, (-1) ≤ l ∧ l ≤ h ∧ h ≤ 1000000000 ∧ h - l < k ∧ s5 = .int .i64 l ∧ s6 = .int .i64 h ∧ l < R ∧ R ≤ h + 1 ∧ Below w.heap.size w wr ∧
      wr.cell? ⟨w.heap.size, 0, none⟩ = some (.int .i64 t) ∧ wr.cell? ⟨w.heap.size, 1, none⟩ = some (.int .i64 lo) ∧ wr.cell? ⟨w.heap.size, 2, none⟩ = some (.int .i64 hi) ∧ wr.cell? ⟨w.heap.size, 3, none⟩ = some (.int .i64 dr))
  case atStart => exact ⟨(-1), 1000000000, by omega, by omega, by omega, by omega, rfl, rfl, by omega, by omega, by go_grown, by go_cell, by go_cell, by go_cell, by go_cell⟩
  case round =>
    obtain ⟨l, hh, l1, l2, l3, l4, rfl, rfl, l5, l6, hBr, c_c0, c_c1, c_c2, c_c3⟩ := hrel
    by_cases hlt : l < hh
    · have hrd : readB ((l + hh + 1) / 2) = true := by simp [readB]; omega
      have hcall := HO.out wr _ hrd
      have hf := HF.out ((l + hh + 1) / 2) (by omega) (by omega)
      generalize atLo t lo dr ((l + hh + 1) / 2) = y at *
      generalize atHi t hi dr ((l + hh + 1) / 2) = z at *
      have HC := Lib.hid hcall
      clear hcall hrd
      by_cases hy : time < y
      · have hr := hf.1 hy
        clear hf
        go_wp2_with fail
        refine (HC.out).mono ?_
        rintro e z1 ⟨rfl, hb1⟩
        have hB1 : Below w.heap.size w z1 := below_after (by go_grown) hb1
        have hz1 := hb1.size
        try simp only [World.size_alloc, World.size_setCell, World.size_drew] at hz1
        have hw1 := hB1.size
        replace c_c0 : z1.cell? ⟨w.heap.size, 0, none⟩ = some (.int .i64 t) := kp hb1 (by go_cell)
        replace c_c1 : z1.cell? ⟨w.heap.size, 1, none⟩ = some (.int .i64 lo) := kp hb1 (by go_cell)
        replace c_c2 : z1.cell? ⟨w.heap.size, 2, none⟩ = some (.int .i64 hi) := kp hb1 (by go_cell)
        replace c_c3 : z1.cell? ⟨w.heap.size, 3, none⟩ = some (.int .i64 dr) := kp hb1 (by go_cell)
        clear hb1
        go_wp2_with fail
        go_roundg (gk - 1)
        case measure => omega
        case rel => exact ⟨l, (l + hh + 1) / 2 - 1, by omega, by omega, by omega, by omega, rfl, rfl, by omega, by omega, by go_grown, by go_cell, by go_cell, by go_cell, by go_cell⟩
      · have hr : ¬ R ≤ (l + hh + 1) / 2 := fun h => hy (hf.2 h)
        clear hf
        go_wp2_with fail
        refine (HC.out).mono ?_
        rintro e z1 ⟨rfl, hb1⟩
        have hB1 : Below w.heap.size w z1 := below_after (by go_grown) hb1
        have hz1 := hb1.size
        try simp only [World.size_alloc, World.size_setCell, World.size_drew] at hz1
        have hw1 := hB1.size
        replace c_c0 : z1.cell? ⟨w.heap.size, 0, none⟩ = some (.int .i64 t) := kp hb1 (by go_cell)
        replace c_c1 : z1.cell? ⟨w.heap.size, 1, none⟩ = some (.int .i64 lo) := kp hb1 (by go_cell)
        replace c_c2 : z1.cell? ⟨w.heap.size, 2, none⟩ = some (.int .i64 hi) := kp hb1 (by go_cell)
        replace c_c3 : z1.cell? ⟨w.heap.size, 3, none⟩ = some (.int .i64 dr) := kp hb1 (by go_cell)
        clear hb1
        go_wp2_with fail
        go_roundg (gk - 1)
        case measure => omega
        case rel => exact ⟨(l + hh + 1) / 2, hh, by omega, by omega, by omega, by omega, rfl, rfl, by omega, by omega, by go_grown, by go_cell, by go_cell, by go_cell, by go_cell⟩
    · have hs : l = R - 1 := by omega
      have HS := Lib.hid hs
      clear hs
      go_wp2_with fail
      go_ret
      exact ⟨ret_int HS.out, by go_grown⟩

end Go.Proofs.Ytollpjdnahemeaa
