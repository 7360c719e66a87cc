import Derived.Test.YtollpjdnahemeaaC1
import Derived.Deep.LoopGhost
namespace Go.Proofs.Ytollpjdnahemeaa
open Go.RowKit
set_option linter.unusedSimpArgs false
set_option linter.unusedVariables false
attribute [local go_sem ↓] Go.wp_at_zero Go.wp_at_succ

/-- the search that halves a range -/
def bs (p : Int → Bool) : Nat → Int → Int → Int
  | 0, lo, _ => lo
  | f + 1, lo, hi => if lo < hi then (if p (lo + (hi - lo) / 2) then bs p f lo (lo + (hi - lo) / 2) else bs p f (lo + (hi - lo) / 2 + 1) hi) else lo
theorem bs_stop (p : Int → Bool) (k : Nat) (lo hi : Int) (h : ¬ lo < hi) : bs p k lo hi = lo := by
  cases k with
  | zero => rfl
  | succ k => simp [bs, h]
theorem bs_yes (p : Int → Bool) (k : Nat) (lo hi : Int) (h : lo < hi) (hp : p (lo + (hi - lo) / 2) = true) : bs p (k + 1) lo hi = bs p k lo (lo + (hi - lo) / 2) := by simp [bs, h, hp]
theorem bs_no (p : Int → Bool) (k : Nat) (lo hi : Int) (h : lo < hi) (hp : p (lo + (hi - lo) / 2) = false) : bs p (k + 1) lo hi = bs p k (lo + (hi - lo) / 2 + 1) hi := by simp [bs, h, hp]
theorem field_lo (x y : Value) (w : World) : (Instr.field 23 (.agg #[x, y]) 0).run Try.prog w = .ok x w := by kernel_rfl
theorem field_hi (x y : Value) (w : World) : (Instr.field 23 (.agg #[x, y]) 1).run Try.prog w = .ok y w := by kernel_rfl
attribute [local go_sem] field_lo field_hi
def hiP (t hi dr time : Int) (n : Int) : Bool := decide (time ≤ atHi t hi dr n)
def loP (t lo dr time : Int) (n : Int) : Bool := decide (time < atLo t lo dr n)

set_option maxHeartbeats 800000 in
set_option maxRecDepth 100000 in
theorem hold81_any (t lo hi dr time n : Int) (bc bt : Nat) (w : World) (h : clkB t lo hi dr = true) (h2 : readB n = true)
    (c_c0 : w.cell? ⟨bc, 0, none⟩ = some (.int .i64 t)) (c_c1 : w.cell? ⟨bc, 1, none⟩ = some (.int .i64 lo)) (c_c2 : w.cell? ⟨bc, 2, none⟩ = some (.int .i64 hi)) (c_c3 : w.cell? ⟨bc, 3, none⟩ = some (.int .i64 dr)) (c_t0 : w.cell? ⟨bt, 0, none⟩ = some (.int .i64 time)) :
    Calls Try.prog 81 #[.int .i64 n, .pointer (some ⟨bc, 0, none⟩), .pointer (some ⟨bt, 0, none⟩)] w fun e w' => e = .returned (.bool (hiP t hi dr time n)) ∧ Below w.heap.size w w' := by
  have c1 := fun w => at_any t lo hi dr n w h h2
  have e1 : hiP t hi dr time n = decide (time ≤ atHi t hi dr n) := rfl
  generalize atLo t lo dr n = x at *
  generalize atHi t hi dr n = y at *
  have HC := Lib.hid c1
  have HE := Lib.hid e1
  clear h h2 c1 e1
  go_enter Try.func81, Try.ntmps81
  go_wp2_with fail
  go_region_held3 (fun w' => Below w.heap.size w w' ∧ w'.cell? ⟨bc, 0, none⟩ = some (.int .i64 t) ∧ w'.cell? ⟨bc, 1, none⟩ = some (.int .i64 lo) ∧ w'.cell? ⟨bc, 2, none⟩ = some (.int .i64 hi) ∧ w'.cell? ⟨bc, 3, none⟩ = some (.int .i64 dr) ∧ w'.cell? ⟨bt, 0, none⟩ = some (.int .i64 time))
    ((go_split_ands; refine ⟨?_, ?_, ?_, ?_, ?_, ?_⟩ <;> first | (with_reducible assumption) | (exact below_after (by assumption) hb) | (exact kp hb (by assumption)) | (exact kf hb (by go_simp) (by assumption)) | (exact Below.drew (by go_grown)) | go_cell | go_simp))
    (first | (go_at_call 78; (with_reducible refine (HC.out _).mono ?_); rintro e x9 ⟨rfl, hb⟩))
  go_split_ands
  have hB1 : Below w.heap.size w x9 := by assumption
  replace c_c0 : x9.cell? ⟨bc, 0, none⟩ = some (.int .i64 t) := by assumption
  replace c_c1 : x9.cell? ⟨bc, 1, none⟩ = some (.int .i64 lo) := by assumption
  replace c_c2 : x9.cell? ⟨bc, 2, none⟩ = some (.int .i64 hi) := by assumption
  replace c_c3 : x9.cell? ⟨bc, 3, none⟩ = some (.int .i64 dr) := by assumption
  replace c_t0 : x9.cell? ⟨bt, 0, none⟩ = some (.int .i64 time) := by assumption
  have hz1 := hB1.size
  have hs1_c := World.block_lt_of_cell? _ _ c_c0
  have hs1_t := World.block_lt_of_cell? _ _ c_t0
  simp only at hs1_c hs1_t
  go_wp2_with fail
  all_goals
    go_ret
    refine ⟨ret_bool ?_, by go_grown⟩
    rw [HE.out]

set_option maxHeartbeats 800000 in
set_option maxRecDepth 100000 in
theorem hold82_any (t lo hi dr time n : Int) (bc bt : Nat) (w : World) (h : clkB t lo hi dr = true) (h2 : readB n = true)
    (c_c0 : w.cell? ⟨bc, 0, none⟩ = some (.int .i64 t)) (c_c1 : w.cell? ⟨bc, 1, none⟩ = some (.int .i64 lo)) (c_c2 : w.cell? ⟨bc, 2, none⟩ = some (.int .i64 hi)) (c_c3 : w.cell? ⟨bc, 3, none⟩ = some (.int .i64 dr)) (c_t0 : w.cell? ⟨bt, 0, none⟩ = some (.int .i64 time)) :
    Calls Try.prog 82 #[.int .i64 n, .pointer (some ⟨bc, 0, none⟩), .pointer (some ⟨bt, 0, none⟩)] w fun e w' => e = .returned (.bool (loP t lo dr time n)) ∧ Below w.heap.size w w' := by
  have c1 := fun w => at_any t lo hi dr n w h h2
  have e1 : loP t lo dr time n = decide (time < atLo t lo dr n) := rfl
  generalize atLo t lo dr n = x at *
  generalize atHi t hi dr n = y at *
  have HC := Lib.hid c1
  have HE := Lib.hid e1
  clear h h2 c1 e1
  go_enter Try.func82, Try.ntmps82
  go_wp2_with fail
  go_region_held3 (fun w' => Below w.heap.size w w' ∧ w'.cell? ⟨bc, 0, none⟩ = some (.int .i64 t) ∧ w'.cell? ⟨bc, 1, none⟩ = some (.int .i64 lo) ∧ w'.cell? ⟨bc, 2, none⟩ = some (.int .i64 hi) ∧ w'.cell? ⟨bc, 3, none⟩ = some (.int .i64 dr) ∧ w'.cell? ⟨bt, 0, none⟩ = some (.int .i64 time))
    ((go_split_ands; refine ⟨?_, ?_, ?_, ?_, ?_, ?_⟩ <;> first | (with_reducible assumption) | (exact below_after (by assumption) hb) | (exact kp hb (by assumption)) | (exact kf hb (by go_simp) (by assumption)) | (exact Below.drew (by go_grown)) | go_cell | go_simp))
    (first | (go_at_call 78; (with_reducible refine (HC.out _).mono ?_); rintro e x9 ⟨rfl, hb⟩))
  go_split_ands
  have hB1 : Below w.heap.size w x9 := by assumption
  replace c_c0 : x9.cell? ⟨bc, 0, none⟩ = some (.int .i64 t) := by assumption
  replace c_c1 : x9.cell? ⟨bc, 1, none⟩ = some (.int .i64 lo) := by assumption
  replace c_c2 : x9.cell? ⟨bc, 2, none⟩ = some (.int .i64 hi) := by assumption
  replace c_c3 : x9.cell? ⟨bc, 3, none⟩ = some (.int .i64 dr) := by assumption
  replace c_t0 : x9.cell? ⟨bt, 0, none⟩ = some (.int .i64 time) := by assumption
  have hz1 := hB1.size
  have hs1_c := World.block_lt_of_cell? _ _ c_c0
  have hs1_t := World.block_lt_of_cell? _ _ c_t0
  simp only at hs1_c hs1_t
  go_wp2_with fail
  all_goals
    go_ret
    refine ⟨ret_bool ?_, by go_grown⟩
    rw [HE.out]

set_option maxHeartbeats 800000 in
set_option maxRecDepth 100000 in
theorem leastHi_any (p : Int → Bool) (bc bt : Nat) (w : World)
    (hp : ∀ W n, Below w.heap.size w W → readB n = true → Calls Try.prog 81 #[.int .i64 n, .pointer (some ⟨bc, 0, none⟩), .pointer (some ⟨bt, 0, none⟩)] W fun e w' => e = .returned (.bool (p n)) ∧ Below W.heap.size W w') :
    Calls Try.prog 80 #[.int .i64 0, .int .i64 1000000001, .func (.func 81) #[] #[.pointer (some ⟨bc, 0, none⟩), .pointer (some ⟨bt, 0, none⟩)]] w fun e w' => e = .returned (.int .i64 (bs p 31 0 1000000001)) ∧ Below w.heap.size w w' := by
  have HP := Lib.hid hp
  clear hp
  generalize hR : bs p 31 0 1000000001 = R
  have HR := Lib.hid hR
  clear hR
  go_enter Try.func80, Try.ntmps80
  go_wp2_with fail
  go_loopg [0, 1] 31 (fun k s0 s1 wr => ∃ lo hi : Int, 0 ≤ lo ∧ lo ≤ hi ∧ hi ≤ 1000000001 ∧ hi - lo < 2 ^ k ∧ s0 = .int .i64 lo ∧ s1 = .int .i64 hi ∧ Aside (bs p k lo hi = R) ∧ Below w.heap.size w wr)
  case atStart => exact ⟨0, 1000000001, by omega, by omega, by omega, by omega, rfl, rfl, HR.out, Below.refl _ _⟩
  case round =>
    obtain ⟨lo, hi, l1, l2, l3, l4, rfl, rfl, HB, hBr⟩ := hrel
    by_cases hlt : lo < hi
    · obtain ⟨k, rfl⟩ : ∃ k, gk = k + 1 := by
        cases gk with
        | zero => simp at l4; omega
        | succ k => exact ⟨k, rfl⟩
      have hrd : readB (lo + (hi - lo) / 2) = true := by simp [readB]; omega
      have hcall := HP.out wr (lo + (hi - lo) / 2) hBr hrd
      have l5 : hi - lo < 2 * 2 ^ k := by rw [Int.pow_succ] at l4; omega
      have L5 := Lib.hid l5
      clear l4 l5 hrd
      cases hq : p (lo + (hi - lo) / 2) with
      | true =>
        rw [hq] at hcall
        have HC := Lib.hid hcall
        have HQ := Lib.hid hq
        clear hcall hq
        go_wp2_with fail
        refine HC.out.mono ?_
        rintro e w1 ⟨rfl, hb1⟩
        have hB1 : Below w.heap.size w w1 := below_after hBr hb1
        clear hb1
        go_wp2_with fail
        go_roundg k
        case measure => omega
        case rel => exact ⟨lo, lo + (hi - lo) / 2, by omega, by omega, by omega, by have := L5.out; omega, rfl, rfl, (bs_yes p k lo hi hlt HQ.out).symm.trans HB.out, hB1⟩
      | false =>
        rw [hq] at hcall
        have HC := Lib.hid hcall
        have HQ := Lib.hid hq
        clear hcall hq
        go_wp2_with fail
        refine HC.out.mono ?_
        rintro e w1 ⟨rfl, hb1⟩
        have hB1 : Below w.heap.size w w1 := below_after hBr hb1
        clear hb1
        go_wp2_with fail
        go_roundg k
        case measure => omega
        case rel => exact ⟨lo + (hi - lo) / 2 + 1, hi, by omega, by omega, by omega, by have := L5.out; omega, rfl, rfl, (bs_no p k lo hi hlt HQ.out).symm.trans HB.out, hB1⟩
    · have hs := (bs_stop p gk lo hi hlt).symm.trans HB.out
      have HS := Lib.hid hs
      clear hs
      go_wp2_with fail
      go_ret
      exact ⟨ret_int HS.out, by go_grown⟩

set_option maxHeartbeats 800000 in
set_option maxRecDepth 100000 in
theorem leastLo_any (p : Int → Bool) (bc bt : Nat) (w : World)
    (hp : ∀ W n, Below w.heap.size w W → readB n = true → Calls Try.prog 82 #[.int .i64 n, .pointer (some ⟨bc, 0, none⟩), .pointer (some ⟨bt, 0, none⟩)] W fun e w' => e = .returned (.bool (p n)) ∧ Below W.heap.size W w') :
    Calls Try.prog 80 #[.int .i64 0, .int .i64 1000000001, .func (.func 82) #[] #[.pointer (some ⟨bc, 0, none⟩), .pointer (some ⟨bt, 0, none⟩)]] w fun e w' => e = .returned (.int .i64 (bs p 31 0 1000000001)) ∧ Below w.heap.size w w' := by
  have HP := Lib.hid hp
  clear hp
  generalize hR : bs p 31 0 1000000001 = R
  have HR := Lib.hid hR
  clear hR
  go_enter Try.func80, Try.ntmps80
  go_wp2_with fail
  go_loopg [0, 1] 31 (fun k s0 s1 wr => ∃ lo hi : Int, 0 ≤ lo ∧ lo ≤ hi ∧ hi ≤ 1000000001 ∧ hi - lo < 2 ^ k ∧ s0 = .int .i64 lo ∧ s1 = .int .i64 hi ∧ Aside (bs p k lo hi = R) ∧ Below w.heap.size w wr)
  case atStart => exact ⟨0, 1000000001, by omega, by omega, by omega, by omega, rfl, rfl, HR.out, Below.refl _ _⟩
  case round =>
    obtain ⟨lo, hi, l1, l2, l3, l4, rfl, rfl, HB, hBr⟩ := hrel
    by_cases hlt : lo < hi
    · obtain ⟨k, rfl⟩ : ∃ k, gk = k + 1 := by
        cases gk with
        | zero => simp at l4; omega
        | succ k => exact ⟨k, rfl⟩
      have hrd : readB (lo + (hi - lo) / 2) = true := by simp [readB]; omega
      have hcall := HP.out wr (lo + (hi - lo) / 2) hBr hrd
      have l5 : hi - lo < 2 * 2 ^ k := by rw [Int.pow_succ] at l4; omega
      have L5 := Lib.hid l5
      clear l4 l5 hrd
      cases hq : p (lo + (hi - lo) / 2) with
      | true =>
        rw [hq] at hcall
        have HC := Lib.hid hcall
        have HQ := Lib.hid hq
        clear hcall hq
        go_wp2_with fail
        refine HC.out.mono ?_
        rintro e w1 ⟨rfl, hb1⟩
        have hB1 : Below w.heap.size w w1 := below_after hBr hb1
        clear hb1
        go_wp2_with fail
        go_roundg k
        case measure => omega
        case rel => exact ⟨lo, lo + (hi - lo) / 2, by omega, by omega, by omega, by have := L5.out; omega, rfl, rfl, (bs_yes p k lo hi hlt HQ.out).symm.trans HB.out, hB1⟩
      | false =>
        rw [hq] at hcall
        have HC := Lib.hid hcall
        have HQ := Lib.hid hq
        clear hcall hq
        go_wp2_with fail
        refine HC.out.mono ?_
        rintro e w1 ⟨rfl, hb1⟩
        have hB1 : Below w.heap.size w w1 := below_after hBr hb1
        clear hb1
        go_wp2_with fail
        go_roundg k
        case measure => omega
        case rel => exact ⟨lo + (hi - lo) / 2 + 1, hi, by omega, by omega, by omega, by have := L5.out; omega, rfl, rfl, (bs_no p k lo hi hlt HQ.out).symm.trans HB.out, hB1⟩
    · have hs := (bs_stop p gk lo hi hlt).symm.trans HB.out
      have HS := Lib.hid hs
      clear hs
      go_wp2_with fail
      go_ret
      exact ⟨ret_int HS.out, by go_grown⟩

end Go.Proofs.Ytollpjdnahemeaa
