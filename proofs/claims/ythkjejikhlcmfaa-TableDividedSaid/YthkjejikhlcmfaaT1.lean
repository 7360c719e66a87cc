import Derived.Test.YthkjejikhlcmfaaProg
import Derived.WalkKit
import Derived.Lib.Hide
import Derived.Outline
import Derived.Handy
import Derived.WalkSpells
namespace Go.Proofs.Ythkjejikhlcmfaa
open Go.RowKit
set_option linter.unusedSimpArgs false
set_option linter.unusedVariables false

/-- an integer is from low to high -/
def limB (x lo hi : Int) : Bool := decide (lo ≤ x) && decide (x ≤ hi)
theorem ret_bool {a b : Bool} (h : a = b) : Ending.returned (.bool a) = .returned (.bool b) := by rw [h]
theorem ret_int {k : IntKind} {a b : Int} (h : a = b) : Ending.returned (.int k a) = .returned (.int k b) := by rw [h]

set_option maxHeartbeats 800000 in
set_option maxRecDepth 100000 in
theorem hold_any (a0 b0 c0 a1 b1 c1 a2 b2 c2 : Int) (w : World) :
    Calls Try.prog 17 #[.agg #[.int .i64 a0, .int .i64 b0, .int .i64 c0, .int .i64 a1, .int .i64 b1, .int .i64 c1, .int .i64 a2, .int .i64 b2, .int .i64 c2]] w fun e w' => e = .returned (.bool (limB a0 b0 c0 && limB a1 b1 c1 && limB a2 b2 c2)) ∧ Below w.heap.size w w' := by
  have i0 : ∀ w, (Instr.index 41 (.agg #[.int .i64 a0, .int .i64 b0, .int .i64 c0, .int .i64 a1, .int .i64 b1, .int .i64 c1, .int .i64 a2, .int .i64 b2, .int .i64 c2]) (.int .i64 0)).run Try.prog w = .ok (.agg #[.int .i64 a0, .int .i64 b0, .int .i64 c0]) w := fun _ => by kernel_rfl
  have i1 : ∀ w, (Instr.index 41 (.agg #[.int .i64 a0, .int .i64 b0, .int .i64 c0, .int .i64 a1, .int .i64 b1, .int .i64 c1, .int .i64 a2, .int .i64 b2, .int .i64 c2]) (.int .i64 1)).run Try.prog w = .ok (.agg #[.int .i64 a1, .int .i64 b1, .int .i64 c1]) w := fun _ => by kernel_rfl
  have i2 : ∀ w, (Instr.index 41 (.agg #[.int .i64 a0, .int .i64 b0, .int .i64 c0, .int .i64 a1, .int .i64 b1, .int .i64 c1, .int .i64 a2, .int .i64 b2, .int .i64 c2]) (.int .i64 2)).run Try.prog w = .ok (.agg #[.int .i64 a2, .int .i64 b2, .int .i64 c2]) w := fun _ => by kernel_rfl
  go_enter Try.func17, Try.ntmps17
  go_wp2_with fail
  refine wp_loop_rounds 4 ?_
  rw [rounds_succ]
  go_wp2_with fail
  all_goals (try rw [rounds_succ])
  all_goals (try go_wp2_with fail)
  all_goals (try rw [rounds_succ])
  all_goals (try go_wp2_with fail)
  all_goals (try rw [rounds_succ])
  all_goals (try go_wp2_with fail)
  all_goals
    go_ret
    refine ⟨ret_bool ?_, by go_grown⟩
    simp [limB, *] <;> try omega
set_option maxHeartbeats 800000 in
set_option maxRecDepth 100000 in
theorem in_any (x lo hi : Int) (w : World) : Calls Try.prog 27 #[.int .i64 x, .int .i64 lo, .int .i64 hi] w fun e w' => e = .returned (.bool (limB x lo hi)) ∧ w = w' := by
  go_enter Try.func27, Try.ntmps27
  go_wp2_with fail
  all_goals
    go_ret
    refine ⟨ret_bool ?_, rfl⟩
    simp [limB, *] <;> try omega

/-- a row is right -/
def rowB (lo hi age since part turn : Int) : Bool := limB lo (-1000) hi && limB hi (-1000) 1000 && limB age 0 10000 && limB since 0 1000000000 && limB part 0 500 && limB turn 0 8
/-- numbers are a use -/
def useB (temp age since : Int) : Bool := limB temp (-1000) 1000 && limB age 0 10000 && limB since 0 1000000000
/-- a row is for a use -/
def forB (lo hi age since temp a s : Int) : Bool := limB temp lo hi && decide (a ≤ age) && decide (s ≤ since)

set_option maxHeartbeats 800000 in
set_option maxRecDepth 100000 in
theorem Use_any (temp age since : Int) (w : World) : Calls Try.prog 20 #[.int .i64 temp, .int .i64 age, .int .i64 since] w fun e w' => e = .returned (.bool (useB temp age since)) ∧ w = w' := by
  go_enter Try.func20, Try.ntmps20
  go_wp2_with (go_at_call 27; refine (in_any _ _ _ _).mono ?_; rintro e w' ⟨rfl, rfl⟩)
  all_goals
    go_ret
    refine ⟨ret_bool ?_, rfl⟩
    simp [useB, *]

theorem below_after {w w0 w1 : World} (h : Below w.heap.size w w0) (h1 : Below w0.heap.size w0 w1) : Below w.heap.size w w1 := h.trans (h1.mono h.size)
theorem kp {W w1 : World} (hb : Below W.heap.size W w1) {b o : Nat} {v : Value} (h : W.cell? ⟨b, o, none⟩ = some v) : w1.cell? ⟨b, o, none⟩ = some v := cell_later hb h
theorem kf {W w1 : World} (hb : Below W.heap.size W w1) {b o : Nat} (h : (W.cell? ⟨b, o, none⟩).isSome = true) (hf : W.frozen? ⟨b, o, none⟩ = false) : w1.frozen? ⟨b, o, none⟩ = false := by
  obtain ⟨v, hv⟩ := Option.isSome_iff_exists.1 h
  exact (hb.frozen (World.block_lt_of_cell? _ _ hv)).trans hf
@[go_sem] theorem cell_alloc_some (w : World) (o : Obj) (n i : Nat) (h : (w.cell? ⟨n, i, none⟩).isSome = true) : (w.alloc o).cell? ⟨n, i, none⟩ = w.cell? ⟨n, i, none⟩ := by
  obtain ⟨v, hv⟩ := Option.isSome_iff_exists.1 h
  exact World.cell?_alloc_lt _ _ _ (World.block_lt_of_cell? _ _ hv)
@[go_sem] theorem frozen_alloc_some (w : World) (o : Obj) (n i : Nat) (h : (w.cell? ⟨n, i, none⟩).isSome = true) : (w.alloc o).frozen? ⟨n, i, none⟩ = w.frozen? ⟨n, i, none⟩ := by
  obtain ⟨v, hv⟩ := Option.isSome_iff_exists.1 h
  exact World.frozen?_alloc_old _ _ _ (Nat.ne_of_lt (World.block_lt_of_cell? _ _ hv))
theorem and_left {a b : Bool} (h : (a && b) = true) : a = true := by cases a <;> simp_all
theorem and_right {a b : Bool} (h : (a && b) = true) : b = true := by cases a <;> simp_all

theorem rowB_eq (lo hi age since part turn : Int) : rowB lo hi age since part turn = (limB lo (-1000) 1000 && limB hi lo 1000 && limB age 0 10000 && limB since 0 1000000000 && limB part 0 500 && limB turn 0 8) := by
  have : (limB lo (-1000) hi && limB hi (-1000) 1000) = (limB lo (-1000) 1000 && limB hi lo 1000) := by
    rw [Bool.eq_iff_iff]; simp [limB]; omega
  unfold rowB; rw [this]
set_option maxHeartbeats 800000 in
set_option maxRecDepth 100000 in
theorem Row_any (lo hi age since part turn : Int) (w : World) : Calls Try.prog 25 #[.agg #[.int .i64 lo, .int .i64 hi, .int .i64 age, .int .i64 since, .int .i64 part, .int .i64 turn]] w fun e w' => e = .returned (.bool (rowB lo hi age since part turn)) ∧ Below w.heap.size w w' := by
  go_enter Try.func25, Try.ntmps25
  go_wp2_with (go_at_call 27; refine (in_any _ _ _ _).mono ?_; rintro e w' ⟨rfl, rfl⟩)
  all_goals
    go_ret
    refine ⟨ret_bool ?_, by go_grown⟩
    rw [rowB_eq]
    simp_all

set_option maxHeartbeats 800000 in
set_option maxRecDepth 100000 in
theorem isRow_any (lo hi age since part turn : Int) (w : World) : Calls Try.prog 24 #[.agg #[.int .i64 lo, .int .i64 hi, .int .i64 age, .int .i64 since, .int .i64 part, .int .i64 turn]] w fun e w' => e = .returned (.bool (rowB lo hi age since part turn)) ∧ Below w.heap.size w w' := by
  have v1 := fun w => hold_any lo (-1000) hi hi (-1000) 1000 age 0 10000 w
  have v2 := fun w => hold_any since 0 1000000000 part 0 500 turn 0 8 w
  have hr : rowB lo hi age since part turn = ((limB lo (-1000) hi && limB hi (-1000) 1000 && limB age 0 10000) && (limB since 0 1000000000 && limB part 0 500 && limB turn 0 8)) := by simp [rowB, Bool.and_assoc]
  generalize (limB lo (-1000) hi && limB hi (-1000) 1000 && limB age 0 10000) = x at *
  generalize (limB since 0 1000000000 && limB part 0 500 && limB turn 0 8) = y at *
  have HV1 := Lib.hid v1
  have HV2 := Lib.hid v2
  have HR := Lib.hid hr
  clear v1 v2 hr
  cases x
  · simp only [Bool.false_and] at HR
    go_enter Try.func24, Try.ntmps24
    go_wp2_with fail
    refine (HV1.out _).mono ?_
    rintro e w1 ⟨rfl, hb1⟩
    have hB1 : Below w.heap.size w w1 := below_after (by go_grown) hb1
    have hz1 := hb1.size
    try simp only [World.size_alloc, World.size_setCell, World.size_drew] at hz1
    have hw1 := hB1.size
    have c_b0 : w1.cell? ⟨w.heap.size + 1 + 1, 0, none⟩ = some (.int .i64 since) := kp hb1 (by go_cell)
    have c_b1 : w1.cell? ⟨w.heap.size + 1 + 1, 1, none⟩ = some (.int .i64 0) := kp hb1 (by go_cell)
    have c_b2 : w1.cell? ⟨w.heap.size + 1 + 1, 2, none⟩ = some (.int .i64 1000000000) := kp hb1 (by go_cell)
    have c_b3 : w1.cell? ⟨w.heap.size + 1 + 1, 3, none⟩ = some (.int .i64 part) := kp hb1 (by go_cell)
    have c_b4 : w1.cell? ⟨w.heap.size + 1 + 1, 4, none⟩ = some (.int .i64 0) := kp hb1 (by go_cell)
    have c_b5 : w1.cell? ⟨w.heap.size + 1 + 1, 5, none⟩ = some (.int .i64 500) := kp hb1 (by go_cell)
    have c_b6 : w1.cell? ⟨w.heap.size + 1 + 1, 6, none⟩ = some (.int .i64 turn) := kp hb1 (by go_cell)
    have c_b7 : w1.cell? ⟨w.heap.size + 1 + 1, 7, none⟩ = some (.int .i64 0) := kp hb1 (by go_cell)
    have c_b8 : w1.cell? ⟨w.heap.size + 1 + 1, 8, none⟩ = some (.int .i64 8) := kp hb1 (by go_cell)
    clear hb1
    go_wp2_with fail
    go_ret
    exact ⟨ret_bool HR.out.symm, by go_grown⟩
  · simp only [Bool.true_and] at HR
    go_enter Try.func24, Try.ntmps24
    go_wp2_with fail
    refine (HV1.out _).mono ?_
    rintro e w1 ⟨rfl, hb1⟩
    have hB1 : Below w.heap.size w w1 := below_after (by go_grown) hb1
    have hz1 := hb1.size
    try simp only [World.size_alloc, World.size_setCell, World.size_drew] at hz1
    have hw1 := hB1.size
    have c_b0 : w1.cell? ⟨w.heap.size + 1 + 1, 0, none⟩ = some (.int .i64 since) := kp hb1 (by go_cell)
    have c_b1 : w1.cell? ⟨w.heap.size + 1 + 1, 1, none⟩ = some (.int .i64 0) := kp hb1 (by go_cell)
    have c_b2 : w1.cell? ⟨w.heap.size + 1 + 1, 2, none⟩ = some (.int .i64 1000000000) := kp hb1 (by go_cell)
    have c_b3 : w1.cell? ⟨w.heap.size + 1 + 1, 3, none⟩ = some (.int .i64 part) := kp hb1 (by go_cell)
    have c_b4 : w1.cell? ⟨w.heap.size + 1 + 1, 4, none⟩ = some (.int .i64 0) := kp hb1 (by go_cell)
    have c_b5 : w1.cell? ⟨w.heap.size + 1 + 1, 5, none⟩ = some (.int .i64 500) := kp hb1 (by go_cell)
    have c_b6 : w1.cell? ⟨w.heap.size + 1 + 1, 6, none⟩ = some (.int .i64 turn) := kp hb1 (by go_cell)
    have c_b7 : w1.cell? ⟨w.heap.size + 1 + 1, 7, none⟩ = some (.int .i64 0) := kp hb1 (by go_cell)
    have c_b8 : w1.cell? ⟨w.heap.size + 1 + 1, 8, none⟩ = some (.int .i64 8) := kp hb1 (by go_cell)
    clear hb1
    go_wp2_with fail
    refine (HV2.out _).mono ?_
    rintro e w2 ⟨rfl, hb2⟩
    have hB2 : Below w.heap.size w w2 := below_after (by go_grown) hb2
    have hz2 := hb2.size
    try simp only [World.size_alloc, World.size_setCell, World.size_drew] at hz2
    have hw2 := hB2.size
    replace c_b0 : w2.cell? ⟨w.heap.size + 1 + 1, 0, none⟩ = some (.int .i64 since) := kp hb2 (by go_cell)
    replace c_b1 : w2.cell? ⟨w.heap.size + 1 + 1, 1, none⟩ = some (.int .i64 0) := kp hb2 (by go_cell)
    replace c_b2 : w2.cell? ⟨w.heap.size + 1 + 1, 2, none⟩ = some (.int .i64 1000000000) := kp hb2 (by go_cell)
    replace c_b3 : w2.cell? ⟨w.heap.size + 1 + 1, 3, none⟩ = some (.int .i64 part) := kp hb2 (by go_cell)
    replace c_b4 : w2.cell? ⟨w.heap.size + 1 + 1, 4, none⟩ = some (.int .i64 0) := kp hb2 (by go_cell)
    replace c_b5 : w2.cell? ⟨w.heap.size + 1 + 1, 5, none⟩ = some (.int .i64 500) := kp hb2 (by go_cell)
    replace c_b6 : w2.cell? ⟨w.heap.size + 1 + 1, 6, none⟩ = some (.int .i64 turn) := kp hb2 (by go_cell)
    replace c_b7 : w2.cell? ⟨w.heap.size + 1 + 1, 7, none⟩ = some (.int .i64 0) := kp hb2 (by go_cell)
    replace c_b8 : w2.cell? ⟨w.heap.size + 1 + 1, 8, none⟩ = some (.int .i64 8) := kp hb2 (by go_cell)
    clear hb2 hB1
    go_wp2_with fail
    go_ret
    exact ⟨ret_bool HR.out.symm, by go_grown⟩

set_option maxHeartbeats 800000 in
set_option maxRecDepth 100000 in
theorem notRow_any (lo hi age since part turn : Int) (w : World) : Calls Try.prog 23 #[.agg #[.int .i64 lo, .int .i64 hi, .int .i64 age, .int .i64 since, .int .i64 part, .int .i64 turn]] w fun e w' => e = .returned (.bool (!rowB lo hi age since part turn)) ∧ Below w.heap.size w w' := by
  have v1 := fun w => isRow_any lo hi age since part turn w
  generalize rowB lo hi age since part turn = x at *
  have HV1 := Lib.hid v1
  clear v1
  go_enter Try.func23, Try.ntmps23
  go_wp2_with fail
  refine (HV1.out _).mono ?_
  rintro e w1 ⟨rfl, hb1⟩
  have hB1 : Below w.heap.size w w1 := below_after (by go_grown) hb1
  have hz1 := hb1.size
  try simp only [World.size_alloc, World.size_setCell, World.size_drew] at hz1
  have hw1 := hB1.size
  clear hb1
  go_wp2_with fail
  go_ret
  exact ⟨rfl, by go_grown⟩

set_option maxHeartbeats 800000 in
set_option maxRecDepth 100000 in
theorem For_any (lo hi age since part turn : Int) (temp a s : Int) (w : World) : Calls Try.prog 28 #[.agg #[.int .i64 lo, .int .i64 hi, .int .i64 age, .int .i64 since, .int .i64 part, .int .i64 turn], .int .i64 temp, .int .i64 a, .int .i64 s] w fun e w' => e = .returned (.bool (forB lo hi age since temp a s)) ∧ Below w.heap.size w w' := by
  go_enter Try.func28, Try.ntmps28
  go_wp2_with (go_at_call 27; refine (in_any _ _ _ _).mono ?_; rintro e w' ⟨rfl, rfl⟩)
  all_goals
    go_ret
    refine ⟨ret_bool ?_, by go_grown⟩
    simp [forB, *] <;> try omega

set_option maxHeartbeats 800000 in
set_option maxRecDepth 100000 in
theorem for1_any (lo hi age since part turn : Int) (temp a s : Int) (bt ba bs : Nat) (w : World) (ha : 0 ≤ a) (hs : 0 ≤ s) (c1 : w.cell? ⟨bt, 0, none⟩ = some (.int .i64 temp)) (c2 : w.cell? ⟨ba, 0, none⟩ = some (.int .i64 a)) (c3 : w.cell? ⟨bs, 0, none⟩ = some (.int .i64 s)) :
    Calls Try.prog 26 #[.agg #[.int .i64 lo, .int .i64 hi, .int .i64 age, .int .i64 since, .int .i64 part, .int .i64 turn], .pointer (some ⟨bt, 0, none⟩), .pointer (some ⟨ba, 0, none⟩), .pointer (some ⟨bs, 0, none⟩)] w fun e w' => e = .returned (.bool (forB lo hi age since temp a s)) ∧ Below w.heap.size w w' := by
  have v1 := fun w => hold_any temp lo hi a 0 age s 0 since w
  have hr : (limB temp lo hi && limB a 0 age && limB s 0 since) = forB lo hi age since temp a s := by simp [limB, forB, ha, hs]
  have HV1 := Lib.hid v1
  have HR := Lib.hid hr
  clear v1 hr
  go_enter Try.func26, Try.ntmps26
  go_wp2_with fail
  refine (HV1.out _).mono ?_
  rintro e w1 ⟨rfl, hb1⟩
  have hB1 : Below w.heap.size w w1 := below_after (by go_grown) hb1
  have hz1 := hb1.size
  try simp only [World.size_alloc, World.size_setCell, World.size_drew] at hz1
  have hw1 := hB1.size
  clear hb1
  go_wp2_with fail
  go_ret
  exact ⟨ret_bool HR.out, by go_grown⟩

set_option maxHeartbeats 800000 in
set_option maxRecDepth 100000 in
theorem forUse_any (temp a s : Int) (w : World) :
    Calls Try.prog 19 #[.int .i64 temp, .int .i64 a, .int .i64 s] w fun e w' => e = .returned (.func (.func 26) #[] #[.pointer (some ⟨w.heap.size, 0, none⟩), .pointer (some ⟨w.heap.size + 1, 0, none⟩), .pointer (some ⟨w.heap.size + 1 + 1, 0, none⟩)]) ∧ Below w.heap.size w w' ∧
      w'.cell? ⟨w.heap.size, 0, none⟩ = some (.int .i64 temp) ∧ w'.cell? ⟨w.heap.size + 1, 0, none⟩ = some (.int .i64 a) ∧ w'.cell? ⟨w.heap.size + 1 + 1, 0, none⟩ = some (.int .i64 s) := by
  go_enter Try.func19, Try.ntmps19
  go_wp2_with fail
  go_ret
  exact ⟨rfl, by go_grown, by go_cell, by go_cell, by go_cell⟩

end Go.Proofs.Ythkjejikhlcmfaa
