import Derived.Test.YthkjejikhlcmfaaT3
namespace Go.Proofs.Ythkjejikhlcmfaa
open Go.RowKit
set_option linter.unusedSimpArgs false
set_option linter.unusedVariables false

theorem bdn {B : Nat} {a w : World} (h : Below B a w) (n : Nat) : Below B a (w.drewN n) := h.trans ⟨rfl, rfl, rfl, Nat.le_refl _, fun _ _ => rfl⟩
set_option maxHeartbeats 800000 in
set_option maxRecDepth 100000 in
theorem Find_no1 (temp a s : Int) (A : Option Addr) (n c : Nat) (xs : List Rw) (w : World) (hn : xs.length = n) (hbig : n ≤ 9223372036854775807) (hx : Rows? w A xs) (h : validB xs = false) :
    Calls Try.prog 11 #[.slice A n c, .int .i64 temp, .int .i64 a, .int .i64 s] w fun e w' => e = .returned (.tuple #[.int .i64 (findS xs temp a s).1, .int .i64 (findS xs temp a s).2.1, .int .i64 (findS xs temp a s).2.2]) ∧ Below w.heap.size w w' := by
  have hr : findS xs temp a s = (0, 0, 1) := by simp [findS, h]
  have HR := Lib.hid hr
  have v1 := fun w h => Valid_any A n c xs w hn hbig h
  have v2 := fun w => hold_any temp (-1000) 1000 a 0 10000 s 0 1000000000 w
  rw [h] at v1
  have HV1 := Lib.hid v1
  have HV2 := Lib.hid v2
  have HX := Lib.hid hx
  clear v1 v2 hr hx hn h
  go_enter Try.func11, Try.ntmps11
  go_wp2_with fail
  refine (HV1.out _ (HX.out.below (by go_grown))).mono ?_
  rintro e w1 ⟨rfl, hb1⟩
  have hB1 : Below w.heap.size w w1 := below_after (by go_grown) hb1
  have hz1 := hb1.size
  try simp only [World.size_alloc, World.size_setCell, World.size_drew] at hz1
  have hw1 := hB1.size
  have c_u0 : w1.cell? ⟨w.heap.size, 0, none⟩ = some (.int .i64 temp) := kp hb1 (by go_cell)
  have c_u1 : w1.cell? ⟨w.heap.size, 1, none⟩ = some (.int .i64 ((-1000))) := kp hb1 (by go_cell)
  have c_u2 : w1.cell? ⟨w.heap.size, 2, none⟩ = some (.int .i64 1000) := kp hb1 (by go_cell)
  have c_u3 : w1.cell? ⟨w.heap.size, 3, none⟩ = some (.int .i64 a) := kp hb1 (by go_cell)
  have c_u4 : w1.cell? ⟨w.heap.size, 4, none⟩ = some (.int .i64 0) := kp hb1 (by go_cell)
  have c_u5 : w1.cell? ⟨w.heap.size, 5, none⟩ = some (.int .i64 10000) := kp hb1 (by go_cell)
  have c_u6 : w1.cell? ⟨w.heap.size, 6, none⟩ = some (.int .i64 s) := kp hb1 (by go_cell)
  have c_u7 : w1.cell? ⟨w.heap.size, 7, none⟩ = some (.int .i64 0) := kp hb1 (by go_cell)
  have c_u8 : w1.cell? ⟨w.heap.size, 8, none⟩ = some (.int .i64 1000000000) := kp hb1 (by go_cell)
  clear hb1
  go_wp2_with fail
  rw [HR.out]
  go_ret3
  exact ⟨rfl, by go_grown⟩

set_option maxHeartbeats 800000 in
set_option maxRecDepth 100000 in
theorem Find_no2 (temp a s : Int) (A : Option Addr) (n c : Nat) (xs : List Rw) (w : World) (hn : xs.length = n) (hbig : n ≤ 9223372036854775807) (hx : Rows? w A xs) (h : validB xs = true) (h2 : useB temp a s = false) :
    Calls Try.prog 11 #[.slice A n c, .int .i64 temp, .int .i64 a, .int .i64 s] w fun e w' => e = .returned (.tuple #[.int .i64 (findS xs temp a s).1, .int .i64 (findS xs temp a s).2.1, .int .i64 (findS xs temp a s).2.2]) ∧ Below w.heap.size w w' := by
  have hr : findS xs temp a s = (0, 0, 1) := by simp [findS, h, h2]
  have HR := Lib.hid hr
  have v1 := fun w h => Valid_any A n c xs w hn hbig h
  have v2 := fun w => hold_any temp (-1000) 1000 a 0 10000 s 0 1000000000 w
  rw [h] at v1
  rw [show (limB temp (-1000) 1000 && limB a 0 10000 && limB s 0 1000000000) = false from h2] at v2
  have HV1 := Lib.hid v1
  have HV2 := Lib.hid v2
  have HX := Lib.hid hx
  clear v1 v2 hr hx hn h
  go_enter Try.func11, Try.ntmps11
  go_wp2_with fail
  refine (HV1.out _ (HX.out.below (by go_grown))).mono ?_
  rintro e w1 ⟨rfl, hb1⟩
  have hB1 : Below w.heap.size w w1 := below_after (by go_grown) hb1
  have hz1 := hb1.size
  try simp only [World.size_alloc, World.size_setCell, World.size_drew] at hz1
  have hw1 := hB1.size
  have c_u0 : w1.cell? ⟨w.heap.size, 0, none⟩ = some (.int .i64 temp) := kp hb1 (by go_cell)
  have c_u1 : w1.cell? ⟨w.heap.size, 1, none⟩ = some (.int .i64 ((-1000))) := kp hb1 (by go_cell)
  have c_u2 : w1.cell? ⟨w.heap.size, 2, none⟩ = some (.int .i64 1000) := kp hb1 (by go_cell)
  have c_u3 : w1.cell? ⟨w.heap.size, 3, none⟩ = some (.int .i64 a) := kp hb1 (by go_cell)
  have c_u4 : w1.cell? ⟨w.heap.size, 4, none⟩ = some (.int .i64 0) := kp hb1 (by go_cell)
  have c_u5 : w1.cell? ⟨w.heap.size, 5, none⟩ = some (.int .i64 10000) := kp hb1 (by go_cell)
  have c_u6 : w1.cell? ⟨w.heap.size, 6, none⟩ = some (.int .i64 s) := kp hb1 (by go_cell)
  have c_u7 : w1.cell? ⟨w.heap.size, 7, none⟩ = some (.int .i64 0) := kp hb1 (by go_cell)
  have c_u8 : w1.cell? ⟨w.heap.size, 8, none⟩ = some (.int .i64 1000000000) := kp hb1 (by go_cell)
  clear hb1
  go_wp2_with fail
  refine (HV2.out _).mono ?_
  rintro e w2 ⟨rfl, hb2⟩
  have hB2 : Below w.heap.size w w2 := below_after (by go_grown) hb2
  have hz2 := hb2.size
  try simp only [World.size_alloc, World.size_setCell, World.size_drew] at hz2
  have hw2 := hB2.size
  replace c_u0 : w2.cell? ⟨w.heap.size, 0, none⟩ = some (.int .i64 temp) := kp hb2 (by go_cell)
  replace c_u1 : w2.cell? ⟨w.heap.size, 1, none⟩ = some (.int .i64 ((-1000))) := kp hb2 (by go_cell)
  replace c_u2 : w2.cell? ⟨w.heap.size, 2, none⟩ = some (.int .i64 1000) := kp hb2 (by go_cell)
  replace c_u3 : w2.cell? ⟨w.heap.size, 3, none⟩ = some (.int .i64 a) := kp hb2 (by go_cell)
  replace c_u4 : w2.cell? ⟨w.heap.size, 4, none⟩ = some (.int .i64 0) := kp hb2 (by go_cell)
  replace c_u5 : w2.cell? ⟨w.heap.size, 5, none⟩ = some (.int .i64 10000) := kp hb2 (by go_cell)
  replace c_u6 : w2.cell? ⟨w.heap.size, 6, none⟩ = some (.int .i64 s) := kp hb2 (by go_cell)
  replace c_u7 : w2.cell? ⟨w.heap.size, 7, none⟩ = some (.int .i64 0) := kp hb2 (by go_cell)
  replace c_u8 : w2.cell? ⟨w.heap.size, 8, none⟩ = some (.int .i64 1000000000) := kp hb2 (by go_cell)
  clear hb2 hB1
  go_wp2_with fail
  rw [HR.out]
  go_ret3
  exact ⟨rfl, by go_grown⟩

set_option maxHeartbeats 800000 in
set_option maxRecDepth 100000 in
theorem Find_yes3 (temp a s : Int) (A : Option Addr) (n c : Nat) (xs : List Rw) (w : World) (hn : xs.length = n) (hbig : n ≤ 9223372036854775807) (hx : Rows? w A xs) (h : validB xs = true) (h2 : useB temp a s = true) (hi : idxI (Rw.isFor temp a s) xs 0 = -1) (hf : xs.find? (Rw.isFor temp a s) = none) :
    Calls Try.prog 11 #[.slice A n c, .int .i64 temp, .int .i64 a, .int .i64 s] w fun e w' => e = .returned (.tuple #[.int .i64 (findS xs temp a s).1, .int .i64 (findS xs temp a s).2.1, .int .i64 (findS xs temp a s).2.2]) ∧ Below w.heap.size w w' := by
  have hr : findS xs temp a s = (0, 0, 4) := by simp [findS, h, h2, hf]
  have HR := Lib.hid hr
  have v1 := fun w h => Valid_any A n c xs w hn hbig h
  have v2 := fun w => hold_any temp (-1000) 1000 a 0 10000 s 0 1000000000 w
  rw [h] at v1
  rw [show (limB temp (-1000) 1000 && limB a 0 10000 && limB s 0 1000000000) = true from h2] at v2
  have v3 := fun bt ba bs w h hp => idx26_any (Rw.isFor temp a s) bt ba bs A n c xs w hn hbig h hp
  rw [hi] at v3
  obtain ⟨un1, un2⟩ := useB_nonneg h2
  have HV1 := Lib.hid v1
  have HV2 := Lib.hid v2
  have HV3 := Lib.hid v3
  have HX := Lib.hid hx
  clear v1 v2 v3 hr hx hn h h2 hi hf
  go_enter Try.func11, Try.ntmps11
  go_wp2_with fail
  refine (HV1.out _ (HX.out.below (by go_grown))).mono ?_
  rintro e w1 ⟨rfl, hb1⟩
  have hB1 : Below w.heap.size w w1 := below_after (by go_grown) hb1
  have hz1 := hb1.size
  try simp only [World.size_alloc, World.size_setCell, World.size_drew] at hz1
  have hw1 := hB1.size
  have c_u0 : w1.cell? ⟨w.heap.size, 0, none⟩ = some (.int .i64 temp) := kp hb1 (by go_cell)
  have c_u1 : w1.cell? ⟨w.heap.size, 1, none⟩ = some (.int .i64 ((-1000))) := kp hb1 (by go_cell)
  have c_u2 : w1.cell? ⟨w.heap.size, 2, none⟩ = some (.int .i64 1000) := kp hb1 (by go_cell)
  have c_u3 : w1.cell? ⟨w.heap.size, 3, none⟩ = some (.int .i64 a) := kp hb1 (by go_cell)
  have c_u4 : w1.cell? ⟨w.heap.size, 4, none⟩ = some (.int .i64 0) := kp hb1 (by go_cell)
  have c_u5 : w1.cell? ⟨w.heap.size, 5, none⟩ = some (.int .i64 10000) := kp hb1 (by go_cell)
  have c_u6 : w1.cell? ⟨w.heap.size, 6, none⟩ = some (.int .i64 s) := kp hb1 (by go_cell)
  have c_u7 : w1.cell? ⟨w.heap.size, 7, none⟩ = some (.int .i64 0) := kp hb1 (by go_cell)
  have c_u8 : w1.cell? ⟨w.heap.size, 8, none⟩ = some (.int .i64 1000000000) := kp hb1 (by go_cell)
  clear hb1
  go_wp2_with fail
  refine (HV2.out _).mono ?_
  rintro e w2 ⟨rfl, hb2⟩
  have hB2 : Below w.heap.size w w2 := below_after (by go_grown) hb2
  have hz2 := hb2.size
  try simp only [World.size_alloc, World.size_setCell, World.size_drew] at hz2
  have hw2 := hB2.size
  replace c_u0 : w2.cell? ⟨w.heap.size, 0, none⟩ = some (.int .i64 temp) := kp hb2 (by go_cell)
  replace c_u1 : w2.cell? ⟨w.heap.size, 1, none⟩ = some (.int .i64 ((-1000))) := kp hb2 (by go_cell)
  replace c_u2 : w2.cell? ⟨w.heap.size, 2, none⟩ = some (.int .i64 1000) := kp hb2 (by go_cell)
  replace c_u3 : w2.cell? ⟨w.heap.size, 3, none⟩ = some (.int .i64 a) := kp hb2 (by go_cell)
  replace c_u4 : w2.cell? ⟨w.heap.size, 4, none⟩ = some (.int .i64 0) := kp hb2 (by go_cell)
  replace c_u5 : w2.cell? ⟨w.heap.size, 5, none⟩ = some (.int .i64 10000) := kp hb2 (by go_cell)
  replace c_u6 : w2.cell? ⟨w.heap.size, 6, none⟩ = some (.int .i64 s) := kp hb2 (by go_cell)
  replace c_u7 : w2.cell? ⟨w.heap.size, 7, none⟩ = some (.int .i64 0) := kp hb2 (by go_cell)
  replace c_u8 : w2.cell? ⟨w.heap.size, 8, none⟩ = some (.int .i64 1000000000) := kp hb2 (by go_cell)
  clear hb2 hB1
  go_wp2_with fail
  refine (forUse_any _ _ _ _).mono ?_
  rintro e wf ⟨rfl, hbf, d1, d2, d3⟩
  have hBf : Below w.heap.size w wf := below_after (by go_grown) hbf
  have hzf := hBf.size
  clear hbf
  go_wp2_with fail
  refine (HV3.out _ _ _ _ (HX.out.below hBf) (fun Z r hz => for1_any r.lo r.hi r.age r.since r.part r.turn temp a s _ _ _ Z un1 un2 (kp hz d1) (kp hz d2) (kp hz d3))).mono ?_
  rintro e w3 ⟨rfl, hb3⟩
  have hB3 : Below w.heap.size w w3 := below_after (by go_grown) hb3
  have hz3 := hb3.size
  try simp only [World.size_alloc, World.size_setCell, World.size_drew] at hz3
  have hw3 := hB3.size
  clear hb3 hB2
  go_wp2_with fail
  rw [HR.out]
  go_ret3
  exact ⟨rfl, by go_grown⟩

set_option maxHeartbeats 800000 in
set_option maxRecDepth 100000 in
theorem Find_yes4 (temp a s : Int) (A : Option Addr) (n c : Nat) (xs : List Rw) (w : World) (hn : xs.length = n) (hbig : n ≤ 9223372036854775807) (hx : Rows? w A xs) (h : validB xs = true) (h2 : useB temp a s = true) (j : Nat) (r : Rw) (hi : idxI (Rw.isFor temp a s) xs 0 = (j : Int)) (hj : xs[j]? = some r) (hf : xs.find? (Rw.isFor temp a s) = some r) :
    Calls Try.prog 11 #[.slice A n c, .int .i64 temp, .int .i64 a, .int .i64 s] w fun e w' => e = .returned (.tuple #[.int .i64 (findS xs temp a s).1, .int .i64 (findS xs temp a s).2.1, .int .i64 (findS xs temp a s).2.2]) ∧ Below w.heap.size w w' := by
  have hr : findS xs temp a s = (r.part, r.turn, 0) := by simp [findS, h, h2, hf]
  have HR := Lib.hid hr
  have v1 := fun w h => Valid_any A n c xs w hn hbig h
  have v2 := fun w => hold_any temp (-1000) 1000 a 0 10000 s 0 1000000000 w
  rw [h] at v1
  rw [show (limB temp (-1000) 1000 && limB a 0 10000 && limB s 0 1000000000) = true from h2] at v2
  have v3 := fun bt ba bs w h hp => idx26_any (Rw.isFor temp a s) bt ba bs A n c xs w hn hbig h hp
  rw [hi] at v3
  obtain ⟨un1, un2⟩ := useB_nonneg h2
  have HV1 := Lib.hid v1
  have HV2 := Lib.hid v2
  have HV3 := Lib.hid v3
  have HX := Lib.hid hx
  obtain ⟨hjl, _⟩ := List.getElem?_eq_some_iff.1 hj
  rw [hn] at hjl
  obtain ⟨b, off, rfl, hc⟩ := hx (by omega)
  obtain ⟨k0, k1, k2, k3, k4, k5⟩ := hc j r hj
  clear hc
  have hj1 : (0 : Int) ≤ (j : Int) := by omega
  have hj2 : (j : Int) < (n : Int) := by omega
  have hbl := World.block_lt_of_cell? _ _ k0
  simp only at hbl
  clear k0 k1 k2 k3 hj
  clear v1 v2 v3 hr hx hn h h2 hi hf
  go_enter Try.func11, Try.ntmps11
  go_wp2_with fail
  refine (HV1.out _ (HX.out.below (by go_grown))).mono ?_
  rintro e w1 ⟨rfl, hb1⟩
  have hB1 : Below w.heap.size w w1 := below_after (by go_grown) hb1
  have hz1 := hb1.size
  try simp only [World.size_alloc, World.size_setCell, World.size_drew] at hz1
  have hw1 := hB1.size
  have c_u0 : w1.cell? ⟨w.heap.size, 0, none⟩ = some (.int .i64 temp) := kp hb1 (by go_cell)
  have c_u1 : w1.cell? ⟨w.heap.size, 1, none⟩ = some (.int .i64 ((-1000))) := kp hb1 (by go_cell)
  have c_u2 : w1.cell? ⟨w.heap.size, 2, none⟩ = some (.int .i64 1000) := kp hb1 (by go_cell)
  have c_u3 : w1.cell? ⟨w.heap.size, 3, none⟩ = some (.int .i64 a) := kp hb1 (by go_cell)
  have c_u4 : w1.cell? ⟨w.heap.size, 4, none⟩ = some (.int .i64 0) := kp hb1 (by go_cell)
  have c_u5 : w1.cell? ⟨w.heap.size, 5, none⟩ = some (.int .i64 10000) := kp hb1 (by go_cell)
  have c_u6 : w1.cell? ⟨w.heap.size, 6, none⟩ = some (.int .i64 s) := kp hb1 (by go_cell)
  have c_u7 : w1.cell? ⟨w.heap.size, 7, none⟩ = some (.int .i64 0) := kp hb1 (by go_cell)
  have c_u8 : w1.cell? ⟨w.heap.size, 8, none⟩ = some (.int .i64 1000000000) := kp hb1 (by go_cell)
  clear hb1
  go_wp2_with fail
  refine (HV2.out _).mono ?_
  rintro e w2 ⟨rfl, hb2⟩
  have hB2 : Below w.heap.size w w2 := below_after (by go_grown) hb2
  have hz2 := hb2.size
  try simp only [World.size_alloc, World.size_setCell, World.size_drew] at hz2
  have hw2 := hB2.size
  replace c_u0 : w2.cell? ⟨w.heap.size, 0, none⟩ = some (.int .i64 temp) := kp hb2 (by go_cell)
  replace c_u1 : w2.cell? ⟨w.heap.size, 1, none⟩ = some (.int .i64 ((-1000))) := kp hb2 (by go_cell)
  replace c_u2 : w2.cell? ⟨w.heap.size, 2, none⟩ = some (.int .i64 1000) := kp hb2 (by go_cell)
  replace c_u3 : w2.cell? ⟨w.heap.size, 3, none⟩ = some (.int .i64 a) := kp hb2 (by go_cell)
  replace c_u4 : w2.cell? ⟨w.heap.size, 4, none⟩ = some (.int .i64 0) := kp hb2 (by go_cell)
  replace c_u5 : w2.cell? ⟨w.heap.size, 5, none⟩ = some (.int .i64 10000) := kp hb2 (by go_cell)
  replace c_u6 : w2.cell? ⟨w.heap.size, 6, none⟩ = some (.int .i64 s) := kp hb2 (by go_cell)
  replace c_u7 : w2.cell? ⟨w.heap.size, 7, none⟩ = some (.int .i64 0) := kp hb2 (by go_cell)
  replace c_u8 : w2.cell? ⟨w.heap.size, 8, none⟩ = some (.int .i64 1000000000) := kp hb2 (by go_cell)
  clear hb2 hB1
  go_wp2_with fail
  refine (forUse_any _ _ _ _).mono ?_
  rintro e wf ⟨rfl, hbf, d1, d2, d3⟩
  have hBf : Below w.heap.size w wf := below_after (by go_grown) hbf
  have hzf := hBf.size
  clear hbf
  go_wp2_with fail
  refine (HV3.out _ _ _ _ (HX.out.below hBf) (fun Z r hz => for1_any r.lo r.hi r.age r.since r.part r.turn temp a s _ _ _ Z un1 un2 (kp hz d1) (kp hz d2) (kp hz d3))).mono ?_
  rintro e w3 ⟨rfl, hb3⟩
  have hB3 : Below w.heap.size w w3 := below_after (by go_grown) hb3
  have hz3 := hb3.size
  try simp only [World.size_alloc, World.size_setCell, World.size_drew] at hz3
  have hw3 := hB3.size
  clear hb3 hB2
  replace k4 : w3.cell? ⟨b, off + j * 6 + 4, none⟩ = some (.int .i64 r.part) := (hB3.cell (p := ⟨b, _, none⟩) hbl).trans k4
  replace k5 : w3.cell? ⟨b, off + j * 6 + 5, none⟩ = some (.int .i64 r.turn) := (hB3.cell (p := ⟨b, _, none⟩) hbl).trans k5
  go_wp2_with fail
  go_quiet (fail)
  go_wp2_with fail
  rw [HR.out]
  go_ret3
  exact ⟨rfl, bdn (by assumption) _⟩

theorem Find_any (temp a s : Int) (A : Option Addr) (n c : Nat) (xs : List Rw) (w : World) (hn : xs.length = n) (hbig : n ≤ 9223372036854775807) (hx : Rows? w A xs) :
    Calls Try.prog 11 #[.slice A n c, .int .i64 temp, .int .i64 a, .int .i64 s] w fun e w' => e = .returned (.tuple #[.int .i64 (findS xs temp a s).1, .int .i64 (findS xs temp a s).2.1, .int .i64 (findS xs temp a s).2.2]) ∧ Below w.heap.size w w' := by
  cases h : validB xs
  · exact Find_no1 temp a s A n c xs w hn hbig hx h
  · cases h2 : useB temp a s
    · exact Find_no2 temp a s A n c xs w hn hbig hx h h2
    · rcases idxI_find (Rw.isFor temp a s) xs 0 with ⟨hi, hf⟩ | ⟨j, r, hi, hj, hf⟩
      · exact Find_yes3 temp a s A n c xs w hn hbig hx h h2 hi hf
      · exact Find_yes4 temp a s A n c xs w hn hbig hx h h2 j r (by rw [hi]; simp) hj hf

set_option maxHeartbeats 800000 in
set_option maxRecDepth 100000 in
theorem RFind_no1 (temp a s : Int) (A : Option Addr) (n c : Nat) (xs : List Rw) (w : World) (hn : xs.length = n) (hbig : n ≤ 9223372036854775807) (hx : Rows? w A xs) (h : validB xs = false) :
    Calls Try.prog 12 #[.slice A n c, .int .i64 temp, .int .i64 a, .int .i64 s] w fun e w' => e = .returned (.tuple #[.int .i64 (findS xs temp a s).1, .int .i64 (findS xs temp a s).2.1, .int .i64 (findS xs temp a s).2.2]) ∧ Below w.heap.size w w' := by
  have hr : findS xs temp a s = (0, 0, 1) := by simp [findS, h]
  have HR := Lib.hid hr
  have v1 := fun w h => RValid_any A n c xs w hn hbig h
  have v2 := fun w => Use_any temp a s w
  rw [h] at v1
  have HV1 := Lib.hid v1
  have HV2 := Lib.hid v2
  have HX := Lib.hid hx
  clear v1 v2 hr hx hn h
  go_enter Try.func12, Try.ntmps12
  go_wp2_with fail
  refine (HV1.out _ (HX.out.below (by go_grown))).mono ?_
  rintro e w1 ⟨rfl, hb1⟩
  have hB1 : Below w.heap.size w w1 := below_after (by go_grown) hb1
  have hz1 := hb1.size
  try simp only [World.size_alloc, World.size_setCell, World.size_drew] at hz1
  have hw1 := hB1.size
  clear hb1
  go_wp2_with fail
  rw [HR.out]
  go_ret3
  exact ⟨rfl, by go_grown⟩

set_option maxHeartbeats 800000 in
set_option maxRecDepth 100000 in
theorem RFind_no2 (temp a s : Int) (A : Option Addr) (n c : Nat) (xs : List Rw) (w : World) (hn : xs.length = n) (hbig : n ≤ 9223372036854775807) (hx : Rows? w A xs) (h : validB xs = true) (h2 : useB temp a s = false) :
    Calls Try.prog 12 #[.slice A n c, .int .i64 temp, .int .i64 a, .int .i64 s] w fun e w' => e = .returned (.tuple #[.int .i64 (findS xs temp a s).1, .int .i64 (findS xs temp a s).2.1, .int .i64 (findS xs temp a s).2.2]) ∧ Below w.heap.size w w' := by
  have hr : findS xs temp a s = (0, 0, 1) := by simp [findS, h, h2]
  have HR := Lib.hid hr
  have v1 := fun w h => RValid_any A n c xs w hn hbig h
  have v2 := fun w => Use_any temp a s w
  rw [h] at v1
  rw [h2] at v2
  have HV1 := Lib.hid v1
  have HV2 := Lib.hid v2
  have HX := Lib.hid hx
  clear v1 v2 hr hx hn h
  go_enter Try.func12, Try.ntmps12
  go_wp2_with fail
  refine (HV1.out _ (HX.out.below (by go_grown))).mono ?_
  rintro e w1 ⟨rfl, hb1⟩
  have hB1 : Below w.heap.size w w1 := below_after (by go_grown) hb1
  have hz1 := hb1.size
  try simp only [World.size_alloc, World.size_setCell, World.size_drew] at hz1
  have hw1 := hB1.size
  clear hb1
  go_wp2_with fail
  refine (HV2.out _).mono ?_
  rintro e w9 ⟨rfl, rfl⟩
  go_wp2_with fail
  rw [HR.out]
  go_ret3
  exact ⟨rfl, by go_grown⟩

set_option maxHeartbeats 800000 in
set_option maxRecDepth 100000 in
theorem RFind_yes3 (temp a s : Int) (A : Option Addr) (n c : Nat) (xs : List Rw) (w : World) (hn : xs.length = n) (hbig : n ≤ 9223372036854775807) (hx : Rows? w A xs) (h : validB xs = true) (h2 : useB temp a s = true) (hi : idxI (Rw.isFor temp a s) xs 0 = -1) (hf : xs.find? (Rw.isFor temp a s) = none) :
    Calls Try.prog 12 #[.slice A n c, .int .i64 temp, .int .i64 a, .int .i64 s] w fun e w' => e = .returned (.tuple #[.int .i64 (findS xs temp a s).1, .int .i64 (findS xs temp a s).2.1, .int .i64 (findS xs temp a s).2.2]) ∧ Below w.heap.size w w' := by
  have hr : findS xs temp a s = (0, 0, 4) := by simp [findS, h, h2, hf]
  have HR := Lib.hid hr
  have v1 := fun w h => RValid_any A n c xs w hn hbig h
  have v2 := fun w => Use_any temp a s w
  rw [h] at v1
  rw [h2] at v2
  have v3 := fun w h => First_any temp a s A n c xs w hn hbig h
  rw [hi] at v3
  obtain ⟨un1, un2⟩ := useB_nonneg h2
  have HV1 := Lib.hid v1
  have HV2 := Lib.hid v2
  have HV3 := Lib.hid v3
  have HX := Lib.hid hx
  clear v1 v2 v3 hr hx hn h h2 hi hf
  go_enter Try.func12, Try.ntmps12
  go_wp2_with fail
  refine (HV1.out _ (HX.out.below (by go_grown))).mono ?_
  rintro e w1 ⟨rfl, hb1⟩
  have hB1 : Below w.heap.size w w1 := below_after (by go_grown) hb1
  have hz1 := hb1.size
  try simp only [World.size_alloc, World.size_setCell, World.size_drew] at hz1
  have hw1 := hB1.size
  clear hb1
  go_wp2_with fail
  refine (HV2.out _).mono ?_
  rintro e w9 ⟨rfl, rfl⟩
  go_wp2_with fail
  refine (HV3.out _ (HX.out.below (by go_grown))).mono ?_
  rintro e w2 ⟨rfl, hb2⟩
  have hB2 : Below w.heap.size w w2 := below_after (by go_grown) hb2
  have hz2 := hb2.size
  try simp only [World.size_alloc, World.size_setCell, World.size_drew] at hz2
  have hw2 := hB2.size
  clear hb2 hB1
  go_wp2_with fail
  rw [HR.out]
  go_ret3
  exact ⟨rfl, by go_grown⟩

set_option maxHeartbeats 800000 in
set_option maxRecDepth 100000 in
theorem RFind_yes4 (temp a s : Int) (A : Option Addr) (n c : Nat) (xs : List Rw) (w : World) (hn : xs.length = n) (hbig : n ≤ 9223372036854775807) (hx : Rows? w A xs) (h : validB xs = true) (h2 : useB temp a s = true) (j : Nat) (r : Rw) (hi : idxI (Rw.isFor temp a s) xs 0 = (j : Int)) (hj : xs[j]? = some r) (hf : xs.find? (Rw.isFor temp a s) = some r) :
    Calls Try.prog 12 #[.slice A n c, .int .i64 temp, .int .i64 a, .int .i64 s] w fun e w' => e = .returned (.tuple #[.int .i64 (findS xs temp a s).1, .int .i64 (findS xs temp a s).2.1, .int .i64 (findS xs temp a s).2.2]) ∧ Below w.heap.size w w' := by
  have hr : findS xs temp a s = (r.part, r.turn, 0) := by simp [findS, h, h2, hf]
  have HR := Lib.hid hr
  have v1 := fun w h => RValid_any A n c xs w hn hbig h
  have v2 := fun w => Use_any temp a s w
  rw [h] at v1
  rw [h2] at v2
  have v3 := fun w h => First_any temp a s A n c xs w hn hbig h
  rw [hi] at v3
  obtain ⟨un1, un2⟩ := useB_nonneg h2
  have HV1 := Lib.hid v1
  have HV2 := Lib.hid v2
  have HV3 := Lib.hid v3
  have HX := Lib.hid hx
  obtain ⟨hjl, _⟩ := List.getElem?_eq_some_iff.1 hj
  rw [hn] at hjl
  obtain ⟨b, off, rfl, hc⟩ := hx (by omega)
  obtain ⟨k0, k1, k2, k3, k4, k5⟩ := hc j r hj
  clear hc
  have hj1 : (0 : Int) ≤ (j : Int) := by omega
  have hj2 : (j : Int) < (n : Int) := by omega
  have hbl := World.block_lt_of_cell? _ _ k0
  simp only at hbl
  clear k0 k1 k2 k3 hj
  clear v1 v2 v3 hr hx hn h h2 hi hf
  go_enter Try.func12, Try.ntmps12
  go_wp2_with fail
  refine (HV1.out _ (HX.out.below (by go_grown))).mono ?_
  rintro e w1 ⟨rfl, hb1⟩
  have hB1 : Below w.heap.size w w1 := below_after (by go_grown) hb1
  have hz1 := hb1.size
  try simp only [World.size_alloc, World.size_setCell, World.size_drew] at hz1
  have hw1 := hB1.size
  clear hb1
  go_wp2_with fail
  refine (HV2.out _).mono ?_
  rintro e w9 ⟨rfl, rfl⟩
  go_wp2_with fail
  refine (HV3.out _ (HX.out.below (by go_grown))).mono ?_
  rintro e w2 ⟨rfl, hb2⟩
  have hB2 : Below w.heap.size w w2 := below_after (by go_grown) hb2
  have hz2 := hb2.size
  try simp only [World.size_alloc, World.size_setCell, World.size_drew] at hz2
  have hw2 := hB2.size
  clear hb2 hB1
  replace k4 : w2.cell? ⟨b, off + j * 6 + 4, none⟩ = some (.int .i64 r.part) := (hB2.cell (p := ⟨b, _, none⟩) hbl).trans k4
  replace k5 : w2.cell? ⟨b, off + j * 6 + 5, none⟩ = some (.int .i64 r.turn) := (hB2.cell (p := ⟨b, _, none⟩) hbl).trans k5
  go_wp2_with fail
  go_quiet (fail)
  go_wp2_with fail
  rw [HR.out]
  go_ret3
  exact ⟨rfl, bdn (by assumption) _⟩

theorem RFind_any (temp a s : Int) (A : Option Addr) (n c : Nat) (xs : List Rw) (w : World) (hn : xs.length = n) (hbig : n ≤ 9223372036854775807) (hx : Rows? w A xs) :
    Calls Try.prog 12 #[.slice A n c, .int .i64 temp, .int .i64 a, .int .i64 s] w fun e w' => e = .returned (.tuple #[.int .i64 (findS xs temp a s).1, .int .i64 (findS xs temp a s).2.1, .int .i64 (findS xs temp a s).2.2]) ∧ Below w.heap.size w w' := by
  cases h : validB xs
  · exact RFind_no1 temp a s A n c xs w hn hbig hx h
  · cases h2 : useB temp a s
    · exact RFind_no2 temp a s A n c xs w hn hbig hx h h2
    · rcases idxI_find (Rw.isFor temp a s) xs 0 with ⟨hi, hf⟩ | ⟨j, r, hi, hj, hf⟩
      · exact RFind_yes3 temp a s A n c xs w hn hbig hx h h2 hi hf
      · exact RFind_yes4 temp a s A n c xs w hn hbig hx h h2 j r (by rw [hi]; simp) hj hf

end Go.Proofs.Ythkjejikhlcmfaa
