import Derived.Test.YthkjejikhlcmfaaT4
namespace Go.Proofs.Ythkjejikhlcmfaa
open Go.RowKit
set_option linter.unusedSimpArgs false
set_option linter.unusedVariables false

set_option maxHeartbeats 800000 in
set_option maxRecDepth 100000 in
theorem usable_any (temp a s : Int) (A : Option Addr) (n c : Nat) (xs : List Rw) (w : World) (hn : xs.length = n) (hbig : n ≤ 9223372036854775807) (hx : Rows? w A xs) :
    Calls Try.prog 15 #[.slice A n c, .int .i64 temp, .int .i64 a, .int .i64 s] w fun e w' => e = .returned (.bool (validB xs && useB temp a s)) ∧ Below w.heap.size w w' := by
  have v1 := RValid_any A n c xs w hn hbig hx
  have v2 := fun w => Use_any temp a s w
  generalize validB xs = x at *
  generalize useB temp a s = y at *
  have HV1 := Lib.hid v1
  have HV2 := Lib.hid v2
  clear v1 v2 hx hn
  cases x
  all_goals
    go_enter Try.func15, Try.ntmps15
    go_wp2_with (first
      | (go_at_call 14; refine HV1.out.mono ?_; rintro e w1 ⟨rfl, hb1⟩)
      | (go_at_call 20; refine (HV2.out _).mono ?_; rintro e w9 ⟨rfl, rfl⟩))
    go_ret
    exact ⟨rfl, hb1⟩

set_option maxHeartbeats 800000 in
set_option maxRecDepth 100000 in
theorem same_0 (temp a s p t : Int) (A : Option Addr) (n c : Nat) (xs : List Rw) (B : Option Addr) (m d : Nat) (ys : List Rw) (w : World) (hn : xs.length = n) (hbig : n ≤ 9223372036854775807) (hx : Rows? w A xs) (hm : ys.length = m) (mbig : m ≤ 9223372036854775807) (hy : Rows? w B ys)
    (f1 : findS xs temp a s = (p, t, 0)) (f2 : findS ys temp a s = (p, t, 0)) :
    Calls Try.prog 16 #[.slice A n c, .slice B m d, .int .i64 temp, .int .i64 a, .int .i64 s] w fun e w' => e = .returned (.bool true) ∧ Below w.heap.size w w' := by
  have v1 := Find_any temp a s A n c xs w hn hbig hx
  have v2 := fun w h => Find_any temp a s B m d ys w hm mbig h
  rw [f1] at v1
  rw [f2] at v2
  have HV1 := Lib.hid v1
  have HV2 := Lib.hid v2
  have HY := Lib.hid hy
  clear v1 v2 f1 f2 hx hn hm hy
  go_enter Try.func16, Try.ntmps16
  go_wp2_with fail
  refine (HV1.out).mono ?_
  rintro e w1 ⟨rfl, hb1⟩
  have hB1 : Below w.heap.size w w1 := below_after (by go_grown) hb1
  have hz1 := hb1.size
  try simp only [World.size_alloc, World.size_setCell, World.size_drew] at hz1
  have hw1 := hB1.size
  clear hb1
  go_wp2_with fail
  refine (HV2.out _ (HY.out.below hB1)).mono ?_
  rintro e w2 ⟨rfl, hb2⟩
  have hB2 : Below w.heap.size w w2 := below_after (by go_grown) hb2
  have hz2 := hb2.size
  try simp only [World.size_alloc, World.size_setCell, World.size_drew] at hz2
  have hw2 := hB2.size
  clear hb2 hB1
  go_wp2_with fail
  go_ret
  exact ⟨rfl, by go_grown⟩

set_option maxHeartbeats 800000 in
set_option maxRecDepth 100000 in
theorem same_4 (temp a s p t : Int) (A : Option Addr) (n c : Nat) (xs : List Rw) (B : Option Addr) (m d : Nat) (ys : List Rw) (w : World) (hn : xs.length = n) (hbig : n ≤ 9223372036854775807) (hx : Rows? w A xs) (hm : ys.length = m) (mbig : m ≤ 9223372036854775807) (hy : Rows? w B ys)
    (f1 : findS xs temp a s = (p, t, 4)) (f2 : findS ys temp a s = (p, t, 4)) :
    Calls Try.prog 16 #[.slice A n c, .slice B m d, .int .i64 temp, .int .i64 a, .int .i64 s] w fun e w' => e = .returned (.bool true) ∧ Below w.heap.size w w' := by
  have v1 := Find_any temp a s A n c xs w hn hbig hx
  have v2 := fun w h => Find_any temp a s B m d ys w hm mbig h
  rw [f1] at v1
  rw [f2] at v2
  have HV1 := Lib.hid v1
  have HV2 := Lib.hid v2
  have HY := Lib.hid hy
  clear v1 v2 f1 f2 hx hn hm hy
  go_enter Try.func16, Try.ntmps16
  go_wp2_with fail
  refine (HV1.out).mono ?_
  rintro e w1 ⟨rfl, hb1⟩
  have hB1 : Below w.heap.size w w1 := below_after (by go_grown) hb1
  have hz1 := hb1.size
  try simp only [World.size_alloc, World.size_setCell, World.size_drew] at hz1
  have hw1 := hB1.size
  clear hb1
  go_wp2_with fail
  refine (HV2.out _ (HY.out.below hB1)).mono ?_
  rintro e w2 ⟨rfl, hb2⟩
  have hB2 : Below w.heap.size w w2 := below_after (by go_grown) hb2
  have hz2 := hb2.size
  try simp only [World.size_alloc, World.size_setCell, World.size_drew] at hz2
  have hw2 := hB2.size
  clear hb2 hB1
  go_wp2_with fail
  go_ret
  exact ⟨rfl, by go_grown⟩

/-- what is found by both, of a use -/
theorem same_any (temp a s : Int) (A : Option Addr) (n c : Nat) (xs : List Rw) (B : Option Addr) (m d : Nat) (ys : List Rw) (w : World) (hn : xs.length = n) (hbig : n ≤ 9223372036854775807) (hx : Rows? w A xs) (hm : ys.length = m) (mbig : m ≤ 9223372036854775807) (hy : Rows? w B ys)
    (f1 : findS xs temp a s = findS ys temp a s) (f2 : validB xs = true) (f3 : useB temp a s = true) :
    Calls Try.prog 16 #[.slice A n c, .slice B m d, .int .i64 temp, .int .i64 a, .int .i64 s] w fun e w' => e = .returned (.bool true) ∧ Below w.heap.size w w' := by
  cases hf : xs.find? (Rw.isFor temp a s) with
  | none =>
    have e1 : findS xs temp a s = (0, 0, 4) := by simp [findS, f2, f3, hf]
    exact same_4 temp a s 0 0 A n c xs B m d ys w hn hbig hx hm mbig hy e1 (f1 ▸ e1)
  | some r =>
    have e1 : findS xs temp a s = (r.part, r.turn, 0) := by simp [findS, f2, f3, hf]
    exact same_0 temp a s _ _ A n c xs B m d ys w hn hbig hx hm mbig hy e1 (f1 ▸ e1)
theorem rows1 {w : World} {b : Nat} {r : Rw} (h : RowAt w b 0 r) : Rows? w (some ⟨b, 0, none⟩) [r] := fun _ => ⟨b, 0, rfl, fun i r' hr => by
  match i with
  | 0 => simp at hr; subst hr; exact h
  | i + 1 => simp at hr⟩
theorem rows2 {w : World} {b : Nat} {r r2 : Rw} (h : RowAt w b 0 r) (h2 : RowAt w b 6 r2) : Rows? w (some ⟨b, 0, none⟩) [r, r2] := fun _ => ⟨b, 0, rfl, fun i r' hr => by
  match i with
  | 0 => simp at hr; subst hr; exact h
  | 1 => simp at hr; subst hr; exact h2
  | i + 2 => simp at hr⟩

def headRows : List Rw := [⟨0, 100, 10, 60, 5, 0⟩, ⟨-50, 200, 1000, 3600, 20, 1⟩]
def oneRow : List Rw := [⟨0, 0, 0, 0, 0, 9⟩]
set_option maxHeartbeats 800000 in
set_option maxRecDepth 100000 in
theorem head_any (w : World) : Calls Try.prog 10 #[] w fun e w' => e = .returned (.bool true) ∧ Below w.heap.size w w' := by
  have f1 := fun A w h => Find_any 20 10 60 A 2 2 headRows w rfl (by omega) h
  rw [show findS headRows 20 10 60 = (5, 0, 0) by decide] at f1
  have F1 := Lib.hid f1
  clear f1
  have f2 := fun A w h => Find_any 20 11 60 A 2 2 headRows w rfl (by omega) h
  rw [show findS headRows 20 11 60 = (20, 1, 0) by decide] at f2
  have F2 := Lib.hid f2
  clear f2
  have f3 := fun A w h => Find_any 201 0 0 A 2 2 headRows w rfl (by omega) h
  rw [show findS headRows 201 0 0 = (0, 0, 4) by decide] at f3
  have F3 := Lib.hid f3
  clear f3
  have f4 := fun A w h => Find_any 1001 0 0 A 2 2 headRows w rfl (by omega) h
  rw [show findS headRows 1001 0 0 = (0, 0, 1) by decide] at f4
  have F4 := Lib.hid f4
  clear f4
  have g1 := fun A w h => Valid_any A 2 2 headRows w rfl (by omega) h
  rw [show validB headRows = true by decide] at g1
  have V1 := Lib.hid g1
  have g2 := fun A w h => Valid_any A 1 1 oneRow w rfl (by omega) h
  rw [show validB oneRow = false by decide] at g2
  have V2 := Lib.hid g2
  clear g1 g2
  go_enter Try.func10, Try.ntmps10
  go_wp2_with fail
  have hrows : Rows? _ (some ⟨w.heap.size, 0, none⟩) headRows := rows2 (w := w.alloc (.cells #[.int .i64 0, .int .i64 100, .int .i64 10, .int .i64 60, .int .i64 5, .int .i64 0, .int .i64 (-50), .int .i64 200, .int .i64 1000, .int .i64 3600, .int .i64 20, .int .i64 1] 32)) ⟨by go_cell, by go_cell, by go_cell, by go_cell, by go_cell, by go_cell⟩ ⟨by go_cell, by go_cell, by go_cell, by go_cell, by go_cell, by go_cell⟩
  have HR0 := Lib.hid hrows
  clear hrows
  refine (F1.out _ _ HR0.out).mono ?_
  rintro e w1 ⟨rfl, hb1⟩
  have hB1 : Below w.heap.size w w1 := below_after (by go_grown) hb1
  have hz1 := hb1.size
  try simp only [World.size_alloc, World.size_setCell, World.size_drew] at hz1
  have hw1 := hB1.size
  have hrows := HR0.out.below hb1
  have HR1 := Lib.hid hrows
  clear hrows
  clear hb1
  go_wp2_with fail
  refine (F2.out _ _ HR1.out).mono ?_
  rintro e w2 ⟨rfl, hb2⟩
  have hB2 : Below w.heap.size w w2 := below_after (by go_grown) hb2
  have hz2 := hb2.size
  try simp only [World.size_alloc, World.size_setCell, World.size_drew] at hz2
  have hw2 := hB2.size
  have hrows := HR1.out.below hb2
  have HR2 := Lib.hid hrows
  clear hrows
  clear hb2 hB1
  go_wp2_with fail
  refine (F3.out _ _ HR2.out).mono ?_
  rintro e w3 ⟨rfl, hb3⟩
  have hB3 : Below w.heap.size w w3 := below_after (by go_grown) hb3
  have hz3 := hb3.size
  try simp only [World.size_alloc, World.size_setCell, World.size_drew] at hz3
  have hw3 := hB3.size
  have hrows := HR2.out.below hb3
  have HR3 := Lib.hid hrows
  clear hrows
  clear hb3 hB2
  go_wp2_with fail
  refine (F4.out _ _ HR3.out).mono ?_
  rintro e w4 ⟨rfl, hb4⟩
  have hB4 : Below w.heap.size w w4 := below_after (by go_grown) hb4
  have hz4 := hb4.size
  try simp only [World.size_alloc, World.size_setCell, World.size_drew] at hz4
  have hw4 := hB4.size
  have hrows := HR3.out.below hb4
  have HR4 := Lib.hid hrows
  clear hrows
  clear hb4 hB3
  go_wp2_with fail
  refine (V1.out _ _ HR4.out).mono ?_
  rintro e w5 ⟨rfl, hb5⟩
  have hB5 : Below w.heap.size w w5 := below_after (by go_grown) hb5
  have hz5 := hb5.size
  try simp only [World.size_alloc, World.size_setCell, World.size_drew] at hz5
  have hw5 := hB5.size
  clear hb5 hB4
  go_wp2_with fail
  have hrow1 : Rows? _ (some ⟨w5.heap.size, 0, none⟩) oneRow := rows1 (w := w5.alloc (.cells #[.int .i64 0, .int .i64 0, .int .i64 0, .int .i64 0, .int .i64 0, .int .i64 9] 32)) ⟨by go_cell, by go_cell, by go_cell, by go_cell, by go_cell, by go_cell⟩
  have HR6 := Lib.hid hrow1
  clear hrow1
  refine (V2.out _ _ HR6.out).mono ?_
  rintro e w6 ⟨rfl, hb6⟩
  have hB6 : Below w.heap.size w w6 := below_after (by go_grown) hb6
  have hz6 := hb6.size
  try simp only [World.size_alloc, World.size_setCell, World.size_drew] at hz6
  have hw6 := hB6.size
  clear hb6 hB5
  go_wp2_with fail
  go_ret
  exact ⟨rfl, by go_grown⟩

end Go.Proofs.Ythkjejikhlcmfaa
