import Derived.Test.YtnhdnkeiijiiaaaGreatA14
import Derived.BigQuiet
import Derived.BigRegion
namespace Go.Proofs.YtnhdnkeiijiiaaaGreat
open Go.RowKit Go.Shelf
set_option linter.unusedSimpArgs false
set_option linter.unusedVariables false
attribute [local go_sem ↓] Go.wp_at_zero Go.wp_at_succ
theorem insB_1 (p x : Pt) : insB [p] x = decide (p = x) := by
  obtain ⟨px, py⟩ := p
  obtain ⟨xx, xy⟩ := x
  rw [Bool.eq_iff_iff]
  simp [insB, minL, maxL, turnS]
  omega
theorem insB_2 (p q x : Pt) : insB [p, q] x = (decide (turnS p q x = 0) && betwB p q x) := by
  rw [Bool.eq_iff_iff]
  simp [insB, minL, maxL, betwB, and_assoc]
set_option maxHeartbeats 1600000 in
set_option maxRecDepth 100000 in
theorem RInside_1 (b off c : Nat) (p x : Pt) (w : World) (hb : b < w.heap.size) (hp : PtAt w b off p) : Calls Tryz.prog 41 #[.slice (some ⟨b, off, none⟩) 1 c, x.val] w fun e w' => e = .returned (.bool (insB [p] x)) ∧ Below w.heap.size w w' := by
  rw [insB_1]
  obtain ⟨px, py⟩ := p
  obtain ⟨xx, xy⟩ := x
  obtain ⟨x0, x1⟩ := hp
  dsimp only at x0 x1
  by_cases e1 : px = xx ∧ py = xy
  · obtain ⟨rfl, rfl⟩ := e1
    have HD := Lib.hid (show decide ((⟨px, py⟩ : Pt) = ⟨px, py⟩) = true by simp)
    go_enter Tryz.func41, Tryz.ntmps41
    go_wp2_with fail
    go_region
    go_wp2_with fail
    go_ret
    exact ⟨ret_bool (by simp), by go_grown⟩
  · have hd : decide ((⟨px, py⟩ : Pt) = ⟨xx, xy⟩) = false := by simpa using e1
    have HD := Lib.hid hd
    have f1 : px ≠ xx ∨ (px = xx ∧ py ≠ xy) := by omega
    clear e1 hd
    rcases f1 with f1 | ⟨f1, f2⟩
    rotate_left 1
    · subst f1
      go_enter Tryz.func41, Tryz.ntmps41
      go_wp2_with fail
      go_region
      go_wp2_with fail
      go_ret
      exact ⟨ret_bool (by first | exact HD.out.symm | simpa using f2), by go_grown⟩
    · go_enter Tryz.func41, Tryz.ntmps41
      go_wp2_with fail
      go_region
      go_wp2_with fail
      go_ret
      exact ⟨ret_bool (by first | exact HD.out.symm | simpa using f1), by go_grown⟩
set_option maxRecDepth 100000 in
set_option maxHeartbeats 4000000 in
theorem RInside_2 (b off c : Nat) (p q x : Pt) (w : World) (hb : b < w.heap.size) (hp : PtAt w b off p) (hq : PtAt w b (off + 2) q) (np : Nr p) (nq : Nr q) (nx : Nr x) : Calls Tryz.prog 41 #[.slice (some ⟨b, off, none⟩) 2 c, x.val] w fun e w' => e = .returned (.bool (insB [p, q] x)) ∧ Below w.heap.size w w' := by
  rw [insB_2]
  have vC := fun W => RCross_any p q x W np nq nx
  have vB := fun W => Rbetween_any p q x W
  generalize turnS p q x = C at *
  generalize betwB p q x = T at *
  obtain ⟨px, py⟩ := p
  obtain ⟨qx, qy⟩ := q
  obtain ⟨xx, xy⟩ := x
  obtain ⟨y0, y1⟩ := hp
  obtain ⟨y2, y3⟩ := hq
  dsimp only at y0 y1 y2 y3
  have HC := Lib.hid vC
  have HBT := Lib.hid vB
  have hp : ∀ ops, PlainOps Fence.wide ops := fun ops => plainOps_none rfl
  clear vC vB np nq nx
  have hbn : Below w.heap.size w (w.alloc (.cells #[.int .i64 xx, .int .i64 xy] 23)) := (Below.refl _ _).alloc (Nat.le_refl _) _
  have x0 := kp hbn y0
  have x1 := kp hbn y1
  have x2 := kp hbn y2
  have x3 := kp hbn y3
  obtain ⟨b0, b1⟩ := alloc_cell2 (W := w) (x := xx) (y := xy) (t := 23)
  by_cases hC0 : C = 0
  · subst hC0
    have : (decide ((0 : Int) = 0) && T) = T := by simp
    rw [this]
    refine (callsIn_wide (n := 6)).1 ?_
    refine callsIn_of_wp Tryz.func41 rfl trivial ?_ rfl
    simp only [Tryz.ntmps41, List.size_toArray, List.length_cons, List.length_nil, Nat.reduceAdd, Nat.reduceSub, Array.replicate_succ, Array.replicate_zero, List.push_toArray, List.append_toArray, List.nil_append, List.cons_append]
    gi_wp2
    generalize w.alloc (.cells #[.int .i64 xx, .int .i64 xy] 23) = Z at *
    have hbz : Below Z.heap.size Z Z.drew := Below.drew (Below.refl _ _)
    have HSZ := Lib.hid (show ∀ w9, Below Z.drew.heap.size Z.drew w9 → (fun w9 => Below Z.drew.heap.size Z.drew w9 ∧ w9.cell? ⟨b, off, none⟩ = some (.int .i64 px) ∧ w9.cell? ⟨b, off + 1, none⟩ = some (.int .i64 py) ∧ w9.cell? ⟨b, off + 2, none⟩ = some (.int .i64 qx) ∧ w9.cell? ⟨b, off + 3, none⟩ = some (.int .i64 qy) ∧ w9.cell? ⟨w.heap.size, 0, none⟩ = some (.int .i64 xx) ∧ w9.cell? ⟨w.heap.size, 1, none⟩ = some (.int .i64 xy)) w9 from fun w9 h9 => ⟨h9, kp h9 (kp hbz x0), kp h9 (kp hbz x1), kp h9 (kp hbz x2), kp h9 (kp hbz x3), kp h9 (kp hbz b0), kp h9 (kp hbz b1)⟩)
    refine held_begin [0, 1, 2, 3, 4, 5, 6, 8, 9, 10, 11, 12, 13, 14, 15, 16, 18, 19] (fun w9 => Below Z.drew.heap.size Z.drew w9 ∧ w9.cell? ⟨b, off, none⟩ = some (.int .i64 px) ∧ w9.cell? ⟨b, off + 1, none⟩ = some (.int .i64 py) ∧ w9.cell? ⟨b, off + 2, none⟩ = some (.int .i64 qx) ∧ w9.cell? ⟨b, off + 3, none⟩ = some (.int .i64 qy) ∧ w9.cell? ⟨w.heap.size, 0, none⟩ = some (.int .i64 xx) ∧ w9.cell? ⟨w.heap.size, 1, none⟩ = some (.int .i64 xy)) (by kernel_rfl) (HSZ.out _ (Below.refl _ _)) (fun hS => ?_)
    generalize Z.drew = z at *
    refine tk 0 (v := ?_) (hp _) hS rfl (fun _ _ _ _ => trivial) ?_ ?_
    rotate_left 1
    · intro w hw; (try rw [hw]); (try go_split_ands); go_simp <;> with_reducible rfl
    try simp only [Act.put, st]
    refine tk 1 (v := ?_) (hp _) hS rfl (fun _ _ _ _ => trivial) ?_ ?_
    rotate_left 1
    · intro w hw; (try rw [hw]); (try go_split_ands); go_simp <;> with_reducible rfl
    try simp only [Act.put, st]
    refine tk 2 (v := ?_) (hp _) hS rfl (fun _ _ _ _ => trivial) ?_ ?_
    rotate_left 1
    · intro w hw; (try rw [hw]); (try go_split_ands); go_simp <;> with_reducible rfl
    try simp only [Act.put, st]
    refine tk 3 (v := ?_) (hp _) hS rfl (fun _ _ _ _ => trivial) ?_ ?_
    rotate_left 1
    · intro w hw; (try rw [hw]); (try go_split_ands); go_simp <;> with_reducible rfl
    try simp only [Act.put, st]
    refine tk 4 (v := ?_) (hp _) hS rfl (fun _ _ _ _ => trivial) ?_ ?_
    rotate_left 1
    · intro w hw; (try rw [hw]); (try go_split_ands); go_simp <;> with_reducible rfl
    try simp only [Act.put, st]
    refine tk 5 (v := ?_) (hp _) hS rfl (fun _ _ _ _ => trivial) ?_ ?_
    rotate_left 1
    · intro w hw; (try rw [hw]); (try go_split_ands); go_simp <;> with_reducible rfl
    try simp only [Act.put, st]
    refine tk 6 (v := ?_) (hp _) hS rfl (fun _ _ _ _ => trivial) ?_ ?_
    rotate_left 1
    · intro w hw; (try rw [hw]); (try go_split_ands); go_simp <;> with_reducible rfl
    try simp only [Act.put, st]
    refine held_step 7 rfl (hp _) (by kernel_rfl) (by kernel_rfl) (fun K hK => ⟨?_, ?_⟩)
    · exact fun _ _ => trivial
    go_simp
    refine (callsIn_wide.2 (HC.out _)).mono ?_
    rintro e w3 ⟨rfl, hb_3⟩
    have hB_3 : Below z.heap.size z w3 := below_after hS.1 hb_3
    clear hb_3
    have hS := HSZ.out _ hB_3
    refine hK _ _ hS ?_
    clear hK K
    try simp only [Act.put, st]
    refine tk 8 (v := ?_) (hp _) hS rfl (fun _ _ _ _ => trivial) ?_ ?_
    rotate_left 1
    · intro w hw; (try rw [hw]); (try go_split_ands); go_simp <;> with_reducible rfl
    try simp only [Act.put, st]
    refine tk 9 (v := ?_) (hp _) hS rfl (fun _ _ _ _ => trivial) ?_ ?_
    rotate_left 1
    · intro w hw; (try rw [hw]); (try go_split_ands); go_simp <;> with_reducible rfl
    try simp only [Act.put, st]
    refine tk 10 (v := ?_) (hp _) hS rfl (fun _ _ _ _ => trivial) ?_ ?_
    rotate_left 1
    · intro w hw; (try rw [hw]); (try go_split_ands); go_simp <;> with_reducible rfl
    try simp only [Act.put, st]
    refine tk 11 (v := ?_) (hp _) hS rfl (fun _ _ _ _ => trivial) ?_ ?_
    rotate_left 1
    · intro w hw; (try rw [hw]); (try go_split_ands); go_simp <;> with_reducible rfl
    try simp only [Act.put, st]
    refine tk 12 (v := ?_) (hp _) hS rfl (fun _ _ _ _ => trivial) ?_ ?_
    rotate_left 1
    · intro w hw; (try rw [hw]); (try go_split_ands); go_simp <;> with_reducible rfl
    try simp only [Act.put, st]
    refine tk 13 (v := ?_) (hp _) hS rfl (fun _ _ _ _ => trivial) ?_ ?_
    rotate_left 1
    · intro w hw; (try rw [hw]); (try go_split_ands); go_simp <;> with_reducible rfl
    try simp only [Act.put, st]
    refine tk 14 (v := ?_) (hp _) hS rfl (fun _ _ _ _ => trivial) ?_ ?_
    rotate_left 1
    · intro w hw; (try rw [hw]); (try go_split_ands); go_simp <;> with_reducible rfl
    try simp only [Act.put, st]
    refine tk 15 (v := ?_) (hp _) hS rfl (fun _ _ _ _ => trivial) ?_ ?_
    rotate_left 1
    · intro w hw; (try rw [hw]); (try go_split_ands); go_simp <;> with_reducible rfl
    try simp only [Act.put, st]
    refine tk 16 (v := ?_) (hp _) hS rfl (fun _ _ _ _ => trivial) ?_ ?_
    rotate_left 1
    · intro w hw; (try rw [hw]); (try go_split_ands); go_simp <;> with_reducible rfl
    try simp only [Act.put, st]
    refine held_step 17 rfl (hp _) (by kernel_rfl) (by kernel_rfl) (fun K hK => ⟨?_, ?_⟩)
    · exact fun _ _ => trivial
    go_simp
    refine (callsIn_wide.2 (HBT.out _)).mono ?_
    rintro e w4 ⟨rfl, hb_4⟩
    have hB_4 : Below z.heap.size z w4 := below_after hS.1 hb_4
    clear hb_4
    have hS := HSZ.out _ hB_4
    refine hK _ _ hS ?_
    clear hK K
    try simp only [Act.put, st]
    refine tk 18 (v := ?_) (hp _) hS rfl (fun _ _ _ _ => trivial) ?_ ?_
    rotate_left 1
    · intro w hw; (try rw [hw]); (try go_split_ands); go_simp <;> with_reducible rfl
    try simp only [Act.put, st]
    refine tk 19 (v := ?_) (hp _) hS rfl (fun _ _ _ _ => trivial) ?_ ?_
    rotate_left 1
    · intro w hw; (try rw [hw]); (try go_split_ands); go_simp <;> with_reducible rfl
    try simp only [Act.put, st]
    refine held_end (by kernel_rfl) ?_
    have hE : Below Z.heap.size Z w4 := hbz.trans (hS.1.mono hbz.size)
    clear hS HSZ hbz
    gi_wp2
    refine bodyPost_ret (v := .bool T) (by simp [results, Tryz.f41, go_sem]) rfl ?_
    exact ⟨rfl, hbn.trans (hE.mono hbn.size)⟩
  · have e0 : (C == 0) = false := by simpa using hC0
    have : (decide (C = 0) && T) = false := by simp [hC0]
    rw [this]
    refine (callsIn_wide (n := 6)).1 ?_
    refine callsIn_of_wp Tryz.func41 rfl trivial ?_ rfl
    simp only [Tryz.ntmps41, List.size_toArray, List.length_cons, List.length_nil, Nat.reduceAdd, Nat.reduceSub, Array.replicate_succ, Array.replicate_zero, List.push_toArray, List.append_toArray, List.nil_append, List.cons_append]
    gi_wp2
    generalize w.alloc (.cells #[.int .i64 xx, .int .i64 xy] 23) = Z at *
    have hbz : Below Z.heap.size Z Z.drew := Below.drew (Below.refl _ _)
    have HSZ := Lib.hid (show ∀ w9, Below Z.drew.heap.size Z.drew w9 → (fun w9 => Below Z.drew.heap.size Z.drew w9 ∧ w9.cell? ⟨b, off, none⟩ = some (.int .i64 px) ∧ w9.cell? ⟨b, off + 1, none⟩ = some (.int .i64 py) ∧ w9.cell? ⟨b, off + 2, none⟩ = some (.int .i64 qx) ∧ w9.cell? ⟨b, off + 3, none⟩ = some (.int .i64 qy) ∧ w9.cell? ⟨w.heap.size, 0, none⟩ = some (.int .i64 xx) ∧ w9.cell? ⟨w.heap.size, 1, none⟩ = some (.int .i64 xy)) w9 from fun w9 h9 => ⟨h9, kp h9 (kp hbz x0), kp h9 (kp hbz x1), kp h9 (kp hbz x2), kp h9 (kp hbz x3), kp h9 (kp hbz b0), kp h9 (kp hbz b1)⟩)
    refine held_begin [0, 1, 2, 3, 4, 5, 6, 8, 9, 10, 11, 12, 13, 14, 15, 16, 17, 18, 19] (fun w9 => Below Z.drew.heap.size Z.drew w9 ∧ w9.cell? ⟨b, off, none⟩ = some (.int .i64 px) ∧ w9.cell? ⟨b, off + 1, none⟩ = some (.int .i64 py) ∧ w9.cell? ⟨b, off + 2, none⟩ = some (.int .i64 qx) ∧ w9.cell? ⟨b, off + 3, none⟩ = some (.int .i64 qy) ∧ w9.cell? ⟨w.heap.size, 0, none⟩ = some (.int .i64 xx) ∧ w9.cell? ⟨w.heap.size, 1, none⟩ = some (.int .i64 xy)) (by kernel_rfl) (HSZ.out _ (Below.refl _ _)) (fun hS => ?_)
    generalize Z.drew = z at *
    refine tk 0 (v := ?_) (hp _) hS rfl (fun _ _ _ _ => trivial) ?_ ?_
    rotate_left 1
    · intro w hw; (try rw [hw]); (try go_split_ands); go_simp <;> with_reducible rfl
    try simp only [Act.put, st]
    refine tk 1 (v := ?_) (hp _) hS rfl (fun _ _ _ _ => trivial) ?_ ?_
    rotate_left 1
    · intro w hw; (try rw [hw]); (try go_split_ands); go_simp <;> with_reducible rfl
    try simp only [Act.put, st]
    refine tk 2 (v := ?_) (hp _) hS rfl (fun _ _ _ _ => trivial) ?_ ?_
    rotate_left 1
    · intro w hw; (try rw [hw]); (try go_split_ands); go_simp <;> with_reducible rfl
    try simp only [Act.put, st]
    refine tk 3 (v := ?_) (hp _) hS rfl (fun _ _ _ _ => trivial) ?_ ?_
    rotate_left 1
    · intro w hw; (try rw [hw]); (try go_split_ands); go_simp <;> with_reducible rfl
    try simp only [Act.put, st]
    refine tk 4 (v := ?_) (hp _) hS rfl (fun _ _ _ _ => trivial) ?_ ?_
    rotate_left 1
    · intro w hw; (try rw [hw]); (try go_split_ands); go_simp <;> with_reducible rfl
    try simp only [Act.put, st]
    refine tk 5 (v := ?_) (hp _) hS rfl (fun _ _ _ _ => trivial) ?_ ?_
    rotate_left 1
    · intro w hw; (try rw [hw]); (try go_split_ands); go_simp <;> with_reducible rfl
    try simp only [Act.put, st]
    refine tk 6 (v := ?_) (hp _) hS rfl (fun _ _ _ _ => trivial) ?_ ?_
    rotate_left 1
    · intro w hw; (try rw [hw]); (try go_split_ands); go_simp <;> with_reducible rfl
    try simp only [Act.put, st]
    refine held_step 7 rfl (hp _) (by kernel_rfl) (by kernel_rfl) (fun K hK => ⟨?_, ?_⟩)
    · exact fun _ _ => trivial
    go_simp
    refine (callsIn_wide.2 (HC.out _)).mono ?_
    rintro e w3 ⟨rfl, hb_3⟩
    have hB_3 : Below z.heap.size z w3 := below_after hS.1 hb_3
    clear hb_3
    have hS := HSZ.out _ hB_3
    refine hK _ _ hS ?_
    clear hK K
    try simp only [Act.put, st]
    refine tk 8 (v := ?_) (hp _) hS rfl (fun _ _ _ _ => trivial) ?_ ?_
    rotate_left 1
    · intro w hw; (try rw [hw]); (try go_split_ands); go_simp <;> with_reducible rfl
    try simp only [Act.put, st]
    refine tk 9 (v := ?_) (hp _) hS rfl (fun _ _ _ _ => trivial) ?_ ?_
    rotate_left 1
    · intro w hw; (try rw [hw]); (try go_split_ands); go_simp <;> with_reducible rfl
    try simp only [Act.put, st]
    refine sk 10 (hp _) hS rfl (fun _ _ _ _ => trivial) ?_
    try simp only [Act.put, st]
    refine sk 11 (hp _) hS rfl (fun _ _ _ _ => trivial) ?_
    try simp only [Act.put, st]
    refine sk 12 (hp _) hS rfl (fun _ _ _ _ => trivial) ?_
    try simp only [Act.put, st]
    refine sk 13 (hp _) hS rfl (fun _ _ _ _ => trivial) ?_
    try simp only [Act.put, st]
    refine sk 14 (hp _) hS rfl (fun _ _ _ _ => trivial) ?_
    try simp only [Act.put, st]
    refine sk 15 (hp _) hS rfl (fun _ _ _ _ => trivial) ?_
    try simp only [Act.put, st]
    refine sk 16 (hp _) hS rfl (fun _ _ _ _ => trivial) ?_
    try simp only [Act.put, st]
    refine sk 17 (hp _) hS rfl (fun _ _ _ _ => trivial) ?_
    try simp only [Act.put, st]
    refine tk 18 (v := ?_) (hp _) hS rfl (fun _ _ _ _ => trivial) ?_ ?_
    rotate_left 1
    · intro w hw; (try rw [hw]); (try go_split_ands); go_simp <;> with_reducible rfl
    try simp only [Act.put, st]
    refine tk 19 (v := ?_) (hp _) hS rfl (fun _ _ _ _ => trivial) ?_ ?_
    rotate_left 1
    · intro w hw; (try rw [hw]); (try go_split_ands); go_simp <;> with_reducible rfl
    try simp only [Act.put, st]
    refine held_end (by kernel_rfl) ?_
    have hE : Below Z.heap.size Z w3 := hbz.trans (hS.1.mono hbz.size)
    clear hS HSZ hbz
    gi_wp2
    refine bodyPost_ret (v := .bool false) (by simp [results, Tryz.f41, go_sem]) rfl ?_
    exact ⟨rfl, hbn.trans (hE.mono hbn.size)⟩
set_option maxRecDepth 100000 in
set_option maxHeartbeats 4000000 in
theorem RInside_3 (A : Option Addr) (n c : Nat) (xs : List Pt) (x : Pt) (w : World) (hn : xs.length = n) (h3 : 3 ≤ n) (h64 : n ≤ 64) (hx : Pts? w.heap.size w A xs) (hpl : ∀ p ∈ xs, Nr p) (nx : Nr x) : Calls Tryz.prog 41 #[.slice A n c, x.val] w fun e w' => e = .returned (.bool (insB xs x)) ∧ Below w.heap.size w w' := by
  have hins : insB xs x = (List.range n).all fun i => decide (0 ≤ turnS (xs.getD i default) (xs.getD ((i + 1) % n) default) x) := by
    unfold insB sidesL
    rw [if_neg (by omega), List.all_map, hn]
    rfl
  obtain ⟨b, off, rfl, hlt0, hc⟩ := hx (by omega)
  obtain ⟨R, hR⟩ : ∃ R, R = insB xs x := ⟨_, rfl⟩
  rw [← hR]
  rw [hins] at hR
  have HR := Lib.hid hR
  have HC := Lib.hid hc
  have HN := Lib.hid hn
  have HPL := Lib.hid hpl
  have HXN := Lib.hid nx
  have hp : ∀ ops, PlainOps Fence.wide ops := fun ops => plainOps_none rfl
  have hbn : Below w.heap.size w (w.alloc (.cells #[.int .i64 x.x, .int .i64 x.y] 23)) := (Below.refl _ _).alloc (Nat.le_refl _) _
  obtain ⟨z0, z1⟩ := alloc_cell2 (W := w) (x := x.x) (y := x.y) (t := 23)
  obtain ⟨xx, xy⟩ := x
  dsimp only at hbn z0 z1
  clear hx hc hn hpl hR hins nx
  have e1 : ((n : Int) == 1) = false := by simp; omega
  have e2 : ((n : Int) == 2) = false := by simp; omega
  refine (callsIn_wide (n := 6)).1 ?_
  refine callsIn_of_wp Tryz.func41 rfl trivial ?_ rfl
  simp only [Tryz.ntmps41, List.size_toArray, List.length_cons, List.length_nil, Nat.reduceAdd, Nat.reduceSub, Array.replicate_succ, Array.replicate_zero, List.push_toArray, List.append_toArray, List.nil_append, List.cons_append]
  gi_wp2
  have hzs : w.heap.size < (w.alloc (.cells #[.int .i64 xx, .int .i64 xy] 23)).heap.size := by simp
  generalize w.alloc (.cells #[.int .i64 xx, .int .i64 xy] 23) = Z at *
  gi_loopw [6] (fun s6 wr => ∃ k : Nat, k ≤ n ∧ s6 = .int .i64 k ∧ Aside (∀ i, i < k → 0 ≤ turnS (xs.getD i default) (xs.getD ((i + 1) % n) default) ⟨xx, xy⟩) ∧ Below w.heap.size w wr ∧ Below Z.heap.size Z wr) (fun s6 _ => n - (intOf s6).toNat)
  case atStart => exact ⟨0, by omega, rfl, (fun i h => by omega), hbn, Below.refl _ _⟩
  case round =>
    obtain ⟨k, hk, rfl, HA, hBr, hZr⟩ := hrel
    by_cases hlt : k < n
    · have hjn : (k + 1) % n < n := Nat.mod_lt _ (by omega)
      have hpi := at_some (d := default) (xs := xs) (i := k) (by rw [HN.out]; exact hlt)
      have hpj := at_some (d := default) (xs := xs) (i := (k + 1) % n) (by rw [HN.out]; exact hjn)
      have gi := HPL.out _ (List.mem_of_getElem? hpi)
      have gj := HPL.out _ (List.mem_of_getElem? hpj)
      obtain ⟨x0, x1⟩ := (HC.out k _ hpi).upto hBr hlt0
      obtain ⟨x2, x3⟩ := (HC.out _ _ hpj).upto hBr hlt0
      have b0 := kp hZr z0
      have b1 := kp hZr z1
      have hv := fun W => RCross_any (xs.getD k default) (xs.getD ((k + 1) % n) default) ⟨xx, xy⟩ W gi gj HXN.out
      have q1 : IntKind.i64.wrap ((k : Int) + 1) = (k : Int) + 1 := IntWalk.i64_in _ (by omega)
      have q2 : ((k : Int) + 1).tmod (n : Int) = (((k + 1) % n : Nat) : Int) := by
        rw [Int.tmod_eq_emod_of_nonneg (by omega)]; exact (Int.natCast_emod (k + 1) n).symm
      have q3 : IntKind.i64.wrap (((k + 1) % n : Nat) : Int) = (((k + 1) % n : Nat) : Int) := IntWalk.i64_in _ (by omega)
      have hlt2 : (k : Int) < (n : Int) := by omega
      have hn0 : (0 : Int) < (n : Int) := by omega
      have hnn : ¬ ((n : Int) = 0) := by omega
      have hnz : ¬ (n = 0) := by omega
      have hk0 : (0 : Int) ≤ (k : Int) := by omega
      generalize hTT : turnS (xs.getD k default) (xs.getD ((k + 1) % n) default) ⟨xx, xy⟩ = C at *
      have HT := Lib.hid hTT
      clear hTT
      generalize xs.getD k default = pi at x0 x1 hv
      generalize xs.getD ((k + 1) % n) default = pj at x2 x3 hv
      generalize hj : (k + 1) % n = j at x2 x3 q2 q3 hjn
      have hj0 : (0 : Int) ≤ (j : Int) := by omega
      have hjn2 : (j : Int) < (n : Int) := by omega
      obtain ⟨ax, ay⟩ := pi
      obtain ⟨bx, bY⟩ := pj
      dsimp only at x0 x1 x2 x3
      have HV := Lib.hid hv
      clear hv hpi hpj gi gj hj
      by_cases hC : C < 0
      · have d5 : decide (C < 0) = true := decide_eq_true hC
        gi_wp2
        have hbz : Below wr.heap.size wr wr.drew := Below.drew (Below.refl _ _)
        have HSZ := Lib.hid (show ∀ w9, Below wr.drew.heap.size wr.drew w9 → (fun w9 => Below wr.drew.heap.size wr.drew w9 ∧ w9.cell? ⟨b, off + k * 2, none⟩ = some (.int .i64 ax) ∧ w9.cell? ⟨b, off + k * 2 + 1, none⟩ = some (.int .i64 ay) ∧ w9.cell? ⟨b, off + j * 2, none⟩ = some (.int .i64 bx) ∧ w9.cell? ⟨b, off + j * 2 + 1, none⟩ = some (.int .i64 bY) ∧ w9.cell? ⟨w.heap.size, 0, none⟩ = some (.int .i64 xx) ∧ w9.cell? ⟨w.heap.size, 1, none⟩ = some (.int .i64 xy)) w9 from fun w9 h9 => ⟨h9, kp h9 (kp hbz x0), kp h9 (kp hbz x1), kp h9 (kp hbz x2), kp h9 (kp hbz x3), kp h9 (kp hbz b0), kp h9 (kp hbz b1)⟩)
        refine held_begin [0, 1, 2, 3, 4, 5, 6, 7, 8, 9, 10, 11, 13] (fun w9 => Below wr.drew.heap.size wr.drew w9 ∧ w9.cell? ⟨b, off + k * 2, none⟩ = some (.int .i64 ax) ∧ w9.cell? ⟨b, off + k * 2 + 1, none⟩ = some (.int .i64 ay) ∧ w9.cell? ⟨b, off + j * 2, none⟩ = some (.int .i64 bx) ∧ w9.cell? ⟨b, off + j * 2 + 1, none⟩ = some (.int .i64 bY) ∧ w9.cell? ⟨w.heap.size, 0, none⟩ = some (.int .i64 xx) ∧ w9.cell? ⟨w.heap.size, 1, none⟩ = some (.int .i64 xy)) (by kernel_rfl) (HSZ.out _ (Below.refl _ _)) (fun hS => ?_)
        generalize wr.drew = z at *
        refine tk 0 (v := ?_) (hp _) hS rfl (fun _ _ _ _ => trivial) ?_ ?_
        rotate_left 1
        · intro w hw; (try rw [hw]); (try go_split_ands); go_simp <;> with_reducible rfl
        try simp only [Act.put, st]
        refine tk 1 (v := ?_) (hp _) hS rfl (fun _ _ _ _ => trivial) ?_ ?_
        rotate_left 1
        · intro w hw; (try rw [hw]); (try go_split_ands); go_simp <;> with_reducible rfl
        try simp only [Act.put, st]
        refine tk 2 (v := ?_) (hp _) hS rfl (fun _ _ _ _ => trivial) ?_ ?_
        rotate_left 1
        · intro w hw; (try rw [hw]); (try go_split_ands); go_simp <;> with_reducible rfl
        try simp only [Act.put, st]
        refine tk 3 (v := ?_) (hp _) hS rfl (fun _ _ _ _ => trivial) ?_ ?_
        rotate_left 1
        · intro w hw; (try rw [hw]); (try go_split_ands); go_simp <;> with_reducible rfl
        try simp only [Act.put, st]
        refine tk 4 (v := ?_) (hp _) hS rfl (fun _ _ _ _ => trivial) ?_ ?_
        rotate_left 1
        · intro w hw; (try rw [hw]); (try go_split_ands); go_simp <;> with_reducible rfl
        try simp only [Act.put, st]
        refine tk 5 (v := ?_) (hp _) hS rfl (fun _ _ _ _ => trivial) ?_ ?_
        rotate_left 1
        · intro w hw; (try rw [hw]); (try go_split_ands); go_simp <;> with_reducible rfl
        try simp only [Act.put, st]
        refine tk 6 (v := ?_) (hp _) hS rfl (fun _ _ _ _ => trivial) ?_ ?_
        rotate_left 1
        · intro w hw; (try rw [hw]); (try go_split_ands); go_simp <;> with_reducible rfl
        try simp only [Act.put, st]
        refine tk 7 (v := ?_) (hp _) hS rfl (fun _ _ _ _ => trivial) ?_ ?_
        rotate_left 1
        · intro w hw; (try rw [hw]); (try go_split_ands); go_simp <;> with_reducible rfl
        try simp only [Act.put, st]
        refine tk 8 (v := ?_) (hp _) hS rfl (fun _ _ _ _ => trivial) ?_ ?_
        rotate_left 1
        · intro w hw; (try rw [hw]); (try go_split_ands); go_simp <;> with_reducible rfl
        try simp only [Act.put, st]
        refine tk 9 (v := ?_) (hp _) hS rfl (fun _ _ _ _ => trivial) ?_ ?_
        rotate_left 1
        · intro w hw; (try rw [hw]); (try go_split_ands); go_simp <;> with_reducible rfl
        try simp only [Act.put, st]
        refine tk 10 (v := ?_) (hp _) hS rfl (fun _ _ _ _ => trivial) ?_ ?_
        rotate_left 1
        · intro w hw; (try rw [hw]); (try go_split_ands); go_simp <;> with_reducible rfl
        try simp only [Act.put, st]
        refine tk 11 (v := ?_) (hp _) hS rfl (fun _ _ _ _ => trivial) ?_ ?_
        rotate_left 1
        · intro w hw; (try rw [hw]); (try go_split_ands); go_simp <;> with_reducible rfl
        try simp only [Act.put, st]
        refine held_step 12 rfl (hp _) (by kernel_rfl) (by kernel_rfl) (fun K hK => ⟨?_, ?_⟩)
        · exact fun _ _ => trivial
        go_simp
        refine (callsIn_wide.2 (HV.out _)).mono ?_
        rintro e w5 ⟨rfl, hb_5⟩
        have hB_5 : Below z.heap.size z w5 := below_after hS.1 hb_5
        clear hb_5
        have hS := HSZ.out _ hB_5
        refine hK _ _ hS ?_
        clear hK K
        try simp only [Act.put, st]
        refine tk 13 (v := ?_) (hp _) hS rfl (fun _ _ _ _ => trivial) ?_ ?_
        rotate_left 1
        · intro w hw; (try rw [hw]); (try go_split_ands); go_simp <;> with_reducible rfl
        try simp only [Act.put, st]
        refine held_end (by kernel_rfl) ?_
        have hE : Below wr.heap.size wr w5 := hbz.trans (hS.1.mono hbz.size)
        clear hS HSZ hbz
        have hB5 : Below w.heap.size w w5 := hBr.trans (hE.mono hBr.size)
        gi_wp2
        refine bodyPost_ret (v := .bool false) (by simp [results, Tryz.f41, go_sem]) rfl ?_
        refine ⟨?_, hB5⟩
        have hR : R = false := by
          rw [HR.out, List.all_eq_false]
          exact ⟨k, List.mem_range.2 hlt, by rw [HT.out]; simp; omega⟩
        rw [hR]
      · have d5 : decide (C < 0) = false := decide_eq_false hC
        gi_wp2
        have hbz : Below wr.heap.size wr wr.drew := Below.drew (Below.refl _ _)
        have HSZ := Lib.hid (show ∀ w9, Below wr.drew.heap.size wr.drew w9 → (fun w9 => Below wr.drew.heap.size wr.drew w9 ∧ w9.cell? ⟨b, off + k * 2, none⟩ = some (.int .i64 ax) ∧ w9.cell? ⟨b, off + k * 2 + 1, none⟩ = some (.int .i64 ay) ∧ w9.cell? ⟨b, off + j * 2, none⟩ = some (.int .i64 bx) ∧ w9.cell? ⟨b, off + j * 2 + 1, none⟩ = some (.int .i64 bY) ∧ w9.cell? ⟨w.heap.size, 0, none⟩ = some (.int .i64 xx) ∧ w9.cell? ⟨w.heap.size, 1, none⟩ = some (.int .i64 xy)) w9 from fun w9 h9 => ⟨h9, kp h9 (kp hbz x0), kp h9 (kp hbz x1), kp h9 (kp hbz x2), kp h9 (kp hbz x3), kp h9 (kp hbz b0), kp h9 (kp hbz b1)⟩)
        refine held_begin [0, 1, 2, 3, 4, 5, 6, 7, 8, 9, 10, 11, 13] (fun w9 => Below wr.drew.heap.size wr.drew w9 ∧ w9.cell? ⟨b, off + k * 2, none⟩ = some (.int .i64 ax) ∧ w9.cell? ⟨b, off + k * 2 + 1, none⟩ = some (.int .i64 ay) ∧ w9.cell? ⟨b, off + j * 2, none⟩ = some (.int .i64 bx) ∧ w9.cell? ⟨b, off + j * 2 + 1, none⟩ = some (.int .i64 bY) ∧ w9.cell? ⟨w.heap.size, 0, none⟩ = some (.int .i64 xx) ∧ w9.cell? ⟨w.heap.size, 1, none⟩ = some (.int .i64 xy)) (by kernel_rfl) (HSZ.out _ (Below.refl _ _)) (fun hS => ?_)
        generalize wr.drew = z at *
        refine tk 0 (v := ?_) (hp _) hS rfl (fun _ _ _ _ => trivial) ?_ ?_
        rotate_left 1
        · intro w hw; (try rw [hw]); (try go_split_ands); go_simp <;> with_reducible rfl
        try simp only [Act.put, st]
        refine tk 1 (v := ?_) (hp _) hS rfl (fun _ _ _ _ => trivial) ?_ ?_
        rotate_left 1
        · intro w hw; (try rw [hw]); (try go_split_ands); go_simp <;> with_reducible rfl
        try simp only [Act.put, st]
        refine tk 2 (v := ?_) (hp _) hS rfl (fun _ _ _ _ => trivial) ?_ ?_
        rotate_left 1
        · intro w hw; (try rw [hw]); (try go_split_ands); go_simp <;> with_reducible rfl
        try simp only [Act.put, st]
        refine tk 3 (v := ?_) (hp _) hS rfl (fun _ _ _ _ => trivial) ?_ ?_
        rotate_left 1
        · intro w hw; (try rw [hw]); (try go_split_ands); go_simp <;> with_reducible rfl
        try simp only [Act.put, st]
        refine tk 4 (v := ?_) (hp _) hS rfl (fun _ _ _ _ => trivial) ?_ ?_
        rotate_left 1
        · intro w hw; (try rw [hw]); (try go_split_ands); go_simp <;> with_reducible rfl
        try simp only [Act.put, st]
        refine tk 5 (v := ?_) (hp _) hS rfl (fun _ _ _ _ => trivial) ?_ ?_
        rotate_left 1
        · intro w hw; (try rw [hw]); (try go_split_ands); go_simp <;> with_reducible rfl
        try simp only [Act.put, st]
        refine tk 6 (v := ?_) (hp _) hS rfl (fun _ _ _ _ => trivial) ?_ ?_
        rotate_left 1
        · intro w hw; (try rw [hw]); (try go_split_ands); go_simp <;> with_reducible rfl
        try simp only [Act.put, st]
        refine tk 7 (v := ?_) (hp _) hS rfl (fun _ _ _ _ => trivial) ?_ ?_
        rotate_left 1
        · intro w hw; (try rw [hw]); (try go_split_ands); go_simp <;> with_reducible rfl
        try simp only [Act.put, st]
        refine tk 8 (v := ?_) (hp _) hS rfl (fun _ _ _ _ => trivial) ?_ ?_
        rotate_left 1
        · intro w hw; (try rw [hw]); (try go_split_ands); go_simp <;> with_reducible rfl
        try simp only [Act.put, st]
        refine tk 9 (v := ?_) (hp _) hS rfl (fun _ _ _ _ => trivial) ?_ ?_
        rotate_left 1
        · intro w hw; (try rw [hw]); (try go_split_ands); go_simp <;> with_reducible rfl
        try simp only [Act.put, st]
        refine tk 10 (v := ?_) (hp _) hS rfl (fun _ _ _ _ => trivial) ?_ ?_
        rotate_left 1
        · intro w hw; (try rw [hw]); (try go_split_ands); go_simp <;> with_reducible rfl
        try simp only [Act.put, st]
        refine tk 11 (v := ?_) (hp _) hS rfl (fun _ _ _ _ => trivial) ?_ ?_
        rotate_left 1
        · intro w hw; (try rw [hw]); (try go_split_ands); go_simp <;> with_reducible rfl
        try simp only [Act.put, st]
        refine held_step 12 rfl (hp _) (by kernel_rfl) (by kernel_rfl) (fun K hK => ⟨?_, ?_⟩)
        · exact fun _ _ => trivial
        go_simp
        refine (callsIn_wide.2 (HV.out _)).mono ?_
        rintro e w5 ⟨rfl, hb_5⟩
        have hB_5 : Below z.heap.size z w5 := below_after hS.1 hb_5
        clear hb_5
        have hS := HSZ.out _ hB_5
        refine hK _ _ hS ?_
        clear hK K
        try simp only [Act.put, st]
        refine tk 13 (v := ?_) (hp _) hS rfl (fun _ _ _ _ => trivial) ?_ ?_
        rotate_left 1
        · intro w hw; (try rw [hw]); (try go_split_ands); go_simp <;> with_reducible rfl
        try simp only [Act.put, st]
        refine held_end (by kernel_rfl) ?_
        have hE : Below wr.heap.size wr w5 := hbz.trans (hS.1.mono hbz.size)
        clear hS HSZ hbz
        have hB5 : Below w.heap.size w w5 := hBr.trans (hE.mono hBr.size)
        have hZ5 : Below Z.heap.size Z w5 := hZr.trans (hE.mono hZr.size)
        clear x0 x1 x2 x3 b0 b1 hE
        gi_wp2
        go_roundw
        case rel => exact ⟨k + 1, by omega, by go_num, (fun i h => by rcases Nat.lt_succ_iff_lt_or_eq.1 h with h | rfl; exact HA.out i h; rw [HT.out]; omega), hB5, hZ5⟩
        case measure => simp [intOf]; omega
    · obtain rfl : k = n := by omega
      have hnlt : ¬ ((k : Int) < (k : Int)) := by omega
      gi_wp2
      refine bodyPost_ret (v := .bool true) (by simp [results, Tryz.f41, go_sem]) rfl ?_
      refine ⟨?_, hBr⟩
      have hR : R = true := by
        rw [HR.out, List.all_eq_true]
        exact fun i hi => decide_eq_true (HA.out i (List.mem_range.1 hi))
      rw [hR]
theorem RInside_any (A : Option Addr) (n c : Nat) (xs : List Pt) (x : Pt) (w : World) (hn : xs.length = n) (hx : Pts? w.heap.size w A xs) (hv : validB xs = true) (nx : Nr x) : Calls Tryz.prog 41 #[.slice A n c, x.val] w fun e w' => e = .returned (.bool (insB xs x)) ∧ Below w.heap.size w w' := by
  have hl := len_of_valid hv
  have hnr : ∀ p ∈ xs, Nr p := fun p h => nr_of_pl (pl_of_valid hv p h)
  match xs, hn, hx, hl, hnr with
  | [], _, _, hl, _ => simp at hl
  | [p], hn, hx, _, _ =>
    subst hn
    obtain ⟨b, off, rfl, hb, hc⟩ := hx (by simp)
    have h0 := hc 0 p rfl
    simp only [Nat.zero_mul, Nat.add_zero] at h0
    exact RInside_1 b off c p x w hb h0
  | [p, q], hn, hx, _, hnr =>
    subst hn
    obtain ⟨b, off, rfl, hb, hc⟩ := hx (by simp)
    have h0 := hc 0 p rfl
    have h1 := hc 1 q rfl
    simp only [Nat.zero_mul, Nat.one_mul, Nat.add_zero] at h0 h1
    exact RInside_2 b off c p q x w hb h0 h1 (hnr p (by simp)) (hnr q (by simp)) nx
  | p :: q :: r :: l, hn, hx, hl, hnr =>
    exact RInside_3 A n c _ x w hn (by simp at hn; omega) (by omega) hx hnr nx
end Go.Proofs.YtnhdnkeiijiiaaaGreat
namespace Go.Proofs.YtnhdnkeiijiiaaaGreat
open Go.RowKit Go.Shelf
set_option linter.unusedSimpArgs false
set_option linter.unusedVariables false
attribute [local go_sem ↓] Go.wp_at_zero Go.wp_at_succ
set_option maxHeartbeats 1600000 in
set_option maxRecDepth 100000 in
theorem RSame_any (A B : Option Addr) (n m c d : Nat) (xs ys : List Pt) (w : World) (hn : xs.length = n) (hm : ys.length = m) (hbig : n ≤ 1000000000) (hbig2 : m ≤ 1000000000) (hx : Pts? w.heap.size w A xs) (hy : Pts? w.heap.size w B ys) :
    Calls Tryz.prog 44 #[.slice A n c, .slice B m d] w fun e w' => e = .returned (.bool (decide (xs = ys))) ∧ Below w.heap.size w w' := by
  by_cases hnm : n = m
  · subst hnm
    have HX := Lib.hid hx
    have HY := Lib.hid hy
    have HN := Lib.hid hn
    have HM := Lib.hid hm
    generalize hR : decide (xs = ys) = R
    have HR := Lib.hid hR
    clear hx hy hn hm hR
    go_enter Tryz.func44, Tryz.ntmps44
    go_wp2_with fail
    go_loopg [5] (n + 1) (fun g s5 wr => ∃ k : Nat, k ≤ n ∧ g + k = n + 1 ∧ s5 = .int .i64 k ∧ Aside (xs.take k = ys.take k) ∧ Below w.heap.size w wr)
    case atStart => exact ⟨0, by omega, by omega, rfl, (show Aside (xs.take 0 = ys.take 0) from by rw [List.take_zero, List.take_zero]; exact rfl), Below.refl _ _⟩
    case round =>
      obtain ⟨k, hk, hg, rfl, HE, hBr⟩ := hrel
      by_cases hlt : k < n
      · obtain ⟨⟨px, py⟩, hp⟩ : ∃ r, xs[k]? = some r := ⟨_, List.getElem?_eq_getElem (by rw [HN.out]; exact hlt)⟩
        obtain ⟨⟨qx, qy⟩, hq⟩ : ∃ r, ys[k]? = some r := ⟨_, List.getElem?_eq_getElem (by rw [HM.out]; exact hlt)⟩
        obtain ⟨b, off, rfl, hlt0, hc⟩ := HX.out (by rw [HN.out]; omega)
        obtain ⟨b2, off2, rfl, hlt2, hc2⟩ := HY.out (by rw [HM.out]; omega)
        obtain ⟨c0, c1⟩ := (hc k _ hp).upto hBr hlt0
        obtain ⟨d0, d1⟩ := (hc2 k _ hq).upto hBr hlt2
        have hlt2 : (k : Int) < (n : Int) := by omega
        dsimp only at c0 c1 d0 d1
        have HP := Lib.hid hp
        have HQ := Lib.hid hq
        clear hc hc2 hp hq
        by_cases e1 : px = qx ∧ py = qy
        · obtain ⟨rfl, rfl⟩ := e1
          have hst : xs.take (k + 1) = ys.take (k + 1) := by rw [List.take_add_one, List.take_add_one, HE.out, HP.out, HQ.out]
          have HS := Lib.hid hst
          clear hst
          go_wp2_with fail
          go_region
          go_wp2_with fail
          go_roundg (gk - 1)
          case measure => omega
          case rel => exact ⟨k + 1, by omega, by omega, by go_num, HS.out, by go_grown⟩
        · have hne : decide (xs = ys) = false := by
            simp only [decide_eq_false_iff_not]
            intro e
            have h7 := HP.out
            rw [e, HQ.out] at h7
            cases h7
            exact e1 ⟨rfl, rfl⟩
          rw [HR.out] at hne
          have HH := Lib.hid hne
          clear hne HP HQ
          have f1 : px ≠ qx ∨ (px = qx ∧ py ≠ qy) := by omega
          clear e1
          rcases f1 with f1 | ⟨f1, f2⟩
          rotate_left 1
          · subst f1
            go_wp2_with fail
            go_region
            go_wp2_with fail
            go_ret
            exact ⟨ret_bool HH.out.symm, by go_grown⟩
          · go_wp2_with fail
            go_region
            go_wp2_with fail
            go_ret
            exact ⟨ret_bool HH.out.symm, by go_grown⟩
      · have hnlt : ¬ ((k : Int) < (n : Int)) := by omega
        have he : decide (xs = ys) = true := by
          have h9 := HE.out
          rw [List.take_of_length_le (by rw [HN.out]; omega), List.take_of_length_le (by rw [HM.out]; omega)] at h9
          simp [h9]
        rw [HR.out] at he
        have HH := Lib.hid he
        clear he
        go_wp2_with fail
        go_ret
        exact ⟨ret_bool HH.out.symm, by go_grown⟩
  · have he : decide (xs = ys) = false := by
      simp only [decide_eq_false_iff_not]
      intro e; rw [e] at hn; omega
    have hi : ¬ (n : Int) = (m : Int) := by omega
    rw [he]
    clear hx hy
    go_enter Tryz.func44, Tryz.ntmps44
    go_wp2_with fail
    go_ret
    exact ⟨rfl, by go_grown⟩
set_option maxRecDepth 100000 in
set_option maxHeartbeats 4000000 in
theorem RRSame_any (A B : Option Addr) (n m c d : Nat) (rs ss : List (List Pt)) (w : World) (hn : rs.length = n) (hm : ss.length = m) (hbig : n ≤ 1000000) (hbig2 : m ≤ 1000000) (hL1 : ∀ r ∈ rs, r.length ≤ 1000000000) (hL2 : ∀ r ∈ ss, r.length ≤ 1000000000) (hx : Reg? w.heap.size w A rs) (hy : Reg? w.heap.size w B ss) :
    Calls Tryz.prog 22 #[.slice A n c, .slice B m d] w fun e w' => e = .returned (.bool (decide (rs = ss))) ∧ Below w.heap.size w w' := by
  have hp : ∀ ops, PlainOps Fence.wide ops := fun ops => plainOps_none rfl
  by_cases hnm : n = m
  · subst hnm
    have HX := Lib.hid hx
    have HY := Lib.hid hy
    have HN := Lib.hid hn
    have HM := Lib.hid hm
    have HL1 := Lib.hid hL1
    have HL2 := Lib.hid hL2
    generalize hR : decide (rs = ss) = R
    have HR := Lib.hid hR
    clear hx hy hn hm hR hL1 hL2
    refine (callsIn_wide (n := 6)).1 ?_
    refine callsIn_of_wp Tryz.func22 rfl trivial ?_ rfl
    simp only [Tryz.ntmps22, List.size_toArray, List.length_cons, List.length_nil, Nat.reduceAdd, Nat.reduceSub, Array.replicate_succ, Array.replicate_zero, List.push_toArray, List.append_toArray, List.nil_append, List.cons_append]
    gi_wp2
    gi_loopw [5] (fun s5 wr => ∃ k : Nat, k ≤ n ∧ s5 = .int .i64 k ∧ Aside (rs.take k = ss.take k) ∧ Below w.heap.size w wr) (fun s5 _ => n - (intOf s5).toNat)
    case atStart => exact ⟨0, by omega, rfl, (show Aside (rs.take 0 = ss.take 0) from by rw [List.take_zero, List.take_zero]; exact rfl), Below.refl _ _⟩
    case round =>
      obtain ⟨k, hk, rfl, HE, hBr⟩ := hrel
      by_cases hlt : k < n
      · obtain ⟨b, off, rfl, hlt0, Ai, ci, hc1, hp1⟩ := HX.out.at (i := k) (by rw [HN.out]; exact hlt)
        obtain ⟨b2, off2, rfl, hlt2, Bi, di, hc2, hp2⟩ := HY.out.at (i := k) (by rw [HM.out]; exact hlt)
        have hg1 := at_some (d := []) (xs := rs) (i := k) (by rw [HN.out]; exact hlt)
        have hg2 := at_some (d := []) (xs := ss) (i := k) (by rw [HM.out]; exact hlt)
        have x0 := (hBr.cell (p := ⟨b, off + k, none⟩) hlt0).trans hc1
        have x1 := (hBr.cell (p := ⟨b2, off2 + k, none⟩) hlt2).trans hc2
        have hv := fun W (hB : Below wr.heap.size wr W) => RSame_any Ai Bi _ _ ci di (rs.getD k []) (ss.getD k []) W rfl rfl (HL1.out _ (List.mem_of_getElem? hg1)) (HL2.out _ (List.mem_of_getElem? hg2)) (((hp1.upto hBr).mono hBr.size).later hB) (((hp2.upto hBr).mono hBr.size).later hB)
        have hst : rs.take (k + 1) = rs.take k ++ [rs.getD k []] := by rw [List.take_add_one, hg1]; rfl
        have hst2 : ss.take (k + 1) = ss.take k ++ [ss.getD k []] := by rw [List.take_add_one, hg2]; rfl
        have hklt2 : (k : Int) < (n : Int) := by omega
        have hk0 : (0 : Int) ≤ (k : Int) := by omega
        have HG := Lib.hid (And.intro hg1 hg2)
        generalize rs.getD k [] = r at *
        generalize ss.getD k [] = q at *
        have HS := Lib.hid (And.intro hst hst2)
        clear hc1 hc2 hp1 hp2 hg1 hg2 hst hst2
        generalize r.length = l1 at *
        generalize q.length = l2 at *
        by_cases e1 : r = q
        · have hd : decide (r = q) = true := by simp [e1]
          rw [hd] at hv
          have HV := Lib.hid hv
          have HE1 := Lib.hid e1
          clear hv e1 hd
          gi_wp2
          have hbz : Below wr.heap.size wr wr.drew := Below.drew (Below.refl _ _)
          have HSZ := Lib.hid (show ∀ w9, Below wr.drew.heap.size wr.drew w9 → (fun w9 => Below wr.drew.heap.size wr.drew w9 ∧ w9.cell? ⟨b, off + k, none⟩ = some (.slice Ai l1 ci) ∧ w9.cell? ⟨b2, off2 + k, none⟩ = some (.slice Bi l2 di)) w9 from fun w9 h9 => ⟨h9, kp h9 (kp hbz x0), kp h9 (kp hbz x1)⟩)
          refine held_begin [0, 1, 2, 3, 4, 5, 6, 7, 9] (fun w9 => Below wr.drew.heap.size wr.drew w9 ∧ w9.cell? ⟨b, off + k, none⟩ = some (.slice Ai l1 ci) ∧ w9.cell? ⟨b2, off2 + k, none⟩ = some (.slice Bi l2 di)) (by kernel_rfl) (HSZ.out _ (Below.refl _ _)) (fun hS => ?_)
          generalize wr.drew = z at *
          refine tk 0 (v := ?_) (hp _) hS rfl (fun _ _ _ _ => trivial) ?_ ?_
          rotate_left 1
          · intro w hw; (try rw [hw]); (try go_split_ands); go_simp <;> with_reducible rfl
          try simp only [Act.put, st]
          refine tk 1 (v := ?_) (hp _) hS rfl (fun _ _ _ _ => trivial) ?_ ?_
          rotate_left 1
          · intro w hw; (try rw [hw]); (try go_split_ands); go_simp <;> with_reducible rfl
          try simp only [Act.put, st]
          refine tk 2 (v := ?_) (hp _) hS rfl (fun _ _ _ _ => trivial) ?_ ?_
          rotate_left 1
          · intro w hw; (try rw [hw]); (try go_split_ands); go_simp <;> with_reducible rfl
          try simp only [Act.put, st]
          refine tk 3 (v := ?_) (hp _) hS rfl (fun _ _ _ _ => trivial) ?_ ?_
          rotate_left 1
          · intro w hw; (try rw [hw]); (try go_split_ands); go_simp <;> with_reducible rfl
          try simp only [Act.put, st]
          refine tk 4 (v := ?_) (hp _) hS rfl (fun _ _ _ _ => trivial) ?_ ?_
          rotate_left 1
          · intro w hw; (try rw [hw]); (try go_split_ands); go_simp <;> with_reducible rfl
          try simp only [Act.put, st]
          refine tk 5 (v := ?_) (hp _) hS rfl (fun _ _ _ _ => trivial) ?_ ?_
          rotate_left 1
          · intro w hw; (try rw [hw]); (try go_split_ands); go_simp <;> with_reducible rfl
          try simp only [Act.put, st]
          refine tk 6 (v := ?_) (hp _) hS rfl (fun _ _ _ _ => trivial) ?_ ?_
          rotate_left 1
          · intro w hw; (try rw [hw]); (try go_split_ands); go_simp <;> with_reducible rfl
          try simp only [Act.put, st]
          refine tk 7 (v := ?_) (hp _) hS rfl (fun _ _ _ _ => trivial) ?_ ?_
          rotate_left 1
          · intro w hw; (try rw [hw]); (try go_split_ands); go_simp <;> with_reducible rfl
          try simp only [Act.put, st]
          refine held_step 8 rfl (hp _) (by kernel_rfl) (by kernel_rfl) (fun K hK => ⟨?_, ?_⟩)
          · exact fun _ _ => trivial
          go_simp
          refine (callsIn_wide.2 (HV.out _ (hbz.trans (hS.1.mono hbz.size)))).mono ?_
          rintro e w5 ⟨rfl, hb_5⟩
          have hB_5 : Below z.heap.size z w5 := below_after hS.1 hb_5
          clear hb_5
          have hS := HSZ.out _ hB_5
          refine hK _ _ hS ?_
          clear hK K
          try simp only [Act.put, st]
          refine tk 9 (v := ?_) (hp _) hS rfl (fun _ _ _ _ => trivial) ?_ ?_
          rotate_left 1
          · intro w hw; (try rw [hw]); (try go_split_ands); go_simp <;> with_reducible rfl
          try simp only [Act.put, st]
          refine held_end (by kernel_rfl) ?_
          have hE : Below wr.heap.size wr w5 := hbz.trans (hS.1.mono hbz.size)
          clear hS HSZ hbz
          have hB5 : Below w.heap.size w w5 := hBr.trans (hE.mono hBr.size)
          clear x0 x1 hE
          gi_wp2
          go_roundw
          case rel => exact ⟨k + 1, by omega, by go_num, (show Aside _ from by rw [HS.out.1, HS.out.2, HE.out, HE1.out]; exact rfl), hB5⟩
          case measure => simp [intOf]; omega
        · have hd : decide (r = q) = false := by simp [e1]
          rw [hd] at hv
          have HV := Lib.hid hv
          have hne : R = false := by
            rw [← HR.out, decide_eq_false_iff_not]
            intro e
            have h7 := HG.out.1
            rw [e, HG.out.2] at h7
            exact e1 (Option.some.inj h7).symm
          have HNE := Lib.hid hne
          clear hv e1 hd hne
          gi_wp2
          have hbz : Below wr.heap.size wr wr.drew := Below.drew (Below.refl _ _)
          have HSZ := Lib.hid (show ∀ w9, Below wr.drew.heap.size wr.drew w9 → (fun w9 => Below wr.drew.heap.size wr.drew w9 ∧ w9.cell? ⟨b, off + k, none⟩ = some (.slice Ai l1 ci) ∧ w9.cell? ⟨b2, off2 + k, none⟩ = some (.slice Bi l2 di)) w9 from fun w9 h9 => ⟨h9, kp h9 (kp hbz x0), kp h9 (kp hbz x1)⟩)
          refine held_begin [0, 1, 2, 3, 4, 5, 6, 7, 9] (fun w9 => Below wr.drew.heap.size wr.drew w9 ∧ w9.cell? ⟨b, off + k, none⟩ = some (.slice Ai l1 ci) ∧ w9.cell? ⟨b2, off2 + k, none⟩ = some (.slice Bi l2 di)) (by kernel_rfl) (HSZ.out _ (Below.refl _ _)) (fun hS => ?_)
          generalize wr.drew = z at *
          refine tk 0 (v := ?_) (hp _) hS rfl (fun _ _ _ _ => trivial) ?_ ?_
          rotate_left 1
          · intro w hw; (try rw [hw]); (try go_split_ands); go_simp <;> with_reducible rfl
          try simp only [Act.put, st]
          refine tk 1 (v := ?_) (hp _) hS rfl (fun _ _ _ _ => trivial) ?_ ?_
          rotate_left 1
          · intro w hw; (try rw [hw]); (try go_split_ands); go_simp <;> with_reducible rfl
          try simp only [Act.put, st]
          refine tk 2 (v := ?_) (hp _) hS rfl (fun _ _ _ _ => trivial) ?_ ?_
          rotate_left 1
          · intro w hw; (try rw [hw]); (try go_split_ands); go_simp <;> with_reducible rfl
          try simp only [Act.put, st]
          refine tk 3 (v := ?_) (hp _) hS rfl (fun _ _ _ _ => trivial) ?_ ?_
          rotate_left 1
          · intro w hw; (try rw [hw]); (try go_split_ands); go_simp <;> with_reducible rfl
          try simp only [Act.put, st]
          refine tk 4 (v := ?_) (hp _) hS rfl (fun _ _ _ _ => trivial) ?_ ?_
          rotate_left 1
          · intro w hw; (try rw [hw]); (try go_split_ands); go_simp <;> with_reducible rfl
          try simp only [Act.put, st]
          refine tk 5 (v := ?_) (hp _) hS rfl (fun _ _ _ _ => trivial) ?_ ?_
          rotate_left 1
          · intro w hw; (try rw [hw]); (try go_split_ands); go_simp <;> with_reducible rfl
          try simp only [Act.put, st]
          refine tk 6 (v := ?_) (hp _) hS rfl (fun _ _ _ _ => trivial) ?_ ?_
          rotate_left 1
          · intro w hw; (try rw [hw]); (try go_split_ands); go_simp <;> with_reducible rfl
          try simp only [Act.put, st]
          refine tk 7 (v := ?_) (hp _) hS rfl (fun _ _ _ _ => trivial) ?_ ?_
          rotate_left 1
          · intro w hw; (try rw [hw]); (try go_split_ands); go_simp <;> with_reducible rfl
          try simp only [Act.put, st]
          refine held_step 8 rfl (hp _) (by kernel_rfl) (by kernel_rfl) (fun K hK => ⟨?_, ?_⟩)
          · exact fun _ _ => trivial
          go_simp
          refine (callsIn_wide.2 (HV.out _ (hbz.trans (hS.1.mono hbz.size)))).mono ?_
          rintro e w5 ⟨rfl, hb_5⟩
          have hB_5 : Below z.heap.size z w5 := below_after hS.1 hb_5
          clear hb_5
          have hS := HSZ.out _ hB_5
          refine hK _ _ hS ?_
          clear hK K
          try simp only [Act.put, st]
          refine tk 9 (v := ?_) (hp _) hS rfl (fun _ _ _ _ => trivial) ?_ ?_
          rotate_left 1
          · intro w hw; (try rw [hw]); (try go_split_ands); go_simp <;> with_reducible rfl
          try simp only [Act.put, st]
          refine held_end (by kernel_rfl) ?_
          have hE : Below wr.heap.size wr w5 := hbz.trans (hS.1.mono hbz.size)
          clear hS HSZ hbz
          have hB5 : Below w.heap.size w w5 := hBr.trans (hE.mono hBr.size)
          gi_wp2
          refine bodyPost_ret (v := .bool false) (by simp [results, Tryz.f22, go_sem]) rfl ?_
          exact ⟨by rw [HNE.out], hB5⟩
      · obtain rfl : k = n := by omega
        have hnlt : ¬ ((k : Int) < (k : Int)) := by omega
        have he : R = true := by
          have h9 := HE.out
          rw [List.take_of_length_le (by rw [HN.out]; omega), List.take_of_length_le (by rw [HM.out]; omega)] at h9
          rw [← HR.out]
          simp [h9]
        have HNE := Lib.hid he
        clear he
        gi_wp2
        refine bodyPost_ret (v := .bool true) (by simp [results, Tryz.f22, go_sem]) rfl ?_
        exact ⟨by rw [HNE.out], hBr⟩
  · have he : decide (rs = ss) = false := by
      simp only [decide_eq_false_iff_not]
      intro e; rw [e] at hn; omega
    have hi : ¬ (n : Int) = (m : Int) := by omega
    rw [he]
    clear hx hy
    go_enter Tryz.func22, Tryz.ntmps22
    go_wp2_with fail
    go_ret
    exact ⟨rfl, by go_grown⟩
set_option maxRecDepth 100000 in
set_option maxHeartbeats 4000000 in
theorem RIn_any (A : Option Addr) (n c : Nat) (rs : List (List Pt)) (x : Pt) (w : World) (hn : rs.length = n) (hbig : n ≤ 1000000) (hx : Reg? w.heap.size w A rs) (hv : ∀ r ∈ rs, validB r = true) (nx : Nr x) :
    Calls Tryz.prog 19 #[.slice A n c, x.val] w fun e w' => e = .returned (.bool (rs.any fun r => insB r x)) ∧ Below w.heap.size w w' := by
  have hp : ∀ ops, PlainOps Fence.wide ops := fun ops => plainOps_none rfl
  have HX := Lib.hid hx
  have HN := Lib.hid hn
  have HVV := Lib.hid hv
  have HNX := Lib.hid nx
  generalize hR : (rs.any fun r => insB r x) = R
  have HR := Lib.hid hR
  have hbn : Below w.heap.size w (w.alloc (.cells #[.int .i64 x.x, .int .i64 x.y] 23)) := (Below.refl _ _).alloc (Nat.le_refl _) _
  obtain ⟨z0, z1⟩ := alloc_cell2 (W := w) (x := x.x) (y := x.y) (t := 23)
  obtain ⟨xx, xy⟩ := x
  dsimp only at hbn z0 z1
  clear hx hn hv nx hR
  refine (callsIn_wide (n := 6)).1 ?_
  refine callsIn_of_wp Tryz.func19 rfl trivial ?_ rfl
  simp only [Tryz.ntmps19, List.size_toArray, List.length_cons, List.length_nil, Nat.reduceAdd, Nat.reduceSub, Array.replicate_succ, Array.replicate_zero, List.push_toArray, List.append_toArray, List.nil_append, List.cons_append]
  gi_wp2
  generalize w.alloc (.cells #[.int .i64 xx, .int .i64 xy] 23) = Z at *
  gi_loopw [5] (fun s5 wr => ∃ k : Nat, k ≤ n ∧ s5 = .int .i64 k ∧ Aside (∀ i, i < k → insB (rs.getD i []) ⟨xx, xy⟩ = false) ∧ Below w.heap.size w wr ∧ Below Z.heap.size Z wr) (fun s5 _ => n - (intOf s5).toNat)
  case atStart => exact ⟨0, by omega, rfl, (fun i h => by omega), hbn, Below.refl _ _⟩
  case round =>
    obtain ⟨k, hk, rfl, HA, hBr, hZr⟩ := hrel
    by_cases hlt : k < n
    · obtain ⟨b, off, rfl, hlt0, Ai, ci, hc1, hp1⟩ := HX.out.at (i := k) (by rw [HN.out]; exact hlt)
      have hg1 := at_some (d := []) (xs := rs) (i := k) (by rw [HN.out]; exact hlt)
      have x0 := (hBr.cell (p := ⟨b, off + k, none⟩) hlt0).trans hc1
      have b0 := kp hZr z0
      have b1 := kp hZr z1
      have hv := fun W (hB : Below wr.heap.size wr W) => RInside_any Ai _ ci (rs.getD k []) ⟨xx, xy⟩ W rfl (((hp1.upto hBr).mono hBr.size).later hB) (HVV.out _ (List.mem_of_getElem? hg1)) HNX.out
      have hklt2 : (k : Int) < (n : Int) := by omega
      have hk0 : (0 : Int) ≤ (k : Int) := by omega
      have HG := Lib.hid hg1
      generalize hI : insB (rs.getD k []) ⟨xx, xy⟩ = I at *
      have HI := Lib.hid hI
      clear hc1 hp1 hg1 hI
      generalize (rs.getD k []).length = l1 at *
      have HV := Lib.hid hv
      clear hv
      cases I with
      | true =>
        gi_wp2
        have hbz : Below wr.heap.size wr wr.drew := Below.drew (Below.refl _ _)
        have HSZ := Lib.hid (show ∀ w9, Below wr.drew.heap.size wr.drew w9 → (fun w9 => Below wr.drew.heap.size wr.drew w9 ∧ w9.cell? ⟨b, off + k, none⟩ = some (.slice Ai l1 ci) ∧ w9.cell? ⟨w.heap.size, 0, none⟩ = some (.int .i64 xx) ∧ w9.cell? ⟨w.heap.size, 1, none⟩ = some (.int .i64 xy)) w9 from fun w9 h9 => ⟨h9, kp h9 (kp hbz x0), kp h9 (kp hbz b0), kp h9 (kp hbz b1)⟩)
        refine held_begin [0, 1, 2, 3, 4, 6] (fun w9 => Below wr.drew.heap.size wr.drew w9 ∧ w9.cell? ⟨b, off + k, none⟩ = some (.slice Ai l1 ci) ∧ w9.cell? ⟨w.heap.size, 0, none⟩ = some (.int .i64 xx) ∧ w9.cell? ⟨w.heap.size, 1, none⟩ = some (.int .i64 xy)) (by kernel_rfl) (HSZ.out _ (Below.refl _ _)) (fun hS => ?_)
        generalize wr.drew = z at *
        refine tk 0 (v := ?_) (hp _) hS rfl (fun _ _ _ _ => trivial) ?_ ?_
        rotate_left 1
        · intro w hw; (try rw [hw]); (try go_split_ands); go_simp <;> with_reducible rfl
        try simp only [Act.put, st]
        refine tk 1 (v := ?_) (hp _) hS rfl (fun _ _ _ _ => trivial) ?_ ?_
        rotate_left 1
        · intro w hw; (try rw [hw]); (try go_split_ands); go_simp <;> with_reducible rfl
        try simp only [Act.put, st]
        refine tk 2 (v := ?_) (hp _) hS rfl (fun _ _ _ _ => trivial) ?_ ?_
        rotate_left 1
        · intro w hw; (try rw [hw]); (try go_split_ands); go_simp <;> with_reducible rfl
        try simp only [Act.put, st]
        refine tk 3 (v := ?_) (hp _) hS rfl (fun _ _ _ _ => trivial) ?_ ?_
        rotate_left 1
        · intro w hw; (try rw [hw]); (try go_split_ands); go_simp <;> with_reducible rfl
        try simp only [Act.put, st]
        refine tk 4 (v := ?_) (hp _) hS rfl (fun _ _ _ _ => trivial) ?_ ?_
        rotate_left 1
        · intro w hw; (try rw [hw]); (try go_split_ands); go_simp <;> with_reducible rfl
        try simp only [Act.put, st]
        refine held_step 5 rfl (hp _) (by kernel_rfl) (by kernel_rfl) (fun K hK => ⟨?_, ?_⟩)
        · exact fun _ _ => trivial
        go_simp
        refine (callsIn_wide.2 (HV.out _ (hbz.trans (hS.1.mono hbz.size)))).mono ?_
        rintro e w5 ⟨rfl, hb_5⟩
        have hB_5 : Below z.heap.size z w5 := below_after hS.1 hb_5
        clear hb_5
        have hS := HSZ.out _ hB_5
        refine hK _ _ hS ?_
        clear hK K
        try simp only [Act.put, st]
        refine tk 6 (v := ?_) (hp _) hS rfl (fun _ _ _ _ => trivial) ?_ ?_
        rotate_left 1
        · intro w hw; (try rw [hw]); (try go_split_ands); go_simp <;> with_reducible rfl
        try simp only [Act.put, st]
        refine held_end (by kernel_rfl) ?_
        have hE : Below wr.heap.size wr w5 := hbz.trans (hS.1.mono hbz.size)
        clear hS HSZ hbz
        have hB5 : Below w.heap.size w w5 := hBr.trans (hE.mono hBr.size)
        gi_wp2
        refine bodyPost_ret (v := .bool true) (by simp [results, Tryz.f19, go_sem]) rfl ?_
        refine ⟨?_, hB5⟩
        have hR : R = true := by
          rw [← HR.out, List.any_eq_true]
          exact ⟨_, List.mem_of_getElem? HG.out, HI.out⟩
        rw [hR]
      | false =>
        gi_wp2
        have hbz : Below wr.heap.size wr wr.drew := Below.drew (Below.refl _ _)
        have HSZ := Lib.hid (show ∀ w9, Below wr.drew.heap.size wr.drew w9 → (fun w9 => Below wr.drew.heap.size wr.drew w9 ∧ w9.cell? ⟨b, off + k, none⟩ = some (.slice Ai l1 ci) ∧ w9.cell? ⟨w.heap.size, 0, none⟩ = some (.int .i64 xx) ∧ w9.cell? ⟨w.heap.size, 1, none⟩ = some (.int .i64 xy)) w9 from fun w9 h9 => ⟨h9, kp h9 (kp hbz x0), kp h9 (kp hbz b0), kp h9 (kp hbz b1)⟩)
        refine held_begin [0, 1, 2, 3, 4, 6] (fun w9 => Below wr.drew.heap.size wr.drew w9 ∧ w9.cell? ⟨b, off + k, none⟩ = some (.slice Ai l1 ci) ∧ w9.cell? ⟨w.heap.size, 0, none⟩ = some (.int .i64 xx) ∧ w9.cell? ⟨w.heap.size, 1, none⟩ = some (.int .i64 xy)) (by kernel_rfl) (HSZ.out _ (Below.refl _ _)) (fun hS => ?_)
        generalize wr.drew = z at *
        refine tk 0 (v := ?_) (hp _) hS rfl (fun _ _ _ _ => trivial) ?_ ?_
        rotate_left 1
        · intro w hw; (try rw [hw]); (try go_split_ands); go_simp <;> with_reducible rfl
        try simp only [Act.put, st]
        refine tk 1 (v := ?_) (hp _) hS rfl (fun _ _ _ _ => trivial) ?_ ?_
        rotate_left 1
        · intro w hw; (try rw [hw]); (try go_split_ands); go_simp <;> with_reducible rfl
        try simp only [Act.put, st]
        refine tk 2 (v := ?_) (hp _) hS rfl (fun _ _ _ _ => trivial) ?_ ?_
        rotate_left 1
        · intro w hw; (try rw [hw]); (try go_split_ands); go_simp <;> with_reducible rfl
        try simp only [Act.put, st]
        refine tk 3 (v := ?_) (hp _) hS rfl (fun _ _ _ _ => trivial) ?_ ?_
        rotate_left 1
        · intro w hw; (try rw [hw]); (try go_split_ands); go_simp <;> with_reducible rfl
        try simp only [Act.put, st]
        refine tk 4 (v := ?_) (hp _) hS rfl (fun _ _ _ _ => trivial) ?_ ?_
        rotate_left 1
        · intro w hw; (try rw [hw]); (try go_split_ands); go_simp <;> with_reducible rfl
        try simp only [Act.put, st]
        refine held_step 5 rfl (hp _) (by kernel_rfl) (by kernel_rfl) (fun K hK => ⟨?_, ?_⟩)
        · exact fun _ _ => trivial
        go_simp
        refine (callsIn_wide.2 (HV.out _ (hbz.trans (hS.1.mono hbz.size)))).mono ?_
        rintro e w5 ⟨rfl, hb_5⟩
        have hB_5 : Below z.heap.size z w5 := below_after hS.1 hb_5
        clear hb_5
        have hS := HSZ.out _ hB_5
        refine hK _ _ hS ?_
        clear hK K
        try simp only [Act.put, st]
        refine tk 6 (v := ?_) (hp _) hS rfl (fun _ _ _ _ => trivial) ?_ ?_
        rotate_left 1
        · intro w hw; (try rw [hw]); (try go_split_ands); go_simp <;> with_reducible rfl
        try simp only [Act.put, st]
        refine held_end (by kernel_rfl) ?_
        have hE : Below wr.heap.size wr w5 := hbz.trans (hS.1.mono hbz.size)
        clear hS HSZ hbz
        have hB5 : Below w.heap.size w w5 := hBr.trans (hE.mono hBr.size)
        have hZ5 : Below Z.heap.size Z w5 := hZr.trans (hE.mono hZr.size)
        clear x0 b0 b1 hE
        gi_wp2
        go_roundw
        case rel => exact ⟨k + 1, by omega, by go_num, (fun i h => by rcases Nat.lt_succ_iff_lt_or_eq.1 h with h | rfl; exact HA.out i h; exact HI.out), hB5, hZ5⟩
        case measure => simp [intOf]; omega
    · obtain rfl : k = n := by omega
      have hnlt : ¬ ((k : Int) < (k : Int)) := by omega
      gi_wp2
      refine bodyPost_ret (v := .bool false) (by simp [results, Tryz.f19, go_sem]) rfl ?_
      refine ⟨?_, hBr⟩
      have hR : R = false := by
        rw [← HR.out, List.any_eq_false]
        intro r hr
        obtain ⟨i, hi, rfl⟩ := List.mem_iff_getElem.1 hr
        have := HA.out i (by rw [← HN.out]; exact hi)
        rw [List.getD_eq_getElem?_getD, List.getElem?_eq_getElem hi] at this
        simp at this
        simp [this]
      rw [hR]
end Go.Proofs.YtnhdnkeiijiiaaaGreat
