import Derived.Test.YtnhdnkeiijiiaaaGreatA13
namespace Go.Proofs.YtnhdnkeiijiiaaaGreat
open Go.RowKit Go.Shelf
set_option linter.unusedSimpArgs false
set_option linter.unusedVariables false
attribute [local go_sem ↓] Go.wp_at_zero Go.wp_at_succ
set_option maxHeartbeats 1600000 in
set_option maxRecDepth 100000 in
theorem first_any (w : World) : Calls Tryz.prog 88 #[] w fun e w' => e = .returned (.slice (some ⟨w.heap.size, 0, none⟩) 16 16) ∧ w' = w.alloc (.cells firstC 23) := by
  go_enter Tryz.func88, Tryz.ntmps88
  go_wp2_with fail
  go_ret
  exact ⟨rfl, rfl⟩
set_option maxHeartbeats 1600000 in
set_option maxRecDepth 100000 in
theorem RAt_any (k : Nat) (w : World) (hk : k ≤ 1000) :
    Calls Tryz.prog 65 #[.int .i64 k] w fun e w' => e = .returned (atS k).val ∧ Below w.heap.size w w' := by
  have q1 : (k : Int).tmod 16 = ((k % 16 : Nat) : Int) := by rw [Int.tmod_eq_emod_of_nonneg (by omega)]; omega
  have q2 : (k : Int).tdiv 16 = ((k / 16 : Nat) : Int) := by rw [Int.tdiv_eq_ediv_of_nonneg (by omega)]; omega
  have q3 : ((k / 16 : Nat) : Int).tmod 4 = ((k / 16 % 4 : Nat) : Int) := by rw [Int.tmod_eq_emod_of_nonneg (by omega)]; omega
  have hm16 : k % 16 < 16 := Nat.mod_lt _ (by omega)
  have hd4 : k / 16 % 4 < 4 := Nat.mod_lt _ (by omega)
  have hdd : ((k / 16 : Nat) : Int) ≤ 1000 := by omega
  have hd0 : (0 : Int) ≤ ((k / 16 : Nat) : Int) := by omega
  have hat : atS k = leftS (firstS.getD (k % 16) default) (k / 16 % 4) := rfl
  have HA := Lib.hid hat
  have hN := firstS_nr (k % 16) hm16
  have hF := firstC_at (k % 16) hm16
  clear hat
  generalize k % 16 = m at *
  generalize k / 16 = d at *
  generalize d % 4 = n at *
  generalize firstS.getD m default = f at *
  have HL := Lib.hid (leftS_bd f 1000 (by omega))
  have w1 : IntKind.i64.wrap (m : Int) = (m : Int) := IntWalk.i64_in _ (by omega)
  have w2 : IntKind.i64.wrap (d : Int) = (d : Int) := IntWalk.i64_in _ (by omega)
  have w3 : IntKind.i64.wrap (n : Int) = (n : Int) := IntWalk.i64_in _ (by omega)
  have hm16' : (m : Int) < 16 := by omega
  have HF := Lib.hid hF
  clear hF hN
  go_enter Tryz.func65, Tryz.ntmps65
  go_wp2_with fail
  refine (first_any _).mono ?_
  rintro e w1 ⟨rfl, rfl⟩
  obtain ⟨W, hW⟩ : ∃ W, (w.alloc (.cells #[.int .i64 0, .int .i64 0] 23)).alloc (.cells firstC 23) = W := ⟨_, rfl⟩
  have hB : Below w.heap.size w W := by rw [← hW]; go_grown
  have hsz : W.heap.size = w.heap.size + 2 := by rw [← hW]; simp
  have r0 : W.heap[w.heap.size]? = some (.cells #[.int .i64 0, .int .i64 0] 23 (0, 0)) := by rw [← hW]; exact alloc_old (alloc_at rfl)
  have r1 : W.heap[w.heap.size + 1]? = some (.cells firstC 23 (0, 0)) := by rw [← hW]; exact alloc_at (by simp)
  have hx : W.cell? ⟨w.heap.size + 1, m * 2, none⟩ = some (.int .i64 f.x) := by rw [cell_of_row _ _ _ _ _ _ r1]; exact HF.out.1
  have hy : W.cell? ⟨w.heap.size + 1, m * 2 + 1, none⟩ = some (.int .i64 f.y) := by rw [cell_of_row _ _ _ _ _ _ r1]; exact HF.out.2
  have hfe : f = leftS f 0 := rfl
  rw [World.size_alloc, hW]
  have HW := Lib.hid (And.intro hB (And.intro hsz r0))
  clear hW hB hsz r0 r1
  obtain ⟨fx, fy⟩ := f
  dsimp only at hx hy
  go_wp2_with fail
  have hB := HW.out.1
  have hsz := HW.out.2.1
  have hbA : Below W.heap.size W (W.alloc (.cells #[.int .i64 fx, .int .i64 fy] 23)) := (Below.refl _ _).alloc (Nat.le_refl _) _
  have hBA : Below w.heap.size w (W.alloc (.cells #[.int .i64 fx, .int .i64 fy] 23)) := hB.trans (hbA.mono hB.size)
  have s0 : (W.alloc (.cells #[.int .i64 fx, .int .i64 fy] 23)).heap[w.heap.size]? = some (.cells #[.int .i64 0, .int .i64 0] 23 (0, 0)) := alloc_old HW.out.2.2
  have s1 : (W.alloc (.cells #[.int .i64 fx, .int .i64 fy] 23)).heap[W.heap.size]? = some (.cells #[.int .i64 fx, .int .i64 fy] 23 (0, 0)) := alloc_at rfl
  have hZs : W.heap.size < (W.alloc (.cells #[.int .i64 fx, .int .i64 fy] 23)).heap.size := by simp
  generalize W.alloc (.cells #[.int .i64 fx, .int .i64 fy] 23) = Z at *
  have hB3 : w.heap.size + 2 ≤ W.heap.size := by omega
  clear hsz HW hbA hx hy
  generalize W.heap.size = B3 at *
  go_loopg [4] (n + 1) (fun g s4 wr => ∃ j : Nat, j ≤ n ∧ g + j = n + 1 ∧ s4 = .int .i64 j ∧ Below w.heap.size w wr ∧ wr.heap[w.heap.size]? = some (.cells #[.int .i64 0, .int .i64 0] 23 (0, 0)) ∧ wr.heap[B3]? = some (.cells #[.int .i64 (leftS ⟨fx, fy⟩ j).x, .int .i64 (leftS ⟨fx, fy⟩ j).y] 23 (0, 0)))
  case atStart => exact ⟨0, by omega, by omega, rfl, hBA, s0, s1⟩
  case round =>
    obtain ⟨j, hj, hg, rfl, hBr, t0, t1⟩ := hrel
    have hl := HL.out j
    have hs : leftS ⟨fx, fy⟩ (j + 1) = ⟨-(leftS ⟨fx, fy⟩ j).y, (leftS ⟨fx, fy⟩ j).x⟩ := rfl
    by_cases hlt : j < n
    · generalize leftS ⟨fx, fy⟩ j = L at *
      have hT := fun W => RTurned_any L W (by unfold Nr; omega)
      obtain ⟨lx, ly⟩ := L
      dsimp only at hl t1 hs hT ⊢
      have HS := Lib.hid hs
      have HT := Lib.hid hT
      clear hs hT
      have hlt2 : (j : Int) < (n : Int) := by omega
      have c0 : wr.cell? ⟨B3, 0, none⟩ = some (.int .i64 lx) := by simp [World.cell?, t1]
      have c1 : wr.cell? ⟨B3, 1, none⟩ = some (.int .i64 ly) := by simp [World.cell?, t1]
      go_wp2_with fail
      refine (HT.out _).mono ?_
      rintro e w4 ⟨rfl, hb4⟩
      have u0 := (hb4.block _ (Array.getElem?_eq_some_iff.1 t0).1).trans t0
      have u1 := (hb4.block _ (Array.getElem?_eq_some_iff.1 t1).1).trans t1
      have hB4 : Below w.heap.size w w4 := hBr.trans (hb4.mono hBr.size)
      have d0 : w4.cell? ⟨B3, 0, none⟩ = some (.int .i64 lx) := by simp [World.cell?, u1]
      have d1 : w4.cell? ⟨B3, 1, none⟩ = some (.int .i64 ly) := by simp [World.cell?, u1]
      have g0 : w4.frozen? ⟨B3, 0, none⟩ = false := by simp [World.frozen?, u1]
      have g1 : w4.frozen? ⟨B3, 1, none⟩ = false := by simp [World.frozen?, u1]
      have hF := Lib.hid (show Below w.heap.size w ((w4.setCell ⟨B3, 0, none⟩ (.int .i64 (-ly))).setCell ⟨B3, 1, none⟩ (.int .i64 lx)) ∧ ((w4.setCell ⟨B3, 0, none⟩ (.int .i64 (-ly))).setCell ⟨B3, 1, none⟩ (.int .i64 lx)).heap[w.heap.size]? = some (.cells #[.int .i64 0, .int .i64 0] 23 (0, 0)) ∧ ((w4.setCell ⟨B3, 0, none⟩ (.int .i64 (-ly))).setCell ⟨B3, 1, none⟩ (.int .i64 lx)).heap[B3]? = some (.cells #[.int .i64 (-ly), .int .i64 lx] 23 (0, 0)) from
        ⟨(hB4.setCell (p := ⟨B3, 0, none⟩) (by dsimp only; omega) _).setCell (p := ⟨B3, 1, none⟩) (by dsimp only; omega) _, (Below.heap_setCell _ ⟨B3, 1, none⟩ _ _ (by dsimp only; omega)).trans ((Below.heap_setCell _ ⟨B3, 0, none⟩ _ _ (by dsimp only; omega)).trans u0), heap_setCell_same _ B3 1 _ 23 _ (heap_setCell_same w4 B3 0 _ 23 _ u1)⟩)
      clear t0 t1 u0 u1 hb4 c0 c1
      go_wp2_with fail
      go_roundg (gk - 1)
      case measure => omega
      case rel => exact ⟨j + 1, by omega, by omega, by go_num, hF.out.1, hF.out.2.1, by rw [HS.out]; exact hF.out.2.2⟩
    · obtain rfl : j = n := by omega
      have hnlt : ¬ ((j : Int) < (j : Int)) := by omega
      clear hs
      obtain ⟨lx, ly, hL⟩ : ∃ lx ly, leftS ⟨fx, fy⟩ j = ⟨lx, ly⟩ := ⟨_, _, rfl⟩
      rw [hL] at hl t1
      have HLL := Lib.hid hL
      clear hL
      dsimp only at hl t1
      have c0 : wr.cell? ⟨B3, 0, none⟩ = some (.int .i64 lx) := by simp [World.cell?, t1]
      have c1 : wr.cell? ⟨B3, 1, none⟩ = some (.int .i64 ly) := by simp [World.cell?, t1]
      have d0 : wr.cell? ⟨w.heap.size, 0, none⟩ = some (.int .i64 0) := by simp [World.cell?, t0]
      have d1 : wr.cell? ⟨w.heap.size, 1, none⟩ = some (.int .i64 0) := by simp [World.cell?, t0]
      have g0 : wr.frozen? ⟨w.heap.size, 0, none⟩ = false := by simp [World.frozen?, t0]
      have g1 : wr.frozen? ⟨w.heap.size, 1, none⟩ = false := by simp [World.frozen?, t0]
      have hF := Lib.hid ((hBr.setCell (p := ⟨w.heap.size, 0, none⟩) (Nat.le_refl _) (.int .i64 lx)).setCell (p := ⟨w.heap.size, 1, none⟩) (Nat.le_refl _) (.int .i64 ly))
      clear t0 t1
      go_wp2_with fail
      refine ret_span1 rfl rfl rfl (set2s _ _ (by rw [d0]; rfl) (by rw [d1]; rfl)) ⟨by rw [HA.out, HLL.out], hF.out⟩
end Go.Proofs.YtnhdnkeiijiiaaaGreat
namespace Go.Proofs.YtnhdnkeiijiiaaaGreat
open Go.RowKit Go.Shelf
set_option linter.unusedSimpArgs false
set_option linter.unusedVariables false
attribute [local go_sem ↓] Go.wp_at_zero Go.wp_at_succ
def onB (k : Nat) (v : Pt) : Bool := decide (crS (atS k) v = 0) && decide (0 < (atS k).x * v.x + (atS k).y * v.y)
def liesB (a n : Nat) (v : Pt) : Bool := if (decide ((n : Int) = 0) || onB a v) = true then onB a v else decide (0 ≤ crS (atS a) v) && decide (0 ≤ crS v (atS (a + n)))
def vecS (y b : Pt) : Pt := ⟨b.x - y.x, b.y - y.y⟩
def seesB (y b : Pt) (a n : Nat) : Bool := decide ((vecS y b).x = 0) && decide ((vecS y b).y = 0) || liesB a n (vecS y b)
theorem atS_nr (k : Nat) : Nr (atS k) := by have := atS_bd k; unfold Nr; omega
theorem alloc_cell2 {W : World} {x y : Int} {t : Nat} : (W.alloc (.cells #[.int .i64 x, .int .i64 y] t)).cell? ⟨W.heap.size, 0, none⟩ = some (.int .i64 x) ∧ (W.alloc (.cells #[.int .i64 x, .int .i64 y] t)).cell? ⟨W.heap.size, 1, none⟩ = some (.int .i64 y) := by
  constructor <;> go_cell
set_option maxHeartbeats 1600000 in
set_option maxRecDepth 100000 in
theorem ROn_any (k : Nat) (v : Pt) (w : World) (hk : k ≤ 1000) (hv : Nr v) : Calls Tryz.prog 63 #[.int .i64 k, v.val] w fun e w' => e = .returned (.bool (onB k v)) ∧ Below w.heap.size w w' := by
  have vA := fun W => RAt_any k W hk
  have vC := fun W => RCross9_any (atS k) v W (atS_nr k) hv
  have hb := atS_bd k
  have hON : onB k v = (decide (crS (atS k) v = 0) && decide (0 < (atS k).x * v.x + (atS k).y * v.y)) := rfl
  rw [hON]
  clear hON
  generalize crS (atS k) v = C at *
  generalize atS k = T at *
  obtain ⟨tx, ty⟩ := T
  obtain ⟨vx, vy⟩ := v
  unfold Nr at hv
  dsimp only at hv hb ⊢
  have m1 := mul_bd (a := tx) (b := vx) (A := 1000) (B := 4000000) (by omega) (by omega) (by omega) (by omega)
  have m2 := mul_bd (a := ty) (b := vy) (A := 1000) (B := 4000000) (by omega) (by omega) (by omega) (by omega)
  have q1 : IntKind.i64.wrap (tx * vx) = tx * vx := IntWalk.i64_in _ (by omega)
  have q2 : IntKind.i64.wrap (ty * vy) = ty * vy := IntWalk.i64_in _ (by omega)
  have q3 : IntKind.i64.wrap (tx * vx + ty * vy) = tx * vx + ty * vy := IntWalk.i64_in _ (by omega)
  generalize hp1 : tx * vx = P1 at *
  generalize hp2 : ty * vy = P2 at *
  have VA := Lib.hid vA
  have VC := Lib.hid vC
  generalize hd2 : decide (0 < P1 + P2) = d2 at *
  clear vA vC hv hb m1 m2
  go_enter Tryz.func63, Tryz.ntmps63
  go_wp2_with fail
  refine (VA.out _).mono ?_
  rintro e w1 ⟨rfl, hb1⟩
  have hB1 : Below w.heap.size w w1 := below_after (by go_grown) hb1
  have c0 : w1.cell? ⟨w.heap.size, 0, none⟩ = some (.int .i64 vx) := kp hb1 (by go_cell)
  have c1 : w1.cell? ⟨w.heap.size, 1, none⟩ = some (.int .i64 vy) := kp hb1 (by go_cell)
  clear hb1
  go_wp2_with fail
  have hbA : Below w1.heap.size w1 (w1.alloc (.cells #[.int .i64 tx, .int .i64 ty] 23)) := (Below.refl _ _).alloc (Nat.le_refl _) _
  have hA := alloc_cell2 (W := w1) (x := tx) (y := ty) (t := 23)
  have hBA := hB1.trans (hbA.mono hB1.size)
  replace c0 := kp hbA c0
  replace c1 := kp hbA c1
  obtain ⟨a0, a1⟩ := hA
  generalize w1.alloc (.cells #[.int .i64 tx, .int .i64 ty] 23) = Z at *
  generalize w1.heap.size = B5 at *
  refine (VC.out _).mono ?_
  rintro e w2 ⟨rfl, hb2⟩
  replace c0 := kp hb2 c0
  replace c1 := kp hb2 c1
  replace a0 := kp hb2 a0
  replace a1 := kp hb2 a1
  have hB2 : Below w.heap.size w w2 := hBA.trans (hb2.mono hBA.size)
  clear hb2 hbA hBA hB1
  by_cases hC : C = 0
  · subst hC
    have HT := Lib.hid (show (decide ((0 : Int) = 0) && d2) = d2 by simp)
    go_wp2_with fail
    go_ret
    exact ⟨by first | rfl | (rw [HT.out]; rfl), hB2⟩
  · have e0 : (C == 0) = false := by simpa using hC
    have HT := Lib.hid (show (decide (C = 0) && d2) = false by simp [hC])
    go_wp2_with fail
    go_ret
    exact ⟨by first | rfl | (rw [HT.out]; rfl), hB2⟩
set_option maxHeartbeats 1600000 in
set_option maxRecDepth 100000 in
theorem RLies_any (a n : Nat) (v : Pt) (w : World) (ha : a ≤ 500) (hn : n ≤ 400) (hv : Nr v) : Calls Tryz.prog 40 #[.int .i64 a, .int .i64 n, v.val] w fun e w' => e = .returned (.bool (liesB a n v)) ∧ Below w.heap.size w w' := by
  have vO := fun W => ROn_any a v W (by omega) hv
  have vA := fun W => RAt_any a W (by omega)
  have vB := fun W => RAt_any (a + n) W (by omega)
  have vC1 := fun W => RCross9_any (atS a) v W (atS_nr a) hv
  have vC2 := fun W => RCross9_any v (atS (a + n)) W hv (atS_nr _)
  have hL : liesB a n v = (if (decide ((n : Int) = 0) || onB a v) = true then onB a v else decide (0 ≤ crS (atS a) v) && decide (0 ≤ crS v (atS (a + n)))) := rfl
  rw [hL]
  clear hL
  generalize onB a v = O at *
  generalize crS (atS a) v = C1 at *
  generalize crS v (atS (a + n)) = C2 at *
  have qa : IntKind.i64.wrap ((a : Int) + (n : Int)) = (a : Int) + (n : Int) := IntWalk.i64_in _ (by omega)
  have ec : ((a + n : Nat) : Int) = (a : Int) + (n : Int) := by omega
  rw [ec] at vB
  generalize atS (a + n) = T2 at *
  generalize atS a = T1 at *
  obtain ⟨sx, sy⟩ := T1
  obtain ⟨tx, ty⟩ := T2
  obtain ⟨vx, vy⟩ := v
  generalize hd1 : decide (0 ≤ C1) = d1 at *
  generalize hd2 : decide (0 ≤ C2) = d2 at *
  have VO := Lib.hid vO
  have VA := Lib.hid vA
  have VB := Lib.hid vB
  have VC1 := Lib.hid vC1
  have VC2 := Lib.hid vC2
  clear vO vA vB vC1 vC2 hv ec
  have hp : ∀ ops, PlainOps Fence.wide ops := fun ops => plainOps_none rfl
  by_cases hcase : n = 0
  · subst hcase
    have : (if (decide (((0 : Nat) : Int) = 0) || O) = true then O else d1 && d2) = O := by simp
    rw [this]
    go_enter Tryz.func40, Tryz.ntmps40
    go_wp2_with fail
    refine (VO.out _).mono ?_
    rintro e w1 ⟨rfl, hb1⟩
    have hB1 : Below w.heap.size w w1 := below_after (by go_grown) hb1
    clear hb1
    go_wp2_with fail
    go_ret
    exact ⟨rfl, hB1⟩
  · have e0 : ((n : Int) == 0) = false := by simp; omega
    have e1 : ¬ ((n : Int) = 0) := by omega
    cases O with
    | true =>
      have : (if (decide ((n : Int) = 0) || true) = true then true else d1 && d2) = true := by simp
      rw [this]
      go_enter Tryz.func40, Tryz.ntmps40
      go_wp2_with fail
      refine (VO.out _).mono ?_
      rintro e w1 ⟨rfl, hb1⟩
      have hB1 : Below w.heap.size w w1 := below_after (by go_grown) hb1
      have c0 : w1.cell? ⟨w.heap.size, 0, none⟩ = some (.int .i64 vx) := kp hb1 (by go_cell)
      have c1 : w1.cell? ⟨w.heap.size, 1, none⟩ = some (.int .i64 vy) := kp hb1 (by go_cell)
      clear hb1
      go_wp2_with fail
      refine (VO.out _).mono ?_
      rintro e w2 ⟨rfl, hb2⟩
      have hB2 : Below w.heap.size w w2 := hB1.trans (hb2.mono hB1.size)
      clear hb2
      go_wp2_with fail
      go_ret
      exact ⟨rfl, hB2⟩
    | false =>
      have : (if (decide ((n : Int) = 0) || false) = true then false else d1 && d2) = (d1 && d2) := by cases d1 <;> cases d2 <;> simp [hcase]
      rw [this]
      cases d1 with
      | false =>
        refine (callsIn_wide (n := 6)).1 ?_
        refine callsIn_of_wp Tryz.func40 rfl trivial ?_ rfl
        simp only [Tryz.ntmps40, List.size_toArray, List.length_cons, List.length_nil, Nat.reduceAdd, Nat.reduceSub, Array.replicate_succ, Array.replicate_zero, List.push_toArray, List.append_toArray, List.nil_append, List.cons_append]
        gi_wp2
        refine ⟨trivial, (callsIn_wide.2 (VO.out _)).mono ?_⟩
        rintro e w1 ⟨rfl, hb1⟩
        have hB1 : Below w.heap.size w w1 := below_after (by go_grown) hb1
        have c0 : w1.cell? ⟨w.heap.size, 0, none⟩ = some (.int .i64 vx) := kp hb1 (by go_cell)
        have c1 : w1.cell? ⟨w.heap.size, 1, none⟩ = some (.int .i64 vy) := kp hb1 (by go_cell)
        clear hb1
        gi_wp2
        have hbz : Below w1.heap.size w1 w1.drew := Below.drew (Below.refl _ _)
        have HSZ := Lib.hid (show ∀ w9, Below w1.drew.heap.size w1.drew w9 → (fun w9 => Below w1.drew.heap.size w1.drew w9 ∧ w9.cell? ⟨w.heap.size, 0, none⟩ = some (.int .i64 vx) ∧ w9.cell? ⟨w.heap.size, 1, none⟩ = some (.int .i64 vy)) w9 from fun w9 h9 => ⟨h9, kp h9 (kp hbz c0), kp h9 (kp hbz c1)⟩)
        refine held_begin [0, 2, 4, 5, 6, 7, 8, 9, 10, 11, 12, 13, 14] (fun w9 => Below w1.drew.heap.size w1.drew w9 ∧ w9.cell? ⟨w.heap.size, 0, none⟩ = some (.int .i64 vx) ∧ w9.cell? ⟨w.heap.size, 1, none⟩ = some (.int .i64 vy)) (by kernel_rfl) (HSZ.out _ (Below.refl _ _)) (fun hS => ?_)
        generalize w1.drew = z at *
        refine tk 0 (v := ?_) (hp _) hS rfl (fun _ _ _ _ => trivial) ?_ ?_
        rotate_left 1
        · intro w hw; (try rw [hw]); (try go_split_ands); go_simp <;> with_reducible rfl
        try simp only [Act.put, st]
        refine tk 2 (v := ?_) (hp _) hS rfl (fun _ _ _ _ => trivial) ?_ ?_
        rotate_left 1
        · intro w hw; (try rw [hw]); (try go_split_ands); go_simp <;> with_reducible rfl
        try simp only [Act.put, st]
        refine held_step 1 rfl (hp _) (by kernel_rfl) (by kernel_rfl) (fun K hK => ⟨?_, ?_⟩)
        · exact fun _ _ => trivial
        go_simp
        refine (callsIn_wide.2 (VA.out _)).mono ?_
        rintro e w2 ⟨rfl, hb_2⟩
        have hB_2 : Below z.heap.size z w2 := below_after hS.1 hb_2
        clear hb_2
        have hS := HSZ.out _ hB_2
        refine hK _ _ hS ?_
        clear hK K
        try simp only [Act.put, st]
        refine held_step 3 rfl (hp _) (by kernel_rfl) (by kernel_rfl) (fun K hK => ⟨?_, ?_⟩)
        · exact fun _ _ => trivial
        go_simp
        refine (callsIn_wide.2 (VC1.out _)).mono ?_
        rintro e w3 ⟨rfl, hb_3⟩
        have hB_3 : Below z.heap.size z w3 := below_after hS.1 hb_3
        clear hb_3
        have hS := HSZ.out _ hB_3
        refine hK _ _ hS ?_
        clear hK K
        try simp only [Act.put, st]
        refine tk 4 (v := ?_) (hp _) hS rfl (fun _ _ _ _ => trivial) ?_ ?_
        rotate_left 1
        · intro w hw; (try rw [hw]); (try go_split_ands); go_simp <;> with_reducible rfl
        try simp only [Act.put, st]
        refine tk 5 (v := ?_) (hp _) hS rfl (fun _ _ _ _ => trivial) ?_ ?_
        rotate_left 1
        · intro w hw; (try rw [hw]); (try go_split_ands); go_simp <;> with_reducible rfl
        try simp only [Act.put, st]
        refine sk 6 (hp _) hS rfl (fun _ _ _ _ => trivial) ?_
        try simp only [Act.put, st]
        refine sk 7 (hp _) hS rfl (fun _ _ _ _ => trivial) ?_
        try simp only [Act.put, st]
        refine sk 8 (hp _) hS rfl (fun _ _ _ _ => trivial) ?_
        try simp only [Act.put, st]
        refine sk 9 (hp _) hS rfl (fun _ _ _ _ => trivial) ?_
        try simp only [Act.put, st]
        refine sk 10 (hp _) hS rfl (fun _ _ _ _ => trivial) ?_
        try simp only [Act.put, st]
        refine sk 11 (hp _) hS rfl (fun _ _ _ _ => trivial) ?_
        try simp only [Act.put, st]
        refine sk 12 (hp _) hS rfl (fun _ _ _ _ => trivial) ?_
        try simp only [Act.put, st]
        refine tk 13 (v := ?_) (hp _) hS rfl (fun _ _ _ _ => trivial) ?_ ?_
        rotate_left 1
        · intro w hw; (try rw [hw]); (try go_split_ands); go_simp <;> with_reducible rfl
        try simp only [Act.put, st]
        refine tk 14 (v := ?_) (hp _) hS rfl (fun _ _ _ _ => trivial) ?_ ?_
        rotate_left 1
        · intro w hw; (try rw [hw]); (try go_split_ands); go_simp <;> with_reducible rfl
        try simp only [Act.put, st]
        refine held_end (by kernel_rfl) ?_
        have hE : Below w1.heap.size w1 w3 := hbz.trans (hS.1.mono hbz.size)
        clear hS HSZ hbz
        have hBf : Below w.heap.size w w3 := hB1.trans (hE.mono hB1.size)
        gi_wp2
        refine bodyPost_ret (v := _) (by simp [results, Tryz.f40, go_sem]; rfl) rfl ?_
        exact ⟨by first | rfl | (simp [← hd2]; done), hBf⟩
      | true =>
        refine (callsIn_wide (n := 6)).1 ?_
        refine callsIn_of_wp Tryz.func40 rfl trivial ?_ rfl
        simp only [Tryz.ntmps40, List.size_toArray, List.length_cons, List.length_nil, Nat.reduceAdd, Nat.reduceSub, Array.replicate_succ, Array.replicate_zero, List.push_toArray, List.append_toArray, List.nil_append, List.cons_append]
        gi_wp2
        refine ⟨trivial, (callsIn_wide.2 (VO.out _)).mono ?_⟩
        rintro e w1 ⟨rfl, hb1⟩
        have hB1 : Below w.heap.size w w1 := below_after (by go_grown) hb1
        have c0 : w1.cell? ⟨w.heap.size, 0, none⟩ = some (.int .i64 vx) := kp hb1 (by go_cell)
        have c1 : w1.cell? ⟨w.heap.size, 1, none⟩ = some (.int .i64 vy) := kp hb1 (by go_cell)
        clear hb1
        gi_wp2
        have hbz : Below w1.heap.size w1 w1.drew := Below.drew (Below.refl _ _)
        have HSZ := Lib.hid (show ∀ w9, Below w1.drew.heap.size w1.drew w9 → (fun w9 => Below w1.drew.heap.size w1.drew w9 ∧ w9.cell? ⟨w.heap.size, 0, none⟩ = some (.int .i64 vx) ∧ w9.cell? ⟨w.heap.size, 1, none⟩ = some (.int .i64 vy)) w9 from fun w9 h9 => ⟨h9, kp h9 (kp hbz c0), kp h9 (kp hbz c1)⟩)
        refine held_begin [0, 2, 4, 5, 6, 7, 8, 9, 12, 13, 14] (fun w9 => Below w1.drew.heap.size w1.drew w9 ∧ w9.cell? ⟨w.heap.size, 0, none⟩ = some (.int .i64 vx) ∧ w9.cell? ⟨w.heap.size, 1, none⟩ = some (.int .i64 vy)) (by kernel_rfl) (HSZ.out _ (Below.refl _ _)) (fun hS => ?_)
        generalize w1.drew = z at *
        refine tk 0 (v := ?_) (hp _) hS rfl (fun _ _ _ _ => trivial) ?_ ?_
        rotate_left 1
        · intro w hw; (try rw [hw]); (try go_split_ands); go_simp <;> with_reducible rfl
        try simp only [Act.put, st]
        refine tk 2 (v := ?_) (hp _) hS rfl (fun _ _ _ _ => trivial) ?_ ?_
        rotate_left 1
        · intro w hw; (try rw [hw]); (try go_split_ands); go_simp <;> with_reducible rfl
        try simp only [Act.put, st]
        refine held_step 1 rfl (hp _) (by kernel_rfl) (by kernel_rfl) (fun K hK => ⟨?_, ?_⟩)
        · exact fun _ _ => trivial
        go_simp
        refine (callsIn_wide.2 (VA.out _)).mono ?_
        rintro e w2 ⟨rfl, hb_2⟩
        have hB_2 : Below z.heap.size z w2 := below_after hS.1 hb_2
        clear hb_2
        have hS := HSZ.out _ hB_2
        refine hK _ _ hS ?_
        clear hK K
        try simp only [Act.put, st]
        refine held_step 3 rfl (hp _) (by kernel_rfl) (by kernel_rfl) (fun K hK => ⟨?_, ?_⟩)
        · exact fun _ _ => trivial
        go_simp
        refine (callsIn_wide.2 (VC1.out _)).mono ?_
        rintro e w3 ⟨rfl, hb_3⟩
        have hB_3 : Below z.heap.size z w3 := below_after hS.1 hb_3
        clear hb_3
        have hS := HSZ.out _ hB_3
        refine hK _ _ hS ?_
        clear hK K
        try simp only [Act.put, st]
        refine tk 4 (v := ?_) (hp _) hS rfl (fun _ _ _ _ => trivial) ?_ ?_
        rotate_left 1
        · intro w hw; (try rw [hw]); (try go_split_ands); go_simp <;> with_reducible rfl
        try simp only [Act.put, st]
        refine tk 5 (v := ?_) (hp _) hS rfl (fun _ _ _ _ => trivial) ?_ ?_
        rotate_left 1
        · intro w hw; (try rw [hw]); (try go_split_ands); go_simp <;> with_reducible rfl
        try simp only [Act.put, st]
        refine tk 6 (v := ?_) (hp _) hS rfl (fun _ _ _ _ => trivial) ?_ ?_
        rotate_left 1
        · intro w hw; (try rw [hw]); (try go_split_ands); go_simp <;> with_reducible rfl
        try simp only [Act.put, st]
        refine tk 7 (v := ?_) (hp _) hS rfl (fun _ _ _ _ => trivial) ?_ ?_
        rotate_left 1
        · intro w hw; (try rw [hw]); (try go_split_ands); go_simp <;> with_reducible rfl
        try simp only [Act.put, st]
        refine tk 8 (v := ?_) (hp _) hS rfl (fun _ _ _ _ => trivial) ?_ ?_
        rotate_left 1
        · intro w hw; (try rw [hw]); (try go_split_ands); go_simp <;> with_reducible rfl
        try simp only [Act.put, st]
        refine tk 9 (v := ?_) (hp _) hS rfl (fun _ _ _ _ => trivial) ?_ ?_
        rotate_left 1
        · intro w hw; (try rw [hw]); (try go_split_ands); go_simp <;> with_reducible rfl
        try simp only [Act.put, st]
        refine held_step 10 rfl (hp _) (by kernel_rfl) (by kernel_rfl) (fun K hK => ⟨?_, ?_⟩)
        · exact fun _ _ => trivial
        go_simp
        refine (callsIn_wide.2 (VB.out _)).mono ?_
        rintro e w4 ⟨rfl, hb_4⟩
        have hB_4 : Below z.heap.size z w4 := below_after hS.1 hb_4
        clear hb_4
        have hS := HSZ.out _ hB_4
        refine hK _ _ hS ?_
        clear hK K
        try simp only [Act.put, st]
        refine held_step 11 rfl (hp _) (by kernel_rfl) (by kernel_rfl) (fun K hK => ⟨?_, ?_⟩)
        · exact fun _ _ => trivial
        go_simp
        refine (callsIn_wide.2 (VC2.out _)).mono ?_
        rintro e w5 ⟨rfl, hb_5⟩
        have hB_5 : Below z.heap.size z w5 := below_after hS.1 hb_5
        clear hb_5
        have hS := HSZ.out _ hB_5
        refine hK _ _ hS ?_
        clear hK K
        try simp only [Act.put, st]
        refine tk 12 (v := ?_) (hp _) hS rfl (fun _ _ _ _ => trivial) ?_ ?_
        rotate_left 1
        · intro w hw; (try rw [hw]); (try go_split_ands); go_simp <;> with_reducible rfl
        try simp only [Act.put, st]
        refine tk 13 (v := ?_) (hp _) hS rfl (fun _ _ _ _ => trivial) ?_ ?_
        rotate_left 1
        · intro w hw; (try rw [hw]); (try go_split_ands); go_simp <;> with_reducible rfl
        try simp only [Act.put, st]
        refine tk 14 (v := ?_) (hp _) hS rfl (fun _ _ _ _ => trivial) ?_ ?_
        rotate_left 1
        · intro w hw; (try rw [hw]); (try go_split_ands); go_simp <;> with_reducible rfl
        try simp only [Act.put, st]
        refine held_end (by kernel_rfl) ?_
        have hE : Below w1.heap.size w1 w5 := hbz.trans (hS.1.mono hbz.size)
        clear hS HSZ hbz
        have hBf : Below w.heap.size w w5 := hB1.trans (hE.mono hB1.size)
        gi_wp2
        refine bodyPost_ret (v := _) (by simp [results, Tryz.f40, go_sem]; rfl) rfl ?_
        exact ⟨by first | rfl | (simp [← hd2]; done), hBf⟩
set_option maxHeartbeats 1600000 in
set_option maxRecDepth 100000 in
theorem RSees_any (y b : Pt) (a n : Nat) (w : World) (ha : a ≤ 500) (hn : n ≤ 400) (hy : plB y = true) (hb : plB b = true) : Calls Tryz.prog 18 #[y.val, b.val, .int .i64 a, .int .i64 n] w fun e w' => e = .returned (.bool (seesB y b a n)) ∧ Below w.heap.size w w' := by
  have hy' := (plB_iff y).1 hy
  have hb' := (plB_iff b).1 hb
  have vL := fun W => RLies_any a n (vecS y b) W ha hn (by unfold Nr vecS; dsimp only; omega)
  have hS : seesB y b a n = (decide ((vecS y b).x = 0) && decide ((vecS y b).y = 0) || liesB a n (vecS y b)) := rfl
  rw [hS]
  clear hS
  generalize liesB a n (vecS y b) = L at *
  have hv : vecS y b = ⟨b.x - y.x, b.y - y.y⟩ := rfl
  generalize vecS y b = v at *
  obtain ⟨yx, yy⟩ := y
  obtain ⟨bx, bY⟩ := b
  obtain ⟨vx, vy⟩ := v
  dsimp only at vL hy' hb' hv ⊢
  obtain ⟨e1, e2⟩ := Pt.mk.inj hv
  have q1 : IntKind.i64.wrap (bx - yx) = vx := by rw [e1]; exact IntWalk.i64_in _ (by omega)
  have q2 : IntKind.i64.wrap (bY - yy) = vy := by rw [e2]; exact IntWalk.i64_in _ (by omega)
  clear hy hb hy' hb' hv e1 e2
  have VL := Lib.hid vL
  clear vL
  by_cases h1 : vx = 0
  · subst h1
    by_cases h2 : vy = 0
    · subst h2
      have : (decide ((0 : Int) = 0) && decide ((0 : Int) = 0) || L) = true := by simp
      rw [this]
      go_enter Tryz.func18, Tryz.ntmps18
      go_wp2_with fail
      go_ret
      exact ⟨rfl, by go_grown⟩
    · have e2 : (vy == 0) = false := by simpa using h2
      have : (decide ((0 : Int) = 0) && decide (vy = 0) || L) = L := by simp [h2]
      rw [this]
      go_enter Tryz.func18, Tryz.ntmps18
      go_wp2_with fail
      refine (VL.out _).mono ?_
      rintro e w1 ⟨rfl, hb1⟩
      have hB1 : Below w.heap.size w w1 := below_after (by go_grown) hb1
      clear hb1
      go_wp2_with fail
      go_ret
      exact ⟨rfl, hB1⟩
  · have e1 : (vx == 0) = false := by simpa using h1
    have : (decide (vx = 0) && decide (vy = 0) || L) = L := by simp [h1]
    rw [this]
    go_enter Tryz.func18, Tryz.ntmps18
    go_wp2_with fail
    refine (VL.out _).mono ?_
    rintro e w1 ⟨rfl, hb1⟩
    have hB1 : Below w.heap.size w w1 := below_after (by go_grown) hb1
    clear hb1
    go_wp2_with fail
    go_ret
    exact ⟨rfl, hB1⟩
end Go.Proofs.YtnhdnkeiijiiaaaGreat
namespace Go.Proofs.YtnhdnkeiijiiaaaGreat
open Go.RowKit Go.Shelf
set_option linter.unusedSimpArgs false
set_option linter.unusedVariables false
attribute [local go_sem ↓] Go.wp_at_zero Go.wp_at_succ
/-- a bool that says no more than it must -/
def RetB (P : Prop) (w : World) (e : Ending) (w' : World) : Prop := ∃ b : Bool, e = .returned (.bool b) ∧ (b = true → P) ∧ Below w.heap.size w w'
theorem at_some {α : Type} {xs : List α} {d : α} {i : Nat} (hi : i < xs.length) : xs[i]? = some (xs.getD i d) := by rw [List.getD_eq_getElem?_getD, List.getElem?_eq_getElem hi]; rfl
set_option maxHeartbeats 1600000 in
set_option maxRecDepth 100000 in
theorem places_any (A : Option Addr) (n c : Nat) (xs : List Pt) (w : World) (hn : xs.length = n) (hbig : n ≤ 1000000) (hx : Pts? w.heap.size w A xs) : Calls Tryz.prog 109 #[.slice A n c] w (RetB (∀ p ∈ xs, plB p = true) w) := by
  have HX := Lib.hid hx
  have HN := Lib.hid hn
  clear hx hn
  go_enter Tryz.func109, Tryz.ntmps109
  go_wp2_with fail
  go_loopg [3] (n + 1) (fun g s3 wr => ∃ k : Nat, k ≤ n ∧ g + k = n + 1 ∧ s3 = .int .i64 k ∧ Aside (∀ i, i < k → plB (xs.getD i default) = true) ∧ Below w.heap.size w wr)
  case atStart => exact ⟨0, by omega, by omega, rfl, (fun i h => by omega), Below.refl _ _⟩
  case round =>
    obtain ⟨k, hk, hg, rfl, HA, hBr⟩ := hrel
    by_cases hlt : k < n
    · have hp := at_some (d := default) (xs := xs) (i := k) (by rw [HN.out]; exact hlt)
      obtain ⟨b, off, rfl, hlt0, hc⟩ := HX.out (by rw [HN.out]; omega)
      obtain ⟨c0, c1⟩ := (hc k _ hp).upto hBr hlt0
      have hv := fun W => RPlace_any (xs.getD k default) W
      have hlt2 : (k : Int) < (n : Int) := by omega
      have hk0 : (0 : Int) ≤ (k : Int) := by omega
      have hnI : (n : Int) ≤ 1000000 := by omega
      generalize hq : xs.getD k default = q at *
      have HQ := Lib.hid hq
      cases hpl : plB q with
      | false =>
        rw [hpl] at hv
        obtain ⟨qx, qy⟩ := q
        have HV := Lib.hid hv
        clear hc hp hv hq hpl
        dsimp only at c0 c1
        go_wp2_with fail
        refine (HV.out _).mono ?_
        rintro e w1 ⟨rfl, hb1⟩
        have hB1 : Below w.heap.size w w1 := hBr.trans (hb1.mono hBr.size)
        go_wp2_with fail
        go_ret
        exact ⟨false, rfl, (fun h => by cases h), hB1⟩
      | true =>
        rw [hpl] at hv
        have HP := Lib.hid hpl
        obtain ⟨qx, qy⟩ := q
        have HV := Lib.hid hv
        clear hc hp hv hq hpl
        dsimp only at c0 c1
        go_wp2_with fail
        refine (HV.out _).mono ?_
        rintro e w1 ⟨rfl, hb1⟩
        have hB1 : Below w.heap.size w w1 := hBr.trans (hb1.mono hBr.size)
        clear hb1 c0 c1
        go_wp2_with fail
        go_roundg (gk - 1)
        case measure => omega
        case rel => exact ⟨k + 1, by omega, by omega, by go_num, (fun i h => by rcases Nat.lt_succ_iff_lt_or_eq.1 h with h | rfl; exact HA.out i h; rw [HQ.out]; exact HP.out), hB1⟩
    · obtain rfl : k = n := by omega
      have hnlt : ¬ ((k : Int) < (k : Int)) := by omega
      go_wp2_with fail
      go_ret
      refine ⟨true, rfl, (fun _ p hp => ?_), hBr⟩
      obtain ⟨i, hi, rfl⟩ := at_of_mem hp
      exact HA.out i (by rw [← HN.out]; exact hi)
theorem lessB_cmp {p q : Pt} (h : lessB p q = true) : cmpS p q < 0 := by
  simp [lessB] at h
  unfold cmpS cmpI
  split <;> split <;> (try split) <;> omega
theorem okAt_of {xs : List Pt} {k : Nat} (h1 : plB (xs.getD k default) = true) (h2 : k = 0 ∨ lessB (xs.getD 0 default) (xs.getD k default) = true) : okAt xs k = true := by
  unfold okAt
  rw [h1, Bool.true_and]
  rcases h2 with rfl | h2
  · rfl
  · rw [decide_eq_true (lessB_cmp h2), Bool.or_true]
theorem rvalid_of {xs : List Pt} {n : Nat} (hn : xs.length = n) (h1 : 1 ≤ n) (h2 : n ≤ 64) (hp : ∀ p ∈ xs, plB p = true) (hl : ∀ i, 1 ≤ i → i < n → lessB (xs.getD 0 default) (xs.getD i default) = true)
    (hs : n ≤ 2 ∨ ∀ i, i < n → ∀ k, k < n → k ≠ i → k ≠ (i + 1) % n → 0 < turnS (xs.getD i default) (xs.getD ((i + 1) % n) default) (xs.getD k default)) : validB xs = true := by
  subst hn
  simp only [validB, Bool.and_eq_true, Bool.or_eq_true, decide_eq_true_eq]
  refine ⟨⟨⟨h1, h2⟩, ?_⟩, ?_⟩
  · refine List.all_eq_true.2 fun k hk => okAt_of (hp _ (at_mem (List.mem_range.1 hk))) ?_
    have := List.mem_range.1 hk
    by_cases h : k = 0
    · exact .inl h
    · exact .inr (hl k (by omega) this)
  · rcases hs with h | hs
    · left; omega
    · right
      refine List.all_eq_true.2 fun s hsd => ?_
      obtain ⟨i, hi, rfl⟩ := List.mem_map.1 hsd
      have hi' := List.mem_range.1 hi
      refine List.all_eq_true.2 fun x hx => ?_
      obtain ⟨k, hk, rfl⟩ := at_of_mem hx
      dsimp only
      by_cases e1 : k = i
      · subst e1; simp
      · by_cases e2 : k = (i + 1) % xs.length
        · subst e2; simp
        · rw [decide_eq_true (hs i hi' k hk e1 e2), Bool.or_true]
set_option maxRecDepth 100000 in
set_option maxHeartbeats 4000000 in
theorem RValid_any (A : Option Addr) (n c : Nat) (xs : List Pt) (w : World) (hn : xs.length = n) (hbig : n ≤ 9223372036854775807) (hx : Pts? w.heap.size w A xs) : Calls Tryz.prog 84 #[.slice A n c] w (RetB (validB xs = true) w) := by
  by_cases h0 : n = 0
  · subst h0
    clear hx hn
    refine (callsIn_wide (n := 6)).1 ?_
    refine callsIn_of_wp Tryz.func84 rfl trivial ?_ rfl
    simp only [Tryz.ntmps84, List.size_toArray, List.length_cons, List.length_nil, Nat.reduceAdd, Nat.reduceSub, Array.replicate_succ, Array.replicate_zero, List.push_toArray, List.append_toArray, List.nil_append, List.cons_append]
    gi_wp2
    refine ⟨trivial, ?_⟩
    gi_wp2
    refine bodyPost_ret (v := .bool false) (by simp [results, Tryz.f84, go_sem]) rfl ?_
    exact ⟨false, rfl, (fun h => by cases h), by go_grown⟩
  by_cases h64 : 64 < n
  · have d1 : decide ((n : Int) < 1) = false := decide_eq_false (by omega)
    have d2 : decide ((64 : Int) < (n : Int)) = true := decide_eq_true (by omega)
    clear hx hn
    refine (callsIn_wide (n := 6)).1 ?_
    refine callsIn_of_wp Tryz.func84 rfl trivial ?_ rfl
    simp only [Tryz.ntmps84, List.size_toArray, List.length_cons, List.length_nil, Nat.reduceAdd, Nat.reduceSub, Array.replicate_succ, Array.replicate_zero, List.push_toArray, List.append_toArray, List.nil_append, List.cons_append]
    gi_wp2
    refine ⟨trivial, ?_⟩
    gi_wp2
    refine bodyPost_ret (v := .bool false) (by simp [results, Tryz.f84, go_sem]) rfl ?_
    exact ⟨false, rfl, (fun h => by cases h), by go_grown⟩
  have d1 : decide ((n : Int) < 1) = false := decide_eq_false (by omega)
  have d2 : decide ((64 : Int) < (n : Int)) = false := decide_eq_false (by omega)
  have hv1 := fun W (hB : Below w.heap.size w W) => places_any A n c xs W hn (by omega) (hx.later hB)
  have V1 := Lib.hid hv1
  have HX := Lib.hid hx
  have HN := Lib.hid hn
  have h1 : 1 ≤ n := by omega
  have h2 : n ≤ 64 := by omega
  have hp : ∀ ops, PlainOps Fence.wide ops := fun ops => plainOps_none rfl
  clear hv1 hx hn h0 h64 hbig
  refine (callsIn_wide (n := 6)).1 ?_
  refine callsIn_of_wp Tryz.func84 rfl trivial ?_ rfl
  simp only [Tryz.ntmps84, List.size_toArray, List.length_cons, List.length_nil, Nat.reduceAdd, Nat.reduceSub, Array.replicate_succ, Array.replicate_zero, List.push_toArray, List.append_toArray, List.nil_append, List.cons_append]
  gi_wp2
  refine ⟨trivial, (callsIn_wide.2 (V1.out _ (Below.refl _ _))).mono ?_⟩
  rintro e w1 ⟨bp, rfl, hpl, hB1⟩
  cases bp with
  | false =>
    gi_wp2
    refine bodyPost_ret (v := .bool false) (by simp [results, Tryz.f84, go_sem]) rfl ?_
    exact ⟨false, rfl, (fun h => by cases h), hB1⟩
  | true =>
    have HPL := Lib.hid (hpl rfl)
    clear hpl
    obtain ⟨b, off, rfl, hlt0, hc⟩ := HX.out (by rw [HN.out]; omega)
    have HC := Lib.hid hc
    clear hc V1
    gi_wp2
    gi_loopw [4] (fun s4 wr => ∃ k : Nat, 1 ≤ k ∧ k ≤ n ∧ s4 = .int .i64 k ∧ Aside (∀ i, 1 ≤ i → i < k → lessB (xs.getD 0 default) (xs.getD i default) = true) ∧ Below w.heap.size w wr) (fun s4 _ => n - (intOf s4).toNat)
    case atStart => exact ⟨1, by omega, h1, rfl, (fun i h h' => by omega), hB1⟩
    case round =>
      obtain ⟨k, hk1, hk, rfl, HA, hBr⟩ := hrel
      by_cases hlt : k < n
      · have hp0 := at_some (d := default) (xs := xs) (i := 0) (by rw [HN.out]; omega)
        have hpk := at_some (d := default) (xs := xs) (i := k) (by rw [HN.out]; exact hlt)
        obtain ⟨x0, x1⟩ := (HC.out 0 _ hp0).upto hBr hlt0
        obtain ⟨x2, x3⟩ := (HC.out k _ hpk).upto hBr hlt0
        simp only [Nat.zero_mul, Nat.add_zero] at x0 x1
        have hv := fun W => RLess_any (xs.getD 0 default) (xs.getD k default) W
        have hlt2 : (k : Int) < (n : Int) := by omega
        have hk0 : (0 : Int) ≤ (k : Int) := by omega
        have hn0 : (0 : Int) < (n : Int) := by omega
        have hnz : 0 < n := by omega
        have HL := Lib.hid (fun h : lessB (xs.getD 0 default) (xs.getD k default) = true => h)
        generalize hq : lessB (xs.getD 0 default) (xs.getD k default) = L at *
        have HQ := Lib.hid hq
        clear hq HL
        obtain ⟨q0, hq0⟩ : ∃ q0, xs.getD 0 default = q0 := ⟨_, rfl⟩
        obtain ⟨pk, hpk9⟩ : ∃ pk, xs.getD k default = pk := ⟨_, rfl⟩
        rw [hq0] at x0 x1 hv
        rw [hpk9] at x2 x3 hv
        clear hq0 hpk9
        obtain ⟨qx, qy⟩ := q0
        obtain ⟨px, py⟩ := pk
        dsimp only at x0 x1 x2 x3
        have HV := Lib.hid hv
        clear hv hp0 hpk
        cases L with
        | false =>
          gi_wp2
          have hbz : Below wr.heap.size wr wr.drew := Below.drew (Below.refl _ _)
          have HSZ := Lib.hid (show ∀ w9, Below wr.drew.heap.size wr.drew w9 → (fun w9 => Below wr.drew.heap.size wr.drew w9 ∧ w9.cell? ⟨b, off, none⟩ = some (.int .i64 qx) ∧ w9.cell? ⟨b, off + 1, none⟩ = some (.int .i64 qy) ∧ w9.cell? ⟨b, off + k * 2, none⟩ = some (.int .i64 px) ∧ w9.cell? ⟨b, off + k * 2 + 1, none⟩ = some (.int .i64 py)) w9 from fun w9 h9 => ⟨h9, kp h9 (kp hbz x0), kp h9 (kp hbz x1), kp h9 (kp hbz x2), kp h9 (kp hbz x3)⟩)
          refine held_begin [0, 1, 2, 3, 4, 5, 6, 8] (fun w9 => Below wr.drew.heap.size wr.drew w9 ∧ w9.cell? ⟨b, off, none⟩ = some (.int .i64 qx) ∧ w9.cell? ⟨b, off + 1, none⟩ = some (.int .i64 qy) ∧ w9.cell? ⟨b, off + k * 2, none⟩ = some (.int .i64 px) ∧ w9.cell? ⟨b, off + k * 2 + 1, none⟩ = some (.int .i64 py)) (by kernel_rfl) (HSZ.out _ (Below.refl _ _)) (fun hS => ?_)
          generalize wr.drew = z at *
          refine tk 0 (v := ?_) (hp _) hS rfl (fun _ _ _ _ => trivial) ?_ ?_
          rotate_left 1
          · intro w hw; (try rw [hw]); (try go_split_ands); go_simp <;> with_reducible rfl
          try simp only [Act.put, st]
          refine tk 1 (v := ?_) (hp _) hS rfl (fun _ _ _ _ => trivial) ?_ ?_
          rotate_left 1
          · intro w hw; (try rw [hw]); (try go_split_ands); go_simp <;> with_reducible rfl
          try simp only [Act.put, st]
          refine tk 2 (v := ?_) (hp _) hS rfl (fun _ _ _ _ => trivial) ?_ ?_
          rotate_left 1
          · intro w hw; (try rw [hw]); (try go_split_ands); go_simp <;> with_reducible rfl
          try simp only [Act.put, st]
          refine tk 3 (v := ?_) (hp _) hS rfl (fun _ _ _ _ => trivial) ?_ ?_
          rotate_left 1
          · intro w hw; (try rw [hw]); (try go_split_ands); go_simp <;> with_reducible rfl
          try simp only [Act.put, st]
          refine tk 4 (v := ?_) (hp _) hS rfl (fun _ _ _ _ => trivial) ?_ ?_
          rotate_left 1
          · intro w hw; (try rw [hw]); (try go_split_ands); go_simp <;> with_reducible rfl
          try simp only [Act.put, st]
          refine tk 5 (v := ?_) (hp _) hS rfl (fun _ _ _ _ => trivial) ?_ ?_
          rotate_left 1
          · intro w hw; (try rw [hw]); (try go_split_ands); go_simp <;> with_reducible rfl
          try simp only [Act.put, st]
          refine tk 6 (v := ?_) (hp _) hS rfl (fun _ _ _ _ => trivial) ?_ ?_
          rotate_left 1
          · intro w hw; (try rw [hw]); (try go_split_ands); go_simp <;> with_reducible rfl
          try simp only [Act.put, st]
          refine held_step 7 rfl (hp _) (by kernel_rfl) (by kernel_rfl) (fun K hK => ⟨?_, ?_⟩)
          · exact fun _ _ => trivial
          go_simp
          refine (callsIn_wide.2 (HV.out _)).mono ?_
          rintro e w3 ⟨rfl, hb_3⟩
          have hB_3 : Below z.heap.size z w3 := below_after hS.1 hb_3
          clear hb_3
          have hS := HSZ.out _ hB_3
          refine hK _ _ hS ?_
          clear hK K
          try simp only [Act.put, st]
          refine tk 8 (v := ?_) (hp _) hS rfl (fun _ _ _ _ => trivial) ?_ ?_
          rotate_left 1
          · intro w hw; (try rw [hw]); (try go_split_ands); go_simp <;> with_reducible rfl
          try simp only [Act.put, st]
          refine held_end (by kernel_rfl) ?_
          have hE : Below wr.heap.size wr w3 := hbz.trans (hS.1.mono hbz.size)
          clear hS HSZ hbz
          have hB3 : Below w.heap.size w w3 := hBr.trans (hE.mono hBr.size)
          gi_wp2
          refine bodyPost_ret (v := .bool false) (by simp [results, Tryz.f84, go_sem]) rfl ?_
          exact ⟨false, rfl, (fun h => by cases h), hB3⟩
        | true =>
          gi_wp2
          have hbz : Below wr.heap.size wr wr.drew := Below.drew (Below.refl _ _)
          have HSZ := Lib.hid (show ∀ w9, Below wr.drew.heap.size wr.drew w9 → (fun w9 => Below wr.drew.heap.size wr.drew w9 ∧ w9.cell? ⟨b, off, none⟩ = some (.int .i64 qx) ∧ w9.cell? ⟨b, off + 1, none⟩ = some (.int .i64 qy) ∧ w9.cell? ⟨b, off + k * 2, none⟩ = some (.int .i64 px) ∧ w9.cell? ⟨b, off + k * 2 + 1, none⟩ = some (.int .i64 py)) w9 from fun w9 h9 => ⟨h9, kp h9 (kp hbz x0), kp h9 (kp hbz x1), kp h9 (kp hbz x2), kp h9 (kp hbz x3)⟩)
          refine held_begin [0, 1, 2, 3, 4, 5, 6, 8] (fun w9 => Below wr.drew.heap.size wr.drew w9 ∧ w9.cell? ⟨b, off, none⟩ = some (.int .i64 qx) ∧ w9.cell? ⟨b, off + 1, none⟩ = some (.int .i64 qy) ∧ w9.cell? ⟨b, off + k * 2, none⟩ = some (.int .i64 px) ∧ w9.cell? ⟨b, off + k * 2 + 1, none⟩ = some (.int .i64 py)) (by kernel_rfl) (HSZ.out _ (Below.refl _ _)) (fun hS => ?_)
          generalize wr.drew = z at *
          refine tk 0 (v := ?_) (hp _) hS rfl (fun _ _ _ _ => trivial) ?_ ?_
          rotate_left 1
          · intro w hw; (try rw [hw]); (try go_split_ands); go_simp <;> with_reducible rfl
          try simp only [Act.put, st]
          refine tk 1 (v := ?_) (hp _) hS rfl (fun _ _ _ _ => trivial) ?_ ?_
          rotate_left 1
          · intro w hw; (try rw [hw]); (try go_split_ands); go_simp <;> with_reducible rfl
          try simp only [Act.put, st]
          refine tk 2 (v := ?_) (hp _) hS rfl (fun _ _ _ _ => trivial) ?_ ?_
          rotate_left 1
          · intro w hw; (try rw [hw]); (try go_split_ands); go_simp <;> with_reducible rfl
          try simp only [Act.put, st]
          refine tk 3 (v := ?_) (hp _) hS rfl (fun _ _ _ _ => trivial) ?_ ?_
          rotate_left 1
          · intro w hw; (try rw [hw]); (try go_split_ands); go_simp <;> with_reducible rfl
          try simp only [Act.put, st]
          refine tk 4 (v := ?_) (hp _) hS rfl (fun _ _ _ _ => trivial) ?_ ?_
          rotate_left 1
          · intro w hw; (try rw [hw]); (try go_split_ands); go_simp <;> with_reducible rfl
          try simp only [Act.put, st]
          refine tk 5 (v := ?_) (hp _) hS rfl (fun _ _ _ _ => trivial) ?_ ?_
          rotate_left 1
          · intro w hw; (try rw [hw]); (try go_split_ands); go_simp <;> with_reducible rfl
          try simp only [Act.put, st]
          refine tk 6 (v := ?_) (hp _) hS rfl (fun _ _ _ _ => trivial) ?_ ?_
          rotate_left 1
          · intro w hw; (try rw [hw]); (try go_split_ands); go_simp <;> with_reducible rfl
          try simp only [Act.put, st]
          refine held_step 7 rfl (hp _) (by kernel_rfl) (by kernel_rfl) (fun K hK => ⟨?_, ?_⟩)
          · exact fun _ _ => trivial
          go_simp
          refine (callsIn_wide.2 (HV.out _)).mono ?_
          rintro e w3 ⟨rfl, hb_3⟩
          have hB_3 : Below z.heap.size z w3 := below_after hS.1 hb_3
          clear hb_3
          have hS := HSZ.out _ hB_3
          refine hK _ _ hS ?_
          clear hK K
          try simp only [Act.put, st]
          refine tk 8 (v := ?_) (hp _) hS rfl (fun _ _ _ _ => trivial) ?_ ?_
          rotate_left 1
          · intro w hw; (try rw [hw]); (try go_split_ands); go_simp <;> with_reducible rfl
          try simp only [Act.put, st]
          refine held_end (by kernel_rfl) ?_
          have hE : Below wr.heap.size wr w3 := hbz.trans (hS.1.mono hbz.size)
          clear hS HSZ hbz
          have hB3 : Below w.heap.size w w3 := hBr.trans (hE.mono hBr.size)
          clear x0 x1 x2 x3 hE
          gi_wp2
          go_roundw
          case rel => exact ⟨k + 1, by omega, by omega, by go_num, (fun i h h' => by rcases Nat.lt_succ_iff_lt_or_eq.1 h' with h' | rfl; exact HA.out i h h'; exact HQ.out), hB3⟩
          case measure => simp [intOf]; omega
      · obtain rfl : k = n := by omega
        have hnlt : ¬ ((k : Int) < (k : Int)) := by omega
        by_cases h3 : k ≤ 2
        · have d3 : decide ((2 : Int) < (k : Int)) = false := decide_eq_false (by omega)
          have hk0 : (0 : Int) < (k : Int) := by omega
          gi_wp2
          gi_loopw [5] (fun s5 wi => s5 = .int .i64 0 ∧ wi = wr) (fun s5 _ => 0)
          case atStart => exact ⟨rfl, rfl⟩
          case round =>
            obtain ⟨rfl, rfl⟩ := hrel
            gi_wp2
            refine bodyPost_ret (v := .bool true) (by simp [results, Tryz.f84, go_sem]) rfl ?_
            exact ⟨true, rfl, (fun _ => rvalid_of HN.out h1 h2 HPL.out HA.out (.inl h3)), hBr⟩
        · have d3 : decide ((2 : Int) < (k : Int)) = true := decide_eq_true (by omega)
          obtain ⟨n, rfl⟩ : ∃ n, n = k := ⟨_, rfl⟩
          have HA1 := Lib.hid HA.out
          clear HA hk hk1 hlt
          gi_wp2
          obtain ⟨wo, rfl⟩ : ∃ x, x = wr := ⟨_, rfl⟩
          gi_loopw [5] (fun s5 wi => ∃ i : Nat, i ≤ n ∧ s5 = .int .i64 i ∧ Aside (∀ i', i' < i → ∀ k, k < n → k ≠ i' → k ≠ (i' + 1) % n → 0 < turnS (xs.getD i' default) (xs.getD ((i' + 1) % n) default) (xs.getD k default)) ∧ Below w.heap.size w wi) (fun s5 _ => n - (intOf s5).toNat)
          case atStart => exact ⟨0, by omega, rfl, (fun i h => by omega), hBr⟩
          case round =>
            clear hBr
            obtain ⟨i, hi, rfl, HS, hBi⟩ := hrel
            by_cases hilt : i < n
            · have hilt2 : (i : Int) < (n : Int) := by omega
              gi_wp2
              obtain ⟨wo2, rfl⟩ : ∃ x, x = wr := ⟨_, rfl⟩
              gi_loopw [6] (fun s6 wk => ∃ k : Nat, k ≤ n ∧ s6 = .int .i64 k ∧ Aside (∀ k', k' < k → k' ≠ i → k' ≠ (i + 1) % n → 0 < turnS (xs.getD i default) (xs.getD ((i + 1) % n) default) (xs.getD k' default)) ∧ Below w.heap.size w wk) (fun s6 _ => n - (intOf s6).toNat)
              case atStart => exact ⟨0, by omega, rfl, (fun i h => by omega), hBi⟩
              case round =>
                obtain ⟨k, hk, rfl, HK, hBk⟩ := hrel
                by_cases hklt : k < n
                · have hjn : (i + 1) % n < n := Nat.mod_lt _ (by omega)
                  have hpi := at_some (d := default) (xs := xs) (i := i) (by rw [HN.out]; exact hilt)
                  have hpj := at_some (d := default) (xs := xs) (i := (i + 1) % n) (by rw [HN.out]; exact hjn)
                  have hpk := at_some (d := default) (xs := xs) (i := k) (by rw [HN.out]; exact hklt)
                  have gi := HPL.out _ (List.mem_of_getElem? hpi)
                  have gj := HPL.out _ (List.mem_of_getElem? hpj)
                  have gk := HPL.out _ (List.mem_of_getElem? hpk)
                  obtain ⟨x0, x1⟩ := (HC.out i _ hpi).upto hBk hlt0
                  obtain ⟨x2, x3⟩ := (HC.out _ _ hpj).upto hBk hlt0
                  obtain ⟨x4, x5⟩ := (HC.out k _ hpk).upto hBk hlt0
                  have hv := fun W => RCross_any (xs.getD i default) (xs.getD ((i + 1) % n) default) (xs.getD k default) W (nr_of_pl gi) (nr_of_pl gj) (nr_of_pl gk)
                  have q1 : IntKind.i64.wrap ((i : Int) + 1) = (i : Int) + 1 := IntWalk.i64_in _ (by omega)
                  have q2 : ((i : Int) + 1).tmod (n : Int) = (((i + 1) % n : Nat) : Int) := by
                    rw [Int.tmod_eq_emod_of_nonneg (by omega)]; exact (Int.natCast_emod (i + 1) n).symm
                  have q3 : IntKind.i64.wrap (((i + 1) % n : Nat) : Int) = (((i + 1) % n : Nat) : Int) := IntWalk.i64_in _ (by omega)
                  have hklt2 : (k : Int) < (n : Int) := by omega
                  have hn0 : (0 : Int) < (n : Int) := by omega
                  have hnn : ¬ ((n : Int) = 0) := by omega
                  have hnz : ¬ (n = 0) := by omega
                  have hk0 : (0 : Int) ≤ (k : Int) := by omega
                  have hi0 : (0 : Int) ≤ (i : Int) := by omega
                  generalize hTT : turnS (xs.getD i default) (xs.getD ((i + 1) % n) default) (xs.getD k default) = C at *
                  have HT := Lib.hid hTT
                  clear hTT
                  obtain ⟨pi, ei⟩ : ∃ p, xs.getD i default = p := ⟨_, rfl⟩
                  obtain ⟨pj, ej⟩ : ∃ p, xs.getD ((i + 1) % n) default = p := ⟨_, rfl⟩
                  obtain ⟨pk, ek⟩ : ∃ p, xs.getD k default = p := ⟨_, rfl⟩
                  rw [ei] at x0 x1 hv
                  rw [ej] at x2 x3 hv
                  rw [ek] at x4 x5 hv
                  obtain ⟨j, hj⟩ : ∃ j, (i + 1) % n = j := ⟨_, rfl⟩
                  rw [hj] at x2 x3 q2 q3 hjn
                  have HJ := Lib.hid hj
                  clear ei ej ek
                  have hj0 : (0 : Int) ≤ (j : Int) := by omega
                  have hjn2 : (j : Int) < (n : Int) := by omega
                  obtain ⟨ax, ay⟩ := pi
                  obtain ⟨bx, bY⟩ := pj
                  obtain ⟨px, py⟩ := pk
                  dsimp only at x0 x1 x2 x3 x4 x5
                  have HV := Lib.hid hv
                  clear hv hpi hpj hpk gi gj gk hj
                  by_cases e1 : k = i
                  · have e1' : ((k : Int) != (i : Int)) = false := by rw [e1]; simp
                    have HE1 := Lib.hid e1
                    clear e1
                    gi_wp2
                    have hbz : Below wr.heap.size wr wr.drew := Below.drew (Below.refl _ _)
                    have HSZ := Lib.hid (show ∀ w9, Below wr.drew.heap.size wr.drew w9 → (fun w9 => Below wr.drew.heap.size wr.drew w9 ∧ w9.cell? ⟨b, off + i * 2, none⟩ = some (.int .i64 ax) ∧ w9.cell? ⟨b, off + i * 2 + 1, none⟩ = some (.int .i64 ay) ∧ w9.cell? ⟨b, off + j * 2, none⟩ = some (.int .i64 bx) ∧ w9.cell? ⟨b, off + j * 2 + 1, none⟩ = some (.int .i64 bY) ∧ w9.cell? ⟨b, off + k * 2, none⟩ = some (.int .i64 px) ∧ w9.cell? ⟨b, off + k * 2 + 1, none⟩ = some (.int .i64 py)) w9 from fun w9 h9 => ⟨h9, kp h9 (kp hbz x0), kp h9 (kp hbz x1), kp h9 (kp hbz x2), kp h9 (kp hbz x3), kp h9 (kp hbz x4), kp h9 (kp hbz x5)⟩)
                    refine held_begin [0, 1, 2, 3, 4, 5, 6, 7, 8, 9, 10, 11, 12, 13, 14, 15, 16, 17, 18, 19, 20, 21, 22, 23, 24, 25, 26, 27, 28, 29] (fun w9 => Below wr.drew.heap.size wr.drew w9 ∧ w9.cell? ⟨b, off + i * 2, none⟩ = some (.int .i64 ax) ∧ w9.cell? ⟨b, off + i * 2 + 1, none⟩ = some (.int .i64 ay) ∧ w9.cell? ⟨b, off + j * 2, none⟩ = some (.int .i64 bx) ∧ w9.cell? ⟨b, off + j * 2 + 1, none⟩ = some (.int .i64 bY) ∧ w9.cell? ⟨b, off + k * 2, none⟩ = some (.int .i64 px) ∧ w9.cell? ⟨b, off + k * 2 + 1, none⟩ = some (.int .i64 py)) (by kernel_rfl) (HSZ.out _ (Below.refl _ _)) (fun hS => ?_)
                    generalize wr.drew = z at *
                    refine tk 0 (v := ?_) (hp _) hS rfl (fun _ _ _ _ => trivial) ?_ ?_
                    rotate_left 1
                    · intro w hw; (try rw [hw]); (try go_split_ands); go_simp <;> with_reducible rfl
                    try simp only [Act.put, st]
                    refine tk 1 (v := ?_) (hp _) hS rfl (fun _ _ _ _ => trivial) ?_ ?_
                    rotate_left 1
                    · intro w hw; (try rw [hw]); (try go_split_ands); go_simp <;> with_reducible rfl
                    try simp only [Act.put, st]
                    refine tk 2 (v := ?_) (hp _) hS rfl (fun _ _ _ _ => trivial) ?_ ?_
                    rotate_left 1
                    · intro w hw; (try rw [hw]); (try go_split_ands); go_simp <;> with_reducible rfl
                    try simp only [Act.put, st]
                    refine tk 3 (v := ?_) (hp _) hS rfl (fun _ _ _ _ => trivial) ?_ ?_
                    rotate_left 1
                    · intro w hw; (try rw [hw]); (try go_split_ands); go_simp <;> with_reducible rfl
                    try simp only [Act.put, st]
                    refine sk 4 (hp _) hS rfl (fun _ _ _ _ => trivial) ?_
                    try simp only [Act.put, st]
                    refine sk 5 (hp _) hS rfl (fun _ _ _ _ => trivial) ?_
                    try simp only [Act.put, st]
                    refine sk 6 (hp _) hS rfl (fun _ _ _ _ => trivial) ?_
                    try simp only [Act.put, st]
                    refine sk 7 (hp _) hS rfl (fun _ _ _ _ => trivial) ?_
                    try simp only [Act.put, st]
                    refine sk 8 (hp _) hS rfl (fun _ _ _ _ => trivial) ?_
                    try simp only [Act.put, st]
                    refine sk 9 (hp _) hS rfl (fun _ _ _ _ => trivial) ?_
                    try simp only [Act.put, st]
                    refine tk 10 (v := ?_) (hp _) hS rfl (fun _ _ _ _ => trivial) ?_ ?_
                    rotate_left 1
                    · intro w hw; (try rw [hw]); (try go_split_ands); go_simp <;> with_reducible rfl
                    try simp only [Act.put, st]
                    refine tk 11 (v := ?_) (hp _) hS rfl (fun _ _ _ _ => trivial) ?_ ?_
                    rotate_left 1
                    · intro w hw; (try rw [hw]); (try go_split_ands); go_simp <;> with_reducible rfl
                    try simp only [Act.put, st]
                    refine sk 12 (hp _) hS rfl (fun _ _ _ _ => trivial) ?_
                    try simp only [Act.put, st]
                    refine sk 13 (hp _) hS rfl (fun _ _ _ _ => trivial) ?_
                    try simp only [Act.put, st]
                    refine sk 14 (hp _) hS rfl (fun _ _ _ _ => trivial) ?_
                    try simp only [Act.put, st]
                    refine sk 15 (hp _) hS rfl (fun _ _ _ _ => trivial) ?_
                    try simp only [Act.put, st]
                    refine sk 16 (hp _) hS rfl (fun _ _ _ _ => trivial) ?_
                    try simp only [Act.put, st]
                    refine sk 17 (hp _) hS rfl (fun _ _ _ _ => trivial) ?_
                    try simp only [Act.put, st]
                    refine sk 18 (hp _) hS rfl (fun _ _ _ _ => trivial) ?_
                    try simp only [Act.put, st]
                    refine sk 19 (hp _) hS rfl (fun _ _ _ _ => trivial) ?_
                    try simp only [Act.put, st]
                    refine sk 20 (hp _) hS rfl (fun _ _ _ _ => trivial) ?_
                    try simp only [Act.put, st]
                    refine sk 21 (hp _) hS rfl (fun _ _ _ _ => trivial) ?_
                    try simp only [Act.put, st]
                    refine sk 22 (hp _) hS rfl (fun _ _ _ _ => trivial) ?_
                    try simp only [Act.put, st]
                    refine sk 23 (hp _) hS rfl (fun _ _ _ _ => trivial) ?_
                    try simp only [Act.put, st]
                    refine sk 24 (hp _) hS rfl (fun _ _ _ _ => trivial) ?_
                    try simp only [Act.put, st]
                    refine sk 25 (hp _) hS rfl (fun _ _ _ _ => trivial) ?_
                    try simp only [Act.put, st]
                    refine sk 26 (hp _) hS rfl (fun _ _ _ _ => trivial) ?_
                    try simp only [Act.put, st]
                    refine sk 27 (hp _) hS rfl (fun _ _ _ _ => trivial) ?_
                    try simp only [Act.put, st]
                    refine sk 28 (hp _) hS rfl (fun _ _ _ _ => trivial) ?_
                    try simp only [Act.put, st]
                    refine tk 29 (v := ?_) (hp _) hS rfl (fun _ _ _ _ => trivial) ?_ ?_
                    rotate_left 1
                    · intro w hw; (try rw [hw]); (try go_split_ands); go_simp <;> with_reducible rfl
                    try simp only [Act.put, st]
                    refine held_end (by kernel_rfl) ?_
                    have hE : Below wr.heap.size wr z := hbz.trans (hS.1.mono hbz.size)
                    clear hS HSZ hbz
                    have hB5 : Below w.heap.size w z := hBk.trans (hE.mono hBk.size)
                    clear x0 x1 x2 x3 x4 x5 hE
                    gi_wp2
                    go_roundw
                    case rel => exact ⟨k + 1, by omega, by go_num, (fun k' h h1 h2 => by rcases Nat.lt_succ_iff_lt_or_eq.1 h with h | rfl; exact HK.out k' h h1 h2; exact absurd HE1.out h1), hB5⟩
                    case measure => simp [intOf]; omega
                  · have e1' : ((k : Int) != (i : Int)) = true := by simp; omega
                    by_cases e2 : k = j
                    · have e2' : ((k : Int) != (j : Int)) = false := by rw [e2]; simp
                      have HE2 := Lib.hid e2
                      clear e2
                      gi_wp2
                      have hbz : Below wr.heap.size wr wr.drew := Below.drew (Below.refl _ _)
                      have HSZ := Lib.hid (show ∀ w9, Below wr.drew.heap.size wr.drew w9 → (fun w9 => Below wr.drew.heap.size wr.drew w9 ∧ w9.cell? ⟨b, off + i * 2, none⟩ = some (.int .i64 ax) ∧ w9.cell? ⟨b, off + i * 2 + 1, none⟩ = some (.int .i64 ay) ∧ w9.cell? ⟨b, off + j * 2, none⟩ = some (.int .i64 bx) ∧ w9.cell? ⟨b, off + j * 2 + 1, none⟩ = some (.int .i64 bY) ∧ w9.cell? ⟨b, off + k * 2, none⟩ = some (.int .i64 px) ∧ w9.cell? ⟨b, off + k * 2 + 1, none⟩ = some (.int .i64 py)) w9 from fun w9 h9 => ⟨h9, kp h9 (kp hbz x0), kp h9 (kp hbz x1), kp h9 (kp hbz x2), kp h9 (kp hbz x3), kp h9 (kp hbz x4), kp h9 (kp hbz x5)⟩)
                      refine held_begin [0, 1, 2, 3, 4, 5, 6, 7, 8, 9, 10, 11, 12, 13, 14, 15, 16, 17, 18, 19, 20, 21, 22, 23, 24, 25, 26, 27, 28, 29] (fun w9 => Below wr.drew.heap.size wr.drew w9 ∧ w9.cell? ⟨b, off + i * 2, none⟩ = some (.int .i64 ax) ∧ w9.cell? ⟨b, off + i * 2 + 1, none⟩ = some (.int .i64 ay) ∧ w9.cell? ⟨b, off + j * 2, none⟩ = some (.int .i64 bx) ∧ w9.cell? ⟨b, off + j * 2 + 1, none⟩ = some (.int .i64 bY) ∧ w9.cell? ⟨b, off + k * 2, none⟩ = some (.int .i64 px) ∧ w9.cell? ⟨b, off + k * 2 + 1, none⟩ = some (.int .i64 py)) (by kernel_rfl) (HSZ.out _ (Below.refl _ _)) (fun hS => ?_)
                      generalize wr.drew = z at *
                      refine tk 0 (v := ?_) (hp _) hS rfl (fun _ _ _ _ => trivial) ?_ ?_
                      rotate_left 1
                      · intro w hw; (try rw [hw]); (try go_split_ands); go_simp <;> with_reducible rfl
                      try simp only [Act.put, st]
                      refine tk 1 (v := ?_) (hp _) hS rfl (fun _ _ _ _ => trivial) ?_ ?_
                      rotate_left 1
                      · intro w hw; (try rw [hw]); (try go_split_ands); go_simp <;> with_reducible rfl
                      try simp only [Act.put, st]
                      refine tk 2 (v := ?_) (hp _) hS rfl (fun _ _ _ _ => trivial) ?_ ?_
                      rotate_left 1
                      · intro w hw; (try rw [hw]); (try go_split_ands); go_simp <;> with_reducible rfl
                      try simp only [Act.put, st]
                      refine tk 3 (v := ?_) (hp _) hS rfl (fun _ _ _ _ => trivial) ?_ ?_
                      rotate_left 1
                      · intro w hw; (try rw [hw]); (try go_split_ands); go_simp <;> with_reducible rfl
                      try simp only [Act.put, st]
                      refine tk 4 (v := ?_) (hp _) hS rfl (fun _ _ _ _ => trivial) ?_ ?_
                      rotate_left 1
                      · intro w hw; (try rw [hw]); (try go_split_ands); go_simp <;> with_reducible rfl
                      try simp only [Act.put, st]
                      refine tk 5 (v := ?_) (hp _) hS rfl (fun _ _ _ _ => trivial) ?_ ?_
                      rotate_left 1
                      · intro w hw; (try rw [hw]); (try go_split_ands); go_simp <;> with_reducible rfl
                      try simp only [Act.put, st]
                      refine tk 6 (v := ?_) (hp _) hS rfl (fun _ _ _ _ => trivial) ?_ ?_
                      rotate_left 1
                      · intro w hw; (try rw [hw]); (try go_split_ands); go_simp <;> with_reducible rfl
                      try simp only [Act.put, st]
                      refine tk 7 (v := ?_) (hp _) hS rfl (fun _ _ _ _ => trivial) ?_ ?_
                      rotate_left 1
                      · intro w hw; (try rw [hw]); (try go_split_ands); go_simp <;> with_reducible rfl
                      try simp only [Act.put, st]
                      refine tk 8 (v := ?_) (hp _) hS rfl (fun _ _ _ _ => trivial) ?_ ?_
                      rotate_left 1
                      · intro w hw; (try rw [hw]); (try go_split_ands); go_simp <;> with_reducible rfl
                      try simp only [Act.put, st]
                      refine tk 9 (v := ?_) (hp _) hS rfl (fun _ _ _ _ => trivial) ?_ ?_
                      rotate_left 1
                      · intro w hw; (try rw [hw]); (try go_split_ands); go_simp <;> with_reducible rfl
                      try simp only [Act.put, st]
                      refine tk 10 (v := ?_) (hp _) hS rfl (fun _ _ _ _ => trivial) ?_ ?_
                      rotate_left 1
                      · intro w hw; (try rw [hw]); (try go_split_ands); go_simp <;> with_reducible rfl
                      try simp only [Act.put, st]
                      refine tk 11 (v := ?_) (hp _) hS rfl (fun _ _ _ _ => trivial) ?_ ?_
                      rotate_left 1
                      · intro w hw; (try rw [hw]); (try go_split_ands); go_simp <;> with_reducible rfl
                      try simp only [Act.put, st]
                      refine sk 12 (hp _) hS rfl (fun _ _ _ _ => trivial) ?_
                      try simp only [Act.put, st]
                      refine sk 13 (hp _) hS rfl (fun _ _ _ _ => trivial) ?_
                      try simp only [Act.put, st]
                      refine sk 14 (hp _) hS rfl (fun _ _ _ _ => trivial) ?_
                      try simp only [Act.put, st]
                      refine sk 15 (hp _) hS rfl (fun _ _ _ _ => trivial) ?_
                      try simp only [Act.put, st]
                      refine sk 16 (hp _) hS rfl (fun _ _ _ _ => trivial) ?_
                      try simp only [Act.put, st]
                      refine sk 17 (hp _) hS rfl (fun _ _ _ _ => trivial) ?_
                      try simp only [Act.put, st]
                      refine sk 18 (hp _) hS rfl (fun _ _ _ _ => trivial) ?_
                      try simp only [Act.put, st]
                      refine sk 19 (hp _) hS rfl (fun _ _ _ _ => trivial) ?_
                      try simp only [Act.put, st]
                      refine sk 20 (hp _) hS rfl (fun _ _ _ _ => trivial) ?_
                      try simp only [Act.put, st]
                      refine sk 21 (hp _) hS rfl (fun _ _ _ _ => trivial) ?_
                      try simp only [Act.put, st]
                      refine sk 22 (hp _) hS rfl (fun _ _ _ _ => trivial) ?_
                      try simp only [Act.put, st]
                      refine sk 23 (hp _) hS rfl (fun _ _ _ _ => trivial) ?_
                      try simp only [Act.put, st]
                      refine sk 24 (hp _) hS rfl (fun _ _ _ _ => trivial) ?_
                      try simp only [Act.put, st]
                      refine sk 25 (hp _) hS rfl (fun _ _ _ _ => trivial) ?_
                      try simp only [Act.put, st]
                      refine sk 26 (hp _) hS rfl (fun _ _ _ _ => trivial) ?_
                      try simp only [Act.put, st]
                      refine sk 27 (hp _) hS rfl (fun _ _ _ _ => trivial) ?_
                      try simp only [Act.put, st]
                      refine sk 28 (hp _) hS rfl (fun _ _ _ _ => trivial) ?_
                      try simp only [Act.put, st]
                      refine tk 29 (v := ?_) (hp _) hS rfl (fun _ _ _ _ => trivial) ?_ ?_
                      rotate_left 1
                      · intro w hw; (try rw [hw]); (try go_split_ands); go_simp <;> with_reducible rfl
                      try simp only [Act.put, st]
                      refine held_end (by kernel_rfl) ?_
                      have hE : Below wr.heap.size wr z := hbz.trans (hS.1.mono hbz.size)
                      clear hS HSZ hbz
                      have hB5 : Below w.heap.size w z := hBk.trans (hE.mono hBk.size)
                      clear x0 x1 x2 x3 x4 x5 hE
                      gi_wp2
                      go_roundw
                      case rel => exact ⟨k + 1, by omega, by go_num, (fun k' h h1 h2 => by rcases Nat.lt_succ_iff_lt_or_eq.1 h with h | rfl; exact HK.out k' h h1 h2; rw [HJ.out] at h2; exact absurd HE2.out h2), hB5⟩
                      case measure => simp [intOf]; omega
                    · have e2' : ((k : Int) != (j : Int)) = true := by simp; omega
                      by_cases hC : C ≤ 0
                      · have d5 : decide (C ≤ 0) = true := decide_eq_true hC
                        gi_wp2
                        have hbz : Below wr.heap.size wr wr.drew := Below.drew (Below.refl _ _)
                        have HSZ := Lib.hid (show ∀ w9, Below wr.drew.heap.size wr.drew w9 → (fun w9 => Below wr.drew.heap.size wr.drew w9 ∧ w9.cell? ⟨b, off + i * 2, none⟩ = some (.int .i64 ax) ∧ w9.cell? ⟨b, off + i * 2 + 1, none⟩ = some (.int .i64 ay) ∧ w9.cell? ⟨b, off + j * 2, none⟩ = some (.int .i64 bx) ∧ w9.cell? ⟨b, off + j * 2 + 1, none⟩ = some (.int .i64 bY) ∧ w9.cell? ⟨b, off + k * 2, none⟩ = some (.int .i64 px) ∧ w9.cell? ⟨b, off + k * 2 + 1, none⟩ = some (.int .i64 py)) w9 from fun w9 h9 => ⟨h9, kp h9 (kp hbz x0), kp h9 (kp hbz x1), kp h9 (kp hbz x2), kp h9 (kp hbz x3), kp h9 (kp hbz x4), kp h9 (kp hbz x5)⟩)
                        refine held_begin [0, 1, 2, 3, 4, 5, 6, 7, 8, 9, 10, 11, 12, 13, 14, 15, 16, 17, 18, 19, 20, 21, 22, 23, 24, 25, 26, 28, 29] (fun w9 => Below wr.drew.heap.size wr.drew w9 ∧ w9.cell? ⟨b, off + i * 2, none⟩ = some (.int .i64 ax) ∧ w9.cell? ⟨b, off + i * 2 + 1, none⟩ = some (.int .i64 ay) ∧ w9.cell? ⟨b, off + j * 2, none⟩ = some (.int .i64 bx) ∧ w9.cell? ⟨b, off + j * 2 + 1, none⟩ = some (.int .i64 bY) ∧ w9.cell? ⟨b, off + k * 2, none⟩ = some (.int .i64 px) ∧ w9.cell? ⟨b, off + k * 2 + 1, none⟩ = some (.int .i64 py)) (by kernel_rfl) (HSZ.out _ (Below.refl _ _)) (fun hS => ?_)
                        generalize wr.drew = z at *
                        refine tk 0 (v := ?_) (hp _) hS rfl (fun _ _ _ _ => trivial) ?_ ?_
                        rotate_left 1
                        · intro w hw; (try rw [hw]); (try go_split_ands); go_simp <;> with_reducible rfl
                        try simp only [Act.put, st]
                        refine tk 1 (v := ?_) (hp _) hS rfl (fun _ _ _ _ => trivial) ?_ ?_
                        rotate_left 1
                        · intro w hw; (try rw [hw]); (try go_split_ands); go_simp <;> with_reducible rfl
                        try simp only [Act.put, st]
                        refine tk 2 (v := ?_) (hp _) hS rfl (fun _ _ _ _ => trivial) ?_ ?_
                        rotate_left 1
                        · intro w hw; (try rw [hw]); (try go_split_ands); go_simp <;> with_reducible rfl
                        try simp only [Act.put, st]
                        refine tk 3 (v := ?_) (hp _) hS rfl (fun _ _ _ _ => trivial) ?_ ?_
                        rotate_left 1
                        · intro w hw; (try rw [hw]); (try go_split_ands); go_simp <;> with_reducible rfl
                        try simp only [Act.put, st]
                        refine tk 4 (v := ?_) (hp _) hS rfl (fun _ _ _ _ => trivial) ?_ ?_
                        rotate_left 1
                        · intro w hw; (try rw [hw]); (try go_split_ands); go_simp <;> with_reducible rfl
                        try simp only [Act.put, st]
                        refine tk 5 (v := ?_) (hp _) hS rfl (fun _ _ _ _ => trivial) ?_ ?_
                        rotate_left 1
                        · intro w hw; (try rw [hw]); (try go_split_ands); go_simp <;> with_reducible rfl
                        try simp only [Act.put, st]
                        refine tk 6 (v := ?_) (hp _) hS rfl (fun _ _ _ _ => trivial) ?_ ?_
                        rotate_left 1
                        · intro w hw; (try rw [hw]); (try go_split_ands); go_simp <;> with_reducible rfl
                        try simp only [Act.put, st]
                        refine tk 7 (v := ?_) (hp _) hS rfl (fun _ _ _ _ => trivial) ?_ ?_
                        rotate_left 1
                        · intro w hw; (try rw [hw]); (try go_split_ands); go_simp <;> with_reducible rfl
                        try simp only [Act.put, st]
                        refine tk 8 (v := ?_) (hp _) hS rfl (fun _ _ _ _ => trivial) ?_ ?_
                        rotate_left 1
                        · intro w hw; (try rw [hw]); (try go_split_ands); go_simp <;> with_reducible rfl
                        try simp only [Act.put, st]
                        refine tk 9 (v := ?_) (hp _) hS rfl (fun _ _ _ _ => trivial) ?_ ?_
                        rotate_left 1
                        · intro w hw; (try rw [hw]); (try go_split_ands); go_simp <;> with_reducible rfl
                        try simp only [Act.put, st]
                        refine tk 10 (v := ?_) (hp _) hS rfl (fun _ _ _ _ => trivial) ?_ ?_
                        rotate_left 1
                        · intro w hw; (try rw [hw]); (try go_split_ands); go_simp <;> with_reducible rfl
                        try simp only [Act.put, st]
                        refine tk 11 (v := ?_) (hp _) hS rfl (fun _ _ _ _ => trivial) ?_ ?_
                        rotate_left 1
                        · intro w hw; (try rw [hw]); (try go_split_ands); go_simp <;> with_reducible rfl
                        try simp only [Act.put, st]
                        refine tk 12 (v := ?_) (hp _) hS rfl (fun _ _ _ _ => trivial) ?_ ?_
                        rotate_left 1
                        · intro w hw; (try rw [hw]); (try go_split_ands); go_simp <;> with_reducible rfl
                        try simp only [Act.put, st]
                        refine tk 13 (v := ?_) (hp _) hS rfl (fun _ _ _ _ => trivial) ?_ ?_
                        rotate_left 1
                        · intro w hw; (try rw [hw]); (try go_split_ands); go_simp <;> with_reducible rfl
                        try simp only [Act.put, st]
                        refine tk 14 (v := ?_) (hp _) hS rfl (fun _ _ _ _ => trivial) ?_ ?_
                        rotate_left 1
                        · intro w hw; (try rw [hw]); (try go_split_ands); go_simp <;> with_reducible rfl
                        try simp only [Act.put, st]
                        refine tk 15 (v := ?_) (hp _) hS rfl (fun _ _ _ _ => trivial) ?_ ?_
                        rotate_left 1
                        · intro w hw; (try rw [hw]); (try go_split_ands); go_simp <;> with_reducible rfl
                        try simp only [Act.put, st]
                        refine tk 16 (v := ?_) (hp _) hS rfl (fun _ _ _ _ => trivial) ?_ ?_
                        rotate_left 1
                        · intro w hw; (try rw [hw]); (try go_split_ands); go_simp <;> with_reducible rfl
                        try simp only [Act.put, st]
                        refine tk 17 (v := ?_) (hp _) hS rfl (fun _ _ _ _ => trivial) ?_ ?_
                        rotate_left 1
                        · intro w hw; (try rw [hw]); (try go_split_ands); go_simp <;> with_reducible rfl
                        try simp only [Act.put, st]
                        refine tk 18 (v := ?_) (hp _) hS rfl (fun _ _ _ _ => trivial) ?_ ?_
                        rotate_left 1
                        · intro w hw; (try rw [hw]); (try go_split_ands); go_simp <;> with_reducible rfl
                        try simp only [Act.put, st]
                        refine tk 19 (v := ?_) (hp _) hS rfl (fun _ _ _ _ => trivial) ?_ ?_
                        rotate_left 1
                        · intro w hw; (try rw [hw]); (try go_split_ands); go_simp <;> with_reducible rfl
                        try simp only [Act.put, st]
                        refine tk 20 (v := ?_) (hp _) hS rfl (fun _ _ _ _ => trivial) ?_ ?_
                        rotate_left 1
                        · intro w hw; (try rw [hw]); (try go_split_ands); go_simp <;> with_reducible rfl
                        try simp only [Act.put, st]
                        refine tk 21 (v := ?_) (hp _) hS rfl (fun _ _ _ _ => trivial) ?_ ?_
                        rotate_left 1
                        · intro w hw; (try rw [hw]); (try go_split_ands); go_simp <;> with_reducible rfl
                        try simp only [Act.put, st]
                        refine tk 22 (v := ?_) (hp _) hS rfl (fun _ _ _ _ => trivial) ?_ ?_
                        rotate_left 1
                        · intro w hw; (try rw [hw]); (try go_split_ands); go_simp <;> with_reducible rfl
                        try simp only [Act.put, st]
                        refine tk 23 (v := ?_) (hp _) hS rfl (fun _ _ _ _ => trivial) ?_ ?_
                        rotate_left 1
                        · intro w hw; (try rw [hw]); (try go_split_ands); go_simp <;> with_reducible rfl
                        try simp only [Act.put, st]
                        refine tk 24 (v := ?_) (hp _) hS rfl (fun _ _ _ _ => trivial) ?_ ?_
                        rotate_left 1
                        · intro w hw; (try rw [hw]); (try go_split_ands); go_simp <;> with_reducible rfl
                        try simp only [Act.put, st]
                        refine tk 25 (v := ?_) (hp _) hS rfl (fun _ _ _ _ => trivial) ?_ ?_
                        rotate_left 1
                        · intro w hw; (try rw [hw]); (try go_split_ands); go_simp <;> with_reducible rfl
                        try simp only [Act.put, st]
                        refine tk 26 (v := ?_) (hp _) hS rfl (fun _ _ _ _ => trivial) ?_ ?_
                        rotate_left 1
                        · intro w hw; (try rw [hw]); (try go_split_ands); go_simp <;> with_reducible rfl
                        try simp only [Act.put, st]
                        refine held_step 27 rfl (hp _) (by kernel_rfl) (by kernel_rfl) (fun K hK => ⟨?_, ?_⟩)
                        · exact fun _ _ => trivial
                        go_simp
                        refine (callsIn_wide.2 (HV.out _)).mono ?_
                        rintro e w5 ⟨rfl, hb_5⟩
                        have hB_5 : Below z.heap.size z w5 := below_after hS.1 hb_5
                        clear hb_5
                        have hS := HSZ.out _ hB_5
                        refine hK _ _ hS ?_
                        clear hK K
                        try simp only [Act.put, st]
                        refine tk 28 (v := ?_) (hp _) hS rfl (fun _ _ _ _ => trivial) ?_ ?_
                        rotate_left 1
                        · intro w hw; (try rw [hw]); (try go_split_ands); go_simp <;> with_reducible rfl
                        try simp only [Act.put, st]
                        refine tk 29 (v := ?_) (hp _) hS rfl (fun _ _ _ _ => trivial) ?_ ?_
                        rotate_left 1
                        · intro w hw; (try rw [hw]); (try go_split_ands); go_simp <;> with_reducible rfl
                        try simp only [Act.put, st]
                        refine held_end (by kernel_rfl) ?_
                        have hE : Below wr.heap.size wr w5 := hbz.trans (hS.1.mono hbz.size)
                        clear hS HSZ hbz
                        have hB5 : Below w.heap.size w w5 := hBk.trans (hE.mono hBk.size)
                        clear x0 x1 x2 x3 x4 x5 hE
                        gi_wp2
                        refine bodyPost_ret (v := .bool false) (by simp [results, Tryz.f84, go_sem]) rfl ?_
                        exact ⟨false, rfl, (fun h => by cases h), hB5⟩
                      · have d5 : decide (C ≤ 0) = false := decide_eq_false hC
                        gi_wp2
                        have hbz : Below wr.heap.size wr wr.drew := Below.drew (Below.refl _ _)
                        have HSZ := Lib.hid (show ∀ w9, Below wr.drew.heap.size wr.drew w9 → (fun w9 => Below wr.drew.heap.size wr.drew w9 ∧ w9.cell? ⟨b, off + i * 2, none⟩ = some (.int .i64 ax) ∧ w9.cell? ⟨b, off + i * 2 + 1, none⟩ = some (.int .i64 ay) ∧ w9.cell? ⟨b, off + j * 2, none⟩ = some (.int .i64 bx) ∧ w9.cell? ⟨b, off + j * 2 + 1, none⟩ = some (.int .i64 bY) ∧ w9.cell? ⟨b, off + k * 2, none⟩ = some (.int .i64 px) ∧ w9.cell? ⟨b, off + k * 2 + 1, none⟩ = some (.int .i64 py)) w9 from fun w9 h9 => ⟨h9, kp h9 (kp hbz x0), kp h9 (kp hbz x1), kp h9 (kp hbz x2), kp h9 (kp hbz x3), kp h9 (kp hbz x4), kp h9 (kp hbz x5)⟩)
                        refine held_begin [0, 1, 2, 3, 4, 5, 6, 7, 8, 9, 10, 11, 12, 13, 14, 15, 16, 17, 18, 19, 20, 21, 22, 23, 24, 25, 26, 28, 29] (fun w9 => Below wr.drew.heap.size wr.drew w9 ∧ w9.cell? ⟨b, off + i * 2, none⟩ = some (.int .i64 ax) ∧ w9.cell? ⟨b, off + i * 2 + 1, none⟩ = some (.int .i64 ay) ∧ w9.cell? ⟨b, off + j * 2, none⟩ = some (.int .i64 bx) ∧ w9.cell? ⟨b, off + j * 2 + 1, none⟩ = some (.int .i64 bY) ∧ w9.cell? ⟨b, off + k * 2, none⟩ = some (.int .i64 px) ∧ w9.cell? ⟨b, off + k * 2 + 1, none⟩ = some (.int .i64 py)) (by kernel_rfl) (HSZ.out _ (Below.refl _ _)) (fun hS => ?_)
                        generalize wr.drew = z at *
                        refine tk 0 (v := ?_) (hp _) hS rfl (fun _ _ _ _ => trivial) ?_ ?_
                        rotate_left 1
                        · intro w hw; (try rw [hw]); (try go_split_ands); go_simp <;> with_reducible rfl
                        try simp only [Act.put, st]
                        refine tk 1 (v := ?_) (hp _) hS rfl (fun _ _ _ _ => trivial) ?_ ?_
                        rotate_left 1
                        · intro w hw; (try rw [hw]); (try go_split_ands); go_simp <;> with_reducible rfl
                        try simp only [Act.put, st]
                        refine tk 2 (v := ?_) (hp _) hS rfl (fun _ _ _ _ => trivial) ?_ ?_
                        rotate_left 1
                        · intro w hw; (try rw [hw]); (try go_split_ands); go_simp <;> with_reducible rfl
                        try simp only [Act.put, st]
                        refine tk 3 (v := ?_) (hp _) hS rfl (fun _ _ _ _ => trivial) ?_ ?_
                        rotate_left 1
                        · intro w hw; (try rw [hw]); (try go_split_ands); go_simp <;> with_reducible rfl
                        try simp only [Act.put, st]
                        refine tk 4 (v := ?_) (hp _) hS rfl (fun _ _ _ _ => trivial) ?_ ?_
                        rotate_left 1
                        · intro w hw; (try rw [hw]); (try go_split_ands); go_simp <;> with_reducible rfl
                        try simp only [Act.put, st]
                        refine tk 5 (v := ?_) (hp _) hS rfl (fun _ _ _ _ => trivial) ?_ ?_
                        rotate_left 1
                        · intro w hw; (try rw [hw]); (try go_split_ands); go_simp <;> with_reducible rfl
                        try simp only [Act.put, st]
                        refine tk 6 (v := ?_) (hp _) hS rfl (fun _ _ _ _ => trivial) ?_ ?_
                        rotate_left 1
                        · intro w hw; (try rw [hw]); (try go_split_ands); go_simp <;> with_reducible rfl
                        try simp only [Act.put, st]
                        refine tk 7 (v := ?_) (hp _) hS rfl (fun _ _ _ _ => trivial) ?_ ?_
                        rotate_left 1
                        · intro w hw; (try rw [hw]); (try go_split_ands); go_simp <;> with_reducible rfl
                        try simp only [Act.put, st]
                        refine tk 8 (v := ?_) (hp _) hS rfl (fun _ _ _ _ => trivial) ?_ ?_
                        rotate_left 1
                        · intro w hw; (try rw [hw]); (try go_split_ands); go_simp <;> with_reducible rfl
                        try simp only [Act.put, st]
                        refine tk 9 (v := ?_) (hp _) hS rfl (fun _ _ _ _ => trivial) ?_ ?_
                        rotate_left 1
                        · intro w hw; (try rw [hw]); (try go_split_ands); go_simp <;> with_reducible rfl
                        try simp only [Act.put, st]
                        refine tk 10 (v := ?_) (hp _) hS rfl (fun _ _ _ _ => trivial) ?_ ?_
                        rotate_left 1
                        · intro w hw; (try rw [hw]); (try go_split_ands); go_simp <;> with_reducible rfl
                        try simp only [Act.put, st]
                        refine tk 11 (v := ?_) (hp _) hS rfl (fun _ _ _ _ => trivial) ?_ ?_
                        rotate_left 1
                        · intro w hw; (try rw [hw]); (try go_split_ands); go_simp <;> with_reducible rfl
                        try simp only [Act.put, st]
                        refine tk 12 (v := ?_) (hp _) hS rfl (fun _ _ _ _ => trivial) ?_ ?_
                        rotate_left 1
                        · intro w hw; (try rw [hw]); (try go_split_ands); go_simp <;> with_reducible rfl
                        try simp only [Act.put, st]
                        refine tk 13 (v := ?_) (hp _) hS rfl (fun _ _ _ _ => trivial) ?_ ?_
                        rotate_left 1
                        · intro w hw; (try rw [hw]); (try go_split_ands); go_simp <;> with_reducible rfl
                        try simp only [Act.put, st]
                        refine tk 14 (v := ?_) (hp _) hS rfl (fun _ _ _ _ => trivial) ?_ ?_
                        rotate_left 1
                        · intro w hw; (try rw [hw]); (try go_split_ands); go_simp <;> with_reducible rfl
                        try simp only [Act.put, st]
                        refine tk 15 (v := ?_) (hp _) hS rfl (fun _ _ _ _ => trivial) ?_ ?_
                        rotate_left 1
                        · intro w hw; (try rw [hw]); (try go_split_ands); go_simp <;> with_reducible rfl
                        try simp only [Act.put, st]
                        refine tk 16 (v := ?_) (hp _) hS rfl (fun _ _ _ _ => trivial) ?_ ?_
                        rotate_left 1
                        · intro w hw; (try rw [hw]); (try go_split_ands); go_simp <;> with_reducible rfl
                        try simp only [Act.put, st]
                        refine tk 17 (v := ?_) (hp _) hS rfl (fun _ _ _ _ => trivial) ?_ ?_
                        rotate_left 1
                        · intro w hw; (try rw [hw]); (try go_split_ands); go_simp <;> with_reducible rfl
                        try simp only [Act.put, st]
                        refine tk 18 (v := ?_) (hp _) hS rfl (fun _ _ _ _ => trivial) ?_ ?_
                        rotate_left 1
                        · intro w hw; (try rw [hw]); (try go_split_ands); go_simp <;> with_reducible rfl
                        try simp only [Act.put, st]
                        refine tk 19 (v := ?_) (hp _) hS rfl (fun _ _ _ _ => trivial) ?_ ?_
                        rotate_left 1
                        · intro w hw; (try rw [hw]); (try go_split_ands); go_simp <;> with_reducible rfl
                        try simp only [Act.put, st]
                        refine tk 20 (v := ?_) (hp _) hS rfl (fun _ _ _ _ => trivial) ?_ ?_
                        rotate_left 1
                        · intro w hw; (try rw [hw]); (try go_split_ands); go_simp <;> with_reducible rfl
                        try simp only [Act.put, st]
                        refine tk 21 (v := ?_) (hp _) hS rfl (fun _ _ _ _ => trivial) ?_ ?_
                        rotate_left 1
                        · intro w hw; (try rw [hw]); (try go_split_ands); go_simp <;> with_reducible rfl
                        try simp only [Act.put, st]
                        refine tk 22 (v := ?_) (hp _) hS rfl (fun _ _ _ _ => trivial) ?_ ?_
                        rotate_left 1
                        · intro w hw; (try rw [hw]); (try go_split_ands); go_simp <;> with_reducible rfl
                        try simp only [Act.put, st]
                        refine tk 23 (v := ?_) (hp _) hS rfl (fun _ _ _ _ => trivial) ?_ ?_
                        rotate_left 1
                        · intro w hw; (try rw [hw]); (try go_split_ands); go_simp <;> with_reducible rfl
                        try simp only [Act.put, st]
                        refine tk 24 (v := ?_) (hp _) hS rfl (fun _ _ _ _ => trivial) ?_ ?_
                        rotate_left 1
                        · intro w hw; (try rw [hw]); (try go_split_ands); go_simp <;> with_reducible rfl
                        try simp only [Act.put, st]
                        refine tk 25 (v := ?_) (hp _) hS rfl (fun _ _ _ _ => trivial) ?_ ?_
                        rotate_left 1
                        · intro w hw; (try rw [hw]); (try go_split_ands); go_simp <;> with_reducible rfl
                        try simp only [Act.put, st]
                        refine tk 26 (v := ?_) (hp _) hS rfl (fun _ _ _ _ => trivial) ?_ ?_
                        rotate_left 1
                        · intro w hw; (try rw [hw]); (try go_split_ands); go_simp <;> with_reducible rfl
                        try simp only [Act.put, st]
                        refine held_step 27 rfl (hp _) (by kernel_rfl) (by kernel_rfl) (fun K hK => ⟨?_, ?_⟩)
                        · exact fun _ _ => trivial
                        go_simp
                        refine (callsIn_wide.2 (HV.out _)).mono ?_
                        rintro e w5 ⟨rfl, hb_5⟩
                        have hB_5 : Below z.heap.size z w5 := below_after hS.1 hb_5
                        clear hb_5
                        have hS := HSZ.out _ hB_5
                        refine hK _ _ hS ?_
                        clear hK K
                        try simp only [Act.put, st]
                        refine tk 28 (v := ?_) (hp _) hS rfl (fun _ _ _ _ => trivial) ?_ ?_
                        rotate_left 1
                        · intro w hw; (try rw [hw]); (try go_split_ands); go_simp <;> with_reducible rfl
                        try simp only [Act.put, st]
                        refine tk 29 (v := ?_) (hp _) hS rfl (fun _ _ _ _ => trivial) ?_ ?_
                        rotate_left 1
                        · intro w hw; (try rw [hw]); (try go_split_ands); go_simp <;> with_reducible rfl
                        try simp only [Act.put, st]
                        refine held_end (by kernel_rfl) ?_
                        have hE : Below wr.heap.size wr w5 := hbz.trans (hS.1.mono hbz.size)
                        clear hS HSZ hbz
                        have hB5 : Below w.heap.size w w5 := hBk.trans (hE.mono hBk.size)
                        clear x0 x1 x2 x3 x4 x5 hE
                        gi_wp2
                        go_roundw
                        case rel => exact ⟨k + 1, by omega, by go_num, (fun k' h h1 h2 => by rcases Nat.lt_succ_iff_lt_or_eq.1 h with h | rfl; exact HK.out k' h h1 h2; rw [HT.out]; omega), hB5⟩
                        case measure => simp [intOf]; omega
                · obtain rfl : k = n := by omega
                  have hknlt : ¬ ((k : Int) < (k : Int)) := by omega
                  gi_wp2
                  go_roundw
                  case rel => exact ⟨i + 1, by omega, by go_num, (fun i' h => by rcases Nat.lt_succ_iff_lt_or_eq.1 h with h | rfl; exact HS.out i' h; exact HK.out), hBk⟩
                  case measure => simp [intOf]; omega
            · obtain rfl : i = n := by omega
              have hinlt : ¬ ((i : Int) < (i : Int)) := by omega
              gi_wp2
              refine bodyPost_ret (v := .bool true) (by simp [results, Tryz.f84, go_sem]) rfl ?_
              exact ⟨true, rfl, (fun _ => rvalid_of HN.out h1 h2 HPL.out HA1.out (.inr HS.out)), hBi⟩
end Go.Proofs.YtnhdnkeiijiiaaaGreat
namespace Go.Proofs.YtnhdnkeiijiiaaaGreat
open Go.RowKit Go.Shelf
set_option linter.unusedSimpArgs false
set_option linter.unusedVariables false
attribute [local go_sem ↓] Go.wp_at_zero Go.wp_at_succ
/-- polygons that are not too long for the model -/
def Short (rs : List (List Pt)) : Prop := ∀ r ∈ rs, r.length ≤ 9223372036854775807
set_option maxHeartbeats 1600000 in
set_option maxRecDepth 100000 in
theorem polygons_any (A : Option Addr) (n c : Nat) (rs : List (List Pt)) (w : World) (hn : rs.length = n) (hbig : n ≤ 1000000) (hx : Reg? w.heap.size w A rs) (hL : Short rs) : Calls Tryz.prog 59 #[.slice A n c] w (RetB (∀ r ∈ rs, validB r = true) w) := by
  have HX := Lib.hid hx
  have HN := Lib.hid hn
  have HL := Lib.hid hL
  clear hx hn hL
  go_enter Tryz.func59, Tryz.ntmps59
  go_wp2_with fail
  go_loopg [3] (n + 1) (fun g s3 wr => ∃ k : Nat, k ≤ n ∧ g + k = n + 1 ∧ s3 = .int .i64 k ∧ Aside (∀ i, i < k → validB (rs.getD i []) = true) ∧ Below w.heap.size w wr)
  case atStart => exact ⟨0, by omega, by omega, rfl, (fun i h => by omega), Below.refl _ _⟩
  case round =>
    obtain ⟨k, hk, hg, rfl, HA, hBr⟩ := hrel
    by_cases hlt : k < n
    · obtain ⟨b, off, rfl, hlt0, Ai, ci, hcell, hpt⟩ := HX.out.at (i := k) (by rw [HN.out]; exact hlt)
      have hgk := at_some (d := []) (xs := rs) (i := k) (by rw [HN.out]; exact hlt)
      have hlen := HL.out _ (List.mem_of_getElem? hgk)
      replace hcell := (hBr.cell (p := ⟨b, off + k, none⟩) hlt0).trans hcell
      have hv := RValid_any Ai _ ci (rs.getD k []) wr rfl hlen ((hpt.upto hBr).mono hBr.size)
      have hlt2 : (k : Int) < (n : Int) := by omega
      have hk0 : (0 : Int) ≤ (k : Int) := by omega
      have hnI : (n : Int) ≤ 1000000 := by omega
      have HV := Lib.hid hv
      clear hv hpt hgk hlen
      generalize hq : rs.getD k [] = q at *
      have HQ := Lib.hid hq
      clear hq
      generalize q.length = ql at *
      go_wp2_with fail
      refine HV.out.mono ?_
      rintro e w1 ⟨bb, rfl, hbb, hb1⟩
      have HB := Lib.hid hbb
      have hB1 : Below w.heap.size w w1 := hBr.trans (hb1.mono hBr.size)
      clear hbb hb1 hcell HV
      cases bb with
      | false =>
        go_wp2_with fail
        go_ret
        exact ⟨false, rfl, (fun h => by cases h), hB1⟩
      | true =>
        go_wp2_with fail
        go_roundg (gk - 1)
        case measure => omega
        case rel => exact ⟨k + 1, by omega, by omega, by go_num, (fun i h => by rcases Nat.lt_succ_iff_lt_or_eq.1 h with h | rfl; exact HA.out i h; rw [HQ.out]; exact HB.out (by trivial)), hB1⟩
    · obtain rfl : k = n := by omega
      have hnlt : ¬ ((k : Int) < (k : Int)) := by omega
      go_wp2_with fail
      go_ret
      refine ⟨true, rfl, (fun _ r hr => ?_), hBr⟩
      obtain ⟨i, hi, rfl⟩ := List.mem_iff_getElem.1 hr
      have := HA.out i (by rw [← HN.out]; exact hi)
      rwa [List.getD_eq_getElem?_getD, List.getElem?_eq_getElem hi] at this
set_option maxHeartbeats 1600000 in
set_option maxRecDepth 100000 in
theorem RRValid_any (A : Option Addr) (n c : Nat) (rs : List (List Pt)) (w : World) (hn : rs.length = n) (hbig : n ≤ 1000000) (hx : Reg? w.heap.size w A rs) (hL : Short rs) : Calls Tryz.prog 32 #[.slice A n c] w (RetB (regB rs = true) w) := by
  have hv := polygons_any A n c rs w hn hbig hx hL
  have HV := Lib.hid hv
  have HN := Lib.hid hn
  clear hv hx hn hL
  by_cases h32 : n ≤ 32
  · have d1 : decide ((n : Int) ≤ 32) = true := decide_eq_true (by omega)
    go_enter Tryz.func32, Tryz.ntmps32
    go_wp2_with fail
    refine HV.out.mono ?_
    rintro e w1 ⟨bb, rfl, hbb, hb1⟩
    go_wp2_with fail
    go_ret
    exact ⟨bb, rfl, (fun h => regB_iff.2 ⟨by rw [HN.out]; exact h32, hbb h⟩), hb1⟩
  · have d1 : decide ((n : Int) ≤ 32) = false := decide_eq_false (by omega)
    go_enter Tryz.func32, Tryz.ntmps32
    go_wp2_with fail
    go_ret
    exact ⟨false, rfl, (fun h => by cases h), Below.refl _ _⟩
set_option maxHeartbeats 1600000 in
set_option maxRecDepth 100000 in
theorem RFew_any (A : Option Addr) (n c : Nat) (rs : List (List Pt)) (w : World) (hn : rs.length = n) (h4 : n ≤ 4) (hx : Reg? w.heap.size w A rs) (hL : Short rs) : Calls Tryz.prog 31 #[.slice A n c] w (RetB True w) := by
  have HX := Lib.hid hx
  have HN := Lib.hid hn
  have HL := Lib.hid hL
  clear hx hn hL
  go_enter Tryz.func31, Tryz.ntmps31
  go_wp2_with fail
  go_loopg [4, 3] (n + 1) (fun g s4 s3 wr => ∃ (k : Nat) (m : Int), k ≤ n ∧ g + k = n + 1 ∧ s4 = .int .i64 k ∧ s3 = .int .i64 m ∧ wr = w)
  case atStart => exact ⟨0, 0, by omega, by omega, rfl, rfl, rfl⟩
  case round =>
    obtain ⟨k, m, hk, hg, rfl, rfl, rfl⟩ := hrel
    have d41 : decide ((k : Int) < 41) = true := decide_eq_true (by omega)
    by_cases hlt : k < n
    · obtain ⟨b, off, rfl, hlt0, Ai, ci, hcell, hpt⟩ := HX.out.at (i := k) (by rw [HN.out]; exact hlt)
      have hgk := at_some (d := []) (xs := rs) (i := k) (by rw [HN.out]; exact hlt)
      have hlen := HL.out _ (List.mem_of_getElem? hgk)
      have hlt2 : (k : Int) < (n : Int) := by omega
      have hk0 : (0 : Int) ≤ (k : Int) := by omega
      clear hpt hgk
      generalize (rs.getD k []).length = ql at *
      obtain ⟨z, hz⟩ : ∃ z, IntKind.i64.wrap (m + (ql : Int)) = z := ⟨_, rfl⟩
      go_wp2_with fail
      go_roundg (gk - 1)
      case measure => omega
      case rel => exact ⟨k + 1, z, by omega, by omega, by go_num, rfl, rfl⟩
    · obtain rfl : k = n := by omega
      have hnlt : ¬ ((k : Int) < (k : Int)) := by omega
      have d40 : decide ((k : Int) ≤ 40) = true := decide_eq_true (by omega)
      generalize hd : decide (m ≤ 300) = d at *
      go_wp2_with fail
      go_ret
      exact ⟨_, rfl, (fun _ => trivial), Below.refl _ _⟩
set_option maxHeartbeats 1600000 in
set_option maxRecDepth 100000 in
theorem usable_any (A : Option Addr) (n c : Nat) (rs : List (List Pt)) (x : Pt) (lo hi : Int) (w : World) (hn : rs.length = n) (hx : Reg? w.heap.size w A rs) (hL : Short rs) : Calls Tryz.prog 15 #[.slice A n c, x.val, .agg #[.int .i64 lo, .int .i64 hi]] w (RetB (n ≤ 4 ∧ regB rs = true ∧ plB x = true ∧ distB lo hi = true) w) := by
  by_cases h4 : n ≤ 4
  · have d1 : decide ((n : Int) ≤ 4) = true := decide_eq_true (by omega)
    have v1 := fun W (hB : Below w.heap.size w W) => RFew_any A n c rs W hn h4 (hx.later hB) hL
    have v2 := fun W (hB : Below w.heap.size w W) => RRValid_any A n c rs W hn (by omega) (hx.later hB) hL
    have v3 := fun W => RPlace_any x W
    have v4 := fun W => RDist_any lo hi W
    generalize hR : regB rs = R at *
    generalize plB x = P at *
    generalize distB lo hi = Q at *
    obtain ⟨xx, xy⟩ := x
    have V1 := Lib.hid v1
    have V2 := Lib.hid v2
    have V3 := Lib.hid v3
    have V4 := Lib.hid v4
    clear v1 v2 v3 v4 hx hL hn hR
    go_enter Tryz.func15, Tryz.ntmps15
    go_wp2_with fail
    refine (V1.out _ (by go_grown)).mono ?_
    rintro e w1 ⟨b1, rfl, -, hb1⟩
    have hB1 : Below w.heap.size w w1 := below_after (by go_grown) hb1
    have c0 : w1.cell? ⟨w.heap.size, 0, none⟩ = some (.int .i64 xx) := kp hb1 (by go_cell)
    have c1 : w1.cell? ⟨w.heap.size, 1, none⟩ = some (.int .i64 xy) := kp hb1 (by go_cell)
    have c2 : w1.cell? ⟨w.heap.size + 1, 0, none⟩ = some (.int .i64 lo) := kp hb1 (by go_cell)
    have c3 : w1.cell? ⟨w.heap.size + 1, 1, none⟩ = some (.int .i64 hi) := kp hb1 (by go_cell)
    clear hb1
    cases b1 with
    | false =>
      go_wp2_with fail
      go_ret
      exact ⟨false, rfl, (fun h => by cases h), hB1⟩
    | true =>
      go_wp2_with fail
      refine (V2.out _ hB1).mono ?_
      rintro e w2 ⟨b2, rfl, h2, hb2⟩
      have hB2 : Below w.heap.size w w2 := hB1.trans (hb2.mono hB1.size)
      replace c0 := kp hb2 c0
      replace c1 := kp hb2 c1
      replace c2 := kp hb2 c2
      replace c3 := kp hb2 c3
      have H2 := Lib.hid h2
      clear hb2 h2
      cases b2 with
      | false =>
        go_wp2_with fail
        go_ret
        exact ⟨false, rfl, (fun h => by cases h), hB2⟩
      | true =>
        go_wp2_with fail
        refine (V3.out _).mono ?_
        rintro e w3 ⟨rfl, hb3⟩
        have hB3 : Below w.heap.size w w3 := hB2.trans (hb3.mono hB2.size)
        replace c2 := kp hb3 c2
        replace c3 := kp hb3 c3
        clear hb3 c0 c1
        cases P with
        | false =>
          go_wp2_with fail
          go_ret
          exact ⟨false, rfl, (fun h => by cases h), hB3⟩
        | true =>
          go_wp2_with fail
          refine (V4.out _).mono ?_
          rintro e w4 ⟨rfl, hb4⟩
          have hB4 : Below w.heap.size w w4 := hB3.trans (hb4.mono hB3.size)
          clear hb4 c2 c3
          go_wp2_with fail
          go_ret
          exact ⟨Q, rfl, (fun h => ⟨h4, H2.out (by trivial), (by trivial), h⟩), hB4⟩
  · have d1 : decide ((n : Int) ≤ 4) = false := decide_eq_false (by omega)
    obtain ⟨xx, xy⟩ := x
    clear hx hL hn
    go_enter Tryz.func15, Tryz.ntmps15
    go_wp2_with fail
    go_ret
    exact ⟨false, rfl, (fun h => by cases h), by go_grown⟩
end Go.Proofs.YtnhdnkeiijiiaaaGreat
