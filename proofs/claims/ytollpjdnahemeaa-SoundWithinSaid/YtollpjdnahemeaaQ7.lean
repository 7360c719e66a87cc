import Derived.Test.YtollpjdnahemeaaQ6
import Derived.Deep.RegionHeld3
import Derived.Deep.DeepCutAuto
import Derived.Deep.DrawnRows
import Derived.BigRegion
namespace Go.Proofs.Ytollpjdnahemeaa
open Go.RowKit Go.Shelf
set_option linter.unusedSimpArgs false
set_option linter.unusedVariables false
attribute [local go_sem ↓] Go.wp_at_zero Go.wp_at_succ
set_option maxHeartbeats 1600000 in
set_option maxRecDepth 100000 in
theorem up_any (n d : Int) (B : Nat) (w : World) (hd : 0 < d) (hd2 : d ≤ 1000000) (h1 : 0 ≤ n) (h2 : n ≤ 1000000000000000) (hc : w.cell? ⟨B, 0, none⟩ = some (.int .i64 d)) :
    Calls Try.prog 100 #[.int .i64 n, .pointer (some ⟨B, 0, none⟩)] w fun e w' => e = .returned (.int .i64 ((n + (d - 1)) / d)) ∧ Below w.heap.size w w' := by
  have e1 : IntKind.i64.wrap (n + d) = n + d := IntWalk.i64_in _ (by omega)
  have e2 : IntKind.i64.wrap (n + d - 1) = n + d - 1 := IntWalk.i64_in _ (by omega)
  have e3 : (n + d - 1).tdiv d = (n + (d - 1)) / d := by rw [Int.tdiv_eq_ediv_of_nonneg (by omega)]; congr 1; omega
  have b1 : 0 ≤ (n + (d - 1)) / d := Int.ediv_nonneg (by omega) (by omega)
  have b2 : (n + (d - 1)) / d ≤ n + (d - 1) := Int.ediv_le_self _ (by omega)
  have e4 : IntKind.i64.wrap ((n + (d - 1)) / d) = (n + (d - 1)) / d := IntWalk.i64_in _ (by omega)
  have e5 : ¬ (d = 0) := by omega
  generalize (n + (d - 1)) / d = q at *
  go_enter Try.func100, Try.ntmps100
  go_wp2_with fail
  go_ret
  exact ⟨rfl, by go_grown⟩
set_option maxHeartbeats 1600000 in
set_option maxRecDepth 100000 in
theorem dists1000_any (slo shi tlo thi : Int) (w : World) (h1 : 0 ≤ slo * tlo) (h2 : slo * tlo ≤ 100000000000000) (h3 : 0 ≤ shi * thi) (h4 : shi * thi ≤ 100000000000000) :
    Calls Try.prog 90 #[.agg #[.int .i64 slo, .int .i64 shi], .agg #[.int .i64 tlo, .int .i64 thi], .int .i64 1000] w fun e w' => e = .returned (.tuple #[.agg #[.int .i64 (distsS slo shi tlo thi 1000).1, .int .i64 (distsS slo shi tlo thi 1000).2.1], .int .i64 (distsS slo shi tlo thi 1000).2.2]) ∧ Below w.heap.size w w' := by
  have k1 : IntKind.i64.wrap (slo * tlo) = slo * tlo := IntWalk.i64_in _ (by omega)
  have k2 : IntKind.i64.wrap (shi * thi) = shi * thi := IntWalk.i64_in _ (by omega)
  have k3 : (slo * tlo).tdiv 1000 = slo * tlo / 1000 := Int.tdiv_eq_ediv_of_nonneg h1
  have k4 : IntKind.i64.wrap (slo * tlo / 1000) = slo * tlo / 1000 := IntWalk.i64_in _ (by omega)
  have hu := fun B W h => up_any (shi * thi) 1000 B W (by omega) (by omega) h3 (by omega) h
  rw [show (shi * thi + (1000 - 1)) = shi * thi + 999 by omega] at hu
  generalize hR : distsS slo shi tlo thi 1000 = R
  have hr : (if 100000 < (shi * thi + 999) / 1000 then ((0 : Int), (0 : Int), (3 : Int)) else (slo * tlo / 1000, (shi * thi + 999) / 1000, 0)) = R := hR
  clear hR
  generalize hp1 : slo * tlo = p1 at *
  generalize hp2 : shi * thi = p2 at *
  generalize p1 / 1000 = a1 at *
  generalize (p2 + 999) / 1000 = a2 at *
  have HU := Lib.hid hu
  have HR := Lib.hid hr
  have HP1 := Lib.hid hp1
  have HP2 := Lib.hid hp2
  clear hu hr
  go_enter Try.func90, Try.ntmps90
  go_upto_region 2 with fail
  have hBz : Below w.heap.size w ((((w.alloc (.cells #[.int .i64 slo, .int .i64 shi] 23)).alloc (.cells #[.int .i64 tlo, .int .i64 thi] 23)).alloc (.cells #[.int .i64 1000] 3)).alloc (.cells #[.int .i64 0, .int .i64 0] 23)) := by go_grown
  have x0 : ((((w.alloc (.cells #[.int .i64 slo, .int .i64 shi] 23)).alloc (.cells #[.int .i64 tlo, .int .i64 thi] 23)).alloc (.cells #[.int .i64 1000] 3)).alloc (.cells #[.int .i64 0, .int .i64 0] 23)).cell? ⟨w.heap.size, 0, none⟩ = some (.int .i64 slo) := by go_cell
  have x1 : ((((w.alloc (.cells #[.int .i64 slo, .int .i64 shi] 23)).alloc (.cells #[.int .i64 tlo, .int .i64 thi] 23)).alloc (.cells #[.int .i64 1000] 3)).alloc (.cells #[.int .i64 0, .int .i64 0] 23)).cell? ⟨w.heap.size, 1, none⟩ = some (.int .i64 shi) := by go_cell
  have x2 : ((((w.alloc (.cells #[.int .i64 slo, .int .i64 shi] 23)).alloc (.cells #[.int .i64 tlo, .int .i64 thi] 23)).alloc (.cells #[.int .i64 1000] 3)).alloc (.cells #[.int .i64 0, .int .i64 0] 23)).cell? ⟨w.heap.size + 1, 0, none⟩ = some (.int .i64 tlo) := by go_cell
  have x3 : ((((w.alloc (.cells #[.int .i64 slo, .int .i64 shi] 23)).alloc (.cells #[.int .i64 tlo, .int .i64 thi] 23)).alloc (.cells #[.int .i64 1000] 3)).alloc (.cells #[.int .i64 0, .int .i64 0] 23)).cell? ⟨w.heap.size + 1, 1, none⟩ = some (.int .i64 thi) := by go_cell
  have x4 : ((((w.alloc (.cells #[.int .i64 slo, .int .i64 shi] 23)).alloc (.cells #[.int .i64 tlo, .int .i64 thi] 23)).alloc (.cells #[.int .i64 1000] 3)).alloc (.cells #[.int .i64 0, .int .i64 0] 23)).cell? ⟨w.heap.size + 1 + 1, 0, none⟩ = some (.int .i64 1000) := by go_cell
  have x5 : ((((w.alloc (.cells #[.int .i64 slo, .int .i64 shi] 23)).alloc (.cells #[.int .i64 tlo, .int .i64 thi] 23)).alloc (.cells #[.int .i64 1000] 3)).alloc (.cells #[.int .i64 0, .int .i64 0] 23)).cell? ⟨w.heap.size + 1 + 1 + 1, 0, none⟩ = some (.int .i64 0) := by go_cell
  have x6 : ((((w.alloc (.cells #[.int .i64 slo, .int .i64 shi] 23)).alloc (.cells #[.int .i64 tlo, .int .i64 thi] 23)).alloc (.cells #[.int .i64 1000] 3)).alloc (.cells #[.int .i64 0, .int .i64 0] 23)).cell? ⟨w.heap.size + 1 + 1 + 1, 1, none⟩ = some (.int .i64 0) := by go_cell
  have f0 : ((((w.alloc (.cells #[.int .i64 slo, .int .i64 shi] 23)).alloc (.cells #[.int .i64 tlo, .int .i64 thi] 23)).alloc (.cells #[.int .i64 1000] 3)).alloc (.cells #[.int .i64 0, .int .i64 0] 23)).frozen? ⟨w.heap.size + 1 + 1 + 1, 0, none⟩ = false := by go_simp
  have f1 : ((((w.alloc (.cells #[.int .i64 slo, .int .i64 shi] 23)).alloc (.cells #[.int .i64 tlo, .int .i64 thi] 23)).alloc (.cells #[.int .i64 1000] 3)).alloc (.cells #[.int .i64 0, .int .i64 0] 23)).frozen? ⟨w.heap.size + 1 + 1 + 1, 1, none⟩ = false := by go_simp
  have hzs : w.heap.size + 1 + 1 + 1 < ((((w.alloc (.cells #[.int .i64 slo, .int .i64 shi] 23)).alloc (.cells #[.int .i64 tlo, .int .i64 thi] 23)).alloc (.cells #[.int .i64 1000] 3)).alloc (.cells #[.int .i64 0, .int .i64 0] 23)).heap.size := by simp
  generalize ((((w.alloc (.cells #[.int .i64 slo, .int .i64 shi] 23)).alloc (.cells #[.int .i64 tlo, .int .i64 thi] 23)).alloc (.cells #[.int .i64 1000] 3)).alloc (.cells #[.int .i64 0, .int .i64 0] 23)) = z at *
  have HSZ := Lib.hid (show ∀ w', Below z.heap.size z w' → Below z.heap.size z w' ∧ w'.cell? ⟨w.heap.size, 0, none⟩ = some (.int .i64 slo) ∧ w'.cell? ⟨w.heap.size, 1, none⟩ = some (.int .i64 shi) ∧ w'.cell? ⟨w.heap.size + 1, 0, none⟩ = some (.int .i64 tlo) ∧ w'.cell? ⟨w.heap.size + 1, 1, none⟩ = some (.int .i64 thi) ∧ w'.cell? ⟨w.heap.size + 1 + 1, 0, none⟩ = some (.int .i64 1000) from fun w' h9 => ⟨h9, (h9.cell (p := ⟨w.heap.size, 0, none⟩) (by simp only; omega)).trans x0, (h9.cell (p := ⟨w.heap.size, 1, none⟩) (by simp only; omega)).trans x1, (h9.cell (p := ⟨w.heap.size + 1, 0, none⟩) (by simp only; omega)).trans x2, (h9.cell (p := ⟨w.heap.size + 1, 1, none⟩) (by simp only; omega)).trans x3, (h9.cell (p := ⟨w.heap.size + 1 + 1, 0, none⟩) (by simp only; omega)).trans x4⟩)
  go_cut [9] (fun s9 wx => ∃ g, s9 = .pointer (some ⟨g, 0, none⟩) ∧ wx.cell? ⟨g, 0, none⟩ = some (.int .i64 a1) ∧ wx.cell? ⟨g, 1, none⟩ = some (.int .i64 a2) ∧ Below z.heap.size z wx)
  case first =>
   go_region_held3 (fun w' => Below z.heap.size z w' ∧ w'.cell? ⟨w.heap.size, 0, none⟩ = some (.int .i64 slo) ∧ w'.cell? ⟨w.heap.size, 1, none⟩ = some (.int .i64 shi) ∧ w'.cell? ⟨w.heap.size + 1, 0, none⟩ = some (.int .i64 tlo) ∧ w'.cell? ⟨w.heap.size + 1, 1, none⟩ = some (.int .i64 thi) ∧ w'.cell? ⟨w.heap.size + 1 + 1, 0, none⟩ = some (.int .i64 1000))
    ((refine HSZ.out _ ?_; (first | (with_reducible assumption) | (go_grown; done) | (exact Below.drew (by go_grown)))))
    (first | ((go_split_ands; (with_reducible refine (HU.out (w.heap.size + 1 + 1) _ (by assumption)).mono ?_); rintro e w1 ⟨rfl, hb1⟩; have hB1 : Below z.heap.size z w1 := below_after (by assumption) hb1; have hz1 := hb1.size; (try simp only [World.size_alloc, World.size_drew] at hz1); (try (have n0c : w1.cell? ⟨z.heap.size, 0, none⟩ = some (.int .i64 0) := ?_; rotate_left 1; focus (refine kp hb1 ?_; go_cell; done))); (try (have n1c : w1.cell? ⟨z.heap.size, 1, none⟩ = some (.int .i64 0) := ?_; rotate_left 1; focus (refine kp hb1 ?_; go_cell; done))); (try (have n0f : w1.frozen? ⟨z.heap.size, 0, none⟩ = false := ?_; rotate_left 1; focus (refine kf hb1 ?_ ?_ <;> (go_simp; done)))); (try (have n1f : w1.frozen? ⟨z.heap.size, 1, none⟩ = false := ?_; rotate_left 1; focus (refine kf hb1 ?_ ?_ <;> (go_simp; done)))))))
   all_goals (go_wp2_with fail)
   all_goals go_meet
   all_goals (refine ⟨_, rfl, ?_, ?_, ?_⟩ <;> first | go_cell | (go_simp; done) | (go_grown; done) | (exact Below.drew (by go_grown)))
  case rest =>
    obtain ⟨g, rfl, g0, g1, hB9⟩ := hcut
    have y5 := (hB9.cell (p := ⟨w.heap.size + 1 + 1 + 1, 0, none⟩) hzs).trans x5
    have y6 := (hB9.cell (p := ⟨w.heap.size + 1 + 1 + 1, 1, none⟩) hzs).trans x6
    have yf0 := (hB9.frozen (p := ⟨w.heap.size + 1 + 1 + 1, 0, none⟩) hzs).trans f0
    have yf1 := (hB9.frozen (p := ⟨w.heap.size + 1 + 1 + 1, 1, none⟩) hzs).trans f1
    have hB8 : Below w.heap.size w wc := below_after hBz hB9
    by_cases hq : 100000 < a2
    · have hq2 := HR.out
      rw [if_pos hq] at hq2
      subst hq2
      go_wp2_with fail
      refine ret_span (B := w.heap.size + 1 + 1 + 1) rfl rfl rfl ⟨by go_cell, by go_cell⟩ ⟨rfl, by go_grown⟩
    · have hq2 := HR.out
      rw [if_neg hq] at hq2
      subst hq2
      go_wp2_with fail
      refine ret_span (B := w.heap.size + 1 + 1 + 1) rfl rfl rfl (set2s _ _ (by go_simp) (by go_simp)) ⟨rfl, by go_grown⟩
set_option maxHeartbeats 1600000 in
set_option maxRecDepth 100000 in
theorem dists2000_any (slo shi tlo thi : Int) (w : World) (h1 : 0 ≤ slo * tlo) (h2 : slo * tlo ≤ 100000000000000) (h3 : 0 ≤ shi * thi) (h4 : shi * thi ≤ 100000000000000) :
    Calls Try.prog 90 #[.agg #[.int .i64 slo, .int .i64 shi], .agg #[.int .i64 tlo, .int .i64 thi], .int .i64 2000] w fun e w' => e = .returned (.tuple #[.agg #[.int .i64 (distsS slo shi tlo thi 2000).1, .int .i64 (distsS slo shi tlo thi 2000).2.1], .int .i64 (distsS slo shi tlo thi 2000).2.2]) ∧ Below w.heap.size w w' := by
  have k1 : IntKind.i64.wrap (slo * tlo) = slo * tlo := IntWalk.i64_in _ (by omega)
  have k2 : IntKind.i64.wrap (shi * thi) = shi * thi := IntWalk.i64_in _ (by omega)
  have k3 : (slo * tlo).tdiv 2000 = slo * tlo / 2000 := Int.tdiv_eq_ediv_of_nonneg h1
  have k4 : IntKind.i64.wrap (slo * tlo / 2000) = slo * tlo / 2000 := IntWalk.i64_in _ (by omega)
  have hu := fun B W h => up_any (shi * thi) 2000 B W (by omega) (by omega) h3 (by omega) h
  rw [show (shi * thi + (2000 - 1)) = shi * thi + 1999 by omega] at hu
  generalize hR : distsS slo shi tlo thi 2000 = R
  have hr : (if 100000 < (shi * thi + 1999) / 2000 then ((0 : Int), (0 : Int), (3 : Int)) else (slo * tlo / 2000, (shi * thi + 1999) / 2000, 0)) = R := hR
  clear hR
  generalize hp1 : slo * tlo = p1 at *
  generalize hp2 : shi * thi = p2 at *
  generalize p1 / 2000 = a1 at *
  generalize (p2 + 1999) / 2000 = a2 at *
  have HU := Lib.hid hu
  have HR := Lib.hid hr
  have HP1 := Lib.hid hp1
  have HP2 := Lib.hid hp2
  clear hu hr
  go_enter Try.func90, Try.ntmps90
  go_upto_region 2 with fail
  have hBz : Below w.heap.size w ((((w.alloc (.cells #[.int .i64 slo, .int .i64 shi] 23)).alloc (.cells #[.int .i64 tlo, .int .i64 thi] 23)).alloc (.cells #[.int .i64 2000] 3)).alloc (.cells #[.int .i64 0, .int .i64 0] 23)) := by go_grown
  have x0 : ((((w.alloc (.cells #[.int .i64 slo, .int .i64 shi] 23)).alloc (.cells #[.int .i64 tlo, .int .i64 thi] 23)).alloc (.cells #[.int .i64 2000] 3)).alloc (.cells #[.int .i64 0, .int .i64 0] 23)).cell? ⟨w.heap.size, 0, none⟩ = some (.int .i64 slo) := by go_cell
  have x1 : ((((w.alloc (.cells #[.int .i64 slo, .int .i64 shi] 23)).alloc (.cells #[.int .i64 tlo, .int .i64 thi] 23)).alloc (.cells #[.int .i64 2000] 3)).alloc (.cells #[.int .i64 0, .int .i64 0] 23)).cell? ⟨w.heap.size, 1, none⟩ = some (.int .i64 shi) := by go_cell
  have x2 : ((((w.alloc (.cells #[.int .i64 slo, .int .i64 shi] 23)).alloc (.cells #[.int .i64 tlo, .int .i64 thi] 23)).alloc (.cells #[.int .i64 2000] 3)).alloc (.cells #[.int .i64 0, .int .i64 0] 23)).cell? ⟨w.heap.size + 1, 0, none⟩ = some (.int .i64 tlo) := by go_cell
  have x3 : ((((w.alloc (.cells #[.int .i64 slo, .int .i64 shi] 23)).alloc (.cells #[.int .i64 tlo, .int .i64 thi] 23)).alloc (.cells #[.int .i64 2000] 3)).alloc (.cells #[.int .i64 0, .int .i64 0] 23)).cell? ⟨w.heap.size + 1, 1, none⟩ = some (.int .i64 thi) := by go_cell
  have x4 : ((((w.alloc (.cells #[.int .i64 slo, .int .i64 shi] 23)).alloc (.cells #[.int .i64 tlo, .int .i64 thi] 23)).alloc (.cells #[.int .i64 2000] 3)).alloc (.cells #[.int .i64 0, .int .i64 0] 23)).cell? ⟨w.heap.size + 1 + 1, 0, none⟩ = some (.int .i64 2000) := by go_cell
  have x5 : ((((w.alloc (.cells #[.int .i64 slo, .int .i64 shi] 23)).alloc (.cells #[.int .i64 tlo, .int .i64 thi] 23)).alloc (.cells #[.int .i64 2000] 3)).alloc (.cells #[.int .i64 0, .int .i64 0] 23)).cell? ⟨w.heap.size + 1 + 1 + 1, 0, none⟩ = some (.int .i64 0) := by go_cell
  have x6 : ((((w.alloc (.cells #[.int .i64 slo, .int .i64 shi] 23)).alloc (.cells #[.int .i64 tlo, .int .i64 thi] 23)).alloc (.cells #[.int .i64 2000] 3)).alloc (.cells #[.int .i64 0, .int .i64 0] 23)).cell? ⟨w.heap.size + 1 + 1 + 1, 1, none⟩ = some (.int .i64 0) := by go_cell
  have f0 : ((((w.alloc (.cells #[.int .i64 slo, .int .i64 shi] 23)).alloc (.cells #[.int .i64 tlo, .int .i64 thi] 23)).alloc (.cells #[.int .i64 2000] 3)).alloc (.cells #[.int .i64 0, .int .i64 0] 23)).frozen? ⟨w.heap.size + 1 + 1 + 1, 0, none⟩ = false := by go_simp
  have f1 : ((((w.alloc (.cells #[.int .i64 slo, .int .i64 shi] 23)).alloc (.cells #[.int .i64 tlo, .int .i64 thi] 23)).alloc (.cells #[.int .i64 2000] 3)).alloc (.cells #[.int .i64 0, .int .i64 0] 23)).frozen? ⟨w.heap.size + 1 + 1 + 1, 1, none⟩ = false := by go_simp
  have hzs : w.heap.size + 1 + 1 + 1 < ((((w.alloc (.cells #[.int .i64 slo, .int .i64 shi] 23)).alloc (.cells #[.int .i64 tlo, .int .i64 thi] 23)).alloc (.cells #[.int .i64 2000] 3)).alloc (.cells #[.int .i64 0, .int .i64 0] 23)).heap.size := by simp
  generalize ((((w.alloc (.cells #[.int .i64 slo, .int .i64 shi] 23)).alloc (.cells #[.int .i64 tlo, .int .i64 thi] 23)).alloc (.cells #[.int .i64 2000] 3)).alloc (.cells #[.int .i64 0, .int .i64 0] 23)) = z at *
  have HSZ := Lib.hid (show ∀ w', Below z.heap.size z w' → Below z.heap.size z w' ∧ w'.cell? ⟨w.heap.size, 0, none⟩ = some (.int .i64 slo) ∧ w'.cell? ⟨w.heap.size, 1, none⟩ = some (.int .i64 shi) ∧ w'.cell? ⟨w.heap.size + 1, 0, none⟩ = some (.int .i64 tlo) ∧ w'.cell? ⟨w.heap.size + 1, 1, none⟩ = some (.int .i64 thi) ∧ w'.cell? ⟨w.heap.size + 1 + 1, 0, none⟩ = some (.int .i64 2000) from fun w' h9 => ⟨h9, (h9.cell (p := ⟨w.heap.size, 0, none⟩) (by simp only; omega)).trans x0, (h9.cell (p := ⟨w.heap.size, 1, none⟩) (by simp only; omega)).trans x1, (h9.cell (p := ⟨w.heap.size + 1, 0, none⟩) (by simp only; omega)).trans x2, (h9.cell (p := ⟨w.heap.size + 1, 1, none⟩) (by simp only; omega)).trans x3, (h9.cell (p := ⟨w.heap.size + 1 + 1, 0, none⟩) (by simp only; omega)).trans x4⟩)
  go_cut [9] (fun s9 wx => ∃ g, s9 = .pointer (some ⟨g, 0, none⟩) ∧ wx.cell? ⟨g, 0, none⟩ = some (.int .i64 a1) ∧ wx.cell? ⟨g, 1, none⟩ = some (.int .i64 a2) ∧ Below z.heap.size z wx)
  case first =>
   go_region_held3 (fun w' => Below z.heap.size z w' ∧ w'.cell? ⟨w.heap.size, 0, none⟩ = some (.int .i64 slo) ∧ w'.cell? ⟨w.heap.size, 1, none⟩ = some (.int .i64 shi) ∧ w'.cell? ⟨w.heap.size + 1, 0, none⟩ = some (.int .i64 tlo) ∧ w'.cell? ⟨w.heap.size + 1, 1, none⟩ = some (.int .i64 thi) ∧ w'.cell? ⟨w.heap.size + 1 + 1, 0, none⟩ = some (.int .i64 2000))
    ((refine HSZ.out _ ?_; (first | (with_reducible assumption) | (go_grown; done) | (exact Below.drew (by go_grown)))))
    (first | ((go_split_ands; (with_reducible refine (HU.out (w.heap.size + 1 + 1) _ (by assumption)).mono ?_); rintro e w1 ⟨rfl, hb1⟩; have hB1 : Below z.heap.size z w1 := below_after (by assumption) hb1; have hz1 := hb1.size; (try simp only [World.size_alloc, World.size_drew] at hz1); (try (have n0c : w1.cell? ⟨z.heap.size, 0, none⟩ = some (.int .i64 0) := ?_; rotate_left 1; focus (refine kp hb1 ?_; go_cell; done))); (try (have n1c : w1.cell? ⟨z.heap.size, 1, none⟩ = some (.int .i64 0) := ?_; rotate_left 1; focus (refine kp hb1 ?_; go_cell; done))); (try (have n0f : w1.frozen? ⟨z.heap.size, 0, none⟩ = false := ?_; rotate_left 1; focus (refine kf hb1 ?_ ?_ <;> (go_simp; done)))); (try (have n1f : w1.frozen? ⟨z.heap.size, 1, none⟩ = false := ?_; rotate_left 1; focus (refine kf hb1 ?_ ?_ <;> (go_simp; done)))))))
   all_goals (go_wp2_with fail)
   all_goals go_meet
   all_goals (refine ⟨_, rfl, ?_, ?_, ?_⟩ <;> first | go_cell | (go_simp; done) | (go_grown; done) | (exact Below.drew (by go_grown)))
  case rest =>
    obtain ⟨g, rfl, g0, g1, hB9⟩ := hcut
    have y5 := (hB9.cell (p := ⟨w.heap.size + 1 + 1 + 1, 0, none⟩) hzs).trans x5
    have y6 := (hB9.cell (p := ⟨w.heap.size + 1 + 1 + 1, 1, none⟩) hzs).trans x6
    have yf0 := (hB9.frozen (p := ⟨w.heap.size + 1 + 1 + 1, 0, none⟩) hzs).trans f0
    have yf1 := (hB9.frozen (p := ⟨w.heap.size + 1 + 1 + 1, 1, none⟩) hzs).trans f1
    have hB8 : Below w.heap.size w wc := below_after hBz hB9
    by_cases hq : 100000 < a2
    · have hq2 := HR.out
      rw [if_pos hq] at hq2
      subst hq2
      go_wp2_with fail
      refine ret_span (B := w.heap.size + 1 + 1 + 1) rfl rfl rfl ⟨by go_cell, by go_cell⟩ ⟨rfl, by go_grown⟩
    · have hq2 := HR.out
      rw [if_neg hq] at hq2
      subst hq2
      go_wp2_with fail
      refine ret_span (B := w.heap.size + 1 + 1 + 1) rfl rfl rfl (set2s _ _ (by go_simp) (by go_simp)) ⟨rfl, by go_grown⟩
end Go.Proofs.Ytollpjdnahemeaa
