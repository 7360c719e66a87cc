import Derived.Test.YtnhdnkeiijiiaaaGreatProg
import Derived.WalkKit
import Derived.Lib.Hide
import Derived.Outline
import Derived.Handy
import Derived.WalkSpells
import Derived.Deep.DrawnRows
import Derived.BigQuiet
import Derived.Deep.QuietTactic
import Derived.Deep.DeepCutAuto
import Derived.Deep.RegionHeld3
import Derived.Deep.LoopGhost
import Derived.BigRegion
namespace Go.Proofs.YtnhdnkeiijiiaaaGreat
open Go.RowKit
set_option linter.unusedSimpArgs false
set_option linter.unusedVariables false
theorem ret_bool {a b : Bool} (h : a = b) : Ending.returned (.bool a) = .returned (.bool b) := by rw [h]
theorem ret_int {k : IntKind} {a b : Int} (h : a = b) : Ending.returned (.int k a) = .returned (.int k b) := by rw [h]
theorem set2 {w : World} {B : Nat} {x y : Value} (v0 v1 : Value) (h0 : w.cell? ⟨B, 0, none⟩ = some x) (h1 : w.cell? ⟨B, 1, none⟩ = some y) :
    ((w.setCell ⟨B, 0, none⟩ v0).setCell ⟨B, 1, none⟩ v1).cell? ⟨B, 0, none⟩ = some v0 ∧ ((w.setCell ⟨B, 0, none⟩ v0).setCell ⟨B, 1, none⟩ v1).cell? ⟨B, 1, none⟩ = some v1 := by
  constructor
  · rw [World.cell?_setCell_other _ _ _ _ (by simp)]
    exact World.cell?_setCell_same _ _ _ h0
  · refine World.cell?_setCell_same _ _ _ (u := y) ?_
    rw [World.cell?_setCell_other _ _ _ _ (by simp)]
    exact h1
theorem ret_span {R : Ending → World → Prop} {fn : Func} {p u : Tmp} {a : Act} {w : World} {B : Nat} {lo hi : Int} (hres : fn.results = #[.cell p 23, .tmp u]) (hd : a.defers = [])
    (hp : a.tmps.getD p undef = .pointer (some ⟨B, 0, none⟩)) (c : w.cell? ⟨B, 0, none⟩ = some (.int .i64 lo) ∧ w.cell? ⟨B, 1, none⟩ = some (.int .i64 hi))
    (hR : R (.returned (.tuple #[.agg #[.int .i64 lo, .int .i64 hi], a.tmps.getD u undef])) w) : bodyPost Tryz.prog fn R .ret a w := by
  refine bodyPost_ret (v := .tuple #[.agg #[.int .i64 lo, .int .i64 hi], a.tmps.getD u undef]) ?_ hd hR
  rw [results_cell_tmp hres, hp]
  simp [go_sem, c.1, c.2]
theorem below_after {w w0 w1 : World} (h : Below w.heap.size w w0) (h1 : Below w0.heap.size w0 w1) : Below w.heap.size w w1 := h.trans (h1.mono h.size)
theorem kp {W w1 : World} (hb : Below W.heap.size W w1) {b o : Nat} {v : Value} (h : W.cell? ⟨b, o, none⟩ = some v) : w1.cell? ⟨b, o, none⟩ = some v := cell_later hb h
theorem kf {W w1 : World} (hb : Below W.heap.size W w1) {b o : Nat} (h : (W.cell? ⟨b, o, none⟩).isSome = true) (hf : W.frozen? ⟨b, o, none⟩ = false) : w1.frozen? ⟨b, o, none⟩ = false := by
  obtain ⟨v, hv⟩ := Option.isSome_iff_exists.1 h
  exact (hb.frozen (World.block_lt_of_cell? _ _ hv)).trans hf
@[go_sem] theorem cell_alloc_some (w : World) (o : Obj) (n i : Nat) (h : (w.cell? ⟨n, i, none⟩).isSome = true) : (w.alloc o).cell? ⟨n, i, none⟩ = w.cell? ⟨n, i, none⟩ := by
  obtain ⟨v, hv⟩ := Option.isSome_iff_exists.1 h
  exact World.cell?_alloc_lt _ _ _ (World.block_lt_of_cell? _ _ hv)
@[go_sem] theorem frozen_alloc_some (w : World) (o : Obj) (n i : Nat) (h : (w.cell? ⟨n, i, none⟩).isSome = true) : (w.alloc o).frozen? ⟨n, i, none⟩ = w.frozen? ⟨n, i, none⟩ := by
  obtain ⟨v, hv⟩ := Option.isSome_iff_exists.1 h
  exact World.frozen?_alloc_old _ _ _ (Nat.ne_of_lt (World.block_lt_of_cell? _ _ hv))
theorem set2s {w : World} {B : Nat} (v0 v1 : Value) (h0 : (w.cell? ⟨B, 0, none⟩).isSome = true) (h1 : (w.cell? ⟨B, 1, none⟩).isSome = true) :
    ((w.setCell ⟨B, 0, none⟩ v0).setCell ⟨B, 1, none⟩ v1).cell? ⟨B, 0, none⟩ = some v0 ∧ ((w.setCell ⟨B, 0, none⟩ v0).setCell ⟨B, 1, none⟩ v1).cell? ⟨B, 1, none⟩ = some v1 := by
  obtain ⟨x, hx⟩ := Option.isSome_iff_exists.1 h0
  obtain ⟨y, hy⟩ := Option.isSome_iff_exists.1 h1
  exact set2 v0 v1 hx hy
theorem ret_span_bool {R : Ending → World → Prop} {fn : Func} {p u t : Tmp} {a : Act} {w : World} {B : Nat} {lo hi : Int} (hres : fn.results = #[.cell p 23, .tmp u, .tmp t]) (hd : a.defers = [])
    (hp : a.tmps.getD p undef = .pointer (some ⟨B, 0, none⟩)) (c : w.cell? ⟨B, 0, none⟩ = some (.int .i64 lo) ∧ w.cell? ⟨B, 1, none⟩ = some (.int .i64 hi))
    (hR : R (.returned (.tuple #[.agg #[.int .i64 lo, .int .i64 hi], a.tmps.getD u undef, a.tmps.getD t undef])) w) : bodyPost Tryz.prog fn R .ret a w := by
  refine bodyPost_ret (v := .tuple #[.agg #[.int .i64 lo, .int .i64 hi], a.tmps.getD u undef, a.tmps.getD t undef]) ?_ hd hR
  have hp' : a.tmps[p]?.getD undef = .pointer (some ⟨B, 0, none⟩) := by simpa using hp
  simp only [results, hres]
  simp [Sem.run_bind, Result.andThen, hp', go_sem, c.1, c.2]
theorem bdn {B : Nat} {a w : World} (h : Below B a w) (n : Nat) : Below B a (w.drewN n) := h.trans ⟨rfl, rfl, rfl, Nat.le_refl _, fun _ _ => rfl⟩
theorem ret_span1 {R : Ending → World → Prop} {fn : Func} {p : Tmp} {a : Act} {w : World} {B : Nat} {lo hi : Int} (hres : fn.results = #[.cell p 23]) (hd : a.defers = [])
    (hp : a.tmps.getD p undef = .pointer (some ⟨B, 0, none⟩)) (c : w.cell? ⟨B, 0, none⟩ = some (.int .i64 lo) ∧ w.cell? ⟨B, 1, none⟩ = some (.int .i64 hi))
    (hR : R (.returned (.agg #[.int .i64 lo, .int .i64 hi])) w) : bodyPost Tryz.prog fn R .ret a w := by
  refine bodyPost_ret (v := .agg #[.int .i64 lo, .int .i64 hi]) ?_ hd hR
  have hp' : a.tmps[p]?.getD undef = .pointer (some ⟨B, 0, none⟩) := by simpa using hp
  simp only [results, hres]
  simp [Sem.run_bind, Result.andThen, hp', go_sem, c.1, c.2]
theorem bel {P : Program} {f : FuncId} {args : Array Value} {W : World} {v : Value} (h : Calls P f args W fun e w' => e = .returned v ∧ W = w') : Calls P f args W fun e w' => e = .returned v ∧ Below W.heap.size W w' := h.mono fun e w' k => ⟨k.1, k.2 ▸ Below.refl _ _⟩
attribute [local go_sem ↓] Go.wp_at_zero Go.wp_at_succ
theorem max2_run (P : Program) (a b : Int) (w : World) : Sem.run P (Builtin.max2 (.int .i64 a) (.int .i64 b)) w = .ok (.int .i64 (max a b)) w := by
  unfold Builtin.max2
  simp [go_sem]
  split <;> omega
@[go_sem] theorem max4_run (P : Program) (a b c d : Int) (w : World) : Sem.run P (Builtin.max_ #[3, 3, 3, 3] 3 #[.int .i64 a, .int .i64 b, .int .i64 c, .int .i64 d]) w = .ok (.int .i64 (max (max (max a b) c) d)) w := by
  unfold Builtin.max_
  simp only [List.foldlM, Sem.run_bind, max2_run, Result.andThen_ok, Sem.run_pure]
/-- a point -/
structure Pt where
  x : Int
  y : Int
deriving DecidableEq, Inhabited
abbrev Pt.val (p : Pt) : Value := .agg #[.int .i64 p.x, .int .i64 p.y]
def plB (p : Pt) : Bool := decide (-500000 ≤ p.x) && decide (p.x ≤ 500000) && decide (-500000 ≤ p.y) && decide (p.y ≤ 500000)
def turnS (a b c : Pt) : Int := (b.x - a.x) * (c.y - a.y) - (b.y - a.y) * (c.x - a.x)
/-- near enough to be reckoned with -/
def Nr (p : Pt) : Prop := -4000000 ≤ p.x ∧ p.x ≤ 4000000 ∧ -4000000 ≤ p.y ∧ p.y ≤ 4000000
def cmpI (a b : Int) : Int := if a < b then -1 else if b < a then 1 else 0
def cmpS (a b : Pt) : Int := if cmpI a.x b.x ≠ 0 then cmpI a.x b.x else cmpI a.y b.y
def I64 (x : Int) : Prop := -9223372036854775808 ≤ x ∧ x ≤ 9223372036854775807
theorem plB_iff (p : Pt) : plB p = true ↔ (-500000 ≤ p.x ∧ p.x ≤ 500000 ∧ -500000 ≤ p.y ∧ p.y ≤ 500000) := by simp [plB]; omega
theorem prod_nr {a b : Int} (h1 : -8000000 ≤ a) (h2 : a ≤ 8000000) (h3 : -8000000 ≤ b) (h4 : b ≤ 8000000) : -64000000000000 ≤ a * b ∧ a * b ≤ 64000000000000 := by
  have e1 : 0 ≤ (8000000 - a) * (8000000 + b) := Int.mul_nonneg (by omega) (by omega)
  have e2 : 0 ≤ (8000000 + a) * (8000000 - b) := Int.mul_nonneg (by omega) (by omega)
  have e3 : 0 ≤ (8000000 - a) * (8000000 - b) := Int.mul_nonneg (by omega) (by omega)
  have e4 : 0 ≤ (8000000 + a) * (8000000 + b) := Int.mul_nonneg (by omega) (by omega)
  simp only [Int.sub_mul, Int.add_mul, Int.mul_sub, Int.mul_add] at e1 e2 e3 e4
  omega
set_option maxHeartbeats 800000 in
set_option maxRecDepth 100000 in
theorem hisPlace_any (p : Pt) (w : World) (h1 : I64 p.x) (h2 : I64 p.y) : Calls Tryz.prog 55 #[p.val] w fun e w' => e = .returned (.bool (plB p)) ∧ Below w.heap.size w w' := by
  obtain ⟨X, Y⟩ := p
  unfold I64 at h1 h2
  simp only at h1 h2
  by_cases hx : X = -9223372036854775808
  · by_cases hy : Y = -9223372036854775808
    · subst hx hy
      rw [show plB ⟨-9223372036854775808, -9223372036854775808⟩ = false by decide]
      have hw : wrap64 9223372036854775808 = -9223372036854775808 := by decide +kernel
      go_enter Tryz.func55, Tryz.ntmps55
      go_wp2_with fail
      all_goals first | (exfalso; omega) | (go_ret; exact ⟨ret_bool (by simp [*] <;> try omega), by go_grown⟩)
    · subst hx
      rw [show plB ⟨-9223372036854775808, Y⟩ = false by simp [plB]]
      have hy1 : -9223372036854775808 < Y := by omega
      clear hy
      go_enter Tryz.func55, Tryz.ntmps55
      go_wp2_with fail
      all_goals (go_ret; exact ⟨ret_bool (by simp [*] <;> try omega), by go_grown⟩)
  · by_cases hy : Y = -9223372036854775808
    · subst hy
      rw [show plB ⟨X, -9223372036854775808⟩ = false by simp [plB]]
      have hx1 : -9223372036854775808 < X := by omega
      clear hx
      go_enter Tryz.func55, Tryz.ntmps55
      go_wp2_with fail
      all_goals (go_ret; exact ⟨ret_bool (by simp [*] <;> try omega), by go_grown⟩)
    · have hx1 : -9223372036854775808 < X := by omega
      have hy1 : -9223372036854775808 < Y := by omega
      clear hx hy
      go_enter Tryz.func55, Tryz.ntmps55
      go_wp2_with fail
      all_goals (go_ret; exact ⟨ret_bool (by simp only [plB]; rw [Bool.eq_iff_iff]; simp <;> omega), by go_grown⟩)
set_option maxHeartbeats 800000 in
set_option maxRecDepth 100000 in
theorem risPlace_any (p : Pt) (w : World) : Calls Tryz.prog 27 #[p.val] w fun e w' => e = .returned (.bool (plB p)) ∧ Below w.heap.size w w' := by
  go_enter Tryz.func27, Tryz.ntmps27
  go_wp2_with fail
  all_goals
    go_ret
    refine ⟨ret_bool ?_, by go_grown⟩
    simp [plB, *] <;> try omega
set_option maxHeartbeats 800000 in
set_option maxRecDepth 100000 in
theorem cisPlace_any (p : Pt) (w : World) : Calls Tryz.prog 132 #[p.val] w fun e w' => e = .returned (.bool (plB p)) ∧ Below w.heap.size w w' := by
  go_enter Tryz.func132, Tryz.ntmps132
  go_wp2_with fail
  all_goals
    go_ret
    refine ⟨ret_bool ?_, by go_grown⟩
    simp [plB, *] <;> try omega
set_option maxHeartbeats 800000 in
set_option maxRecDepth 100000 in
theorem RPlace_any (p : Pt) (w : World) : Calls Tryz.prog 10 #[p.val] w fun e w' => e = .returned (.bool (plB p)) ∧ Below w.heap.size w w' := by
  go_enter Tryz.func10, Tryz.ntmps10
  go_wp2_with fail
  all_goals
    go_ret
    refine ⟨ret_bool ?_, by go_grown⟩
    simp [plB, *] <;> try omega
set_option maxHeartbeats 800000 in
set_option maxRecDepth 100000 in
theorem hturn_any (a b c : Pt) (w : World) (ha : Nr a) (hb : Nr b) (hc : Nr c) : Calls Tryz.prog 56 #[a.val, b.val, c.val] w fun e w' => e = .returned (.int .i64 (turnS a b c)) ∧ Below w.heap.size w w' := by
  unfold Nr at ha hb hc
  have p1 := prod_nr (a := b.x - a.x) (b := c.y - a.y) (by omega) (by omega) (by omega) (by omega)
  have p2 := prod_nr (a := b.y - a.y) (b := c.x - a.x) (by omega) (by omega) (by omega) (by omega)
  have hr : turnS a b c = (b.x - a.x) * (c.y - a.y) - (b.y - a.y) * (c.x - a.x) := rfl
  rw [hr]
  generalize hp1 : (b.x - a.x) * (c.y - a.y) = P1 at *
  generalize hp2 : (b.y - a.y) * (c.x - a.x) = P2 at *
  clear hr
  go_enter Tryz.func56, Tryz.ntmps56
  go_wp2_with fail
  go_ret
  exact ⟨rfl, by go_grown⟩
set_option maxHeartbeats 800000 in
set_option maxRecDepth 100000 in
theorem cturn_any (a b c : Pt) (w : World) (ha : Nr a) (hb : Nr b) (hc : Nr c) : Calls Tryz.prog 137 #[a.val, b.val, c.val] w fun e w' => e = .returned (.int .i64 (turnS a b c)) ∧ Below w.heap.size w w' := by
  unfold Nr at ha hb hc
  have p1 := prod_nr (a := b.x - a.x) (b := c.y - a.y) (by omega) (by omega) (by omega) (by omega)
  have p2 := prod_nr (a := b.y - a.y) (b := c.x - a.x) (by omega) (by omega) (by omega) (by omega)
  have hr : turnS a b c = (b.x - a.x) * (c.y - a.y) - (b.y - a.y) * (c.x - a.x) := rfl
  rw [hr]
  generalize hp1 : (b.x - a.x) * (c.y - a.y) = P1 at *
  generalize hp2 : (b.y - a.y) * (c.x - a.x) = P2 at *
  clear hr
  go_enter Tryz.func137, Tryz.ntmps137
  go_wp2_with fail
  go_ret
  exact ⟨rfl, by go_grown⟩
set_option maxHeartbeats 800000 in
set_option maxRecDepth 100000 in
theorem RCross_any (a b c : Pt) (w : World) (ha : Nr a) (hb : Nr b) (hc : Nr c) : Calls Tryz.prog 66 #[a.val, b.val, c.val] w fun e w' => e = .returned (.int .i64 (turnS a b c)) ∧ Below w.heap.size w w' := by
  unfold Nr at ha hb hc
  have p1 := prod_nr (a := b.x - a.x) (b := c.y - a.y) (by omega) (by omega) (by omega) (by omega)
  have p2 := prod_nr (a := b.y - a.y) (b := c.x - a.x) (by omega) (by omega) (by omega) (by omega)
  have hr : turnS a b c = (b.x - a.x) * (c.y - a.y) - (b.y - a.y) * (c.x - a.x) := rfl
  rw [hr]
  generalize hp1 : (b.x - a.x) * (c.y - a.y) = P1 at *
  generalize hp2 : (b.y - a.y) * (c.x - a.x) = P2 at *
  clear hr
  go_enter Tryz.func66, Tryz.ntmps66
  go_wp2_with fail
  go_ret
  exact ⟨rfl, by go_grown⟩
set_option maxHeartbeats 800000 in
set_option maxRecDepth 100000 in
theorem isNaN_any (a : Int) (w : World) : Calls Tryz.prog 131 #[.int .i64 a] w fun e w' => e = .returned (.bool false) ∧ w = w' := by
  go_enter Tryz.func131, Tryz.ntmps131
  go_wp2_with fail
  go_ret
  exact ⟨ret_bool (by simp), rfl⟩
set_option maxHeartbeats 800000 in
set_option maxRecDepth 100000 in
theorem cmp_any (a b : Int) (w : World) : Calls Tryz.prog 108 #[.int .i64 a, .int .i64 b] w fun e w' => e = .returned (.int .i64 (cmpI a b)) ∧ w = w' := by
  have v1 := fun w => isNaN_any a w
  have v2 := fun w => isNaN_any b w
  have H1 := Lib.hid v1
  have H2 := Lib.hid v2
  clear v1 v2
  go_enter Tryz.func108, Tryz.ntmps108
  go_wp2_with fail
  refine (H1.out _).mono ?_
  rintro e w1 ⟨rfl, rfl⟩
  go_wp2_with fail
  refine (H2.out _).mono ?_
  rintro e w1 ⟨rfl, rfl⟩
  go_wp2_with fail
  all_goals
    go_ret
    refine ⟨ret_int ?_, rfl⟩
    unfold cmpI
    first | (rw [if_pos (by omega)]; done) | (rw [if_neg (by omega), if_pos (by omega)]; done) | (rw [if_neg (by omega), if_neg (by omega)]; done)
set_option maxHeartbeats 800000 in
set_option maxRecDepth 100000 in
theorem plus_any (a b : Pt) (w : World) (ha : Nr a) (hb : Nr b) : Calls Tryz.prog 51 #[a.val, b.val] w fun e w' => e = .returned (.agg #[.int .i64 (a.x + b.x), .int .i64 (a.y + b.y)]) ∧ Below w.heap.size w w' := by
  unfold Nr at ha hb
  go_enter Tryz.func51, Tryz.ntmps51
  go_wp2_with fail
  refine ret_span1 rfl rfl rfl ⟨by go_cell, by go_cell⟩ ⟨rfl, by go_grown⟩
set_option maxHeartbeats 800000 in
set_option maxRecDepth 100000 in
theorem at_any (a b : Int) (w : World) : Calls Tryz.prog 9 #[.int .i64 a, .int .i64 b] w fun e w' => e = .returned (.agg #[.int .i64 a, .int .i64 b]) ∧ Below w.heap.size w w' := by
  go_enter Tryz.func9, Tryz.ntmps9
  go_wp2_with fail
  refine ret_span1 rfl rfl rfl ⟨by go_cell, by go_cell⟩ ⟨rfl, by go_grown⟩
end Go.Proofs.YtnhdnkeiijiiaaaGreat
namespace Go.Proofs.YtnhdnkeiijiiaaaGreat
open Go.RowKit
set_option linter.unusedSimpArgs false
set_option linter.unusedVariables false
attribute [local go_sem ↓] Go.wp_at_zero Go.wp_at_succ
set_option maxHeartbeats 1600000 in
set_option maxRecDepth 100000 in
theorem or2_any (a b : Int) (g : Nat) (w : World) (c0 : w.cell? ⟨g, 0, none⟩ = some (.int .i64 a)) (c1 : w.cell? ⟨g, 1, none⟩ = some (.int .i64 b)) :
    Calls Tryz.prog 107 #[.slice (some ⟨g, 0, none⟩) 2 2] w fun e w' => e = .returned (.int .i64 (if a ≠ 0 then a else b)) ∧ w = w' := by
  go_enter Tryz.func107, Tryz.ntmps107
  go_wp2_with fail
  go_loopg [8] 3 (fun n9 s8 wr => ∃ k : Nat, k ≤ 2 ∧ n9 + k = 3 ∧ s8 = .int .i64 k ∧ (1 ≤ k → a = 0) ∧ (2 ≤ k → b = 0) ∧ w = wr)
  case atStart => exact ⟨0, by omega, by omega, rfl, by omega, by omega, rfl⟩
  case round =>
    obtain ⟨k, hk, hg, rfl, h1, h2, rfl⟩ := hrel
    have hk3 : k = 0 ∨ k = 1 ∨ k = 2 := by omega
    rcases hk3 with rfl | rfl | rfl
    · by_cases ha : a = 0
      · subst ha
        go_wp2_with fail
        go_roundg (gk - 1)
        case measure => omega
        case rel => exact ⟨1, by omega, by omega, by go_num, fun _ => by trivial, by omega, rfl⟩
      · go_wp2_with fail
        all_goals first | (exfalso; omega) | (go_ret; exact ⟨ret_int (by first | rfl | simp [ha]), rfl⟩)
    · have ha := h1 (by omega)
      subst ha
      by_cases hb : b = 0
      · subst hb
        go_wp2_with fail
        go_roundg (gk - 1)
        case measure => omega
        case rel => exact ⟨2, by omega, by omega, by go_num, fun _ => by trivial, fun _ => by trivial, rfl⟩
      · go_wp2_with fail
        all_goals first | (exfalso; omega) | (go_ret; exact ⟨ret_int (by simp), rfl⟩)
    · have ha := h1 (by omega)
      have hb := h2 (by omega)
      subst ha hb
      go_wp2_with fail
      go_ret
      exact ⟨ret_int (by simp), rfl⟩
set_option maxHeartbeats 1600000 in
set_option maxRecDepth 100000 in
theorem compare_any (a b : Pt) (w : World) : Calls Tryz.prog 82 #[a.val, b.val] w fun e w' => e = .returned (.int .i64 (cmpS a b)) ∧ Below w.heap.size w w' := by
  have v1 := fun w => bel (cmp_any a.x b.x w)
  have v2 := fun w => bel (cmp_any a.y b.y w)
  have hr : cmpS a b = if cmpI a.x b.x ≠ 0 then cmpI a.x b.x else cmpI a.y b.y := rfl
  rw [hr]
  generalize cmpI a.x b.x = c1 at *
  generalize cmpI a.y b.y = c2 at *
  have v3 := fun g W h1 h2 => bel (or2_any c1 c2 g W h1 h2)
  generalize (if c1 ≠ 0 then c1 else c2) = R at *
  have H1 := Lib.hid v1
  have H2 := Lib.hid v2
  have H3 := Lib.hid v3
  clear v1 v2 v3 hr
  go_enter Tryz.func82, Tryz.ntmps82
  go_upto_region 1 with fail
  have hBz : Below w.heap.size w ((w.alloc (.cells #[.int .i64 a.x, .int .i64 a.y] 23)).alloc (.cells #[.int .i64 b.x, .int .i64 b.y] 23)) := by go_grown
  have x0 : ((w.alloc (.cells #[.int .i64 a.x, .int .i64 a.y] 23)).alloc (.cells #[.int .i64 b.x, .int .i64 b.y] 23)).cell? ⟨w.heap.size, 0, none⟩ = some (.int .i64 a.x) := by go_cell
  have x1 : ((w.alloc (.cells #[.int .i64 a.x, .int .i64 a.y] 23)).alloc (.cells #[.int .i64 b.x, .int .i64 b.y] 23)).cell? ⟨w.heap.size, 1, none⟩ = some (.int .i64 a.y) := by go_cell
  have x2 : ((w.alloc (.cells #[.int .i64 a.x, .int .i64 a.y] 23)).alloc (.cells #[.int .i64 b.x, .int .i64 b.y] 23)).cell? ⟨w.heap.size + 1, 0, none⟩ = some (.int .i64 b.x) := by go_cell
  have x3 : ((w.alloc (.cells #[.int .i64 a.x, .int .i64 a.y] 23)).alloc (.cells #[.int .i64 b.x, .int .i64 b.y] 23)).cell? ⟨w.heap.size + 1, 1, none⟩ = some (.int .i64 b.y) := by go_cell
  have hzs : w.heap.size + 1 < ((w.alloc (.cells #[.int .i64 a.x, .int .i64 a.y] 23)).alloc (.cells #[.int .i64 b.x, .int .i64 b.y] 23)).heap.size := by simp
  generalize ((w.alloc (.cells #[.int .i64 a.x, .int .i64 a.y] 23)).alloc (.cells #[.int .i64 b.x, .int .i64 b.y] 23)) = z at *
  have HSZ := Lib.hid (show ∀ w', Below z.heap.size z w' → Below z.heap.size z w' ∧ w'.cell? ⟨w.heap.size, 0, none⟩ = some (.int .i64 a.x) ∧ w'.cell? ⟨w.heap.size, 1, none⟩ = some (.int .i64 a.y) ∧ w'.cell? ⟨w.heap.size + 1, 0, none⟩ = some (.int .i64 b.x) ∧ w'.cell? ⟨w.heap.size + 1, 1, none⟩ = some (.int .i64 b.y) from fun w' h9 => ⟨h9, (h9.cell (p := ⟨w.heap.size, 0, none⟩) (by simp only; omega)).trans x0, (h9.cell (p := ⟨w.heap.size, 1, none⟩) (by simp only; omega)).trans x1, (h9.cell (p := ⟨w.heap.size + 1, 0, none⟩) (by simp only; omega)).trans x2, (h9.cell (p := ⟨w.heap.size + 1, 1, none⟩) (by simp only; omega)).trans x3⟩)
  go_region_held3 (fun w' => Below z.heap.size z w' ∧ w'.cell? ⟨w.heap.size, 0, none⟩ = some (.int .i64 a.x) ∧ w'.cell? ⟨w.heap.size, 1, none⟩ = some (.int .i64 a.y) ∧ w'.cell? ⟨w.heap.size + 1, 0, none⟩ = some (.int .i64 b.x) ∧ w'.cell? ⟨w.heap.size + 1, 1, none⟩ = some (.int .i64 b.y))
    ((refine HSZ.out _ ?_; (first | (with_reducible assumption) | (go_grown; done) | (exact Below.drew (by go_grown)))))
    (first | ((go_split_ands; (with_reducible refine (H1.out _).mono ?_); rintro e w1 ⟨rfl, hb_w1⟩; have hB_w1 : Below z.heap.size z w1 := below_after (by assumption) hb_w1; have hz_w1 := hB_w1.size)) | ((go_split_ands; (with_reducible refine (H2.out _).mono ?_); rintro e w2 ⟨rfl, hb_w2⟩; have hB_w2 : Below z.heap.size z w2 := below_after (by assumption) hb_w2; have hz_w2 := hB_w2.size)) | ((go_split_ands; (with_reducible refine (H3.out _ _ (by go_cell) (by go_cell)).mono ?_); rintro e w3 ⟨rfl, hb_w3⟩; have hB_w3 : Below z.heap.size z w3 := below_after (by assumption) hb_w3; have hz_w3 := hB_w3.size)))
  all_goals go_split_ands
  all_goals (go_wp2_with fail)
  all_goals go_ret
  all_goals (refine ⟨rfl, ?_⟩)
  all_goals (first | exact below_after hBz (by assumption) | (exact below_after hBz (by go_grown)) | (exact below_after hBz (Below.drew (by go_grown))))
end Go.Proofs.YtnhdnkeiijiiaaaGreat
namespace Go.Proofs.YtnhdnkeiijiiaaaGreat
open Go.RowKit
set_option linter.unusedSimpArgs false
set_option linter.unusedVariables false
attribute [local go_sem ↓] Go.wp_at_zero Go.wp_at_succ
theorem mul_bd {a b A B : Int} (h1 : -A ≤ a) (h2 : a ≤ A) (h3 : -B ≤ b) (h4 : b ≤ B) : -(A * B) ≤ a * b ∧ a * b ≤ A * B := by
  have e1 : 0 ≤ (A - a) * (B + b) := Int.mul_nonneg (by omega) (by omega)
  have e2 : 0 ≤ (A + a) * (B - b) := Int.mul_nonneg (by omega) (by omega)
  have e3 : 0 ≤ (A - a) * (B - b) := Int.mul_nonneg (by omega) (by omega)
  have e4 : 0 ≤ (A + a) * (B + b) := Int.mul_nonneg (by omega) (by omega)
  constructor <;> grind
def sqS (a b : Pt) : Int := (a.x - b.x) * (a.x - b.x) + (a.y - b.y) * (a.y - b.y)
def crS (a b : Pt) : Int := a.x * b.y - a.y * b.x
def distB (lo hi : Int) : Bool := decide (0 ≤ lo) && decide (lo ≤ hi) && decide (hi ≤ 100000)
def lessB (a b : Pt) : Bool := decide (a.x < b.x) || decide (a.x = b.x) && decide (a.y < b.y)
def betwB (a b x : Pt) : Bool := decide (min a.x b.x ≤ x.x) && decide (x.x ≤ max a.x b.x) && decide (min a.y b.y ≤ x.y) && decide (x.y ≤ max a.y b.y)
def raysB (a n : Int) : Bool := decide (0 ≤ a) && decide (a < 64) && decide (0 ≤ n) && decide (n < 32)
def crossesB (s t : Int) : Bool := decide (s < 0) && decide (0 < t) || decide (0 < s) && decide (t < 0)
def wideB (n : Int) : Bool := decide (-1000000000000 ≤ n) && decide (n ≤ 1000000000000)
def flS (a b : Int) : Int := if a.tmod b ≠ 0 ∧ (decide (a < 0) != decide (b < 0)) = true then a.tdiv b - 1 else a.tdiv b
/-- a half-plane -/
structure Hf where
  a : Int
  b : Int
  c : Int
deriving DecidableEq, Inhabited
abbrev Hf.val (h : Hf) : Value := .agg #[.int .i64 h.a, .int .i64 h.b, .int .i64 h.c]
def hfB (h : Hf) : Bool := decide (-1000000 ≤ h.a) && decide (h.a ≤ 1000000) && decide (-1000000 ≤ h.b) && decide (h.b ≤ 1000000) && decide (-1000000000000 ≤ h.c) && decide (h.c ≤ 1000000000000) && (decide (h.a ≠ 0) || decide (h.b ≠ 0))
def overS (h : Hf) (x : Pt) : Int := h.a * x.x + h.b * x.y - h.c
set_option maxHeartbeats 1600000 in
set_option maxRecDepth 100000 in
theorem RDist_any (lo hi : Int) (w : World) : Calls Tryz.prog 33 #[.agg #[.int .i64 lo, .int .i64 hi]] w fun e w' => e = .returned (.bool (distB lo hi)) ∧ Below w.heap.size w w' := by
  go_enter Tryz.func33, Tryz.ntmps33
  go_wp2_with fail
  all_goals
    go_ret
    refine ⟨ret_bool ?_, by go_grown⟩
    simp [distB, *] <;> try omega
set_option maxHeartbeats 1600000 in
set_option maxRecDepth 100000 in
theorem areRays_any (a n : Int) (w : World) : Calls Tryz.prog 60 #[.int .i64 a, .int .i64 n] w fun e w' => e = .returned (.bool (raysB a n)) ∧ Below w.heap.size w w' := by
  go_enter Tryz.func60, Tryz.ntmps60
  go_wp2_with fail
  all_goals
    go_ret
    refine ⟨ret_bool ?_, by go_grown⟩
    simp [raysB, *] <;> try omega
set_option maxHeartbeats 1600000 in
set_option maxRecDepth 100000 in
theorem RLess_any (a b : Pt) (w : World) : Calls Tryz.prog 110 #[a.val, b.val] w fun e w' => e = .returned (.bool (lessB a b)) ∧ Below w.heap.size w w' := by
  go_enter Tryz.func110, Tryz.ntmps110
  go_wp2_with fail
  all_goals
    go_ret
    refine ⟨ret_bool ?_, by go_grown⟩
    simp [lessB, *] <;> try omega
set_option maxHeartbeats 1600000 in
set_option maxRecDepth 100000 in
theorem Rbetween_any (a b x : Pt) (w : World) : Calls Tryz.prog 67 #[a.val, b.val, x.val] w fun e w' => e = .returned (.bool (betwB a b x)) ∧ Below w.heap.size w w' := by
  go_enter Tryz.func67, Tryz.ntmps67
  go_wp2_with fail
  all_goals
    go_ret
    refine ⟨ret_bool ?_, by go_grown⟩
    simp only [betwB]; rw [Bool.eq_iff_iff]; simp only [Bool.and_eq_true, decide_eq_true_eq, Bool.true_eq_false, Bool.false_eq_true, iff_true, iff_false, false_iff, true_iff]; omega
set_option maxHeartbeats 1600000 in
set_option maxRecDepth 100000 in
theorem crosses_any (s t : Int) (w : World) : Calls Tryz.prog 115 #[.int .i64 s, .int .i64 t] w fun e w' => e = .returned (.bool (crossesB s t)) ∧ Below w.heap.size w w' := by
  go_enter Tryz.func115, Tryz.ntmps115
  go_wp2_with fail
  all_goals
    go_ret
    refine ⟨ret_bool ?_, by go_grown⟩
    simp [crossesB, *] <;> try omega
set_option maxHeartbeats 1600000 in
set_option maxRecDepth 100000 in
theorem isWide_any (n : Int) (w : World) : Calls Tryz.prog 138 #[.int .i64 n] w fun e w' => e = .returned (.bool (wideB n)) ∧ Below w.heap.size w w' := by
  go_enter Tryz.func138, Tryz.ntmps138
  go_wp2_with fail
  all_goals
    go_ret
    refine ⟨ret_bool ?_, by go_grown⟩
    simp [wideB, *] <;> try omega
set_option maxHeartbeats 1600000 in
set_option maxRecDepth 100000 in
theorem RSquare_any (a b : Pt) (w : World) (ha : Nr a) (hb : Nr b) : Calls Tryz.prog 14 #[a.val, b.val] w fun e w' => e = .returned (.int .i64 (sqS a b)) ∧ Below w.heap.size w w' := by
  unfold Nr at ha hb
  have p1 := prod_nr (a := a.x - b.x) (b := a.x - b.x) (by omega) (by omega) (by omega) (by omega)
  have p2 := prod_nr (a := a.y - b.y) (b := a.y - b.y) (by omega) (by omega) (by omega) (by omega)
  rw [show sqS a b = (a.x - b.x) * (a.x - b.x) + (a.y - b.y) * (a.y - b.y) from rfl]
  generalize hp1 : (a.x - b.x) * (a.x - b.x) = P1 at *
  generalize hp2 : (a.y - b.y) * (a.y - b.y) = P2 at *
  go_enter Tryz.func14, Tryz.ntmps14
  go_wp2_with fail
  go_ret
  exact ⟨rfl, by go_grown⟩
set_option maxHeartbeats 1600000 in
set_option maxRecDepth 100000 in
theorem RCross9_any (a b : Pt) (w : World) (ha : Nr a) (hb : Nr b) : Calls Tryz.prog 64 #[a.val, b.val] w fun e w' => e = .returned (.int .i64 (crS a b)) ∧ Below w.heap.size w w' := by
  unfold Nr at ha hb
  have p1 := prod_nr (a := a.x) (b := b.y) (by omega) (by omega) (by omega) (by omega)
  have p2 := prod_nr (a := a.y) (b := b.x) (by omega) (by omega) (by omega) (by omega)
  rw [show crS a b = a.x * b.y - a.y * b.x from rfl]
  generalize hp1 : a.x * b.y = P1 at *
  generalize hp2 : a.y * b.x = P2 at *
  go_enter Tryz.func64, Tryz.ntmps64
  go_wp2_with fail
  go_ret
  exact ⟨rfl, by go_grown⟩
set_option maxHeartbeats 1600000 in
set_option maxRecDepth 100000 in
theorem RWithin_any (a b : Pt) (lo hi : Int) (w : World) (ha : Nr a) (hb : Nr b) (h1 : 0 ≤ lo) (h2 : lo ≤ 100000) (h3 : 0 ≤ hi) (h4 : hi ≤ 100000) : Calls Tryz.prog 11 #[a.val, b.val, .agg #[.int .i64 lo, .int .i64 hi]] w fun e w' => e = .returned (.bool (decide (lo * lo ≤ sqS a b) && decide (sqS a b ≤ hi * hi))) ∧ Below w.heap.size w w' := by
  have v := fun W => RSquare_any a b W ha hb
  generalize sqS a b = Q at *
  have p1 := prod_nr (a := lo) (b := lo) (by omega) (by omega) (by omega) (by omega)
  have p2 := prod_nr (a := hi) (b := hi) (by omega) (by omega) (by omega) (by omega)
  generalize hp1 : lo * lo = P1 at *
  generalize hp2 : hi * hi = P2 at *
  have H := Lib.hid v
  clear v
  go_enter Tryz.func11, Tryz.ntmps11
  go_wp2_with fail
  refine (H.out _).mono ?_
  rintro e w1 ⟨rfl, hb1⟩
  have hB1 : Below w.heap.size w w1 := below_after (by go_grown) hb1
  have c0 : w1.cell? ⟨w.heap.size + 1 + 1, 0, none⟩ = some (.int .i64 lo) := kp hb1 (by go_cell)
  have c1 : w1.cell? ⟨w.heap.size + 1 + 1, 1, none⟩ = some (.int .i64 hi) := kp hb1 (by go_cell)
  clear hb1
  go_wp2_with fail
  all_goals
    go_ret
    refine ⟨ret_bool ?_, by go_grown⟩
    simp [*] <;> try omega
set_option maxHeartbeats 1600000 in
set_option maxRecDepth 100000 in
theorem RTurned_any (a : Pt) (w : World) (ha : Nr a) : Calls Tryz.prog 89 #[a.val] w fun e w' => e = .returned (.agg #[.int .i64 (-a.y), .int .i64 a.x]) ∧ Below w.heap.size w w' := by
  unfold Nr at ha
  go_enter Tryz.func89, Tryz.ntmps89
  go_wp2_with fail
  refine ret_span1 rfl rfl rfl ⟨by go_cell, by go_cell⟩ ⟨rfl, by go_grown⟩
set_option maxHeartbeats 1600000 in
set_option maxRecDepth 100000 in
theorem small_any (n m : Int) (hm : 0 ≤ m) (hm2 : m ≤ 9223372036854775807) (w : World) : Calls Tryz.prog 133 #[.int .i64 n, .int .i64 m] w fun e w' => e = .returned (.bool (decide (-m ≤ n) && decide (n ≤ m))) ∧ Below w.heap.size w w' := by
  go_enter Tryz.func133, Tryz.ntmps133
  go_wp2_with fail
  all_goals
    go_ret
    refine ⟨ret_bool ?_, by go_grown⟩
    simp [*] <;> try omega
set_option maxHeartbeats 1600000 in
set_option maxRecDepth 100000 in
theorem over_any (h : Hf) (x : Pt) (w : World) (hh : hfB h = true) (hx : Nr x) : Calls Tryz.prog 114 #[h.val, x.val] w fun e w' => e = .returned (.int .i64 (overS h x)) ∧ Below w.heap.size w w' := by
  unfold Nr at hx
  simp only [hfB, Bool.and_eq_true, decide_eq_true_eq] at hh
  have p1 := mul_bd (a := h.a) (b := x.x) (A := 1000000) (B := 4000000) (by omega) (by omega) (by omega) (by omega)
  have p2 := mul_bd (a := h.b) (b := x.y) (A := 1000000) (B := 4000000) (by omega) (by omega) (by omega) (by omega)
  rw [show overS h x = h.a * x.x + h.b * x.y - h.c from rfl]
  have hc1 := hh.1.1.2
  have hc2 := hh.1.2
  clear hh
  generalize hp1 : h.a * x.x = P1 at *
  generalize hp2 : h.b * x.y = P2 at *
  go_enter Tryz.func114, Tryz.ntmps114
  go_wp2_with fail
  go_ret
  exact ⟨rfl, by go_grown⟩
set_option maxHeartbeats 1600000 in
set_option maxRecDepth 100000 in
theorem floor_any (a b : Int) (w : World) (hb0 : b ≠ 0) (h1 : -9000000000000000000 ≤ a) (h2 : a ≤ 9000000000000000000) (hb : I64 b) : Calls Tryz.prog 135 #[.int .i64 a, .int .i64 b] w fun e w' => e = .returned (.int .i64 (flS a b)) ∧ Below w.heap.size w w' := by
  have hq : -9000000000000000000 ≤ a.tdiv b ∧ a.tdiv b ≤ 9000000000000000000 := by
    have h9 : (a.tdiv b).natAbs ≤ a.natAbs := by rw [Int.natAbs_tdiv]; exact Nat.div_le_self _ _
    omega
  unfold I64 at hb
  have hr : -9223372036854775808 ≤ a.tmod b ∧ a.tmod b ≤ 9223372036854775807 := by
    have h9 : (a.tmod b).natAbs ≤ a.natAbs := by rw [Int.natAbs_tmod]; exact Nat.mod_le _ _
    omega
  rw [show flS a b = if a.tmod b ≠ 0 ∧ (decide (a < 0) != decide (b < 0)) = true then a.tdiv b - 1 else a.tdiv b from rfl]
  generalize hpq : a.tdiv b = q at *
  generalize hpr : a.tmod b = r at *
  by_cases e1 : r = 0 <;> by_cases e2 : a < 0 <;> by_cases e3 : b < 0 <;> simp only [e1, e2, e3, ne_eq, not_true_eq_false, not_false_eq_true, decide_true, decide_false, bne_self_eq_false, true_and, false_and, if_true, if_false, Bool.false_eq_true, Bool.bne_true, Bool.bne_false, Bool.not_false, Bool.true_bne, Bool.false_bne, Bool.not_true]
  all_goals
    go_enter Tryz.func135, Tryz.ntmps135
    go_wp2_with fail
    go_ret
    exact ⟨rfl, by go_grown⟩
end Go.Proofs.YtnhdnkeiijiiaaaGreat
namespace Go.Proofs.YtnhdnkeiijiiaaaGreat
open Go.RowKit
set_option linter.unusedSimpArgs false
set_option linter.unusedVariables false
attribute [local go_sem ↓] Go.wp_at_zero Go.wp_at_succ
theorem ret_p149 {R : Ending → World → Prop} {fn : Func} {p : Tmp} {a : Act} {w : World} {B : Nat} {lo hi : Int} (hres : fn.results = #[.cell p 149]) (hd : a.defers = [])
    (hp : a.tmps.getD p undef = .pointer (some ⟨B, 0, none⟩)) (c : w.cell? ⟨B, 0, none⟩ = some (.int .i64 lo) ∧ w.cell? ⟨B, 1, none⟩ = some (.int .i64 hi))
    (hR : R (.returned (.agg #[.int .i64 lo, .int .i64 hi])) w) : bodyPost Tryz.prog fn R .ret a w := by
  refine bodyPost_ret (v := .agg #[.int .i64 lo, .int .i64 hi]) ?_ hd hR
  have hp' : a.tmps[p]?.getD undef = .pointer (some ⟨B, 0, none⟩) := by simpa using hp
  simp only [results, hres]
  simp [Sem.run_bind, Result.andThen, hp', go_sem, c.1, c.2]
set_option maxHeartbeats 1600000 in
set_option maxRecDepth 100000 in
theorem hvalid_any (h : Hf) (w : World) : Calls Tryz.prog 112 #[h.val] w fun e w' => e = .returned (.bool (hfB h)) ∧ Below w.heap.size w w' := by
  have v1 := fun W => small_any h.a 1000000 (by omega) (by omega) W
  have v2 := fun W => small_any h.b 1000000 (by omega) (by omega) W
  have v3 := fun W => small_any h.c 1000000000000 (by omega) (by omega) W
  have hr : hfB h = ((decide (-1000000 ≤ h.a) && decide (h.a ≤ 1000000)) && (decide (-1000000 ≤ h.b) && decide (h.b ≤ 1000000)) && (decide (-1000000000000 ≤ h.c) && decide (h.c ≤ 1000000000000)) && (decide (h.a ≠ 0) || decide (h.b ≠ 0))) := by simp only [hfB, Bool.and_assoc]
  rw [hr]
  generalize (decide (-1000000 ≤ h.a) && decide (h.a ≤ 1000000)) = s1 at *
  generalize (decide (-1000000 ≤ h.b) && decide (h.b ≤ 1000000)) = s2 at *
  generalize (decide (-1000000000000 ≤ h.c) && decide (h.c ≤ 1000000000000)) = s3 at *
  have H1 := Lib.hid v1
  have H2 := Lib.hid v2
  have H3 := Lib.hid v3
  clear v1 v2 v3 hr
  cases s1
  · go_enter Tryz.func112, Tryz.ntmps112
    go_wp2_with fail
    refine (H1.out _).mono ?_
    rintro e w1 ⟨rfl, hb1⟩
    have hB1 : Below w.heap.size w w1 := below_after (by go_grown) hb1
    have hz1 := hb1.size
    try simp only [World.size_alloc, World.size_setCell, World.size_drew] at hz1
    have hw1 := hB1.size
    have c_h0 : w1.cell? ⟨w.heap.size, 0, none⟩ = some (.int .i64 h.a) := kp hb1 (by go_cell)
    have c_h1 : w1.cell? ⟨w.heap.size, 1, none⟩ = some (.int .i64 h.b) := kp hb1 (by go_cell)
    have c_h2 : w1.cell? ⟨w.heap.size, 2, none⟩ = some (.int .i64 h.c) := kp hb1 (by go_cell)
    clear hb1
    go_wp2_with fail
    all_goals
      go_ret
      refine ⟨ret_bool ?_, by go_grown⟩
      simp [*] <;> first | omega | rfl | (rw [Bool.eq_iff_iff]; simp)
  cases s2
  · go_enter Tryz.func112, Tryz.ntmps112
    go_wp2_with fail
    refine (H1.out _).mono ?_
    rintro e w1 ⟨rfl, hb1⟩
    have hB1 : Below w.heap.size w w1 := below_after (by go_grown) hb1
    have hz1 := hb1.size
    try simp only [World.size_alloc, World.size_setCell, World.size_drew] at hz1
    have hw1 := hB1.size
    have c_h0 : w1.cell? ⟨w.heap.size, 0, none⟩ = some (.int .i64 h.a) := kp hb1 (by go_cell)
    have c_h1 : w1.cell? ⟨w.heap.size, 1, none⟩ = some (.int .i64 h.b) := kp hb1 (by go_cell)
    have c_h2 : w1.cell? ⟨w.heap.size, 2, none⟩ = some (.int .i64 h.c) := kp hb1 (by go_cell)
    clear hb1
    go_wp2_with fail
    refine (H2.out _).mono ?_
    rintro e w2 ⟨rfl, hb2⟩
    have hB2 : Below w.heap.size w w2 := below_after (by go_grown) hb2
    have hz2 := hb2.size
    try simp only [World.size_alloc, World.size_setCell, World.size_drew] at hz2
    have hw2 := hB2.size
    replace c_h0 : w2.cell? ⟨w.heap.size, 0, none⟩ = some (.int .i64 h.a) := kp hb2 (by go_cell)
    replace c_h1 : w2.cell? ⟨w.heap.size, 1, none⟩ = some (.int .i64 h.b) := kp hb2 (by go_cell)
    replace c_h2 : w2.cell? ⟨w.heap.size, 2, none⟩ = some (.int .i64 h.c) := kp hb2 (by go_cell)
    clear hb2 hB1
    go_wp2_with fail
    all_goals
      go_ret
      refine ⟨ret_bool ?_, by go_grown⟩
      simp [*] <;> first | omega | rfl | (rw [Bool.eq_iff_iff]; simp)
  cases s3
  · go_enter Tryz.func112, Tryz.ntmps112
    go_wp2_with fail
    refine (H1.out _).mono ?_
    rintro e w1 ⟨rfl, hb1⟩
    have hB1 : Below w.heap.size w w1 := below_after (by go_grown) hb1
    have hz1 := hb1.size
    try simp only [World.size_alloc, World.size_setCell, World.size_drew] at hz1
    have hw1 := hB1.size
    have c_h0 : w1.cell? ⟨w.heap.size, 0, none⟩ = some (.int .i64 h.a) := kp hb1 (by go_cell)
    have c_h1 : w1.cell? ⟨w.heap.size, 1, none⟩ = some (.int .i64 h.b) := kp hb1 (by go_cell)
    have c_h2 : w1.cell? ⟨w.heap.size, 2, none⟩ = some (.int .i64 h.c) := kp hb1 (by go_cell)
    clear hb1
    go_wp2_with fail
    refine (H2.out _).mono ?_
    rintro e w2 ⟨rfl, hb2⟩
    have hB2 : Below w.heap.size w w2 := below_after (by go_grown) hb2
    have hz2 := hb2.size
    try simp only [World.size_alloc, World.size_setCell, World.size_drew] at hz2
    have hw2 := hB2.size
    replace c_h0 : w2.cell? ⟨w.heap.size, 0, none⟩ = some (.int .i64 h.a) := kp hb2 (by go_cell)
    replace c_h1 : w2.cell? ⟨w.heap.size, 1, none⟩ = some (.int .i64 h.b) := kp hb2 (by go_cell)
    replace c_h2 : w2.cell? ⟨w.heap.size, 2, none⟩ = some (.int .i64 h.c) := kp hb2 (by go_cell)
    clear hb2 hB1
    go_wp2_with fail
    refine (H3.out _).mono ?_
    rintro e w3 ⟨rfl, hb3⟩
    have hB3 : Below w.heap.size w w3 := below_after (by go_grown) hb3
    have hz3 := hb3.size
    try simp only [World.size_alloc, World.size_setCell, World.size_drew] at hz3
    have hw3 := hB3.size
    replace c_h0 : w3.cell? ⟨w.heap.size, 0, none⟩ = some (.int .i64 h.a) := kp hb3 (by go_cell)
    replace c_h1 : w3.cell? ⟨w.heap.size, 1, none⟩ = some (.int .i64 h.b) := kp hb3 (by go_cell)
    replace c_h2 : w3.cell? ⟨w.heap.size, 2, none⟩ = some (.int .i64 h.c) := kp hb3 (by go_cell)
    clear hb3 hB2
    go_wp2_with fail
    all_goals
      go_ret
      refine ⟨ret_bool ?_, by go_grown⟩
      simp [*] <;> first | omega | rfl | (rw [Bool.eq_iff_iff]; simp)
  · go_enter Tryz.func112, Tryz.ntmps112
    go_wp2_with fail
    refine (H1.out _).mono ?_
    rintro e w1 ⟨rfl, hb1⟩
    have hB1 : Below w.heap.size w w1 := below_after (by go_grown) hb1
    have hz1 := hb1.size
    try simp only [World.size_alloc, World.size_setCell, World.size_drew] at hz1
    have hw1 := hB1.size
    have c_h0 : w1.cell? ⟨w.heap.size, 0, none⟩ = some (.int .i64 h.a) := kp hb1 (by go_cell)
    have c_h1 : w1.cell? ⟨w.heap.size, 1, none⟩ = some (.int .i64 h.b) := kp hb1 (by go_cell)
    have c_h2 : w1.cell? ⟨w.heap.size, 2, none⟩ = some (.int .i64 h.c) := kp hb1 (by go_cell)
    clear hb1
    go_wp2_with fail
    refine (H2.out _).mono ?_
    rintro e w2 ⟨rfl, hb2⟩
    have hB2 : Below w.heap.size w w2 := below_after (by go_grown) hb2
    have hz2 := hb2.size
    try simp only [World.size_alloc, World.size_setCell, World.size_drew] at hz2
    have hw2 := hB2.size
    replace c_h0 : w2.cell? ⟨w.heap.size, 0, none⟩ = some (.int .i64 h.a) := kp hb2 (by go_cell)
    replace c_h1 : w2.cell? ⟨w.heap.size, 1, none⟩ = some (.int .i64 h.b) := kp hb2 (by go_cell)
    replace c_h2 : w2.cell? ⟨w.heap.size, 2, none⟩ = some (.int .i64 h.c) := kp hb2 (by go_cell)
    clear hb2 hB1
    go_wp2_with fail
    refine (H3.out _).mono ?_
    rintro e w3 ⟨rfl, hb3⟩
    have hB3 : Below w.heap.size w w3 := below_after (by go_grown) hb3
    have hz3 := hb3.size
    try simp only [World.size_alloc, World.size_setCell, World.size_drew] at hz3
    have hw3 := hB3.size
    replace c_h0 : w3.cell? ⟨w.heap.size, 0, none⟩ = some (.int .i64 h.a) := kp hb3 (by go_cell)
    replace c_h1 : w3.cell? ⟨w.heap.size, 1, none⟩ = some (.int .i64 h.b) := kp hb3 (by go_cell)
    replace c_h2 : w3.cell? ⟨w.heap.size, 2, none⟩ = some (.int .i64 h.c) := kp hb3 (by go_cell)
    clear hb3 hB2
    go_wp2_with fail
    all_goals
      go_ret
      refine ⟨ret_bool ?_, by go_grown⟩
      simp [*] <;> first | omega | rfl | (rw [Bool.eq_iff_iff]; simp)
def dvS (a b : Int) : Int × Int := if a.tmod b ≠ 0 ∧ (decide (a.tmod b < 0) != decide (b < 0)) = true then (a.tdiv b - 1, a.tmod b + b) else (a.tdiv b, a.tmod b)
def upS (a b : Int) : Int := if (dvS a b).2 = 0 then (dvS a b).1 else (dvS a b).1 + 1
set_option maxHeartbeats 1600000 in
set_option maxRecDepth 100000 in
theorem divide_any (a b : Int) (w : World) (hb0 : 0 < b) (hb1 : b ≤ 1000000000000) (h1 : -1000000000000 ≤ a) (h2 : a ≤ 1000000000000) : Calls Tryz.prog 139 #[.int .i64 a, .int .i64 b] w fun e w' => e = .returned (.agg #[.int .i64 (dvS a b).1, .int .i64 (dvS a b).2]) ∧ Below w.heap.size w w' := by
  have hq : -1000000000000 ≤ a.tdiv b ∧ a.tdiv b ≤ 1000000000000 := by
    have h9 : (a.tdiv b).natAbs ≤ a.natAbs := by rw [Int.natAbs_tdiv]; exact Nat.div_le_self _ _
    omega
  have hr : -1000000000000 ≤ a.tmod b ∧ a.tmod b ≤ 1000000000000 := by
    have h9 : (a.tmod b).natAbs ≤ a.natAbs := by rw [Int.natAbs_tmod]; exact Nat.mod_le _ _
    omega
  have hd : dvS a b = if a.tmod b ≠ 0 ∧ (decide (a.tmod b < 0) != decide (b < 0)) = true then (a.tdiv b - 1, a.tmod b + b) else (a.tdiv b, a.tmod b) := rfl
  rw [hd]
  clear hd
  generalize hpq : a.tdiv b = q at *
  generalize hpr : a.tmod b = r at *
  have wq : IntKind.i64.wrap q = q := IntWalk.i64_in _ (by omega)
  have wr : IntKind.i64.wrap r = r := IntWalk.i64_in _ (by omega)
  have hn0 : ¬ (b = 0) := by omega
  have hb2 : ¬ b < 0 := by omega
  by_cases e1 : r < 0
  · have e2 : ¬ r = 0 := by omega
    simp only [e1, e2, hb2, ne_eq, not_false_eq_true, decide_true, decide_false, true_and, if_true, Bool.bne_false]
    go_enter Tryz.func139, Tryz.ntmps139
    go_upto_region 1 with fail
    go_region
    go_wp2_with fail
    refine ret_p149 rfl rfl rfl ⟨by go_cell, by go_cell⟩ ⟨rfl, by go_grown⟩
  · by_cases e2 : r = 0
    · subst e2
      simp only [ne_eq, not_true_eq_false, false_and, if_false]
      go_enter Tryz.func139, Tryz.ntmps139
      go_upto_region 1 with fail
      go_region
      go_wp2_with fail
      refine ret_p149 rfl rfl rfl ⟨by go_cell, by go_cell⟩ ⟨rfl, by go_grown⟩
    · simp only [e1, e2, hb2, ne_eq, not_false_eq_true, decide_true, decide_false, true_and, if_true, bne_self_eq_false, Bool.false_eq_true, if_false]
      go_enter Tryz.func139, Tryz.ntmps139
      go_upto_region 1 with fail
      go_region
      go_wp2_with fail
      refine ret_p149 rfl rfl rfl ⟨by go_cell, by go_cell⟩ ⟨rfl, by go_grown⟩
set_option maxHeartbeats 1600000 in
set_option maxRecDepth 100000 in
theorem up_any (q r : Int) (w : World) (h1 : -1000000000001 ≤ q) (h2 : q ≤ 1000000000000) : Calls Tryz.prog 124 #[.agg #[.int .i64 q, .int .i64 r]] w fun e w' => e = .returned (.int .i64 (if r = 0 then q else q + 1)) ∧ Below w.heap.size w w' := by
  by_cases e : r = 0
  · subst e
    go_enter Tryz.func124, Tryz.ntmps124
    go_wp2_with fail
    go_ret
    exact ⟨ret_int (by simp), by go_grown⟩
  · simp only [e, if_false]
    go_enter Tryz.func124, Tryz.ntmps124
    go_wp2_with fail
    go_ret
    exact ⟨rfl, by go_grown⟩
theorem floor1_any (q r : Int) (w : World) : Calls Tryz.prog 123 #[.agg #[.int .i64 q, .int .i64 r]] w fun e w' => e = .returned (.int .i64 q) ∧ Below w.heap.size w w' := by
  go_enter Tryz.func123, Tryz.ntmps123
  go_wp2_with fail
  go_ret
  exact ⟨rfl, by go_grown⟩
set_option maxHeartbeats 1600000 in
set_option maxRecDepth 100000 in
theorem checked_floor (a b : Int) (w : World) (hb0 : 0 < b) (hb1 : b ≤ 1000000000000) (h1 : -1000000000000 ≤ a) (h2 : a ≤ 1000000000000) : Calls Tryz.prog 122 #[.int .i64 a, .int .i64 b, .func (.func 123) #[] #[]] w fun e w' => e = .returned (.tuple #[.int .i64 (dvS a b).1, .int .i64 0]) ∧ Below w.heap.size w w' := by
  have hq : -1000000000001 ≤ (dvS a b).1 ∧ (dvS a b).1 ≤ 1000000000000 := by
    have h9 : (a.tdiv b).natAbs ≤ a.natAbs := by rw [Int.natAbs_tdiv]; exact Nat.div_le_self _ _
    unfold dvS; split <;> simp only <;> omega
  have v1 := fun W => isWide_any a W
  have v2 := fun W => isWide_any b W
  rw [show wideB a = true by simp [wideB]; omega] at v1
  rw [show wideB b = true by simp [wideB]; omega] at v2
  have v3 := fun W => divide_any a b W hb0 hb1 h1 h2
  have v4 := fun W => floor1_any (dvS a b).1 (dvS a b).2 W
  have hb3 : ¬ b = 0 := by omega
  
  
  generalize (dvS a b).1 = Q at *
  generalize (dvS a b).2 = R at *
  have H1 := Lib.hid v1
  have H2 := Lib.hid v2
  have H3 := Lib.hid v3
  have H4 := Lib.hid v4
  clear v1 v2 v3 v4
  go_enter Tryz.func122, Tryz.ntmps122
  go_wp2_with fail
  refine (H1.out _).mono ?_
  rintro e w1 ⟨rfl, hb1⟩
  have hB1 : Below w.heap.size w w1 := below_after (by go_grown) hb1
  have hz1 := hb1.size
  try simp only [World.size_alloc, World.size_setCell, World.size_drew] at hz1
  have hw1 := hB1.size
  clear hb1
  go_wp2_with fail
  refine (H2.out _).mono ?_
  rintro e w2 ⟨rfl, hb2⟩
  have hB2 : Below w.heap.size w w2 := below_after (by go_grown) hb2
  have hz2 := hb2.size
  try simp only [World.size_alloc, World.size_setCell, World.size_drew] at hz2
  have hw2 := hB2.size
  clear hb2 hB1
  go_wp2_with fail
  refine (H3.out _).mono ?_
  rintro e w3 ⟨rfl, hb3⟩
  have hB3 : Below w.heap.size w w3 := below_after (by go_grown) hb3
  have hz3 := hb3.size
  try simp only [World.size_alloc, World.size_setCell, World.size_drew] at hz3
  have hw3 := hB3.size
  clear hb3 hB2
  go_wp2_with fail
  refine (H4.out _).mono ?_
  rintro e w4 ⟨rfl, hb4⟩
  have hB4 : Below w.heap.size w w4 := below_after (by go_grown) hb4
  have hz4 := hb4.size
  try simp only [World.size_alloc, World.size_setCell, World.size_drew] at hz4
  have hw4 := hB4.size
  clear hb4 hB3
  go_wp2_with fail
  go_ret2
  exact ⟨rfl, by go_grown⟩
set_option maxHeartbeats 1600000 in
set_option maxRecDepth 100000 in
theorem checked_up (a b : Int) (w : World) (hb0 : 0 < b) (hb1 : b ≤ 1000000000000) (h1 : -1000000000000 ≤ a) (h2 : a ≤ 1000000000000) : Calls Tryz.prog 122 #[.int .i64 a, .int .i64 b, .func (.func 124) #[] #[]] w fun e w' => e = .returned (.tuple #[.int .i64 (upS a b), .int .i64 0]) ∧ Below w.heap.size w w' := by
  have hq : -1000000000001 ≤ (dvS a b).1 ∧ (dvS a b).1 ≤ 1000000000000 := by
    have h9 : (a.tdiv b).natAbs ≤ a.natAbs := by rw [Int.natAbs_tdiv]; exact Nat.div_le_self _ _
    unfold dvS; split <;> simp only <;> omega
  have v1 := fun W => isWide_any a W
  have v2 := fun W => isWide_any b W
  rw [show wideB a = true by simp [wideB]; omega] at v1
  rw [show wideB b = true by simp [wideB]; omega] at v2
  have v3 := fun W => divide_any a b W hb0 hb1 h1 h2
  have v4 := fun W => up_any (dvS a b).1 (dvS a b).2 W (by omega) (by omega)
  have hb3 : ¬ b = 0 := by omega
  rw [show upS a b = if (dvS a b).2 = 0 then (dvS a b).1 else (dvS a b).1 + 1 from rfl]
  generalize (if (dvS a b).2 = 0 then (dvS a b).1 else (dvS a b).1 + 1) = V at *
  generalize (dvS a b).1 = Q at *
  generalize (dvS a b).2 = R at *
  have H1 := Lib.hid v1
  have H2 := Lib.hid v2
  have H3 := Lib.hid v3
  have H4 := Lib.hid v4
  clear v1 v2 v3 v4
  go_enter Tryz.func122, Tryz.ntmps122
  go_wp2_with fail
  refine (H1.out _).mono ?_
  rintro e w1 ⟨rfl, hb1⟩
  have hB1 : Below w.heap.size w w1 := below_after (by go_grown) hb1
  have hz1 := hb1.size
  try simp only [World.size_alloc, World.size_setCell, World.size_drew] at hz1
  have hw1 := hB1.size
  clear hb1
  go_wp2_with fail
  refine (H2.out _).mono ?_
  rintro e w2 ⟨rfl, hb2⟩
  have hB2 : Below w.heap.size w w2 := below_after (by go_grown) hb2
  have hz2 := hb2.size
  try simp only [World.size_alloc, World.size_setCell, World.size_drew] at hz2
  have hw2 := hB2.size
  clear hb2 hB1
  go_wp2_with fail
  refine (H3.out _).mono ?_
  rintro e w3 ⟨rfl, hb3⟩
  have hB3 : Below w.heap.size w w3 := below_after (by go_grown) hb3
  have hz3 := hb3.size
  try simp only [World.size_alloc, World.size_setCell, World.size_drew] at hz3
  have hw3 := hB3.size
  clear hb3 hB2
  go_wp2_with fail
  refine (H4.out _).mono ?_
  rintro e w4 ⟨rfl, hb4⟩
  have hB4 : Below w.heap.size w w4 := below_after (by go_grown) hb4
  have hz4 := hb4.size
  try simp only [World.size_alloc, World.size_setCell, World.size_drew] at hz4
  have hw4 := hB4.size
  clear hb4 hB3
  go_wp2_with fail
  go_ret2
  exact ⟨rfl, by go_grown⟩
set_option maxHeartbeats 1600000 in
set_option maxRecDepth 100000 in
theorem eFloor_any (a b : Int) (w : World) (hb0 : 0 < b) (hb1 : b ≤ 1000000000000) (h1 : -1000000000000 ≤ a) (h2 : a ≤ 1000000000000) : Calls Tryz.prog 98 #[.int .i64 a, .int .i64 b] w fun e w' => e = .returned (.tuple #[.int .i64 (dvS a b).1, .int .i64 0]) ∧ Below w.heap.size w w' := by
  have v := checked_floor a b w hb0 hb1 h1 h2
  generalize (dvS a b).1 = V at *
  have H1 := Lib.hid v
  clear v
  go_enter Tryz.func98, Tryz.ntmps98
  go_wp2_with fail
  refine (H1.out).mono ?_
  rintro e w1 ⟨rfl, hb1⟩
  have hB1 : Below w.heap.size w w1 := below_after (by go_grown) hb1
  have hz1 := hb1.size
  try simp only [World.size_alloc, World.size_setCell, World.size_drew] at hz1
  have hw1 := hB1.size
  clear hb1
  go_wp2_with fail
  go_ret2
  exact ⟨rfl, by go_grown⟩
set_option maxHeartbeats 1600000 in
set_option maxRecDepth 100000 in
theorem eCeil_any (a b : Int) (w : World) (hb0 : 0 < b) (hb1 : b ≤ 1000000000000) (h1 : -1000000000000 ≤ a) (h2 : a ≤ 1000000000000) : Calls Tryz.prog 99 #[.int .i64 a, .int .i64 b] w fun e w' => e = .returned (.tuple #[.int .i64 (upS a b), .int .i64 0]) ∧ Below w.heap.size w w' := by
  have v := checked_up a b w hb0 hb1 h1 h2
  generalize (upS a b) = V at *
  have H1 := Lib.hid v
  clear v
  go_enter Tryz.func99, Tryz.ntmps99
  go_wp2_with fail
  refine (H1.out).mono ?_
  rintro e w1 ⟨rfl, hb1⟩
  have hB1 : Below w.heap.size w w1 := below_after (by go_grown) hb1
  have hz1 := hb1.size
  try simp only [World.size_alloc, World.size_setCell, World.size_drew] at hz1
  have hw1 := hB1.size
  clear hb1
  go_wp2_with fail
  go_ret2
  exact ⟨rfl, by go_grown⟩
end Go.Proofs.YtnhdnkeiijiiaaaGreat
