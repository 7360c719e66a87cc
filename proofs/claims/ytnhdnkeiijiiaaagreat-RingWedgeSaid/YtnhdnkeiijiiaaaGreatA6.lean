import Derived.Test.YtnhdnkeiijiiaaaGreatA5
import Derived.Great.BuildSlice
import Derived.Laws.CopyOwn
import Derived.RangeFuncNested
import Derived.RangeFuncBound
import Derived.RangeFuncCalls
import Derived.RangeFuncLeaves
import Derived.RangeFuncBox
import Derived.Shelf.Abstract
import Derived.Shelf.RegionOpen
import Derived.WalkKit
import Derived.OwnWalkIn
import Derived.TacticsInMore
import Derived.LoopNIn
import Derived.LoopIn
import Derived.RegionIn
import Derived.Maps.AppendAt
import Derived.Maps.OwnIn
import Derived.Stop.RegionWithIn
import Derived.Sort.CutIn
import Derived.Deep.LoopGhost
import Derived.Lib.AppendZeros
namespace Go.Proofs.YtnhdnkeiijiiaaaGreat
open Go.RowKit Go.Shelf
set_option linter.unusedSimpArgs false
set_option linter.unusedVariables false
attribute [local go_sem ↓] Go.wp_at_zero Go.wp_at_succ
def firstC : Array Value := #[.int .i64 1000, .int .i64 0, .int .i64 995, .int .i64 98, .int .i64 981, .int .i64 195, .int .i64 957, .int .i64 290, .int .i64 924, .int .i64 383, .int .i64 882, .int .i64 471, .int .i64 831, .int .i64 556, .int .i64 773, .int .i64 634, .int .i64 707, .int .i64 707, .int .i64 634, .int .i64 773, .int .i64 556, .int .i64 831, .int .i64 471, .int .i64 882, .int .i64 383, .int .i64 924, .int .i64 290, .int .i64 957, .int .i64 195, .int .i64 981, .int .i64 98, .int .i64 995]
/-- the rays of the first quarter -/
def firstS : List Pt := [⟨1000, 0⟩, ⟨995, 98⟩, ⟨981, 195⟩, ⟨957, 290⟩, ⟨924, 383⟩, ⟨882, 471⟩, ⟨831, 556⟩, ⟨773, 634⟩, ⟨707, 707⟩, ⟨634, 773⟩, ⟨556, 831⟩, ⟨471, 882⟩, ⟨383, 924⟩, ⟨290, 957⟩, ⟨195, 981⟩, ⟨98, 995⟩]
def atS (k : Nat) : Pt := leftS (firstS.getD (k % 16) default) (k / 16 % 4)
theorem firstS_nr : ∀ m, m < 16 → 0 ≤ (firstS.getD m default).x ∧ (firstS.getD m default).x ≤ 1000 ∧ 0 ≤ (firstS.getD m default).y ∧ (firstS.getD m default).y ≤ 1000 := by decide
theorem firstC_at : ∀ m, m < 16 → firstC[m * 2]? = some (.int .i64 (firstS.getD m default).x) ∧ firstC[m * 2 + 1]? = some (.int .i64 (firstS.getD m default).y) := by
  intro m h
  have h' : m = 0 ∨ m = 1 ∨ m = 2 ∨ m = 3 ∨ m = 4 ∨ m = 5 ∨ m = 6 ∨ m = 7 ∨ m = 8 ∨ m = 9 ∨ m = 10 ∨ m = 11 ∨ m = 12 ∨ m = 13 ∨ m = 14 ∨ m = 15 := by omega
  rcases h' with rfl | rfl | rfl | rfl | rfl | rfl | rfl | rfl | rfl | rfl | rfl | rfl | rfl | rfl | rfl | rfl <;> exact ⟨rfl, rfl⟩
set_option maxHeartbeats 1600000 in
set_option maxRecDepth 100000 in
theorem rat_any (k : Nat) (w : World) (hk : k ≤ 1000) :
    Calls Tryz.prog 61 #[.int .i64 k] w fun e w' => e = .returned (atS k).val ∧ Below w.heap.size w w' := by
  have hm : (k : Int).tmod 16 = ((k % 16 : Nat) : Int) := by rw [Int.tmod_eq_emod_of_nonneg (by omega)]; omega
  have hd : (k : Int).tdiv 16 = ((k / 16 : Nat) : Int) := by rw [Int.tdiv_eq_ediv_of_nonneg (by omega)]; omega
  have hm16 : k % 16 < 16 := Nat.mod_lt _ (by omega)
  have hd4 : k / 16 ≤ 1000 := by omega
  have hat : atS k = leftS (firstS.getD (k % 16) default) (k / 16 % 4) := rfl
  have HA := Lib.hid hat
  clear hat
  generalize k % 16 = m at *
  generalize k / 16 = d at *
  go_enter Tryz.func61, Tryz.ntmps61
  go_upto_region 2 with (first
    | (refine wpList_buildTo (o := ⟨some 20, _, _, _, _, _⟩) rfl 121 _ rfl (some 20) rfl firstC (by kernel_rfl) ?_)
    | (refine wpList_store_rowTo (o := ⟨none, .store 121 _ _, _, _, _, _⟩) rfl 121 _ _ rfl rfl (w.heap.size + 1) firstC rfl rfl 121 (List.replicate 32 (Value.int .i64 0)).toArray ?c1 (by kernel_rfl) (by kernel_rfl) (by kernel_rfl) ?_))
  case c1 => exact heap_alloc2_new _ _ _
  have hF := firstC_at m hm16
  have hN := firstS_nr m hm16
  generalize firstS.getD m default = f at *
  obtain ⟨W, hW⟩ : ∃ W : World, W = ((w.alloc (Obj.cells #[.int .i64 0, .int .i64 0] 23)).alloc (Obj.cells (List.replicate 32 (Value.int .i64 0)).toArray 121)).setRow (w.heap.size + 1) firstC := ⟨_, rfl⟩
  have hz1 : ((w.alloc (Obj.cells #[.int .i64 0, .int .i64 0] 23)).alloc (Obj.cells (List.replicate 32 (Value.int .i64 0)).toArray 121)).heap[w.heap.size + 1]? = some (Obj.cells (List.replicate 32 (Value.int .i64 0)).toArray 121) := heap_alloc2_new _ _ _
  have hz0 : ((w.alloc (Obj.cells #[.int .i64 0, .int .i64 0] 23)).alloc (Obj.cells (List.replicate 32 (Value.int .i64 0)).toArray 121)).heap[w.heap.size]? = some (Obj.cells #[.int .i64 0, .int .i64 0] 23) := heap_alloc2_old _ _ _
  have hB : Below w.heap.size w W := by
    rw [hW]
    exact below_setRow (((Below.refl _ _).alloc (Nat.le_refl _) _).alloc (by simp) _) (by omega) _
  have hsz : W.heap.size = w.heap.size + 2 := by rw [hW]; simp
  have hr0 : W.heap[w.heap.size]? = some (Obj.cells #[.int .i64 0, .int .i64 0] 23) := by rw [hW, setRow_other _ _ _ _ (by omega)]; exact hz0
  have hr1 : W.heap[w.heap.size + 1]? = some (.cells firstC 121 (0, 0)) := by rw [hW]; exact setRow_heap _ _ _ _ _ _ hz1
  have hx : W.cell? ⟨w.heap.size + 1, m * 2, none⟩ = some (.int .i64 f.x) := by rw [cell_of_row _ _ _ _ _ _ hr1]; exact hF.1
  have hy : W.cell? ⟨w.heap.size + 1, m * 2 + 1, none⟩ = some (.int .i64 f.y) := by rw [cell_of_row _ _ _ _ _ _ hr1]; exact hF.2
  have h0 : W.cell? ⟨w.heap.size, 0, none⟩ = some (.int .i64 0) := by rw [cell_of_row _ _ _ _ _ _ hr0]; rfl
  have h1 : W.cell? ⟨w.heap.size, 1, none⟩ = some (.int .i64 0) := by rw [cell_of_row _ _ _ _ _ _ hr0]; rfl
  have f0 : W.frozen? ⟨w.heap.size, 0, none⟩ = false := frozen_of_row _ _ _ _ _ hr0
  have f1 : W.frozen? ⟨w.heap.size, 1, none⟩ = false := frozen_of_row _ _ _ _ _ hr0
  have hz := hsz
  have HZ := Lib.hid hsz
  clear hF hr1 hr0 hz1 hz0 hsz hz
  change Code.wp _ _ _ _ (((w.alloc (Obj.cells #[.int .i64 0, .int .i64 0] 23)).alloc (Obj.cells (List.replicate 32 (Value.int .i64 0)).toArray 121)).setRow (w.heap.size + 1) firstC)
  rw [← hW]
  clear hW
  obtain ⟨fx, fy⟩ := f
  dsimp only at hN hx hy HA
  have hlt : w.heap.size + 1 < W.heap.size := by rw [HZ.out]; omega
  have hm16' : (m : Int) < 16 := by omega
  go_wp2_with fail
  refine (left_any ⟨fx, fy⟩ d _ (by dsimp only; omega) hd4).mono ?_
  rintro e w' ⟨rfl, hb⟩
  generalize leftS ⟨fx, fy⟩ (d % 4) = L at *
  have k0 := kf hb (by rw [h0]; rfl) f0
  have k1 := kf hb (by rw [h1]; rfl) f1
  replace h0 := kp hb h0
  replace h1 := kp hb h1
  have hlt' := hb.size
  have hfin : Below w.heap.size w w' := hB.trans (hb.mono (by rw [HZ.out]; omega))
  clear hx hy hb hB
  go_wp2_with fail
  refine ret_span1 rfl rfl rfl (set2s _ _ (by rw [h0]; rfl) (by rw [h1]; rfl)) ⟨by rw [HA.out], by go_grown⟩
end Go.Proofs.YtnhdnkeiijiiaaaGreat
namespace Go.Proofs.YtnhdnkeiijiiaaaGreat
open Go.RowKit Go.Shelf
set_option linter.unusedSimpArgs false
set_option linter.unusedVariables false
attribute [local go_sem] Oper.semAt_some

/-- whatever is a cell of a number lies as it lay -/
def Keep3 (W W' : World) : Prop := ∀ (k : Nat) (cs : Array Value) (z : Nat × Nat), W.heap[k]? = some (Obj.cells cs 3 z) → W'.heap[k]? = some (Obj.cells cs 3 z)
theorem Keep3.refl (W : World) : Keep3 W W := fun _ _ _ h => h
theorem Keep3.trans {A B C : World} (h : Keep3 A B) (k : Keep3 B C) : Keep3 A C := fun i cs z e => k i cs z (h i cs z e)
theorem Keep3.below {W W' : World} (h : Below W.heap.size W W') : Keep3 W W' := fun k cs z e => (h.block k (Array.getElem?_eq_some_iff.1 e).1).trans e
theorem Keep3.grown {W W' : World} {row : Option Nat} (hg : W.grownBy W' row) (hr : ∀ k, row = some k → ∀ (cs : Array Value) (z : Nat × Nat), W.heap[k]? ≠ some (Obj.cells cs 3 z)) : Keep3 W W' := fun k cs z e =>
  (hg.block k (Array.getElem?_eq_some_iff.1 e).1 (fun e' => hr k e'.symm cs z e)).trans e
def Kpn3 (n₀ : Nat) (W W' : World) : Prop := Below n₀ W W' ∧ Keep3 W W'
theorem kpn3_t {n₀ : Nat} {A B C : World} (h : Kpn3 n₀ A B) (k : Kpn3 n₀ B C) : Kpn3 n₀ A C := ⟨h.1.trans k.1, h.2.trans k.2⟩
theorem kpn3_b {n₀ : Nat} {w : World} (hn : n₀ ≤ w.heap.size) (W : World) (l : Nat) (o o' : Obj) (hl : w.heap.size ≤ l) (h : W.heap[l]? = some o) (hc : o.isCells = false) (hk : o.isWalk = false) : Kpn3 n₀ W (W.putObj l o') :=
  ⟨belowK_b hn W l o o' hl h hc hk, Keep3.grown (grownBy_putObj' W l o') (fun k e cs z e' => by cases e; rw [h] at e'; cases e'; cases hc)⟩
/-- the rays' numbers, from one on -/
def raysL (a n : Nat) : List Nat := List.range' a (n + 1)
theorem rays_take_succ {a n k : Nat} (hk : k < n + 1) : (raysL a n).take (k + 1) = (raysL a n).take k ++ [a + k] := by
  unfold raysL
  rw [List.take_succ_eq_append_getElem (by simpa using hk)]; simp
set_option maxRecDepth 100000 in
set_option maxHeartbeats 4000000 in
theorem rays1_in (F : Fence) (n : Nat) (hf : F.fn 100) (hf61 : F = Fence.wide) (hro : F.round = none) (hn : 1 ≤ n) (l B1 B2 n₀ : Nat) (a m : Nat) (hm : a + m ≤ 200) (J Jx : List Nat → World → Prop)
    (W : World) (hnW : n₀ ≤ W.heap.size) (hJ : AbidesFrom W.heap.size J)
    (hY : ∀ (pre : List Nat) (x : Nat) (W1 : World), J pre W1 → pre.length < m + 1 → YieldAt F (n - 1) Tryz.prog l #[.int .i64 ((x : Int) % 64), (atS x).val] W1 fun e W' =>
      (e = .returned (.bool true) ∧ J (pre ++ [x]) W' ∧ Kpn3 n₀ W1 W') ∨ (e = .returned (.bool false) ∧ Jx (pre ++ [x]) W'))
    (hB1 : W.heap[B1]? = some (.cells #[.int .i64 a] 3 (0, 0))) (hB2 : W.heap[B2]? = some (.cells #[.int .i64 m] 3 (0, 0))) (h0 : J [] W) :
    CallsIn F n Tryz.prog 100 #[.func (.yield l) #[] #[], .pointer (some ⟨B1, 0, none⟩), .pointer (some ⟨B2, 0, none⟩)] W fun e W' => (∃ v, e = .returned v) ∧
      ((∃ ys, ys = raysL a m ∧ J ys W') ∨ (∃ pre, pre <+: raysL a m ∧ Jx pre W')) := by
  subst hf61
  have e1 : W.cell? ⟨B1, 0, none⟩ = some (.int .i64 a) := by simp [World.cell?, hB1]
  refine callsIn_of_wp Tryz.func100 rfl hf ?_ hro
  simp only [Tryz.ntmps100, List.size_toArray, List.length_cons, List.length_nil, Nat.reduceAdd, Nat.reduceSub, Array.replicate_succ, Array.replicate_zero, List.push_toArray, List.append_toArray, List.nil_append, List.cons_append]
  gi_wp2
  gi_loopw [4] (fun s4 wr => ∃ k : Nat, k ≤ m + 1 ∧ s4 = .int .i64 ((a + k : Nat) : Int) ∧ J ((raysL a m).take k) wr ∧ Below n₀ W wr ∧ wr.heap[B1]? = some (.cells #[.int .i64 a] 3 (0, 0)) ∧ wr.heap[B2]? = some (.cells #[.int .i64 m] 3 (0, 0)))
    (fun s4 _ => a + m + 1 - (intOf s4).toNat)
  case atStart => exact ⟨0, Nat.zero_le _, rfl, by simpa using h0, Below.refl _ _, hB1, hB2⟩
  case round =>
    obtain ⟨k, hk, rfl, hJs, hnx, hb1, hb2⟩ := hrel
    have c1 : wr.cell? ⟨B1, 0, none⟩ = some (.int .i64 a) := by simp [World.cell?, hb1]
    have c2 : wr.cell? ⟨B2, 0, none⟩ = some (.int .i64 m) := by simp [World.cell?, hb2]
    have ha1 : (a : Int) ≤ 200 := by omega
    have ha0 : (0 : Int) ≤ (a : Int) := by omega
    have hm1 : (m : Int) ≤ 200 := by omega
    have hts := rays_take_succ (a := a) (n := m) (k := k)
    obtain ⟨x, hx⟩ : ∃ x, x = a + k := ⟨_, rfl⟩
    have hx1 : x ≤ 1000 := by omega
    by_cases hlt : k < m + 1
    · replace hts := hts hlt
      rw [← hx] at hts ⊢
      have hle : (x : Int) ≤ (a : Int) + (m : Int) := by omega
      have hmod : (x : Int).tmod 64 = ((x % 64 : Nat) : Int) := by rw [Int.tmod_eq_emod_of_nonneg (by omega)]; omega
      have HA := Lib.hid (fun W => (callsIn_wide (n := n - 1)).2 (rat_any x W hx1))
      have HT := Lib.hid hts
      have HX := Lib.hid hx
      clear hts hx
      gi_wp2
      refine ⟨trivial, (HA.out _).mono ?_⟩
      rintro e W2 ⟨rfl, hb⟩
      have hJ2 := hJ _ _ _ none hJs ⟨hb.os, hb.tape, hb.output, hb.size, fun k hk _ => hb.block k hk⟩ (fun r e => by cases e)
      obtain ⟨fn, tmps, assign, body, hy, hR⟩ := hY _ x _ hJ2 (by rw [List.length_take]; unfold raysL; simp; omega)
      have hB2' : Below n₀ W W2 := hnx.trans (hb.mono (Nat.le_trans hnW hnx.size))
      have d1 := Keep3.below hb _ _ _ hb1
      have d2 := Keep3.below hb _ _ _ hb2
      clear hJs hb hb1 hb2 hJ2 c1 c2 hnx
      gi_wp2
      refine hR.mono ?_
      rintro e W3 (⟨rfl, hJ3, hk3⟩ | ⟨rfl, hJx3⟩)
      · have hB3 : Below n₀ W W3 := hB2'.trans hk3.1
        have w1 := hk3.2 _ _ _ d1
        have w2 := hk3.2 _ _ _ d2
        gi_wp2
        go_roundw
        case rel => exact ⟨k + 1, by omega, by have := HX.out; congr 1; omega, by rw [HT.out]; exact hJ3, hB3, w1, w2⟩
        case measure => have := HX.out; simp [intOf]; omega
      · gi_wp2
        refine bodyPost_ret (results_none rfl _ _ _) rfl ?_
        exact ⟨⟨_, rfl⟩, .inr ⟨_, by rw [← HT.out]; exact List.take_prefix _ _, hJx3⟩⟩
    · obtain rfl : k = m + 1 := by omega
      rw [← hx]
      have hnlt : ¬ ((x : Int) ≤ (a : Int) + (m : Int)) := by omega
      rw [List.take_of_length_le (by unfold raysL; simp)] at hJs
      clear hts hY
      gi_wp2
      go_end0
      refine ⟨⟨_, rfl⟩, .inl ?_⟩
      first | exact hJs | exact ⟨_, rfl, hJs⟩

set_option maxHeartbeats 1000000 in
theorem rays_in (F : Fence) (n : Nat) (hf : F.fn 77) (hro : F.round = none) (a m : Nat) (w : World) :
    CallsIn F n Tryz.prog 77 #[.int .i64 a, .int .i64 m] w fun e w' => e = .returned (.func (.func 100) #[] #[.pointer (some ⟨w.heap.size, 0, none⟩), .pointer (some ⟨w.heap.size + 1, 0, none⟩)]) ∧ w' = (w.alloc (.cells #[.int .i64 a] 3)).alloc (.cells #[.int .i64 m] 3) := by
  refine callsIn_of_wp Tryz.func77 rfl hf ?_ hro
  simp only [Tryz.ntmps77, List.size_toArray, List.length_cons, List.length_nil, Nat.reduceAdd, Nat.reduceSub, Array.replicate_succ, Array.replicate_zero, List.push_toArray, List.append_toArray, List.nil_append, List.cons_append]
  gi_wp2
  go_ret
  exact ⟨rfl, rfl⟩
theorem rays_stops (n : Nat) (hn : 1 ≤ n) (B1 B2 n₀ : Nat) (a m : Nat) (hm : a + m ≤ 200) (w : World) (hn₀ : n₀ ≤ w.heap.size)
    (hB1 : w.heap[B1]? = some (.cells #[.int .i64 a] 3 (0, 0))) (hB2 : w.heap[B2]? = some (.cells #[.int .i64 m] 3 (0, 0))) :
    SeqStopsK Fence.wide n Tryz.prog 100 #[.pointer (some ⟨B1, 0, none⟩), .pointer (some ⟨B2, 0, none⟩)] (fun x : Nat => #[.int .i64 ((x : Int) % 64), (atS x).val]) (Kpn3 n₀) (fun ys => ys = raysL a m) (fun pre => pre <+: raysL a m) (m + 1) w := fun l J Jx W hW hJ _ hY h0 =>
  rays1_in Fence.wide n trivial rfl rfl hn l B1 B2 n₀ a m hm J Jx W (Nat.le_trans hn₀ hW.size) hJ hY ((hW.block B1 (Array.getElem?_eq_some_iff.1 hB1).1).trans hB1) ((hW.block B2 (Array.getElem?_eq_some_iff.1 hB2).1).trans hB2) h0
end Go.Proofs.YtnhdnkeiijiiaaaGreat
namespace Go.Proofs.YtnhdnkeiijiiaaaGreat
open Go.RowKit Go.Shelf
set_option linter.unusedSimpArgs false
set_option linter.unusedVariables false
attribute [local go_sem ↓] Go.wp_at_zero Go.wp_at_succ
/-- one point appended to a row of the call's own -/
theorem wpList_append_pt {ops : Array Oper} {rest : List Oper} {o : Oper} {a : Act} {Q : Exit → Act → World → Prop} (W1 : World) (hgd : o.guard = none) (s x : Operand)
    (ho : o.op = .call { callee := .builtin .append, args := #[s, x], argTypes := #[39, 39] }) (base : Nat) (v : Value) (xs : List Pt) (X Y : Int) (hs : a.eval s = v) (hown : Own W1 base v xs)
    (hx : a.eval x = .slice (some ⟨W1.heap.size, 0, none⟩) 1 1) (hb : xs.length + 1 ≤ 2000000000000) (hbase : base ≤ W1.heap.size)
    (h : ∀ v' w', Own w' base v' (xs ++ [⟨X, Y⟩]) → Below base W1 w' → W1.heap.size < w'.heap.size → (∀ b, b < W1.heap.size → v.ownBlock ≠ some b → w'.heap[b]? = W1.heap[b]?) → (∀ b, b < W1.heap.size → v.ownBlock ≠ some b → v'.ownBlock ≠ some b) → wpList Tryz.prog ops Q rest (a.put o.dst v') w') :
    wpList Tryz.prog ops Q (o :: rest) a (W1.alloc (.cells #[.int .i64 X, .int .i64 Y] 23)) := by
  have hB : Below W1.heap.size W1 (W1.alloc (.cells #[.int .i64 X, .int .i64 Y] 23)) := (Below.refl _ W1).alloc (Nat.le_refl _) _
  have hown1 : Own (W1.alloc (.cells #[.int .i64 X, .int .i64 Y] 23)) base v xs := hown.kept (World.grownBy_alloc _ _ none) (by cases hv : v.ownBlock <;> simp)
  have hp1 : Pts? (W1.alloc (.cells #[.int .i64 X, .int .i64 Y] 23)).heap.size (W1.alloc (.cells #[.int .i64 X, .int .i64 Y] 23)) (some ⟨W1.heap.size, 0, none⟩) [⟨X, Y⟩] := fun _ => ⟨W1.heap.size, 0, rfl, by simp, fun i r hr => by
    match i, hr with
    | 0, hr => cases hr; exact ⟨by go_cell, by go_cell⟩
    | i + 1, hr => simp at hr⟩
  have hlt := fun k e => own_block_lt hown (k := k) e
  refine wpList_append_pts _ hgd s x 39 Tryz.underlying39 ho base v xs hs hown1 (some ⟨W1.heap.size, 0, none⟩) 1 1 [⟨X, Y⟩] hx (fun h => by cases h) rfl hp1 hb (by simp; omega) ?_
  intro v' w' h1 h2 h3
  have hsz := h2.size
  simp only [World.size_alloc] at hsz
  refine h v' w' h1 ?_ (by omega) ?_ ?_
  · exact (hB.mono hbase).grown h2 (by simp; omega) (fun k e => (hlt k e).1)
  · intro b hb1 hne
    rw [h2.block b (by simp; omega) (fun e => hne e.symm)]
    exact Below.heap_alloc _ _ _ hb1
  · intro b hb1 hne
    rcases h3 with h3 | h3
    · rw [h3]; exact hne
    · rw [h3]; simp; omega
set_option maxHeartbeats 1600000 in
set_option maxRecDepth 100000 in
theorem both_any (c n d : Int) (B4 B5 : Nat) (w : World) (hc1 : -2000 ≤ c) (hc2 : c ≤ 2000) (hn1 : 0 ≤ n) (hn2 : n ≤ 100000) (hd1 : 0 < d) (hd2 : d ≤ 2000)
    (h4 : w.cell? ⟨B4, 0, none⟩ = some (.int .i64 n)) (h5 : w.cell? ⟨B5, 0, none⟩ = some (.int .i64 d)) :
    Calls Tryz.prog 97 #[.int .i64 c, .pointer (some ⟨B4, 0, none⟩), .pointer (some ⟨B5, 0, none⟩)] w fun e w' => ∃ g, e = .returned (.slice (some ⟨g, 0, none⟩) 2 2) ∧ w.heap.size ≤ g ∧ g < w'.heap.size ∧ w'.heap[g]? = some (.cells #[.int .i64 (dvS (c * n) d).1, .int .i64 (upS (c * n) d)] 3 (0, 0)) ∧ Below w.heap.size w w' := by
  have hP := mul_bd (a := c) (b := n) (A := 2000) (B := 100000) hc1 hc2 (by omega) hn2
  have hp0 : c * n = c * n := rfl
  have vF := fun W P (h1 : -200000000 ≤ P) (h2 : P ≤ 200000000) => eFloor_any P d W hd1 (by omega) (by omega) (by omega)
  have vC := fun W P (h1 : -200000000 ≤ P) (h2 : P ≤ 200000000) => eCeil_any P d W hd1 (by omega) (by omega) (by omega)
  have HF := Lib.hid vF
  have HC := Lib.hid vC
  clear vF vC hp0
  generalize hp : c * n = P at *
  have hP1 : -200000000 ≤ P := by omega
  have hP2 : P ≤ 200000000 := by omega
  go_enter Tryz.func97, Tryz.ntmps97
  go_wp2_with fail
  refine (HF.out _ _ hP1 hP2).mono ?_
  rintro e w1 ⟨rfl, hb1⟩
  have g4 := kp hb1 h4
  have g5 := kp hb1 h5
  go_wp2_with fail
  refine (HC.out _ _ hP1 hP2).mono ?_
  rintro e w2 ⟨rfl, hb2⟩
  have hB := below_after hb1 hb2
  clear hb1 hb2 h4 h5 g4 g5 HF HC
  have hs := hB.size
  go_wp2_with fail
  go_ret
  exact ⟨w2.heap.size, rfl, hs, by simp, World.alloc_heap_new _ _, by go_grown⟩
end Go.Proofs.YtnhdnkeiijiiaaaGreat
namespace Go.Proofs.YtnhdnkeiijiiaaaGreat
open Go.RowKit Go.Shelf
set_option linter.unusedSimpArgs false
set_option linter.unusedVariables false
attribute [local go_sem ↓] Go.wp_at_zero Go.wp_at_succ
def gridL (x0 x1 y0 y1 : Int) : List Pt := [⟨x0, y0⟩, ⟨x0, y1⟩, ⟨x1, y0⟩, ⟨x1, y1⟩]
/-- the places around a ray, times n, divided by d -/
def roundL (t : Pt) (n d : Int) : List Pt := gridL (dvS (t.x * n) d).1 (upS (t.x * n) d) (dvS (t.y * n) d).1 (upS (t.y * n) d)
def pick (a b : Int) : Nat → Int
  | 0 => a
  | _ => b
theorem grid_take (x0 x1 y0 y1 : Int) (k j : Nat) (hk : k < 2) (hj : j < 2) : (gridL x0 x1 y0 y1).take (2 * k + (j + 1)) = (gridL x0 x1 y0 y1).take (2 * k + j) ++ [⟨pick x0 x1 k, pick y0 y1 j⟩] := by
  match k, j, hk, hj with
  | 0, 0, _, _ => rfl
  | 0, 1, _, _ => rfl
  | 1, 0, _, _ => rfl
  | 1, 1, _, _ => rfl
theorem pick_cell {w : World} {g : Nat} {a b : Int} (h : w.heap[g]? = some (.cells #[.int .i64 a, .int .i64 b] 3 (0, 0))) (k : Nat) (hk : k < 2) : w.cell? ⟨g, k, none⟩ = some (.int .i64 (pick a b k)) := by
  match k, hk with
  | 0, _ => simp [World.cell?, h, pick]
  | 1, _ => simp [World.cell?, h, pick]
set_option maxHeartbeats 1600000 in
set_option maxRecDepth 100000 in
theorem rounded_any (t : Pt) (n d : Int) (w : World) (hx1 : -2000 ≤ t.x) (hx2 : t.x ≤ 2000) (hy1 : -2000 ≤ t.y) (hy2 : t.y ≤ 2000) (hn1 : 0 ≤ n) (hn2 : n ≤ 100000) (hd1 : 0 < d) (hd2 : d ≤ 2000) :
    Calls Tryz.prog 76 #[t.val, .int .i64 n, .int .i64 d] w (RetPts w.heap.size w (roundL t n d)) := by
  have vX := fun W B4 B5 h4 h5 => both_any t.x n d B4 B5 W hx1 hx2 hn1 hn2 hd1 hd2 h4 h5
  have vY := fun W B4 B5 h4 h5 => both_any t.y n d B4 B5 W hy1 hy2 hn1 hn2 hd1 hd2 h4 h5
  have hL : roundL t n d = gridL (dvS (t.x * n) d).1 (upS (t.x * n) d) (dvS (t.y * n) d).1 (upS (t.y * n) d) := rfl
  generalize (dvS (t.x * n) d).1 = x0 at *
  generalize upS (t.x * n) d = x1 at *
  generalize (dvS (t.y * n) d).1 = y0 at *
  generalize upS (t.y * n) d = y1 at *
  have HX := Lib.hid vX
  have HY := Lib.hid vY
  have HL := Lib.hid hL
  have HG := Lib.hid (grid_take x0 x1 y0 y1)
  obtain ⟨tx, ty⟩ := t
  dsimp only at HX HY hx1 hx2 hy1 hy2
  clear vX vY hL
  go_enter Tryz.func76, Tryz.ntmps76
  go_wp2_with fail
  refine (HX.out _ _ _ (by go_cell) (by go_cell)).mono ?_
  rintro e w1 ⟨g1, rfl, hg1, hg1', hc1, hb1⟩
  have hlw : w.heap.size + 3 ≤ w1.heap.size := by have := hb1.size; simp at this; omega
  have hB1 : Below w.heap.size w w1 := Below.trans (by go_grown) (hb1.mono (by simp; omega))
  have c1 : w1.cell? ⟨w.heap.size, 1, none⟩ = some (.int .i64 ty) := kp hb1 (by go_cell)
  have c4 : w1.cell? ⟨w.heap.size + 1, 0, none⟩ = some (.int .i64 n) := kp hb1 (by go_cell)
  have c5 : w1.cell? ⟨w.heap.size + 2, 0, none⟩ = some (.int .i64 d) := kp hb1 (by go_cell)
  clear hb1 hg1 hx1 hx2 hy1 hy2 hn1 hn2 hd1 hd2
  go_wp2_with fail
  go_loopg [19, 8] 3 (fun g s19 s8 wr => ∃ (k : Nat) (v8 : Value), k ≤ 2 ∧ g + k = 3 ∧ s19 = .int .i64 k ∧ v8 = s8 ∧ Own wr w1.heap.size v8 ((gridL x0 x1 y0 y1).take (2 * k)) ∧ Below w1.heap.size w1 wr)
  case atStart => exact ⟨0, _, by omega, by omega, rfl, rfl, by simp only [Nat.mul_zero, List.take_zero]; exact own_nil _ _, Below.refl _ _⟩
  case round =>
    obtain ⟨k, v8, hk, hg, rfl, rfl, hO, hBr⟩ := hrel
    have HO := Lib.hid hO
    clear hO
    have hs1 := hBr.size
    by_cases hlt : k < 2
    · have hlt2 : (k : Int) < 2 := by omega
      have d1 := kp hBr c1
      have d4 := kp hBr c4
      have d5 := kp hBr c5
      have hcx := kp hBr (pick_cell hc1 k hlt)
      have HGk := Lib.hid (fun j => HG.out k j hlt)
      generalize pick x0 x1 k = xk at *
      go_wp2_with fail
      refine (HY.out _ _ _ (by go_cell) (by go_cell)).mono ?_
      rintro e w2 ⟨g2, rfl, hg2, hg2', hc2, hb2⟩
      have hO2 := HO.out.later hb2
      have hne2 : ∀ j, v8.ownBlock = some j → j < g2 := fun j e => Nat.lt_of_lt_of_le (own_block_lt HO.out e).2 hg2
      have hBw2 : Below w1.heap.size w1 w2 := hBr.trans (hb2.mono hs1)
      clear hb2 d1 d4 d5 hcx HO hBr hs1
      have HO2 := Lib.hid hO2
      have HN2 := Lib.hid hne2
      have hsw2 := hBw2.size
      clear hO2 hne2
      go_wp2_with fail
      obtain ⟨gK, rfl⟩ : ∃ x, x = gk := ⟨_, rfl⟩
      go_loopg [28, 8] 3 (fun gi s28 s8 wi => ∃ (j : Nat) (v9 : Value), j ≤ 2 ∧ gi + j = 3 ∧ s28 = .int .i64 j ∧ v9 = s8 ∧ Aside (Own wi w1.heap.size v9 ((gridL x0 x1 y0 y1).take (2 * k + j)) ∧ v9.ownBlock ≠ some g2) ∧ Below w1.heap.size w1 wi ∧ g2 < wi.heap.size ∧ wi.heap[g2]? = some (.cells #[.int .i64 y0, .int .i64 y1] 3 (0, 0)))
      case atStart => exact ⟨0, _, by omega, by omega, rfl, rfl, ⟨HO2.out, fun e => Nat.lt_irrefl _ (HN2.out _ e)⟩, hBw2, hg2', hc2⟩
      case round =>
        obtain ⟨j, v9, hj, hgj, rfl, rfl, ⟨hO9, hne9⟩, hBi, hgi, hci⟩ := hrel
        have HO9 := Lib.hid hO9
        have HN9 := Lib.hid hne9
        have hs9 := hBi.size
        clear hO9 hne9
        by_cases hltj : j < 2
        · have hltj2 : (j : Int) < 2 := by omega
          have hcy := pick_cell hci j hltj
          have HGj := Lib.hid (HGk.out j hltj)
          have HL9 := Lib.hid (show ((gridL x0 x1 y0 y1).take (2 * k + j)).length ≤ 4 from List.length_take_le' _ _)
          generalize pick y0 y1 j = yj at *
          go_wp2_with (at_builtin; go_must (refine wpList_append_pt _ (by rfl) (.tmp 32) (.tmp 36) (by rfl) w1.heap.size _ _ _ _ (by rfl) HO9.out (by rfl) (by have := HL9.out; omega) hs9 ?_))
          intro v7 w7 hown7 hB7 hz7 hk7 hn7
          rw [← HGj.out] at hown7
          have HO7 := Lib.hid hown7
          have hBw7 : Below w1.heap.size w1 w7 := hBi.trans hB7
          have hc7 := (hk7 g2 hgi HN9.out).trans hci
          have HN7 := Lib.hid (hn7 g2 hgi HN9.out)
          have hg7 : g2 < w7.heap.size := by omega
          clear hown7 hB7 hk7 hn7 HO9 HN9 hci hcy hBi
          go_wp2_with fail
          go_roundg (gk - 1)
          case measure => omega
          case rel => exact ⟨j + 1, _, by omega, by omega, by go_num, rfl, ⟨HO7.out, HN7.out⟩, hBw7, hg7, hc7⟩
        · obtain rfl : j = 2 := by omega
          go_wp2_with fail
          go_roundg (gK - 1)
          case measure => omega
          case rel => exact ⟨k + 1, _, by omega, by omega, by go_num, rfl, HO9.out, hBi⟩
    · obtain rfl : k = 2 := by omega
      go_wp2_with fail
      go_ret
      exact ⟨_, rfl, by rw [HL.out]; exact own_mono HO.out (by omega), hB1.trans (hBr.mono (by omega))⟩
end Go.Proofs.YtnhdnkeiijiiaaaGreat
namespace Go.Proofs.YtnhdnkeiijiiaaaGreat
open Go.RowKit Go.Shelf
set_option linter.unusedSimpArgs false
set_option linter.unusedVariables false
attribute [local go_sem ↓] Go.wp_at_zero Go.wp_at_succ
set_option maxHeartbeats 1600000 in
set_option maxRecDepth 100000 in
theorem Grow_zero (w : World) : Calls Tryz.prog 96 #[.slice none 0 0, .int .i64 0] w (RetPts w.heap.size w []) := by
  go_enter Tryz.func96, Tryz.ntmps96
  go_wp2_with fail
  go_ret
  exact ⟨_, rfl, own_nil _ _, Below.refl _ _⟩
set_option maxHeartbeats 1600000 in
set_option maxRecDepth 100000 in
theorem Grow_some (n : Nat) (w : World) (h0 : 0 < n) (hn : n ≤ 10000000) : Calls Tryz.prog 96 #[.slice none 0 0, .int .i64 n] w (RetPts w.heap.size w []) := by
  obtain ⟨i0, hi, hz0, hz1, hz2⟩ := info_parts ptInfo
  have hr := fun ty => Lib.run_append_nil_zeros (P := Tryz.prog) w 39 3 ty 23 i0 _ .i64 .i64 Tryz.underlying39 Tryz.underlying3 hi hz0 n h0 (by rw [hz1]; omega) (by omega) (by rw [hz2]; omega)
  have hge := grownCap_ge w n 0 23
  have hle := grownCap_le_maxLen w n 0 23 (by unfold maxLen; omega)
  have hsz : (Builtin.zeroCells (Value.agg #[.int .i64 0, .int .i64 0]).cells n ++ Builtin.zeroCells (Value.agg #[.int .i64 0, .int .i64 0]).cells (grownCap w n 0 23 - n)).size = grownCap w n 0 23 * 2 := by
    have : (Value.agg #[.int .i64 0, .int .i64 0]).cells.size = 2 := rfl
    rw [Array.size_append, size_zeroCells, size_zeroCells, this]; omega
  generalize Builtin.zeroCells (Value.agg #[.int .i64 0, .int .i64 0]).cells n ++ Builtin.zeroCells (Value.agg #[.int .i64 0, .int .i64 0]).cells (grownCap w n 0 23 - n) = cs at *
  generalize grownCap w n 0 23 = cap at *
  have HR := Lib.hid hr
  have HC := Lib.hid hsz
  have h1 : ¬ ((n : Int) < 0) := by omega
  have h2 : (n : Int) > 0 := by omega
  have h3 : (0 : Int) < (n : Int) := by omega
  have hle2 : (n : Int) ≤ 10000000 := by omega
  unfold maxLen at hle
  have hcap : (n : Int) ≤ (cap : Int) := by omega
  clear hr hsz hi hz0 hz1 hz2
  go_enter Tryz.func96, Tryz.ntmps96
  go_wp2_with (at_builtin; go_must (refine Lib.wpList_append_run _ (by rfl) (.tmp 20) (.tmp 21) 39 3 (by rfl) (.slice none 0 0) (.int .i64 n) (by rfl) (by rfl) _ _ (HR.out _) ?_))
  go_ret
  exact ⟨_, rfl, World.ownsRow_made _ _ _ (by exact Nat.le_refl _) (by unfold maxLen; omega) HC.out, by go_grown⟩
theorem Grow_any (n : Nat) (w : World) (hn : n ≤ 10000000) : Calls Tryz.prog 96 #[.slice none 0 0, .int .i64 n] w (RetPts w.heap.size w []) := by
  by_cases h : n = 0
  · subst h; exact Grow_zero w
  · exact Grow_some n w (by omega) hn
def lens (rs : List (List Pt)) : Nat := (rs.map List.length).sum
theorem lens_take_succ {rs : List (List Pt)} {k : Nat} {r : List Pt} (h : rs[k]? = some r) : lens (rs.take (k + 1)) = lens (rs.take k) + r.length := by
  unfold lens; rw [List.take_add_one, h]; simp
theorem lens_take_le (rs : List (List Pt)) (k : Nat) : lens (rs.take k) ≤ lens rs := by
  have : lens rs = lens (rs.take k) + lens (rs.drop k) := by unfold lens; rw [← List.sum_append, ← List.map_append, List.take_append_drop]
  omega
theorem flatten_take_succ {rs : List (List Pt)} {k : Nat} {r : List Pt} (h : rs[k]? = some r) : (rs.take (k + 1)).flatten = (rs.take k).flatten ++ r := by
  rw [List.take_add_one, h]; simp
theorem flatten_len (rs : List (List Pt)) : rs.flatten.length = lens rs := by
  unfold lens; rw [List.length_flatten]
set_option maxHeartbeats 1600000 in
set_option maxRecDepth 100000 in
theorem Concat_any (A : Option Addr) (n c : Nat) (rs : List (List Pt)) (w : World) (hn : rs.length = n) (hx : Reg? w.heap.size w A rs) (hr0 : ∀ b off, A = some ⟨b, off, none⟩ → ∀ i r, rs[i]? = some r → ∀ Ai ci, w.cell? ⟨b, off + i, none⟩ = some (.slice Ai r.length ci) → Ai = none → r.length = 0 ∧ ci = 0)
    (hbig : lens rs ≤ 10000000) (hn9 : n ≤ 1000000) :
    Calls Tryz.prog 75 #[.slice A n c] w (RetPts w.heap.size w rs.flatten) := by
  have HX := Lib.hid hx
  have HN := Lib.hid hn
  have HR0 := Lib.hid hr0
  clear hx hn hr0
  go_enter Tryz.func75, Tryz.ntmps75
  go_wp2_with fail
  go_loop [11, 3] (fun s11 s3 => ∃ k : Nat, k ≤ n ∧ s11 = .int .i64 k ∧ s3 = .int .i64 (lens (rs.take k) : Nat)) (fun s11 _ => n - (intOf s11).toNat)
  case atStart => exact ⟨0, by omega, rfl, rfl⟩
  case round =>
    obtain ⟨k, hk, rfl, rfl⟩ := hrel
    have hl := lens_take_le rs k
    have hl2 : (lens (rs.take k) : Int) ≤ 10000000 := by omega
    by_cases hlt : k < n
    · obtain ⟨r, hr⟩ : ∃ r, rs[k]? = some r := ⟨_, List.getElem?_eq_getElem (by rw [HN.out]; exact hlt)⟩
      obtain ⟨b, off, rfl, hlt0, hc⟩ := HX.out (by rw [HN.out]; omega)
      obtain ⟨Ai, ci, h1, h2⟩ := hc k r hr
      have hsn := lens_take_succ hr
      have hl3 := lens_take_le rs (k + 1)
      have hrl : (r.length : Int) ≤ 10000000 := by omega
      have hss : (lens (rs.take k) : Int) + (r.length : Int) ≤ 10000000 := by omega
      have hneg : ¬ ((lens (rs.take k) : Int) + (r.length : Int) < 0) := by omega
      have HSN := Lib.hid hsn
      have hlt2 : (k : Int) < (n : Int) := by omega
      clear hc h2 hr hsn hl3
      generalize lens (rs.take k) = L at *
      generalize r.length = rl at *
      go_wp2_with fail
      go_round
      case rel => exact ⟨k + 1, by omega, by go_num, by rw [HSN.out]; simp⟩
      case measure => simp [intOf]; omega
    · obtain rfl : k = n := by omega
      have hnlt : ¬ ((k : Int) < (k : Int)) := by omega
      rw [List.take_of_length_le (by rw [HN.out]; omega)] at *
      go_wp2_with fail
      refine (Grow_any (lens rs) w hbig).mono ?_
      rintro e w1 ⟨v1, rfl, hO1, hB1⟩
      have HO1 := Lib.hid hO1
      have hs1 := hB1.size
      clear hO1 hl hl2
      go_wp2_with fail
      go_loopg [27, 6] (k + 1) (fun g s27 s6 wr => ∃ (j : Nat) (v6 : Value), j ≤ k ∧ g + j = k + 1 ∧ s27 = .int .i64 j ∧ v6 = s6 ∧ Own wr w.heap.size v6 (rs.take j).flatten ∧ Below w.heap.size w wr)
      case atStart => exact ⟨0, v1, by omega, by omega, rfl, rfl, HO1.out, hB1⟩
      case round =>
        obtain ⟨j, v6, hj, hg, rfl, rfl, hO, hBr⟩ := hrel
        have HO := Lib.hid hO
        clear hO
        by_cases hlt : j < k
        · obtain ⟨r, hr⟩ : ∃ r, rs[j]? = some r := ⟨_, List.getElem?_eq_getElem (by rw [HN.out]; exact hlt)⟩
          obtain ⟨b, off, rfl, hlt0, hc⟩ := HX.out (by rw [HN.out]; omega)
          obtain ⟨Ai, ci, h1, h2⟩ := hc j r hr
          have hsn := flatten_take_succ hr
          have hll : (rs.take j).flatten.length + r.length ≤ 2000000000000 := by
            have e1 := lens_take_le rs (j + 1)
            rw [flatten_len]
            rw [lens_take_succ hr] at e1
            omega
          have HLL := Lib.hid hll
          have HSN := Lib.hid hsn
          have hz0 := HR0.out b off rfl j r hr Ai ci h1
          have HZ0 := Lib.hid hz0
          have hlt2 : (j : Int) < (k : Int) := by omega
          have h3 := (hBr.cell (p := ⟨b, off + j, none⟩) hlt0).trans h1
          have HP := Lib.hid ((h2.upto hBr).mono hBr.size)
          have hsr := hBr.size
          clear hc h2 hr hsn hll h1 hz0
          go_wp2_with (at_builtin; go_must (refine wpList_append_pts _ (by rfl) (.tmp 31) (.tmp 32) 39 Tryz.underlying39 (by rfl) w.heap.size _ _ (by rfl) HO.out Ai _ ci r (by rfl) HZ0.out rfl HP.out HLL.out hsr ?_))
          intro v7 w7 hown7 hg7 hat7
          have hB7 : Below w.heap.size w w7 := hBr.grown hg7 hBr.size (fun j e => (own_block_lt HO.out e).1)
          rw [← HSN.out] at hown7
          have HO7 := Lib.hid hown7
          clear hown7 hg7 hat7 HO HP h3
          go_wp2_with fail
          go_roundg (gk - 1)
          case measure => omega
          case rel => exact ⟨j + 1, _, by omega, by omega, by go_num, rfl, HO7.out, hB7⟩
        · obtain rfl : j = k := by omega
          have hO9 := HO.out
          rw [List.take_of_length_le (by rw [HN.out]; omega)] at hO9
          have HO9 := Lib.hid hO9
          have hnlt : ¬ ((j : Int) < (j : Int)) := by omega
          clear hO9 HO
          go_wp2_with fail
          go_ret
          exact ⟨_, rfl, HO9.out, hBr⟩
end Go.Proofs.YtnhdnkeiijiiaaaGreat
namespace Go.Proofs.YtnhdnkeiijiiaaaGreat
set_option linter.unusedSimpArgs false
set_option linter.unusedVariables false
theorem leftS_bd (p : Pt) (B : Int) (h : -B ≤ p.x ∧ p.x ≤ B ∧ -B ≤ p.y ∧ p.y ≤ B) : ∀ k, -B ≤ (leftS p k).x ∧ (leftS p k).x ≤ B ∧ -B ≤ (leftS p k).y ∧ (leftS p k).y ≤ B
  | 0 => h
  | k + 1 => by
    have ih := leftS_bd p B h k
    simp only [leftS]
    omega
theorem atS_bd (k : Nat) : -1000 ≤ (atS k).x ∧ (atS k).x ≤ 1000 ∧ -1000 ≤ (atS k).y ∧ (atS k).y ≤ 1000 := by
  have := firstS_nr (k % 16) (Nat.mod_lt _ (by omega))
  exact leftS_bd _ 1000 ⟨by omega, by omega, by omega, by omega⟩ _
theorem dvS_eq (a b : Int) (hb : 0 < b) : dvS a b = (a / b, a % b) := by
  unfold dvS
  have hbf : decide (b < 0) = false := by simp; omega
  have e1 := Int.mul_ediv_add_emod a b
  have e2 := Int.mul_tdiv_add_tmod a b
  have l1 := Int.emod_nonneg a (show b ≠ 0 by omega)
  have l2 := Int.emod_lt_of_pos a hb
  by_cases ha : 0 ≤ a
  · rw [Int.tdiv_eq_ediv_of_nonneg ha, Int.tmod_eq_emod_of_nonneg ha]
    have : decide (a % b < 0) = false := by simp; omega
    simp [this, hbf]
  · have e3 : a.tmod b = -((-a) % b) := by
      rw [← Int.neg_neg a, Int.neg_tmod, Int.tmod_eq_emod_of_nonneg (by omega), Int.neg_neg]
    have l3 := Int.emod_nonneg (-a) (show b ≠ 0 by omega)
    have l4 := Int.emod_lt_of_pos (-a) hb
    by_cases h0 : (-a) % b = 0
    · rw [h0] at e3
      have e3' : a.tmod b = 0 := by omega
      rw [e3'] at e2 ⊢
      have e4 : a = b * a.tdiv b := by omega
      have hq : a / b = a.tdiv b := by
        conv => lhs; rw [e4]
        exact Int.mul_ediv_cancel_left _ (by omega)
      have hr : a % b = 0 := by
        have : a = b * a.tdiv b := by omega
        rw [this]; exact Int.mul_emod_right _ _
      simp [hq, hr]
    · have hneg : decide (a.tmod b < 0) = true := by simp; omega
      rw [if_pos ⟨by omega, by rw [hneg, hbf]; rfl⟩]
      have hab : a = (a.tmod b + b) + b * (a.tdiv b - 1) := by rw [Int.mul_sub]; omega
      have hm : a % b = a.tmod b + b := by
        conv => lhs; rw [hab]
        rw [Int.add_mul_emod_self_left, Int.emod_eq_of_lt (by omega) (by omega)]
      have hd : a / b = a.tdiv b - 1 := by
        conv => lhs; rw [hab]
        rw [Int.add_mul_ediv_left _ _ (by omega), Int.ediv_eq_zero_of_lt (by omega) (by omega)]; omega
      rw [hm, hd]
theorem fl_bd (a b : Int) (hb : 0 < b) : (dvS a b).1 * b ≤ a ∧ a < (dvS a b).1 * b + b := by
  rw [dvS_eq a b hb]
  have e1 := Int.mul_ediv_add_emod a b
  have l1 := Int.emod_nonneg a (show b ≠ 0 by omega)
  have l2 := Int.emod_lt_of_pos a hb
  rw [Int.mul_comm] at e1
  dsimp only
  omega
theorem up_bd (a b : Int) (hb : 0 < b) : a ≤ upS a b * b ∧ upS a b * b < a + b := by
  unfold upS
  rw [dvS_eq a b hb]
  have e1 := Int.mul_ediv_add_emod a b
  have l1 := Int.emod_nonneg a (show b ≠ 0 by omega)
  have l2 := Int.emod_lt_of_pos a hb
  rw [Int.mul_comm] at e1
  dsimp only
  split
  · omega
  · rw [Int.add_mul]; omega
/-- the points of a sector -/
def secL (a n : Nat) (lo hi : Int) : List Pt := roundL (atS a) lo 1001 ++ roundL (atS (a + n)) lo 1001 ++ (raysL a n).flatMap fun k => roundL (atS k) hi 998
theorem roundL_mem {t p : Pt} {n d : Int} (h : p ∈ roundL t n d) : (p.x = (dvS (t.x * n) d).1 ∨ p.x = upS (t.x * n) d) ∧ (p.y = (dvS (t.y * n) d).1 ∨ p.y = upS (t.y * n) d) := by
  simp only [roundL, gridL, List.mem_cons, List.not_mem_nil, or_false] at h
  rcases h with rfl | rfl | rfl | rfl <;> simp
theorem roundL_pl {t p : Pt} {n d : Int} (ht : -1000 ≤ t.x ∧ t.x ≤ 1000 ∧ -1000 ≤ t.y ∧ t.y ≤ 1000) (hn : 0 ≤ n) (hn2 : n ≤ 100000) (hd : d = 998 ∨ d = 1001) (h : p ∈ roundL t n d) : plB p = true := by
  have h1 := roundL_mem h
  have m1 := mul_bd (a := t.x) (b := n) (A := 1000) (B := 100000) (by omega) (by omega) (by omega) hn2
  have m2 := mul_bd (a := t.y) (b := n) (A := 1000) (B := 100000) (by omega) (by omega) (by omega) hn2
  have hd0 : 0 < d := by omega
  have f1 := fl_bd (t.x * n) d hd0
  have f2 := fl_bd (t.y * n) d hd0
  have f3 := up_bd (t.x * n) d hd0
  have f4 := up_bd (t.y * n) d hd0
  rw [plB_iff]
  rcases hd with rfl | rfl <;> omega
theorem secL_pl (a n : Nat) (lo hi : Int) (h1 : 0 ≤ lo) (h2 : lo ≤ hi) (h3 : hi ≤ 100000) : ∀ p ∈ secL a n lo hi, plB p = true := by
  intro p hp
  simp only [secL, List.mem_append, List.mem_flatMap] at hp
  rcases hp with (hp | hp) | ⟨k, -, hp⟩
  · exact roundL_pl (atS_bd _) h1 (by omega) (.inr rfl) hp
  · exact roundL_pl (atS_bd _) h1 (by omega) (.inr rfl) hp
  · exact roundL_pl (atS_bd _) (by omega) h3 (.inl rfl) hp
theorem roundL_len (t : Pt) (n d : Int) : (roundL t n d).length = 4 := rfl
theorem flatMap_round_len (hi : Int) : ∀ l : List Nat, (l.flatMap fun k => roundL (atS k) hi 998).length = 4 * l.length
  | [] => rfl
  | k :: l => by simp only [List.flatMap_cons, List.length_append, roundL_len, flatMap_round_len hi l, List.length_cons]; omega
theorem secL_len (a n : Nat) (lo hi : Int) : (secL a n lo hi).length = 4 * n + 12 := by
  simp only [secL, List.length_append, roundL_len, flatMap_round_len, raysL, List.length_range']
  omega
theorem hullS_len (xs : List Pt) : (hullS xs).length ≤ 2 * xs.length := by
  have h0 := dedup_le (sortS xs)
  rw [sortS_len] at h0
  unfold hullS
  dsimp only
  split
  · omega
  · have h1 := chainS_len (dedup (sortS xs))
    have h2 := chainS_len (dedup (sortS xs)).reverse
    rw [List.length_reverse] at h2
    simp only [List.length_append, List.length_dropLast]
    omega
end Go.Proofs.YtnhdnkeiijiiaaaGreat
