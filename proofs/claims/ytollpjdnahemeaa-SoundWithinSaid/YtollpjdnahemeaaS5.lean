import Derived.Test.YtollpjdnahemeaaS4
import Derived.Deep.AppendLies
namespace Go.Proofs.Ytollpjdnahemeaa
open Go.RowKit
set_option linter.unusedSimpArgs false
set_option linter.unusedVariables false

theorem info3 : (Try.prog.info? 3).map (fun i => (i.zero, i.size, i.bytes)) = some (some (.int .i64 0), 1, 8) := by kernel_rfl

/-- below base all blocks but B are as they were -/
structure Apart (base B : Nat) (w w' : World) : Prop where
  os : w'.os = w.os
  tape : w'.tape = w.tape
  output : w'.output = w.output
  size : w.heap.size ≤ w'.heap.size
  block : ∀ k, k < base → k ≠ B → w'.heap[k]? = w.heap[k]?

def downI (n : Int) : Int := n / 1000
def upI (n : Int) : Int := -((-n) / 1000)

theorem upI_eq (n : Int) : upI n = if n / 1000 * 1000 < n then n / 1000 + 1 else n / 1000 := by
  unfold upI; split <;> omega

/-- what a call of the rounding closure leaves -/
def Rounded (base B k : Nat) (xs : List Value) (n : Int) (w : World) (e : Ending) (w' : World) : Prop :=
  e = .returned (.tuple #[]) ∧ Apart base B w w' ∧ ∃ g cap, w'.cell? ⟨B, 0, none⟩ = some (.slice (some ⟨g, 0, none⟩) (k + 2) cap) ∧ w'.frozen? ⟨B, 0, none⟩ = false ∧
    w'.ownsRow base 3 1 (.slice (some ⟨g, 0, none⟩) (k + 2) cap) (k + 2) (xs ++ [.int .i64 (downI n), .int .i64 (upI n)])

theorem apart_of {base B : Nat} {w w1 : World} {o : Obj} {row : Option Nat} (hg : (w.alloc o).grownBy w1 row) (hbase : base ≤ w.heap.size) (hob : ∀ j, row = some j → base ≤ j) (hB : B < base) (u : Value) :
    Apart base B w (w1.setCell ⟨B, 0, none⟩ u) where
  os := hg.os
  tape := hg.tape
  output := hg.output
  size := by
    have h := hg.size
    simp only [World.size_alloc] at h
    simp only [World.size_setCell]
    omega
  block := fun k hk hkB => by
    rw [Below.heap_setCell _ _ _ _ hkB, hg.block k (by simp; omega) (fun e => by have := hob k e.symm; omega)]
    exact Below.heap_alloc w o k (by omega)

theorem news2 (w : World) (x y : Value) (t : TypeId) : ∀ j u, [x, y][j]? = some u → (w.alloc (.cells #[x, y] t)).cell? ((⟨w.heap.size, 0, none⟩ : Addr).add j) = some u :=
  fun j u h => World.news_of_block (cs := #[x, y]) (heap_alloc_new w _) j u (by simpa using h)
theorem one2 (x y : Int) : ∀ u ∈ [Value.int .i64 x, Value.int .i64 y], u.oneCell' = true := by
  intro u hu; simp at hu; rcases hu with rfl | rfl <;> rfl

set_option maxHeartbeats 400000 in
theorem round_any (n : Int) (B base k : Nat) (v : Value) (xs : List Value) (w : World) (h1 : -4000000000000000000 ≤ n) (h2 : n ≤ 4000000000000000000) (hB : B < base) (hbase : base ≤ w.heap.size)
    (hc : w.cell? ⟨B, 0, none⟩ = some v) (hf : w.frozen? ⟨B, 0, none⟩ = false) (hown : w.ownsRow base 3 1 v k xs) (hk : k ≤ 100) :
    Calls Try.prog 73 #[.int .i64 n, .pointer (some ⟨B, 0, none⟩)] w (Rounded base B k xs n w) := by
  obtain ⟨i0, hi, hz0, hz1, hz2⟩ := info_parts info3
  have hq := tdiv_floor n 1000 (by omega)
  have hmul := Int.mul_tdiv_add_tmod n 1000
  have hr1 : n.tmod 1000 < 1000 := Int.tmod_lt_of_pos _ (by omega)
  have hr0 : -1000 < n.tmod 1000 := by
    rcases Int.le_total 0 n with h | h
    · have := Int.tmod_nonneg 1000 h
      omega
    · have h4 := Int.tmod_lt_of_pos (-n) (show (0 : Int) < 1000 by omega)
      rw [Int.neg_tmod] at h4
      omega
  have q1 : -4000000000000001 ≤ n.tdiv 1000 := by split at hq <;> omega
  have q2 : n.tdiv 1000 ≤ 4000000000000001 := by split at hq <;> omega
  by_cases hm : n < n.tdiv 1000 * 1000
  · rw [if_pos (by omega)] at hq
    have c1 : (n.tdiv 1000 - 1) * 1000 < n := by omega
    have e1 : downI n = n.tdiv 1000 - 1 := by unfold downI; omega
    have e2 : upI n = n.tdiv 1000 := by rw [upI_eq]; split <;> omega
    have HE1 := Lib.hid e1
    have HE2 := Lib.hid e2
    clear e1 e2 hq hmul
    go_enter Try.func73, Try.ntmps73
    go_wp2_with (at_builtin; go_must (refine wpList_append_lies _ (by rfl) _ _ 76 (by rfl) base 3 i0 (.int .i64 0) 1 8 Try.underlying76 hi hz0 hz1 hz2 rfl (by omega) v k xs (by rfl) (hown.alloc _) ⟨w.heap.size, 0, none⟩ 2 2 [.int .i64 (n.tdiv 1000 - 1), .int .i64 (n.tdiv 1000)] (by rfl) (by rfl) (news2 _ _ _ _) (one2 _ _) (by omega) (by unfold maxLen; omega) (by omega) (by simp; omega) (w.heap.size + 1) (by simp) ?_))
    intro g cap w1 hown1 hgrow hat hlt
    have hob : ∀ j, v.ownBlock = some j → base ≤ j := fun j hj => (hown.lt j hj).1
    have hne : some B ≠ v.ownBlock := fun hE => by have := hob B hE.symm; omega
    have kc : w1.cell? ⟨B, 0, none⟩ = some v := (hgrow.cell_far ⟨B, 0, none⟩ (by simp; omega) hne).trans (by go_cell)
    have kfz : w1.frozen? ⟨B, 0, none⟩ = false := (hgrow.frozen_far ⟨B, 0, none⟩ (by simp; omega) hne).trans (by go_simp)
    have hgB : base ≤ g := (hown1.lt g rfl).1
    have hA := apart_of hgrow hbase hob hB
    have HA := Lib.hid hA
    have HO := Lib.hid hown1
    clear hA hown1 hob hne
    go_wp2_with fail
    go_end0
    refine ⟨rfl, HA.out _, g, cap, World.cell?_setCell_same _ _ _ kc, by rw [World.frozen?_setCell]; exact kfz, ?_⟩
    rw [HE1.out, HE2.out]
    exact ownsRow_setCell_below HO.out (by exact hB) _
  · rw [if_neg (by omega)] at hq
    by_cases hm2 : n.tdiv 1000 * 1000 < n
    · have e1 : downI n = n.tdiv 1000 := by unfold downI; omega
      have e2 : upI n = n.tdiv 1000 + 1 := by rw [upI_eq]; split <;> omega
      have HE1 := Lib.hid e1
      have HE2 := Lib.hid e2
      clear e1 e2 hq hmul
      go_enter Try.func73, Try.ntmps73
      go_wp2_with (at_builtin; go_must (refine wpList_append_lies _ (by rfl) _ _ 76 (by rfl) base 3 i0 (.int .i64 0) 1 8 Try.underlying76 hi hz0 hz1 hz2 rfl (by omega) v k xs (by rfl) (hown.alloc _) ⟨w.heap.size, 0, none⟩ 2 2 [.int .i64 (n.tdiv 1000), .int .i64 (n.tdiv 1000 + 1)] (by rfl) (by rfl) (news2 _ _ _ _) (one2 _ _) (by omega) (by unfold maxLen; omega) (by omega) (by simp; omega) (w.heap.size + 1) (by simp) ?_))
      intro g cap w1 hown1 hgrow hat hlt
      have hob : ∀ j, v.ownBlock = some j → base ≤ j := fun j hj => (hown.lt j hj).1
      have hne : some B ≠ v.ownBlock := fun hE => by have := hob B hE.symm; omega
      have kc : w1.cell? ⟨B, 0, none⟩ = some v := (hgrow.cell_far ⟨B, 0, none⟩ (by simp; omega) hne).trans (by go_cell)
      have kfz : w1.frozen? ⟨B, 0, none⟩ = false := (hgrow.frozen_far ⟨B, 0, none⟩ (by simp; omega) hne).trans (by go_simp)
      have hgB : base ≤ g := (hown1.lt g rfl).1
      have hA := apart_of hgrow hbase hob hB
      have HA := Lib.hid hA
      have HO := Lib.hid hown1
      clear hA hown1 hob hne
      go_wp2_with fail
      go_end0
      refine ⟨rfl, HA.out _, g, cap, World.cell?_setCell_same _ _ _ kc, by rw [World.frozen?_setCell]; exact kfz, ?_⟩
      rw [HE1.out, HE2.out]
      exact ownsRow_setCell_below HO.out (by exact hB) _
    · have e1 : downI n = n.tdiv 1000 := by unfold downI; omega
      have e2 : upI n = n.tdiv 1000 := by rw [upI_eq]; split <;> omega
      have HE1 := Lib.hid e1
      have HE2 := Lib.hid e2
      clear e1 e2 hq hmul
      go_enter Try.func73, Try.ntmps73
      go_wp2_with (at_builtin; go_must (refine wpList_append_lies _ (by rfl) _ _ 76 (by rfl) base 3 i0 (.int .i64 0) 1 8 Try.underlying76 hi hz0 hz1 hz2 rfl (by omega) v k xs (by rfl) (hown.alloc _) ⟨w.heap.size, 0, none⟩ 2 2 [.int .i64 (n.tdiv 1000), .int .i64 (n.tdiv 1000)] (by rfl) (by rfl) (news2 _ _ _ _) (one2 _ _) (by omega) (by unfold maxLen; omega) (by omega) (by simp; omega) (w.heap.size + 1) (by simp) ?_))
      intro g cap w1 hown1 hgrow hat hlt
      have hob : ∀ j, v.ownBlock = some j → base ≤ j := fun j hj => (hown.lt j hj).1
      have hne : some B ≠ v.ownBlock := fun hE => by have := hob B hE.symm; omega
      have kc : w1.cell? ⟨B, 0, none⟩ = some v := (hgrow.cell_far ⟨B, 0, none⟩ (by simp; omega) hne).trans (by go_cell)
      have kfz : w1.frozen? ⟨B, 0, none⟩ = false := (hgrow.frozen_far ⟨B, 0, none⟩ (by simp; omega) hne).trans (by go_simp)
      have hgB : base ≤ g := (hown1.lt g rfl).1
      have hA := apart_of hgrow hbase hob hB
      have HA := Lib.hid hA
      have HO := Lib.hid hown1
      clear hA hown1 hob hne
      go_wp2_with fail
      go_end0
      refine ⟨rfl, HA.out _, g, cap, World.cell?_setCell_same _ _ _ kc, by rw [World.frozen?_setCell]; exact kfz, ?_⟩
      rw [HE1.out, HE2.out]
      exact ownsRow_setCell_below HO.out (by exact hB) _

theorem Apart.cell {base B : Nat} {w w' : World} (h : Apart base B w w') {b o : Nat} {v : Value} (hb : b < base) (hne : b ≠ B) (hc : w.cell? ⟨b, o, none⟩ = some v) : w'.cell? ⟨b, o, none⟩ = some v :=
  (World.cell?_of_block (w := w) (w' := w') (a := ⟨b, o, none⟩) (h.block b hb hne)).trans hc
theorem Apart.frozen {base B : Nat} {w w' : World} (h : Apart base B w w') {b o : Nat} {v : Bool} (hb : b < base) (hne : b ≠ B) (hc : w.frozen? ⟨b, o, none⟩ = v) : w'.frozen? ⟨b, o, none⟩ = v :=
  (World.frozen?_of_block (w := w) (w' := w') (a := ⟨b, o, none⟩) (h.block b hb hne)).trans hc
theorem Apart.below {base B : Nat} {w w' : World} (h : Apart base B w w') (hB : B ≤ base) : Below B w w' :=
  ⟨h.os, h.tape, h.output, h.size, fun k hk => h.block k (by omega) (by omega)⟩

def timesS (sl sh pl ph : Int) : Int × Int × Int :=
  if vld sl sh && partsB pl ph then leastS (downI (min (sl * pl) (sl * ph))) (upI (max (sh * pl) (sh * ph))) else (0, 0, 1)

/-- bounds of the four products -/
theorem prod_bounds {x p : Int} (hx1 : -1000000000000 ≤ x) (hx2 : x ≤ 1000000000000) (hp1 : 0 ≤ p) (hp2 : p ≤ 1000000) : -1000000000000000000 ≤ x * p ∧ x * p ≤ 1000000000000000000 := by
  have a1 : -1000000000000 * p ≤ x * p := Int.mul_le_mul_of_nonneg_right hx1 hp1
  have a2 : x * p ≤ 1000000000000 * p := Int.mul_le_mul_of_nonneg_right hx2 hp1
  omega

set_option maxHeartbeats 400000 in
theorem Times_no (sl sh pl ph : Int) (w : World) (h : (vld sl sh && partsB pl ph) = false) :
    Calls Try.prog 25 #[.agg #[.int .i64 sl, .int .i64 sh], .agg #[.int .i64 pl, .int .i64 ph]] w fun e w' => e = .returned (.tuple #[.agg #[.int .i64 (timesS sl sh pl ph).1, .int .i64 (timesS sl sh pl ph).2.1], .int .i64 (timesS sl sh pl ph).2.2]) ∧ Below w.heap.size w w' := by
  have hr : timesS sl sh pl ph = (0, 0, 1) := by simp [timesS, h]
  have H := fun b w hb c0 c1 c2 c3 => valid2_any b sl sh pl ph w hb c0 c1 c2 c3
  have HR := Lib.hid hr
  cases hv : (vld sl sh && vld pl ph)
  case false =>
    rw [hv] at H
    have HV := Lib.hid H
    clear hv H hr h
    go_enter Try.func25, Try.ntmps25
    go_wp2_with fail
    refine (HV.out _ _ (by go_size) (by go_cell) (by go_cell) (by go_cell) (by go_cell)).mono ?_
    rintro e w1 ⟨rfl, hb1⟩
    have hB1 : Below w.heap.size w w1 := below_after (by go_grown) hb1
    have hz1 := hb1.size
    try simp only [World.size_alloc, World.size_setCell, World.size_drew] at hz1
    have f_r0 : w1.frozen? ⟨w.heap.size + 1 + 1, 0, none⟩ = false := kf hb1 (by go_simp) (by go_simp)
    have f_r1 : w1.frozen? ⟨w.heap.size + 1 + 1, 1, none⟩ = false := kf hb1 (by go_simp) (by go_simp)
    have c_r0 : w1.cell? ⟨w.heap.size + 1 + 1, 0, none⟩ = some (.int .i64 0) := kp hb1 (by go_cell)
    have c_r1 : w1.cell? ⟨w.heap.size + 1 + 1, 1, none⟩ = some (.int .i64 0) := kp hb1 (by go_cell)
    clear hb1
    go_wp2_with fail
    rw [HR.out]
    refine ret_span (B := w.heap.size + 1 + 1) rfl rfl rfl (set2s _ _ (by go_simp) (by go_simp)) ⟨rfl, ?_⟩
    go_grown
  case true =>
    rw [hv] at H
    have HV := Lib.hid H
    have h1 := and_left hv
    have h2 := and_right hv
    have h3 : pl < 0 ∨ (¬ pl < 0 ∧ 1000000 < ph) := by
      simp only [partsB, h1, h2, Bool.true_and, Bool.and_eq_false_iff, decide_eq_false_iff_not] at h
      omega
    clear hv H hr h h1 h2
    rcases h3 with h3 | ⟨h3, h4⟩
    · go_enter Try.func25, Try.ntmps25
      go_wp2_with fail
      refine (HV.out _ _ (by go_size) (by go_cell) (by go_cell) (by go_cell) (by go_cell)).mono ?_
      rintro e w1 ⟨rfl, hb1⟩
      have hB1 : Below w.heap.size w w1 := below_after (by go_grown) hb1
      have hz1 := hb1.size
      try simp only [World.size_alloc, World.size_setCell, World.size_drew] at hz1
      have c_b0 : w1.cell? ⟨w.heap.size + 1, 0, none⟩ = some (.int .i64 pl) := kp hb1 (by go_cell)
      have c_b1 : w1.cell? ⟨w.heap.size + 1, 1, none⟩ = some (.int .i64 ph) := kp hb1 (by go_cell)
      have f_r0 : w1.frozen? ⟨w.heap.size + 1 + 1, 0, none⟩ = false := kf hb1 (by go_simp) (by go_simp)
      have f_r1 : w1.frozen? ⟨w.heap.size + 1 + 1, 1, none⟩ = false := kf hb1 (by go_simp) (by go_simp)
      have c_r0 : w1.cell? ⟨w.heap.size + 1 + 1, 0, none⟩ = some (.int .i64 0) := kp hb1 (by go_cell)
      have c_r1 : w1.cell? ⟨w.heap.size + 1 + 1, 1, none⟩ = some (.int .i64 0) := kp hb1 (by go_cell)
      clear hb1
      go_wp2_with fail
      rw [HR.out]
      refine ret_span (B := w.heap.size + 1 + 1) rfl rfl rfl (set2s _ _ (by go_simp) (by go_simp)) ⟨rfl, ?_⟩
      go_grown
    · go_enter Try.func25, Try.ntmps25
      go_wp2_with fail
      refine (HV.out _ _ (by go_size) (by go_cell) (by go_cell) (by go_cell) (by go_cell)).mono ?_
      rintro e w1 ⟨rfl, hb1⟩
      have hB1 : Below w.heap.size w w1 := below_after (by go_grown) hb1
      have hz1 := hb1.size
      try simp only [World.size_alloc, World.size_setCell, World.size_drew] at hz1
      have c_b0 : w1.cell? ⟨w.heap.size + 1, 0, none⟩ = some (.int .i64 pl) := kp hb1 (by go_cell)
      have c_b1 : w1.cell? ⟨w.heap.size + 1, 1, none⟩ = some (.int .i64 ph) := kp hb1 (by go_cell)
      have f_r0 : w1.frozen? ⟨w.heap.size + 1 + 1, 0, none⟩ = false := kf hb1 (by go_simp) (by go_simp)
      have f_r1 : w1.frozen? ⟨w.heap.size + 1 + 1, 1, none⟩ = false := kf hb1 (by go_simp) (by go_simp)
      have c_r0 : w1.cell? ⟨w.heap.size + 1 + 1, 0, none⟩ = some (.int .i64 0) := kp hb1 (by go_cell)
      have c_r1 : w1.cell? ⟨w.heap.size + 1 + 1, 1, none⟩ = some (.int .i64 0) := kp hb1 (by go_cell)
      clear hb1
      go_wp2_with fail
      rw [HR.out]
      refine ret_span (B := w.heap.size + 1 + 1) rfl rfl rfl (set2s _ _ (by go_simp) (by go_simp)) ⟨rfl, ?_⟩
      go_grown

set_option maxHeartbeats 400000 in
theorem Times_yes (sl sh pl ph : Int) (w : World) (h : (vld sl sh && partsB pl ph) = true) :
    Calls Try.prog 25 #[.agg #[.int .i64 sl, .int .i64 sh], .agg #[.int .i64 pl, .int .i64 ph]] w fun e w' => e = .returned (.tuple #[.agg #[.int .i64 (timesS sl sh pl ph).1, .int .i64 (timesS sl sh pl ph).2.1], .int .i64 (timesS sl sh pl ph).2.2]) ∧ Below w.heap.size w w' := by
  have hr : timesS sl sh pl ph = leastS (downI (min (sl * pl) (sl * ph))) (upI (max (sh * pl) (sh * ph))) := by simp [timesS, h]
  have HR := Lib.hid hr
  have H := fun b w hb c0 c1 c2 c3 => valid2_any b sl sh pl ph w hb c0 c1 c2 c3
  have h1 := and_left h
  have h2 := and_right h
  have h3 : vld pl ph = true ∧ 0 ≤ pl ∧ ph ≤ 1000000 := by simpa [partsB, and_assoc] using h2
  rw [show (vld sl sh && vld pl ph) = true by rw [h1, h3.1]; rfl] at H
  have HV := Lib.hid H
  obtain ⟨h4, hp1, hp2⟩ := h3
  have hs := vld_bounds h1
  have hp := vld_bounds h4
  obtain ⟨s1, s2, s3⟩ := hs
  obtain ⟨p1, p2, p3⟩ := hp
  clear H hr h h1 h2 h4
  have b1 := prod_bounds (x := sl) (p := pl) (by omega) (by omega) hp1 (by omega)
  have b2 := prod_bounds (x := sh) (p := pl) (by omega) (by omega) hp1 (by omega)
  have b3 := prod_bounds (x := sl) (p := ph) (by omega) (by omega) (by omega) hp2
  have b4 := prod_bounds (x := sh) (p := ph) (by omega) (by omega) (by omega) hp2
  have m1 : sl * pl ≤ sh * pl := Int.mul_le_mul_of_nonneg_right s1 hp1
  have m2 : sl * ph ≤ sh * ph := Int.mul_le_mul_of_nonneg_right s1 (by omega)
  obtain ⟨b11, b12⟩ := b1
  obtain ⟨b21, b22⟩ := b2
  obtain ⟨b31, b32⟩ := b3
  obtain ⟨b41, b42⟩ := b4
  have L1 : mnTo [downI (sl * pl), upI (sl * pl), downI (sh * pl), upI (sh * pl), downI (sl * ph), upI (sl * ph), downI (sh * ph), upI (sh * ph)] (8 - 1) = downI (min (sl * pl) (sl * ph)) := by
    simp only [mnTo, downI, upI, List.getD, List.getElem?_cons_succ, List.getElem?_cons_zero, Option.getD_some]
    omega
  have L2 : mxTo [downI (sl * pl), upI (sl * pl), downI (sh * pl), upI (sh * pl), downI (sl * ph), upI (sl * ph), downI (sh * ph), upI (sh * ph)] (8 - 1) = upI (max (sh * pl) (sh * ph)) := by
    simp only [mxTo, downI, upI, List.getD, List.getElem?_cons_succ, List.getElem?_cons_zero, Option.getD_some]
    omega
  have HL1 := Lib.hid L1
  have HL2 := Lib.hid L2
  clear L1 L2
  go_enter Try.func25, Try.ntmps25
  go_wp2_with fail
  refine (HV.out _ _ (by go_size) (by go_cell) (by go_cell) (by go_cell) (by go_cell)).mono ?_
  rintro e w1 ⟨rfl, hb1⟩
  have hB1 : Below w.heap.size w w1 := below_after (by go_grown) hb1
  have hz1 := hb1.size
  try simp only [World.size_alloc, World.size_setCell, World.size_drew] at hz1
  have c_a0 : w1.cell? ⟨w.heap.size, 0, none⟩ = some (.int .i64 sl) := kp hb1 (by go_cell)
  have c_a1 : w1.cell? ⟨w.heap.size, 1, none⟩ = some (.int .i64 sh) := kp hb1 (by go_cell)
  have c_b0 : w1.cell? ⟨w.heap.size + 1, 0, none⟩ = some (.int .i64 pl) := kp hb1 (by go_cell)
  have c_b1 : w1.cell? ⟨w.heap.size + 1, 1, none⟩ = some (.int .i64 ph) := kp hb1 (by go_cell)
  have f_r0 : w1.frozen? ⟨w.heap.size + 1 + 1, 0, none⟩ = false := kf hb1 (by go_simp) (by go_simp)
  have f_r1 : w1.frozen? ⟨w.heap.size + 1 + 1, 1, none⟩ = false := kf hb1 (by go_simp) (by go_simp)
  have c_r0 : w1.cell? ⟨w.heap.size + 1 + 1, 0, none⟩ = some (.int .i64 0) := kp hb1 (by go_cell)
  have c_r1 : w1.cell? ⟨w.heap.size + 1 + 1, 1, none⟩ = some (.int .i64 0) := kp hb1 (by go_cell)
  clear hb1
  go_wp2_with fail
  refine wp_loop_rounds 3 ?_
  rw [rounds_succ]
  go_wp2_with fail
  refine (round_any (sl * pl) w1.heap.size (w1.heap.size + 1 + 1) 0 (.slice none 0 0) [] _ (by omega) (by omega) (by omega) (by go_size) (by go_cell) (by go_simp) (World.ownsRow_nil _ _ _ _) (by omega)).mono ?_
  rintro e x1 ⟨rfl, A1, g1, cap1, hl, hlf, ho⟩
  have hBx : Below w.heap.size w x1 := Below.trans (by go_grown) ((A1.below (by omega)).mono (by omega))
  have d_a0 : x1.cell? ⟨w.heap.size, 0, none⟩ = some (.int .i64 sl) := A1.cell (by omega) (by omega) (by go_cell)
  have d_a1 : x1.cell? ⟨w.heap.size, 1, none⟩ = some (.int .i64 sh) := A1.cell (by omega) (by omega) (by go_cell)
  have d_r0 : x1.cell? ⟨w.heap.size + 1 + 1, 0, none⟩ = some (.int .i64 0) := A1.cell (by omega) (by omega) (by go_cell)
  have d_r1 : x1.cell? ⟨w.heap.size + 1 + 1, 1, none⟩ = some (.int .i64 0) := A1.cell (by omega) (by omega) (by go_cell)
  have d_q0 : x1.cell? ⟨w1.heap.size + 1, 0, none⟩ = some (.int .i64 pl) := A1.cell (by omega) (by omega) (by go_cell)
  have d_q1 : x1.cell? ⟨w1.heap.size + 1, 1, none⟩ = some (.int .i64 ph) := A1.cell (by omega) (by omega) (by go_cell)
  have df_0 : x1.frozen? ⟨w.heap.size + 1 + 1, 0, none⟩ = false := A1.frozen (by omega) (by omega) (by go_simp)
  have df_1 : x1.frozen? ⟨w.heap.size + 1 + 1, 1, none⟩ = false := A1.frozen (by omega) (by omega) (by go_simp)
  have hxs := A1.size
  simp only [World.size_alloc] at hxs
  have HO := Lib.hid ho
  clear A1 ho
  go_wp2_with fail
  refine (round_any (sh * pl) w1.heap.size (w1.heap.size + 1 + 1) 2 _ _ _ (by omega) (by omega) (by omega) (by omega) (by go_cell) (by go_simp) HO.out (by omega)).mono ?_
  rintro e x2 ⟨rfl, A2, g2, cap2, hl2, hlf2, ho2⟩
  replace hBx : Below w.heap.size w x2 := hBx.trans ((A2.below (by omega)).mono (by omega))
  replace df_0 : x2.frozen? ⟨w.heap.size + 1 + 1, 0, none⟩ = false := A2.frozen (by omega) (by omega) df_0
  replace df_1 : x2.frozen? ⟨w.heap.size + 1 + 1, 1, none⟩ = false := A2.frozen (by omega) (by omega) df_1
  replace d_a0 : x2.cell? ⟨w.heap.size, 0, none⟩ = some (.int .i64 sl) := A2.cell (by omega) (by omega) d_a0
  replace d_a1 : x2.cell? ⟨w.heap.size, 1, none⟩ = some (.int .i64 sh) := A2.cell (by omega) (by omega) d_a1
  replace d_r0 : x2.cell? ⟨w.heap.size + 1 + 1, 0, none⟩ = some (.int .i64 0) := A2.cell (by omega) (by omega) d_r0
  replace d_r1 : x2.cell? ⟨w.heap.size + 1 + 1, 1, none⟩ = some (.int .i64 0) := A2.cell (by omega) (by omega) d_r1
  replace d_q0 : x2.cell? ⟨w1.heap.size + 1, 0, none⟩ = some (.int .i64 pl) := A2.cell (by omega) (by omega) d_q0
  replace d_q1 : x2.cell? ⟨w1.heap.size + 1, 1, none⟩ = some (.int .i64 ph) := A2.cell (by omega) (by omega) d_q1
  have hxs2 := A2.size
  replace HO := Lib.hid ho2
  replace hl := hl2
  replace hlf := hlf2
  clear A2 ho2 hl2 hlf2
  go_wp2_with fail
  rw [rounds_succ]
  go_wp2_with fail
  refine (round_any (sl * ph) w1.heap.size (w1.heap.size + 1 + 1) 4 _ _ _ (by omega) (by omega) (by omega) (by omega) (by go_cell) (by go_simp) HO.out (by omega)).mono ?_
  rintro e x3 ⟨rfl, A3, g3, cap3, hl3, hlf3, ho3⟩
  replace hBx : Below w.heap.size w x3 := hBx.trans ((A3.below (by omega)).mono (by omega))
  replace df_0 : x3.frozen? ⟨w.heap.size + 1 + 1, 0, none⟩ = false := A3.frozen (by omega) (by omega) df_0
  replace df_1 : x3.frozen? ⟨w.heap.size + 1 + 1, 1, none⟩ = false := A3.frozen (by omega) (by omega) df_1
  replace d_a0 : x3.cell? ⟨w.heap.size, 0, none⟩ = some (.int .i64 sl) := A3.cell (by omega) (by omega) d_a0
  replace d_a1 : x3.cell? ⟨w.heap.size, 1, none⟩ = some (.int .i64 sh) := A3.cell (by omega) (by omega) d_a1
  replace d_r0 : x3.cell? ⟨w.heap.size + 1 + 1, 0, none⟩ = some (.int .i64 0) := A3.cell (by omega) (by omega) d_r0
  replace d_r1 : x3.cell? ⟨w.heap.size + 1 + 1, 1, none⟩ = some (.int .i64 0) := A3.cell (by omega) (by omega) d_r1
  replace d_q0 : x3.cell? ⟨w1.heap.size + 1, 0, none⟩ = some (.int .i64 pl) := A3.cell (by omega) (by omega) d_q0
  replace d_q1 : x3.cell? ⟨w1.heap.size + 1, 1, none⟩ = some (.int .i64 ph) := A3.cell (by omega) (by omega) d_q1
  have hxs3 := A3.size
  replace HO := Lib.hid ho3
  replace hl := hl3
  replace hlf := hlf3
  clear A3 ho3 hl3 hlf3
  go_wp2_with fail
  refine (round_any (sh * ph) w1.heap.size (w1.heap.size + 1 + 1) 6 _ _ _ (by omega) (by omega) (by omega) (by omega) (by go_cell) (by go_simp) HO.out (by omega)).mono ?_
  rintro e x4 ⟨rfl, A4, g4, cap4, hl4, hlf4, ho4⟩
  replace hBx : Below w.heap.size w x4 := hBx.trans ((A4.below (by omega)).mono (by omega))
  replace df_0 : x4.frozen? ⟨w.heap.size + 1 + 1, 0, none⟩ = false := A4.frozen (by omega) (by omega) df_0
  replace df_1 : x4.frozen? ⟨w.heap.size + 1 + 1, 1, none⟩ = false := A4.frozen (by omega) (by omega) df_1
  replace d_a0 : x4.cell? ⟨w.heap.size, 0, none⟩ = some (.int .i64 sl) := A4.cell (by omega) (by omega) d_a0
  replace d_a1 : x4.cell? ⟨w.heap.size, 1, none⟩ = some (.int .i64 sh) := A4.cell (by omega) (by omega) d_a1
  replace d_r0 : x4.cell? ⟨w.heap.size + 1 + 1, 0, none⟩ = some (.int .i64 0) := A4.cell (by omega) (by omega) d_r0
  replace d_r1 : x4.cell? ⟨w.heap.size + 1 + 1, 1, none⟩ = some (.int .i64 0) := A4.cell (by omega) (by omega) d_r1
  replace d_q0 : x4.cell? ⟨w1.heap.size + 1, 0, none⟩ = some (.int .i64 pl) := A4.cell (by omega) (by omega) d_q0
  replace d_q1 : x4.cell? ⟨w1.heap.size + 1, 1, none⟩ = some (.int .i64 ph) := A4.cell (by omega) (by omega) d_q1
  have hxs4 := A4.size
  replace HO := Lib.hid ho4
  replace hl := hl4
  replace hlf := hlf4
  clear A4 ho4 hl4 hlf4
  go_wp2_with fail
  rw [rounds_succ]
  go_wp2_with fail
  have hc : ∀ i, i < 8 → x4.cell? ⟨g4, 0 + i, none⟩ = some (.int .i64 ([downI (sl * pl), upI (sl * pl), downI (sh * pl), upI (sh * pl), downI (sl * ph), upI (sl * ph), downI (sh * ph), upI (sh * ph)].getD i 0)) := by
    intro i hi
    rw [Nat.zero_add, World.ownsRow.cellAt HO.out i (by omega)]
    match i, hi with | 0, _ => rfl | 1, _ => rfl | 2, _ => rfl | 3, _ => rfl | 4, _ => rfl | 5, _ => rfl | 6, _ => rfl | 7, _ => rfl
  have HC := Lib.hid hc
  have hg4 := (World.ownsRow.lt HO.out g4 rfl).2
  clear hc
  refine (least_any g4 0 8 cap4 [downI (sl * pl), upI (sl * pl), downI (sh * pl), upI (sh * pl), downI (sl * ph), upI (sl * ph), downI (sh * ph), upI (sh * ph)] _ (by omega) (by rfl) (by omega) hg4 HC.out _ _ HL1.out HL2.out).mono ?_
  rintro e w2 ⟨rfl, hb2⟩
  have hB2 : Below w.heap.size w w2 := below_after hBx hb2
  have f_r0 : w2.frozen? ⟨w.heap.size + 1 + 1, 0, none⟩ = false := kf hb2 (by go_simp) df_0
  have c_r0 : w2.cell? ⟨w.heap.size + 1 + 1, 0, none⟩ = some (.int .i64 0) := kp hb2 d_r0
  have f_r1 : w2.frozen? ⟨w.heap.size + 1 + 1, 1, none⟩ = false := kf hb2 (by go_simp) df_1
  have c_r1 : w2.cell? ⟨w.heap.size + 1 + 1, 1, none⟩ = some (.int .i64 0) := kp hb2 d_r1
  clear hb2 hBx
  go_wp2_with fail
  rw [HR.out]
  refine ret_span (B := w.heap.size + 1 + 1) rfl rfl rfl (set2s _ _ (by go_simp) (by go_simp)) ⟨rfl, ?_⟩
  go_grown

theorem Times_any (sl sh pl ph : Int) (w : World) :
    Calls Try.prog 25 #[.agg #[.int .i64 sl, .int .i64 sh], .agg #[.int .i64 pl, .int .i64 ph]] w fun e w' => e = .returned (.tuple #[.agg #[.int .i64 (timesS sl sh pl ph).1, .int .i64 (timesS sl sh pl ph).2.1], .int .i64 (timesS sl sh pl ph).2.2]) ∧ Below w.heap.size w w' := by
  cases h : (vld sl sh && partsB pl ph)
  · exact Times_no sl sh pl ph w h
  · exact Times_yes sl sh pl ph w h

end Go.Proofs.Ytollpjdnahemeaa
