import Derived.Test.YtollpjdnahemeaaQ1
import Derived.RangeFuncNested
import Derived.RangeFuncBound
import Derived.RangeFuncCalls
import Derived.RangeFuncLeaves
import Derived.Shelf.Abstract
import Derived.Shelf.RegionOpen
import Derived.WalkKit
import Derived.OwnWalkIn
import Derived.TacticsInMore
import Derived.LoopNIn
import Derived.LoopIn
import Derived.Maps.AppendAt
namespace Go.Proofs.Ytollpjdnahemeaa
open Go.RowKit Go.Shelf
set_option linter.unusedSimpArgs false
set_option linter.unusedVariables false
attribute [local go_sem] Oper.semAt_some

def allOk (pre : List (Int × Wt)) : Prop := ∀ p ∈ pre, okP p = true
def endsBad (pre : List (Int × Wt)) : Prop := ∃ ini last, pre = ini ++ [last] ∧ okP last = false
theorem allOk.snoc {pre : List (Int × Wt)} {p : Int × Wt} (h : allOk pre) (hp : okP p = true) : allOk (pre ++ [p]) := fun q hq => by
  rcases List.mem_append.1 hq with h1 | h1
  · exact h q h1
  · simp at h1; subst h1; exact hp
theorem endsBad.snoc {pre : List (Int × Wt)} {p : Int × Wt} (hp : okP p = false) : endsBad (pre ++ [p]) := ⟨pre, p, rfl, hp⟩
set_option maxRecDepth 100000 in
set_option maxHeartbeats 2000000 in
theorem SValid_go (A : Option Addr) (m c : Nat) (xs : List Wt) (w : World) (hn : xs.length = m + 1) (hm : m + 1 ≤ 20) (hx : Wts? w.heap.size w A xs) (z : Wt) (hz : xs[m]? = some z) (hz2 : z.til = 100000) :
    Calls Try.prog 61 #[.slice A (m + 1) c] w fun e w' => e = .returned (.bool (wValid xs)) ∧ Below w.heap.size w w' := by
  obtain ⟨b, off, rfl, hlt, hcs⟩ := hx (by omega)
  obtain ⟨z0, _, _⟩ := hcs m z hz
  rw [hz2] at z0
  have hm2 : ¬ ((20 : Int) < (m : Int) + 1) := by omega
  have hm3 : ¬ ((m : Int) + 1 = 0) := by omega
  refine (callsIn_wide (n := 3)).1 ?_
  refine callsIn_of_wp_marks Try.func61 rfl trivial ?_ rfl
  simp only [Try.ntmps61, List.size_toArray, List.length_cons, List.length_nil, Nat.reduceAdd, Nat.reduceSub, Array.replicate_succ, Array.replicate_zero, List.push_toArray, List.append_toArray, List.nil_append, List.cons_append]
  gi_wp2_with (refine ⟨trivial, ?_⟩; gi_at_call 87; refine (layers_in Fence.wide 2 trivial rfl _ _ _ _).mono ?_; rintro e w' ⟨rfl, rfl⟩)
  have hc1 : ((w.alloc (.cells #[.bool false] 4)).alloc (.cells #[.slice (some ⟨b, off, none⟩) (m + 1) c] 60)).cell? ⟨w.heap.size + 1, 0, none⟩ = some (.slice (some ⟨b, off, none⟩) (m + 1) c) := by
    have h9 := Boxed.new (w.alloc (.cells #[.bool false] 4)) 60 (.slice (some ⟨b, off, none⟩) (m + 1) c)
    rw [World.size_alloc] at h9
    exact h9.cell
  have hc0 := Boxed.new w 4 (.bool false)
  have hB0 : Below w.heap.size w ((w.alloc (.cells #[.bool false] 4)).alloc (.cells #[.slice (some ⟨b, off, none⟩) (m + 1) c] 60)) := ((Below.refl _ w).alloc (Nat.le_refl _) _).alloc (by simp) _
  refine wpIn_rangeFunc_ownH rfl (by omega) (gf := 99) (lb := #[.pointer (some ⟨w.heap.size + 1, 0, none⟩)]) rfl trivial (enters_of Try.func99 (by kernel_rfl) rfl)
    (layers_stops Fence.wide _ trivial rfl (by omega) (w.heap.size + 1) w.heap.size _ (m + 1) c xs hn (by omega) _ (by simp) (by simp; omega) hc1 (hx.upto hB0)) kp2_t (kp2_b (by simp; omega)) (Below.refl _ _) (fun _ => rfl)
    (fun pre W => (allOk pre ∧ W.cell? ⟨w.heap.size, 0, none⟩ = some (.bool false) ∧ W.frozen? ⟨w.heap.size, 0, none⟩ = false) ∧ Below w.heap.size w W)
    (fun cd pre W => (cd = .ret ∧ endsBad pre ∧ W.cell? ⟨w.heap.size, 0, none⟩ = some (.bool false)) ∧ Below w.heap.size w W)
    (OwnFrom.and (Own.from (fun s A B row hs hg hr => ⟨hs.1, cell_kept hs.2.1 hg hr, (frozen_kept hs.2.1 hg hr).trans hs.2.2⟩) _) (ownFrom_below (Nat.le_refl _) (by simp; omega)))
    (fun c => OwnFrom.and (Own.from (fun s A B row hs hg hr => ⟨hs.1, hs.2.1, cell_kept hs.2.2 hg hr⟩) _) (ownFrom_below (Nat.le_refl _) (by simp; omega)))
    ⟨⟨fun p hp => absurd hp (by simp), (hc0.alloc _).cell, (hc0.alloc _).frozen⟩, hB0⟩
    (fun p a' W => ∃ Bx, w.heap.size < Bx ∧ WtAt W Bx 0 p.2 ∧ a' = { tmps := #[.slice (some ⟨b, off, none⟩) (m + 1) c, undef, .pointer (some ⟨w.heap.size, 0, none⟩), .int .i64 p.1, .pointer (some ⟨Bx, 0, none⟩), .slice (some ⟨b, off, none⟩) (m + 1) c, .int .i64 ((m : Int) + 1), .bool false, .bool false, .slice (some ⟨b, off, none⟩) (m + 1) c, .int .i64 ((m : Int) + 1), .bool false, .bool false, .bool false, .slice (some ⟨b, off, none⟩) (m + 1) c, .slice (some ⟨b, off, none⟩) (m + 1) c, .int .i64 ((m : Int) + 1), .int .i64 (m : Int), .pointer (some ⟨b, off + m * 3, none⟩), .pointer (some ⟨b, off + m * 3, none⟩), .int .i64 100000, .bool false, .bool false, .slice (some ⟨b, off, none⟩) (m + 1) c, .func (.func 99) #[] #[.pointer (some ⟨w.heap.size + 1, 0, none⟩)], .int .i64 p.1, p.2.val, undef, undef, undef, undef, undef, undef, undef, undef, undef, undef, undef, undef, undef, undef, undef, undef, undef, undef, undef, undef, undef, undef, undef, undef, undef], defers := [] })
    (fun p a' _ X Y row hs hg hr => by
      obtain ⟨Bx, h1, ⟨h2, h3, h4⟩, h5⟩ := hs
      exact ⟨Bx, h1, ⟨cell_kept h2 hg (fun r e => (hr r e).2), cell_kept h3 hg (fun r e => (hr r e).2), cell_kept h4 hg (fun r e => (hr r e).2)⟩, h5⟩)
    ?assign ?body ?done ?stop
  case assign =>
    rintro l pre p W K ⟨⟨hp, hcr, hfr⟩, hB⟩ hK
    have hlt9 := World.block_lt_of_cell? _ _ hcr
    gi_wp2
    have hbn : Below W.heap.size W (W.alloc (.cells #[.int .i64 p.2.til, .int .i64 p.2.lo, .int .i64 p.2.hi] 68)) := (Below.refl _ W).alloc (Nat.le_refl _) _
    exact hK _ _ ((KeepsOthers.alloc _ _).from _) ⟨hbn.mono hB.size, KeepT.below hbn⟩ ⟨⟨hp, (hbn.cell (p := ⟨w.heap.size, 0, none⟩) hlt9).trans hcr, (hbn.frozen (p := ⟨w.heap.size, 0, none⟩) hlt9).trans hfr⟩, hB.alloc hB.size _⟩ ⟨W.heap.size, hlt9, ⟨by go_cell, by go_cell, by go_cell⟩, rfl⟩
  case body =>
    rintro l pre p a' W hl ⟨r, hr⟩ ⟨⟨hp, hcr, hfr⟩, hB⟩ ⟨Bx, hBx, ⟨x0, x1, x2⟩, rfl⟩ hlen
    simp only [Nat.zero_add] at x1 x2
    gi_wp2
    all_goals first
      | exact ⟨(KeepsOthers.setCell _ _ _).from _, ⟨rfl, endsBad.snoc (by simp only [okP, Bool.and_eq_false_iff, decide_eq_false_iff_not]; omega), World.cell?_setCell_same' _ _ _ (by rw [hcr]; rfl)⟩, hB.setCell (p := ⟨w.heap.size, 0, none⟩) (Nat.le_refl _) _⟩
      | exact ⟨KeepsFrom.refl _ _, ⟨Below.refl _ _, KeepT.refl _⟩, ⟨hp.snoc ((okP_iff p).2 (by omega)), hcr, hfr⟩, hB⟩
  case done =>
    rintro D ys W hD rfl ⟨⟨hall, hcr, hfr⟩, hB⟩ hK
    gi_wp2
    have hK' := (KeepsOthers.setCell W ⟨w.heap.size, 0, none⟩ (.bool true)).same D _ hK rfl
    refine ⟨by simp, .inl ⟨_, _, rfl, run_takeDeferred hK', ?_⟩⟩
    have hc5 := cell_kept (World.cell?_setCell_same' W ⟨w.heap.size, 0, none⟩ (.bool true) (by rw [hcr]; rfl)) (grownBy_putObj' _ D (.deferred none)) (fun r e => by cases e; exact ⟨_, hK', rfl⟩)
    refine ⟨.bool true, ?_, ?_, (hB.setCell (p := ⟨w.heap.size, 0, none⟩) (Nat.le_refl _) _).trans (belowK_b (w := w) (Nat.le_refl _) _ D _ _ (by simp at hD; omega) hK' rfl rfl)⟩
    · simp [results, Try.f61, go_sem, hc5]
    · rw [show wValid xs = true from (wValid_iff xs).2 ⟨by omega, by omega, by rw [hn, frm_succ hz, hz2], hall⟩]
  case stop =>
    rintro D cd pre W hD hpre ⟨⟨rfl, ⟨ini, last, e1, e2⟩, hcr⟩, hB⟩ hK
    gi_wp2
    refine ⟨by simp, .inl ⟨_, _, rfl, run_takeDeferred hK, ?_⟩⟩
    have hc5 := cell_kept hcr (grownBy_putObj' _ D (.deferred none)) (fun r e => by cases e; exact ⟨_, hK, rfl⟩)
    refine ⟨.bool false, ?_, ?_, hB.trans (belowK_b (w := w) (Nat.le_refl _) W D _ _ (by simp at hD; omega) hK rfl rfl)⟩
    · simp [results, Try.f61, go_sem, hc5]
    · have hv : wValid xs = false := by
        cases h : wValid xs with
        | false => rfl
        | true =>
          have := ((wValid_iff xs).1 h).2.2.2 last (hpre.subset (by rw [e1]; simp))
          rw [e2] at this; exact absurd this (by simp)
      rw [hv]
set_option maxRecDepth 100000 in
set_option maxHeartbeats 2000000 in
theorem SValid_zero (A : Option Addr) (n c : Nat) (xs : List Wt) (w : World) (hn : xs.length = n) (h0 : n = 0) :
    Calls Try.prog 61 #[.slice A n c] w fun e w' => e = .returned (.bool (wValid xs)) ∧ Below w.heap.size w w' := by
  subst h0
  have hv : wValid xs = false := by simp [wValid, hn]
  rw [hv]
  refine (callsIn_wide (n := 3)).1 ?_
  refine callsIn_of_wp_marks Try.func61 rfl trivial ?_ rfl
  simp only [Try.ntmps61, List.size_toArray, List.length_cons, List.length_nil, Nat.reduceAdd, Nat.reduceSub, Array.replicate_succ, Array.replicate_zero, List.push_toArray, List.append_toArray, List.nil_append, List.cons_append]
  gi_wp2
  refine ⟨.bool false, ?_, rfl, by go_grown⟩
  simp [results, Try.f61, go_sem]
set_option maxRecDepth 100000 in
set_option maxHeartbeats 2000000 in
theorem SValid_many (A : Option Addr) (n c : Nat) (xs : List Wt) (w : World) (hn : xs.length = n) (h0 : 20 < n) :
    Calls Try.prog 61 #[.slice A n c] w fun e w' => e = .returned (.bool (wValid xs)) ∧ Below w.heap.size w w' := by
  have hv : wValid xs = false := by simp [wValid, hn]; omega
  rw [hv]
  have hm2 : (20 : Int) < (n : Int) := by omega
  have hm3 : ¬ ((n : Int) = 0) := by omega
  refine (callsIn_wide (n := 3)).1 ?_
  refine callsIn_of_wp_marks Try.func61 rfl trivial ?_ rfl
  simp only [Try.ntmps61, List.size_toArray, List.length_cons, List.length_nil, Nat.reduceAdd, Nat.reduceSub, Array.replicate_succ, Array.replicate_zero, List.push_toArray, List.append_toArray, List.nil_append, List.cons_append]
  gi_wp2
  refine ⟨.bool false, ?_, rfl, by go_grown⟩
  simp [results, Try.f61, go_sem]
set_option maxRecDepth 100000 in
set_option maxHeartbeats 2000000 in
theorem SValid_last (A : Option Addr) (n c : Nat) (xs : List Wt) (w : World) (hn : xs.length = n) (hx : Wts? w.heap.size w A xs) (m : Nat) (hm : n = m + 1) (h20 : n ≤ 20) (z : Wt) (hz : xs[m]? = some z) (hz2 : z.til ≠ 100000) :
    Calls Try.prog 61 #[.slice A n c] w fun e w' => e = .returned (.bool (wValid xs)) ∧ Below w.heap.size w w' := by
  subst hm
  obtain ⟨b, off, rfl, hlt, hcs⟩ := hx (by omega)
  obtain ⟨z0, _, _⟩ := hcs m z hz
  have hv : wValid xs = false := by
    cases h : wValid xs with
    | false => rfl
    | true =>
      have := ((wValid_iff xs).1 h).2.2.1
      rw [hn, frm_succ hz] at this
      exact absurd this hz2
  rw [hv]
  have hm2 : ¬ ((20 : Int) < (m : Int) + 1) := by omega
  have hm3 : ¬ ((m : Int) + 1 = 0) := by omega
  have hz3 : (z.til != 100000) = true := by simp [hz2]
  refine (callsIn_wide (n := 3)).1 ?_
  refine callsIn_of_wp_marks Try.func61 rfl trivial ?_ rfl
  simp only [Try.ntmps61, List.size_toArray, List.length_cons, List.length_nil, Nat.reduceAdd, Nat.reduceSub, Array.replicate_succ, Array.replicate_zero, List.push_toArray, List.append_toArray, List.nil_append, List.cons_append]
  gi_wp2
  refine ⟨.bool false, ?_, rfl, by go_grown⟩
  simp [results, Try.f61, go_sem]
theorem SValid_any (A : Option Addr) (n c : Nat) (xs : List Wt) (w : World) (hn : xs.length = n) (hx : Wts? w.heap.size w A xs) :
    Calls Try.prog 61 #[.slice A n c] w fun e w' => e = .returned (.bool (wValid xs)) ∧ Below w.heap.size w w' := by
  by_cases h0 : n = 0
  · exact SValid_zero A n c xs w hn h0
  · by_cases h1 : 20 < n
    · exact SValid_many A n c xs w hn h1
    · obtain ⟨m, rfl⟩ : ∃ m, n = m + 1 := ⟨n - 1, by omega⟩
      obtain ⟨z, hz⟩ : ∃ z, xs[m]? = some z := ⟨_, List.getElem?_eq_getElem (by omega)⟩
      by_cases h2 : z.til = 100000
      · exact SValid_go A m c xs w hn (by omega) hx z hz h2
      · exact SValid_last A (m + 1) c xs w hn hx m rfl (by omega) z hz h2
end Go.Proofs.Ytollpjdnahemeaa
