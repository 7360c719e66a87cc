import Derived.Test.YtnhdnkeiijiiaaaGreatA2
import Derived.RangeFuncNested
import Derived.RangeFuncBound
import Derived.RangeFuncCalls
import Derived.RangeFuncLeaves
import Derived.RangeFuncBox
import Derived.Shelf.Abstract
import Derived.Shelf.RegionOpen
import Derived.WalkKit
import Derived.OwnWalkIn
import Derived.TacticsInMore
import Derived.LoopNIn
import Derived.LoopIn
import Derived.RegionIn
import Derived.Maps.AppendAt
import Derived.Stop.RegionWithIn
import Derived.Sort.CutIn
import Derived.BigRegion
import Derived.Outline
namespace Go.Proofs.YtnhdnkeiijiiaaaGreat
open Go.RowKit Go.Shelf
set_option linter.unusedSimpArgs false
set_option linter.unusedVariables false
attribute [local go_sem] Oper.semAt_some

theorem min2_run (P : Program) (a b : Int) (w : World) : Sem.run P (Builtin.min2 (.int .i64 a) (.int .i64 b)) w = .ok (.int .i64 (min a b)) w := by
  unfold Builtin.min2
  simp [go_sem]
  split <;> omega
@[go_sem] theorem minT_run (P : Program) (a b : Int) (w : World) : Sem.run P (Builtin.min_ #[3, 3] 3 #[.int .i64 a, .int .i64 b]) w = .ok (.int .i64 (min a b)) w := by
  unfold Builtin.min_
  simp only [List.foldlM, Sem.run_bind, min2_run, Result.andThen_ok, Sem.run_pure]
@[go_sem] theorem maxT_run (P : Program) (a b : Int) (w : World) : Sem.run P (Builtin.max_ #[3, 3] 3 #[.int .i64 a, .int .i64 b]) w = .ok (.int .i64 (max a b)) w := by
  unfold Builtin.max_
  simp only [List.foldlM, Sem.run_bind, max2_run, Result.andThen_ok, Sem.run_pure]
def minL (f : Pt → Int) (xs : List Pt) : Int := xs.foldl (fun m x => min m (f x)) (f (xs.getD 0 default))
def maxL (f : Pt → Int) (xs : List Pt) : Int := xs.foldl (fun m x => max m (f x)) (f (xs.getD 0 default))
theorem foldl_take_succ {α : Type} (g : Int → α → Int) (a : Int) {xs : List α} {k : Nat} {x : α} (h : xs[k]? = some x) : (xs.take (k + 1)).foldl g a = g ((xs.take k).foldl g a) x := by
  rw [List.take_add_one, h]; simp
set_option maxRecDepth 100000 in
set_option maxHeartbeats 4000000 in
theorem ends_x (f : Pt → Int) (A : Option Addr) (n c : Nat) (xs : List Pt) (w : World) (hn : xs.length = n) (h1 : 1 ≤ n) (h64 : n ≤ 4000) (hx : Pts? w.heap.size w A xs)
    (hp : ∀ p ∈ xs, ∀ W, Calls Tryz.prog 73 #[p.val] W fun e w' => e = .returned (.int .i64 (f p)) ∧ Below W.heap.size W w') :
    Calls Tryz.prog 72 #[.slice A n c, .func (.func 73) #[] #[]] w fun e w' => e = .returned (.tuple #[.int .i64 (minL f xs), .int .i64 (maxL f xs)]) ∧ Below w.heap.size w w' := by
  obtain ⟨b, off, rfl, hlt0, hcs⟩ := hx (by omega)
  have HCS := Lib.hid hcs
  have HN := Lib.hid hn
  have HP := Lib.hid hp
  obtain ⟨q, hq0⟩ : ∃ q, xs[0]? = some q := ⟨_, List.getElem?_eq_getElem (by omega)⟩
  obtain ⟨x0, x1⟩ := hcs 0 q hq0
  simp only [Nat.zero_mul, Nat.add_zero] at x0 x1
  have hlo : minL f xs = xs.foldl (fun m x => min m (f x)) (f q) := by simp only [minL, List.getD_eq_getElem?_getD, hq0, Option.getD_some]
  have hhi : maxL f xs = xs.foldl (fun m x => max m (f x)) (f q) := by simp only [maxL, List.getD_eq_getElem?_getD, hq0, Option.getD_some]
  rw [hlo, hhi]
  have vq := hp q (List.mem_of_getElem? hq0)
  generalize hfq : f q = F at *
  have HQ := Lib.hid vq
  have hn0 : 0 < n := by omega
  have hn0i : (0 : Int) < (n : Int) := by omega
  have hpl : ∀ ops, PlainOps Fence.wide ops := fun ops => plainOps_none rfl
  clear hx hcs hn hp vq hlo hhi hq0 hfq
  refine (callsIn_wide (n := 6)).1 ?_
  refine callsIn_of_wp Tryz.func72 rfl trivial ?_ rfl
  simp only [Tryz.ntmps72, List.size_toArray, List.length_cons, List.length_nil, Nat.reduceAdd, Nat.reduceSub, Array.replicate_succ, Array.replicate_zero, List.push_toArray, List.append_toArray, List.nil_append, List.cons_append]
  gi_wp2
  gi_cut [6, 7] from 8 (fun s6 s7 wx => s6 = .int .i64 F ∧ s7 = .int .i64 F ∧ Below w.heap.size w wx)
  case first =>
    have hp := hpl
    have HSZ := Lib.hid (show ∀ w9, Below w.heap.size w w9 → Below w.heap.size w w9 ∧ w9.cell? ⟨b, off, none⟩ = some (.int .i64 q.x) ∧ w9.cell? ⟨b, off + 1, none⟩ = some (.int .i64 q.y) from fun w9 h9 => ⟨h9, kp h9 x0, kp h9 x1⟩)
    refine held_begin [0, 1, 2, 3, 5, 6, 7, 8, 10, 11] (fun w9 => Below w.heap.size w w9 ∧ w9.cell? ⟨b, off, none⟩ = some (.int .i64 q.x) ∧ w9.cell? ⟨b, off + 1, none⟩ = some (.int .i64 q.y)) (by kernel_rfl) (⟨Below.drew (Below.refl _ _), x0, x1⟩) (fun hS => ?_)
    refine tk 0 (v := ?_) (hp _) hS rfl (fun _ _ _ _ => trivial) ?_ ?_
    rotate_left 1
    · intro w hw; (try rw [hw]); (try go_split_ands); go_simp <;> with_reducible rfl
    try simp only [Act.put, st]
    refine tk 1 (v := ?_) (hp _) hS rfl (fun _ _ _ _ => trivial) ?_ ?_
    rotate_left 1
    · intro w hw; (try rw [hw]); (try go_split_ands); go_simp <;> with_reducible rfl
    try simp only [Act.put, st]
    refine tk 2 (v := ?_) (hp _) hS rfl (fun _ _ _ _ => trivial) ?_ ?_
    rotate_left 1
    · intro w hw; (try rw [hw]); (try go_split_ands); go_simp <;> with_reducible rfl
    try simp only [Act.put, st]
    refine tk 3 (v := ?_) (hp _) hS rfl (fun _ _ _ _ => trivial) ?_ ?_
    rotate_left 1
    · intro w hw; (try rw [hw]); (try go_split_ands); go_simp <;> with_reducible rfl
    try simp only [Act.put, st]
    refine tk 5 (v := ?_) (hp _) hS rfl (fun _ _ _ _ => trivial) ?_ ?_
    rotate_left 1
    · intro w hw; (try rw [hw]); (try go_split_ands); go_simp <;> with_reducible rfl
    try simp only [Act.put, st]
    refine tk 6 (v := ?_) (hp _) hS rfl (fun _ _ _ _ => trivial) ?_ ?_
    rotate_left 1
    · intro w hw; (try rw [hw]); (try go_split_ands); go_simp <;> with_reducible rfl
    try simp only [Act.put, st]
    refine tk 7 (v := ?_) (hp _) hS rfl (fun _ _ _ _ => trivial) ?_ ?_
    rotate_left 1
    · intro w hw; (try rw [hw]); (try go_split_ands); go_simp <;> with_reducible rfl
    try simp only [Act.put, st]
    refine tk 8 (v := ?_) (hp _) hS rfl (fun _ _ _ _ => trivial) ?_ ?_
    rotate_left 1
    · intro w hw; (try rw [hw]); (try go_split_ands); go_simp <;> with_reducible rfl
    try simp only [Act.put, st]
    refine held_step 4 rfl (hp _) (by kernel_rfl) (by kernel_rfl) (fun K hK => ⟨?_, ?_⟩)
    · exact fun _ _ => trivial
    go_simp
    refine (callsIn_wide.2 (HQ.out _)).mono ?_
    rintro e w1 ⟨rfl, hb_1⟩
    have hB_1 : Below w.heap.size w w1 := Below.after' hS.1 hb_1
    have hS := HSZ.out _ hB_1
    refine hK _ _ hS ?_
    clear hK K
    try simp only [Act.put, st]
    refine held_step 9 rfl (hp _) (by kernel_rfl) (by kernel_rfl) (fun K hK => ⟨?_, ?_⟩)
    · exact fun _ _ => trivial
    go_simp
    refine (callsIn_wide.2 (HQ.out _)).mono ?_
    rintro e w2 ⟨rfl, hb_2⟩
    have hB_2 : Below w.heap.size w w2 := Below.after' hS.1 hb_2
    have hS := HSZ.out _ hB_2
    refine hK _ _ hS ?_
    clear hK K
    try simp only [Act.put, st]
    refine tk 10 (v := ?_) (hp _) hS rfl (fun _ _ _ _ => trivial) ?_ ?_
    rotate_left 1
    · intro w hw; (try rw [hw]); (try go_split_ands); go_simp <;> with_reducible rfl
    try simp only [Act.put, st]
    refine tk 11 (v := ?_) (hp _) hS rfl (fun _ _ _ _ => trivial) ?_ ?_
    rotate_left 1
    · intro w hw; (try rw [hw]); (try go_split_ands); go_simp <;> with_reducible rfl
    try simp only [Act.put, st]
    refine held_end (by kernel_rfl) ?_
    gi_wp2
    gi_meet
    case rel => exact ⟨rfl, rfl, hB_2⟩
  case rest =>
    obtain ⟨rfl, rfl, hB0⟩ := hcut
    clear HQ x0 x1
    gi_wp2
    gi_loopw [6, 7, 22] (fun s6 s7 s22 wr => ∃ k : Nat, k ≤ n ∧ s22 = .int .i64 k ∧ s6 = .int .i64 ((xs.take k).foldl (fun m x => min m (f x)) F) ∧ s7 = .int .i64 ((xs.take k).foldl (fun m x => max m (f x)) F) ∧ Below w.heap.size w wr)
      (fun _ _ s22 _ => n - (intOf s22).toNat)
    case atStart => exact ⟨0, Nat.zero_le _, rfl, rfl, rfl, hB0⟩
    case round =>
      obtain ⟨k, hk, rfl, rfl, rfl, hB⟩ := hrel
      by_cases hlt : k < n
      · obtain ⟨p, hpk⟩ : ∃ p, xs[k]? = some p := ⟨_, List.getElem?_eq_getElem (by rw [HN.out]; exact hlt)⟩
        obtain ⟨c0, c1⟩ := (HCS.out k p hpk).upto hB hlt0
        have hmn := foldl_take_succ (fun m x => min m (f x)) F hpk
        have hmx := foldl_take_succ (fun m x => max m (f x)) F hpk
        have vp := HP.out p (List.mem_of_getElem? hpk)
        generalize (xs.take k).foldl (fun m x => min m (f x)) F = LO at *
        generalize (xs.take k).foldl (fun m x => max m (f x)) F = HI at *
        have HMN := Lib.hid hmn
        have HMX := Lib.hid hmx
        generalize f p = Z at *
        have HZ := Lib.hid vp
        have hlt2 : (k : Int) < (n : Int) := by omega
        clear hpk hmn hmx vp
        gi_wp2
        have hBz : Below w.heap.size w (wr.alloc (.cells #[.int .i64 p.x, .int .i64 p.y] 23)).drew := Below.drew (hB.alloc hB.size _)
        have y0 : (wr.alloc (.cells #[.int .i64 p.x, .int .i64 p.y] 23)).drew.cell? ⟨wr.heap.size, 0, none⟩ = some (.int .i64 p.x) := by go_cell
        have y1 : (wr.alloc (.cells #[.int .i64 p.x, .int .i64 p.y] 23)).drew.cell? ⟨wr.heap.size, 1, none⟩ = some (.int .i64 p.y) := by go_cell
        have hp := hpl
        refine held_begin [0, 1, 2, 4, 5, 6, 7, 9, 10, 11] (fun w9 => Below (wr.alloc (.cells #[.int .i64 p.x, .int .i64 p.y] 23)).drew.heap.size (wr.alloc (.cells #[.int .i64 p.x, .int .i64 p.y] 23)).drew w9 ∧ w9.cell? ⟨wr.heap.size, 0, none⟩ = some (.int .i64 p.x) ∧ w9.cell? ⟨wr.heap.size, 1, none⟩ = some (.int .i64 p.y)) (by kernel_rfl) (⟨Below.refl _ _, y0, y1⟩) (fun hS => ?_)
        generalize (wr.alloc (.cells #[.int .i64 p.x, .int .i64 p.y] 23)).drew = z at *
        have HSZ := Lib.hid (show ∀ w9, Below z.heap.size z w9 → Below z.heap.size z w9 ∧ w9.cell? ⟨wr.heap.size, 0, none⟩ = some (.int .i64 p.x) ∧ w9.cell? ⟨wr.heap.size, 1, none⟩ = some (.int .i64 p.y) from fun w9 h9 => ⟨h9, kp h9 y0, kp h9 y1⟩)
        refine tk 0 (v := ?_) (hp _) hS rfl (fun _ _ _ _ => trivial) ?_ ?_
        rotate_left 1
        · intro w hw; (try rw [hw]); (try go_split_ands); go_simp <;> with_reducible rfl
        try simp only [Act.put, st]
        refine tk 1 (v := ?_) (hp _) hS rfl (fun _ _ _ _ => trivial) ?_ ?_
        rotate_left 1
        · intro w hw; (try rw [hw]); (try go_split_ands); go_simp <;> with_reducible rfl
        try simp only [Act.put, st]
        refine tk 2 (v := ?_) (hp _) hS rfl (fun _ _ _ _ => trivial) ?_ ?_
        rotate_left 1
        · intro w hw; (try rw [hw]); (try go_split_ands); go_simp <;> with_reducible rfl
        try simp only [Act.put, st]
        refine tk 5 (v := ?_) (hp _) hS rfl (fun _ _ _ _ => trivial) ?_ ?_
        rotate_left 1
        · intro w hw; (try rw [hw]); (try go_split_ands); go_simp <;> with_reducible rfl
        try simp only [Act.put, st]
        refine tk 6 (v := ?_) (hp _) hS rfl (fun _ _ _ _ => trivial) ?_ ?_
        rotate_left 1
        · intro w hw; (try rw [hw]); (try go_split_ands); go_simp <;> with_reducible rfl
        try simp only [Act.put, st]
        refine tk 7 (v := ?_) (hp _) hS rfl (fun _ _ _ _ => trivial) ?_ ?_
        rotate_left 1
        · intro w hw; (try rw [hw]); (try go_split_ands); go_simp <;> with_reducible rfl
        try simp only [Act.put, st]
        refine held_step 3 rfl (hp _) (by kernel_rfl) (by kernel_rfl) (fun K hK => ⟨?_, ?_⟩)
        · exact fun _ _ => trivial
        go_simp
        refine (callsIn_wide.2 (HZ.out _)).mono ?_
        rintro e w1 ⟨rfl, hb_1⟩
        have hB_1 : Below z.heap.size z w1 := Below.after' hS.1 hb_1
        have hS := HSZ.out _ hB_1
        refine hK _ _ hS ?_
        clear hK K
        try simp only [Act.put, st]
        refine tk 4 (v := ?_) (hp _) hS rfl (fun _ _ _ _ => trivial) ?_ ?_
        rotate_left 1
        · intro w hw; (try rw [hw]); (try go_split_ands); go_simp <;> with_reducible rfl
        try simp only [Act.put, st]
        refine held_step 8 rfl (hp _) (by kernel_rfl) (by kernel_rfl) (fun K hK => ⟨?_, ?_⟩)
        · exact fun _ _ => trivial
        go_simp
        refine (callsIn_wide.2 (HZ.out _)).mono ?_
        rintro e w2 ⟨rfl, hb_2⟩
        have hB_2 : Below z.heap.size z w2 := Below.after' hS.1 hb_2
        have hS := HSZ.out _ hB_2
        refine hK _ _ hS ?_
        clear hK K
        try simp only [Act.put, st]
        refine tk 9 (v := ?_) (hp _) hS rfl (fun _ _ _ _ => trivial) ?_ ?_
        rotate_left 1
        · intro w hw; (try rw [hw]); (try go_split_ands); go_simp <;> with_reducible rfl
        try simp only [Act.put, st]
        refine tk 10 (v := ?_) (hp _) hS rfl (fun _ _ _ _ => trivial) ?_ ?_
        rotate_left 1
        · intro w hw; (try rw [hw]); (try go_split_ands); go_simp <;> with_reducible rfl
        try simp only [Act.put, st]
        refine tk 11 (v := ?_) (hp _) hS rfl (fun _ _ _ _ => trivial) ?_ ?_
        rotate_left 1
        · intro w hw; (try rw [hw]); (try go_split_ands); go_simp <;> with_reducible rfl
        try simp only [Act.put, st]
        refine held_end (by kernel_rfl) ?_
        gi_wp2
        go_roundw
        case rel => exact ⟨k + 1, by omega, by go_num, by rw [HMN.out]; congr 1; split <;> omega, by rw [HMX.out]; congr 1; split <;> omega, hBz.trans (hB_2.mono hBz.size)⟩
        case measure => simp [intOf]; omega
      · obtain rfl : k = n := by omega
        have hnlt : ¬ ((k : Int) < (k : Int)) := by omega
        have ht : xs.take k = xs := List.take_of_length_le (by rw [HN.out]; omega)
        have HT := Lib.hid ht
        clear ht
        gi_wp2
        go_ret2
        refine ⟨?_, by go_grown⟩
        simp [HT.out]
set_option maxRecDepth 100000 in
set_option maxHeartbeats 4000000 in
theorem ends_y (f : Pt → Int) (A : Option Addr) (n c : Nat) (xs : List Pt) (w : World) (hn : xs.length = n) (h1 : 1 ≤ n) (h64 : n ≤ 4000) (hx : Pts? w.heap.size w A xs)
    (hp : ∀ p ∈ xs, ∀ W, Calls Tryz.prog 74 #[p.val] W fun e w' => e = .returned (.int .i64 (f p)) ∧ Below W.heap.size W w') :
    Calls Tryz.prog 72 #[.slice A n c, .func (.func 74) #[] #[]] w fun e w' => e = .returned (.tuple #[.int .i64 (minL f xs), .int .i64 (maxL f xs)]) ∧ Below w.heap.size w w' := by
  obtain ⟨b, off, rfl, hlt0, hcs⟩ := hx (by omega)
  have HCS := Lib.hid hcs
  have HN := Lib.hid hn
  have HP := Lib.hid hp
  obtain ⟨q, hq0⟩ : ∃ q, xs[0]? = some q := ⟨_, List.getElem?_eq_getElem (by omega)⟩
  obtain ⟨x0, x1⟩ := hcs 0 q hq0
  simp only [Nat.zero_mul, Nat.add_zero] at x0 x1
  have hlo : minL f xs = xs.foldl (fun m x => min m (f x)) (f q) := by simp only [minL, List.getD_eq_getElem?_getD, hq0, Option.getD_some]
  have hhi : maxL f xs = xs.foldl (fun m x => max m (f x)) (f q) := by simp only [maxL, List.getD_eq_getElem?_getD, hq0, Option.getD_some]
  rw [hlo, hhi]
  have vq := hp q (List.mem_of_getElem? hq0)
  generalize hfq : f q = F at *
  have HQ := Lib.hid vq
  have hn0 : 0 < n := by omega
  have hn0i : (0 : Int) < (n : Int) := by omega
  have hpl : ∀ ops, PlainOps Fence.wide ops := fun ops => plainOps_none rfl
  clear hx hcs hn hp vq hlo hhi hq0 hfq
  refine (callsIn_wide (n := 6)).1 ?_
  refine callsIn_of_wp Tryz.func72 rfl trivial ?_ rfl
  simp only [Tryz.ntmps72, List.size_toArray, List.length_cons, List.length_nil, Nat.reduceAdd, Nat.reduceSub, Array.replicate_succ, Array.replicate_zero, List.push_toArray, List.append_toArray, List.nil_append, List.cons_append]
  gi_wp2
  gi_cut [6, 7] from 8 (fun s6 s7 wx => s6 = .int .i64 F ∧ s7 = .int .i64 F ∧ Below w.heap.size w wx)
  case first =>
    have hp := hpl
    have HSZ := Lib.hid (show ∀ w9, Below w.heap.size w w9 → Below w.heap.size w w9 ∧ w9.cell? ⟨b, off, none⟩ = some (.int .i64 q.x) ∧ w9.cell? ⟨b, off + 1, none⟩ = some (.int .i64 q.y) from fun w9 h9 => ⟨h9, kp h9 x0, kp h9 x1⟩)
    refine held_begin [0, 1, 2, 3, 5, 6, 7, 8, 10, 11] (fun w9 => Below w.heap.size w w9 ∧ w9.cell? ⟨b, off, none⟩ = some (.int .i64 q.x) ∧ w9.cell? ⟨b, off + 1, none⟩ = some (.int .i64 q.y)) (by kernel_rfl) (⟨Below.drew (Below.refl _ _), x0, x1⟩) (fun hS => ?_)
    refine tk 0 (v := ?_) (hp _) hS rfl (fun _ _ _ _ => trivial) ?_ ?_
    rotate_left 1
    · intro w hw; (try rw [hw]); (try go_split_ands); go_simp <;> with_reducible rfl
    try simp only [Act.put, st]
    refine tk 1 (v := ?_) (hp _) hS rfl (fun _ _ _ _ => trivial) ?_ ?_
    rotate_left 1
    · intro w hw; (try rw [hw]); (try go_split_ands); go_simp <;> with_reducible rfl
    try simp only [Act.put, st]
    refine tk 2 (v := ?_) (hp _) hS rfl (fun _ _ _ _ => trivial) ?_ ?_
    rotate_left 1
    · intro w hw; (try rw [hw]); (try go_split_ands); go_simp <;> with_reducible rfl
    try simp only [Act.put, st]
    refine tk 3 (v := ?_) (hp _) hS rfl (fun _ _ _ _ => trivial) ?_ ?_
    rotate_left 1
    · intro w hw; (try rw [hw]); (try go_split_ands); go_simp <;> with_reducible rfl
    try simp only [Act.put, st]
    refine tk 5 (v := ?_) (hp _) hS rfl (fun _ _ _ _ => trivial) ?_ ?_
    rotate_left 1
    · intro w hw; (try rw [hw]); (try go_split_ands); go_simp <;> with_reducible rfl
    try simp only [Act.put, st]
    refine tk 6 (v := ?_) (hp _) hS rfl (fun _ _ _ _ => trivial) ?_ ?_
    rotate_left 1
    · intro w hw; (try rw [hw]); (try go_split_ands); go_simp <;> with_reducible rfl
    try simp only [Act.put, st]
    refine tk 7 (v := ?_) (hp _) hS rfl (fun _ _ _ _ => trivial) ?_ ?_
    rotate_left 1
    · intro w hw; (try rw [hw]); (try go_split_ands); go_simp <;> with_reducible rfl
    try simp only [Act.put, st]
    refine tk 8 (v := ?_) (hp _) hS rfl (fun _ _ _ _ => trivial) ?_ ?_
    rotate_left 1
    · intro w hw; (try rw [hw]); (try go_split_ands); go_simp <;> with_reducible rfl
    try simp only [Act.put, st]
    refine held_step 4 rfl (hp _) (by kernel_rfl) (by kernel_rfl) (fun K hK => ⟨?_, ?_⟩)
    · exact fun _ _ => trivial
    go_simp
    refine (callsIn_wide.2 (HQ.out _)).mono ?_
    rintro e w1 ⟨rfl, hb_1⟩
    have hB_1 : Below w.heap.size w w1 := Below.after' hS.1 hb_1
    have hS := HSZ.out _ hB_1
    refine hK _ _ hS ?_
    clear hK K
    try simp only [Act.put, st]
    refine held_step 9 rfl (hp _) (by kernel_rfl) (by kernel_rfl) (fun K hK => ⟨?_, ?_⟩)
    · exact fun _ _ => trivial
    go_simp
    refine (callsIn_wide.2 (HQ.out _)).mono ?_
    rintro e w2 ⟨rfl, hb_2⟩
    have hB_2 : Below w.heap.size w w2 := Below.after' hS.1 hb_2
    have hS := HSZ.out _ hB_2
    refine hK _ _ hS ?_
    clear hK K
    try simp only [Act.put, st]
    refine tk 10 (v := ?_) (hp _) hS rfl (fun _ _ _ _ => trivial) ?_ ?_
    rotate_left 1
    · intro w hw; (try rw [hw]); (try go_split_ands); go_simp <;> with_reducible rfl
    try simp only [Act.put, st]
    refine tk 11 (v := ?_) (hp _) hS rfl (fun _ _ _ _ => trivial) ?_ ?_
    rotate_left 1
    · intro w hw; (try rw [hw]); (try go_split_ands); go_simp <;> with_reducible rfl
    try simp only [Act.put, st]
    refine held_end (by kernel_rfl) ?_
    gi_wp2
    gi_meet
    case rel => exact ⟨rfl, rfl, hB_2⟩
  case rest =>
    obtain ⟨rfl, rfl, hB0⟩ := hcut
    clear HQ x0 x1
    gi_wp2
    gi_loopw [6, 7, 22] (fun s6 s7 s22 wr => ∃ k : Nat, k ≤ n ∧ s22 = .int .i64 k ∧ s6 = .int .i64 ((xs.take k).foldl (fun m x => min m (f x)) F) ∧ s7 = .int .i64 ((xs.take k).foldl (fun m x => max m (f x)) F) ∧ Below w.heap.size w wr)
      (fun _ _ s22 _ => n - (intOf s22).toNat)
    case atStart => exact ⟨0, Nat.zero_le _, rfl, rfl, rfl, hB0⟩
    case round =>
      obtain ⟨k, hk, rfl, rfl, rfl, hB⟩ := hrel
      by_cases hlt : k < n
      · obtain ⟨p, hpk⟩ : ∃ p, xs[k]? = some p := ⟨_, List.getElem?_eq_getElem (by rw [HN.out]; exact hlt)⟩
        obtain ⟨c0, c1⟩ := (HCS.out k p hpk).upto hB hlt0
        have hmn := foldl_take_succ (fun m x => min m (f x)) F hpk
        have hmx := foldl_take_succ (fun m x => max m (f x)) F hpk
        have vp := HP.out p (List.mem_of_getElem? hpk)
        generalize (xs.take k).foldl (fun m x => min m (f x)) F = LO at *
        generalize (xs.take k).foldl (fun m x => max m (f x)) F = HI at *
        have HMN := Lib.hid hmn
        have HMX := Lib.hid hmx
        generalize f p = Z at *
        have HZ := Lib.hid vp
        have hlt2 : (k : Int) < (n : Int) := by omega
        clear hpk hmn hmx vp
        gi_wp2
        have hBz : Below w.heap.size w (wr.alloc (.cells #[.int .i64 p.x, .int .i64 p.y] 23)).drew := Below.drew (hB.alloc hB.size _)
        have y0 : (wr.alloc (.cells #[.int .i64 p.x, .int .i64 p.y] 23)).drew.cell? ⟨wr.heap.size, 0, none⟩ = some (.int .i64 p.x) := by go_cell
        have y1 : (wr.alloc (.cells #[.int .i64 p.x, .int .i64 p.y] 23)).drew.cell? ⟨wr.heap.size, 1, none⟩ = some (.int .i64 p.y) := by go_cell
        have hp := hpl
        refine held_begin [0, 1, 2, 4, 5, 6, 7, 9, 10, 11] (fun w9 => Below (wr.alloc (.cells #[.int .i64 p.x, .int .i64 p.y] 23)).drew.heap.size (wr.alloc (.cells #[.int .i64 p.x, .int .i64 p.y] 23)).drew w9 ∧ w9.cell? ⟨wr.heap.size, 0, none⟩ = some (.int .i64 p.x) ∧ w9.cell? ⟨wr.heap.size, 1, none⟩ = some (.int .i64 p.y)) (by kernel_rfl) (⟨Below.refl _ _, y0, y1⟩) (fun hS => ?_)
        generalize (wr.alloc (.cells #[.int .i64 p.x, .int .i64 p.y] 23)).drew = z at *
        have HSZ := Lib.hid (show ∀ w9, Below z.heap.size z w9 → Below z.heap.size z w9 ∧ w9.cell? ⟨wr.heap.size, 0, none⟩ = some (.int .i64 p.x) ∧ w9.cell? ⟨wr.heap.size, 1, none⟩ = some (.int .i64 p.y) from fun w9 h9 => ⟨h9, kp h9 y0, kp h9 y1⟩)
        refine tk 0 (v := ?_) (hp _) hS rfl (fun _ _ _ _ => trivial) ?_ ?_
        rotate_left 1
        · intro w hw; (try rw [hw]); (try go_split_ands); go_simp <;> with_reducible rfl
        try simp only [Act.put, st]
        refine tk 1 (v := ?_) (hp _) hS rfl (fun _ _ _ _ => trivial) ?_ ?_
        rotate_left 1
        · intro w hw; (try rw [hw]); (try go_split_ands); go_simp <;> with_reducible rfl
        try simp only [Act.put, st]
        refine tk 2 (v := ?_) (hp _) hS rfl (fun _ _ _ _ => trivial) ?_ ?_
        rotate_left 1
        · intro w hw; (try rw [hw]); (try go_split_ands); go_simp <;> with_reducible rfl
        try simp only [Act.put, st]
        refine tk 5 (v := ?_) (hp _) hS rfl (fun _ _ _ _ => trivial) ?_ ?_
        rotate_left 1
        · intro w hw; (try rw [hw]); (try go_split_ands); go_simp <;> with_reducible rfl
        try simp only [Act.put, st]
        refine tk 6 (v := ?_) (hp _) hS rfl (fun _ _ _ _ => trivial) ?_ ?_
        rotate_left 1
        · intro w hw; (try rw [hw]); (try go_split_ands); go_simp <;> with_reducible rfl
        try simp only [Act.put, st]
        refine tk 7 (v := ?_) (hp _) hS rfl (fun _ _ _ _ => trivial) ?_ ?_
        rotate_left 1
        · intro w hw; (try rw [hw]); (try go_split_ands); go_simp <;> with_reducible rfl
        try simp only [Act.put, st]
        refine held_step 3 rfl (hp _) (by kernel_rfl) (by kernel_rfl) (fun K hK => ⟨?_, ?_⟩)
        · exact fun _ _ => trivial
        go_simp
        refine (callsIn_wide.2 (HZ.out _)).mono ?_
        rintro e w1 ⟨rfl, hb_1⟩
        have hB_1 : Below z.heap.size z w1 := Below.after' hS.1 hb_1
        have hS := HSZ.out _ hB_1
        refine hK _ _ hS ?_
        clear hK K
        try simp only [Act.put, st]
        refine tk 4 (v := ?_) (hp _) hS rfl (fun _ _ _ _ => trivial) ?_ ?_
        rotate_left 1
        · intro w hw; (try rw [hw]); (try go_split_ands); go_simp <;> with_reducible rfl
        try simp only [Act.put, st]
        refine held_step 8 rfl (hp _) (by kernel_rfl) (by kernel_rfl) (fun K hK => ⟨?_, ?_⟩)
        · exact fun _ _ => trivial
        go_simp
        refine (callsIn_wide.2 (HZ.out _)).mono ?_
        rintro e w2 ⟨rfl, hb_2⟩
        have hB_2 : Below z.heap.size z w2 := Below.after' hS.1 hb_2
        have hS := HSZ.out _ hB_2
        refine hK _ _ hS ?_
        clear hK K
        try simp only [Act.put, st]
        refine tk 9 (v := ?_) (hp _) hS rfl (fun _ _ _ _ => trivial) ?_ ?_
        rotate_left 1
        · intro w hw; (try rw [hw]); (try go_split_ands); go_simp <;> with_reducible rfl
        try simp only [Act.put, st]
        refine tk 10 (v := ?_) (hp _) hS rfl (fun _ _ _ _ => trivial) ?_ ?_
        rotate_left 1
        · intro w hw; (try rw [hw]); (try go_split_ands); go_simp <;> with_reducible rfl
        try simp only [Act.put, st]
        refine tk 11 (v := ?_) (hp _) hS rfl (fun _ _ _ _ => trivial) ?_ ?_
        rotate_left 1
        · intro w hw; (try rw [hw]); (try go_split_ands); go_simp <;> with_reducible rfl
        try simp only [Act.put, st]
        refine held_end (by kernel_rfl) ?_
        gi_wp2
        go_roundw
        case rel => exact ⟨k + 1, by omega, by go_num, by rw [HMN.out]; congr 1; split <;> omega, by rw [HMX.out]; congr 1; split <;> omega, hBz.trans (hB_2.mono hBz.size)⟩
        case measure => simp [intOf]; omega
      · obtain rfl : k = n := by omega
        have hnlt : ¬ ((k : Int) < (k : Int)) := by omega
        have ht : xs.take k = xs := List.take_of_length_le (by rw [HN.out]; omega)
        have HT := Lib.hid ht
        clear ht
        gi_wp2
        go_ret2
        refine ⟨?_, by go_grown⟩
        simp [HT.out]
set_option maxRecDepth 100000 in
set_option maxHeartbeats 4000000 in
theorem ends_p (f : Pt → Int) (A : Option Addr) (n c : Nat) (xs : List Pt) (w : World) (hn : xs.length = n) (h1 : 1 ≤ n) (h64 : n ≤ 4000) (hx : Pts? w.heap.size w A xs)
    (hp : ∀ p ∈ xs, ∀ W, Calls Tryz.prog 105 #[p.val] W fun e w' => e = .returned (.int .i64 (f p)) ∧ Below W.heap.size W w') :
    Calls Tryz.prog 72 #[.slice A n c, .func (.func 105) #[] #[]] w fun e w' => e = .returned (.tuple #[.int .i64 (minL f xs), .int .i64 (maxL f xs)]) ∧ Below w.heap.size w w' := by
  obtain ⟨b, off, rfl, hlt0, hcs⟩ := hx (by omega)
  have HCS := Lib.hid hcs
  have HN := Lib.hid hn
  have HP := Lib.hid hp
  obtain ⟨q, hq0⟩ : ∃ q, xs[0]? = some q := ⟨_, List.getElem?_eq_getElem (by omega)⟩
  obtain ⟨x0, x1⟩ := hcs 0 q hq0
  simp only [Nat.zero_mul, Nat.add_zero] at x0 x1
  have hlo : minL f xs = xs.foldl (fun m x => min m (f x)) (f q) := by simp only [minL, List.getD_eq_getElem?_getD, hq0, Option.getD_some]
  have hhi : maxL f xs = xs.foldl (fun m x => max m (f x)) (f q) := by simp only [maxL, List.getD_eq_getElem?_getD, hq0, Option.getD_some]
  rw [hlo, hhi]
  have vq := hp q (List.mem_of_getElem? hq0)
  generalize hfq : f q = F at *
  have HQ := Lib.hid vq
  have hn0 : 0 < n := by omega
  have hn0i : (0 : Int) < (n : Int) := by omega
  have hpl : ∀ ops, PlainOps Fence.wide ops := fun ops => plainOps_none rfl
  clear hx hcs hn hp vq hlo hhi hq0 hfq
  refine (callsIn_wide (n := 6)).1 ?_
  refine callsIn_of_wp Tryz.func72 rfl trivial ?_ rfl
  simp only [Tryz.ntmps72, List.size_toArray, List.length_cons, List.length_nil, Nat.reduceAdd, Nat.reduceSub, Array.replicate_succ, Array.replicate_zero, List.push_toArray, List.append_toArray, List.nil_append, List.cons_append]
  gi_wp2
  gi_cut [6, 7] from 8 (fun s6 s7 wx => s6 = .int .i64 F ∧ s7 = .int .i64 F ∧ Below w.heap.size w wx)
  case first =>
    have hp := hpl
    have HSZ := Lib.hid (show ∀ w9, Below w.heap.size w w9 → Below w.heap.size w w9 ∧ w9.cell? ⟨b, off, none⟩ = some (.int .i64 q.x) ∧ w9.cell? ⟨b, off + 1, none⟩ = some (.int .i64 q.y) from fun w9 h9 => ⟨h9, kp h9 x0, kp h9 x1⟩)
    refine held_begin [0, 1, 2, 3, 5, 6, 7, 8, 10, 11] (fun w9 => Below w.heap.size w w9 ∧ w9.cell? ⟨b, off, none⟩ = some (.int .i64 q.x) ∧ w9.cell? ⟨b, off + 1, none⟩ = some (.int .i64 q.y)) (by kernel_rfl) (⟨Below.drew (Below.refl _ _), x0, x1⟩) (fun hS => ?_)
    refine tk 0 (v := ?_) (hp _) hS rfl (fun _ _ _ _ => trivial) ?_ ?_
    rotate_left 1
    · intro w hw; (try rw [hw]); (try go_split_ands); go_simp <;> with_reducible rfl
    try simp only [Act.put, st]
    refine tk 1 (v := ?_) (hp _) hS rfl (fun _ _ _ _ => trivial) ?_ ?_
    rotate_left 1
    · intro w hw; (try rw [hw]); (try go_split_ands); go_simp <;> with_reducible rfl
    try simp only [Act.put, st]
    refine tk 2 (v := ?_) (hp _) hS rfl (fun _ _ _ _ => trivial) ?_ ?_
    rotate_left 1
    · intro w hw; (try rw [hw]); (try go_split_ands); go_simp <;> with_reducible rfl
    try simp only [Act.put, st]
    refine tk 3 (v := ?_) (hp _) hS rfl (fun _ _ _ _ => trivial) ?_ ?_
    rotate_left 1
    · intro w hw; (try rw [hw]); (try go_split_ands); go_simp <;> with_reducible rfl
    try simp only [Act.put, st]
    refine tk 5 (v := ?_) (hp _) hS rfl (fun _ _ _ _ => trivial) ?_ ?_
    rotate_left 1
    · intro w hw; (try rw [hw]); (try go_split_ands); go_simp <;> with_reducible rfl
    try simp only [Act.put, st]
    refine tk 6 (v := ?_) (hp _) hS rfl (fun _ _ _ _ => trivial) ?_ ?_
    rotate_left 1
    · intro w hw; (try rw [hw]); (try go_split_ands); go_simp <;> with_reducible rfl
    try simp only [Act.put, st]
    refine tk 7 (v := ?_) (hp _) hS rfl (fun _ _ _ _ => trivial) ?_ ?_
    rotate_left 1
    · intro w hw; (try rw [hw]); (try go_split_ands); go_simp <;> with_reducible rfl
    try simp only [Act.put, st]
    refine tk 8 (v := ?_) (hp _) hS rfl (fun _ _ _ _ => trivial) ?_ ?_
    rotate_left 1
    · intro w hw; (try rw [hw]); (try go_split_ands); go_simp <;> with_reducible rfl
    try simp only [Act.put, st]
    refine held_step 4 rfl (hp _) (by kernel_rfl) (by kernel_rfl) (fun K hK => ⟨?_, ?_⟩)
    · exact fun _ _ => trivial
    go_simp
    refine (callsIn_wide.2 (HQ.out _)).mono ?_
    rintro e w1 ⟨rfl, hb_1⟩
    have hB_1 : Below w.heap.size w w1 := Below.after' hS.1 hb_1
    have hS := HSZ.out _ hB_1
    refine hK _ _ hS ?_
    clear hK K
    try simp only [Act.put, st]
    refine held_step 9 rfl (hp _) (by kernel_rfl) (by kernel_rfl) (fun K hK => ⟨?_, ?_⟩)
    · exact fun _ _ => trivial
    go_simp
    refine (callsIn_wide.2 (HQ.out _)).mono ?_
    rintro e w2 ⟨rfl, hb_2⟩
    have hB_2 : Below w.heap.size w w2 := Below.after' hS.1 hb_2
    have hS := HSZ.out _ hB_2
    refine hK _ _ hS ?_
    clear hK K
    try simp only [Act.put, st]
    refine tk 10 (v := ?_) (hp _) hS rfl (fun _ _ _ _ => trivial) ?_ ?_
    rotate_left 1
    · intro w hw; (try rw [hw]); (try go_split_ands); go_simp <;> with_reducible rfl
    try simp only [Act.put, st]
    refine tk 11 (v := ?_) (hp _) hS rfl (fun _ _ _ _ => trivial) ?_ ?_
    rotate_left 1
    · intro w hw; (try rw [hw]); (try go_split_ands); go_simp <;> with_reducible rfl
    try simp only [Act.put, st]
    refine held_end (by kernel_rfl) ?_
    gi_wp2
    gi_meet
    case rel => exact ⟨rfl, rfl, hB_2⟩
  case rest =>
    obtain ⟨rfl, rfl, hB0⟩ := hcut
    clear HQ x0 x1
    gi_wp2
    gi_loopw [6, 7, 22] (fun s6 s7 s22 wr => ∃ k : Nat, k ≤ n ∧ s22 = .int .i64 k ∧ s6 = .int .i64 ((xs.take k).foldl (fun m x => min m (f x)) F) ∧ s7 = .int .i64 ((xs.take k).foldl (fun m x => max m (f x)) F) ∧ Below w.heap.size w wr)
      (fun _ _ s22 _ => n - (intOf s22).toNat)
    case atStart => exact ⟨0, Nat.zero_le _, rfl, rfl, rfl, hB0⟩
    case round =>
      obtain ⟨k, hk, rfl, rfl, rfl, hB⟩ := hrel
      by_cases hlt : k < n
      · obtain ⟨p, hpk⟩ : ∃ p, xs[k]? = some p := ⟨_, List.getElem?_eq_getElem (by rw [HN.out]; exact hlt)⟩
        obtain ⟨c0, c1⟩ := (HCS.out k p hpk).upto hB hlt0
        have hmn := foldl_take_succ (fun m x => min m (f x)) F hpk
        have hmx := foldl_take_succ (fun m x => max m (f x)) F hpk
        have vp := HP.out p (List.mem_of_getElem? hpk)
        generalize (xs.take k).foldl (fun m x => min m (f x)) F = LO at *
        generalize (xs.take k).foldl (fun m x => max m (f x)) F = HI at *
        have HMN := Lib.hid hmn
        have HMX := Lib.hid hmx
        generalize f p = Z at *
        have HZ := Lib.hid vp
        have hlt2 : (k : Int) < (n : Int) := by omega
        clear hpk hmn hmx vp
        gi_wp2
        have hBz : Below w.heap.size w (wr.alloc (.cells #[.int .i64 p.x, .int .i64 p.y] 23)).drew := Below.drew (hB.alloc hB.size _)
        have y0 : (wr.alloc (.cells #[.int .i64 p.x, .int .i64 p.y] 23)).drew.cell? ⟨wr.heap.size, 0, none⟩ = some (.int .i64 p.x) := by go_cell
        have y1 : (wr.alloc (.cells #[.int .i64 p.x, .int .i64 p.y] 23)).drew.cell? ⟨wr.heap.size, 1, none⟩ = some (.int .i64 p.y) := by go_cell
        have hp := hpl
        refine held_begin [0, 1, 2, 4, 5, 6, 7, 9, 10, 11] (fun w9 => Below (wr.alloc (.cells #[.int .i64 p.x, .int .i64 p.y] 23)).drew.heap.size (wr.alloc (.cells #[.int .i64 p.x, .int .i64 p.y] 23)).drew w9 ∧ w9.cell? ⟨wr.heap.size, 0, none⟩ = some (.int .i64 p.x) ∧ w9.cell? ⟨wr.heap.size, 1, none⟩ = some (.int .i64 p.y)) (by kernel_rfl) (⟨Below.refl _ _, y0, y1⟩) (fun hS => ?_)
        generalize (wr.alloc (.cells #[.int .i64 p.x, .int .i64 p.y] 23)).drew = z at *
        have HSZ := Lib.hid (show ∀ w9, Below z.heap.size z w9 → Below z.heap.size z w9 ∧ w9.cell? ⟨wr.heap.size, 0, none⟩ = some (.int .i64 p.x) ∧ w9.cell? ⟨wr.heap.size, 1, none⟩ = some (.int .i64 p.y) from fun w9 h9 => ⟨h9, kp h9 y0, kp h9 y1⟩)
        refine tk 0 (v := ?_) (hp _) hS rfl (fun _ _ _ _ => trivial) ?_ ?_
        rotate_left 1
        · intro w hw; (try rw [hw]); (try go_split_ands); go_simp <;> with_reducible rfl
        try simp only [Act.put, st]
        refine tk 1 (v := ?_) (hp _) hS rfl (fun _ _ _ _ => trivial) ?_ ?_
        rotate_left 1
        · intro w hw; (try rw [hw]); (try go_split_ands); go_simp <;> with_reducible rfl
        try simp only [Act.put, st]
        refine tk 2 (v := ?_) (hp _) hS rfl (fun _ _ _ _ => trivial) ?_ ?_
        rotate_left 1
        · intro w hw; (try rw [hw]); (try go_split_ands); go_simp <;> with_reducible rfl
        try simp only [Act.put, st]
        refine tk 5 (v := ?_) (hp _) hS rfl (fun _ _ _ _ => trivial) ?_ ?_
        rotate_left 1
        · intro w hw; (try rw [hw]); (try go_split_ands); go_simp <;> with_reducible rfl
        try simp only [Act.put, st]
        refine tk 6 (v := ?_) (hp _) hS rfl (fun _ _ _ _ => trivial) ?_ ?_
        rotate_left 1
        · intro w hw; (try rw [hw]); (try go_split_ands); go_simp <;> with_reducible rfl
        try simp only [Act.put, st]
        refine tk 7 (v := ?_) (hp _) hS rfl (fun _ _ _ _ => trivial) ?_ ?_
        rotate_left 1
        · intro w hw; (try rw [hw]); (try go_split_ands); go_simp <;> with_reducible rfl
        try simp only [Act.put, st]
        refine held_step 3 rfl (hp _) (by kernel_rfl) (by kernel_rfl) (fun K hK => ⟨?_, ?_⟩)
        · exact fun _ _ => trivial
        go_simp
        refine (callsIn_wide.2 (HZ.out _)).mono ?_
        rintro e w1 ⟨rfl, hb_1⟩
        have hB_1 : Below z.heap.size z w1 := Below.after' hS.1 hb_1
        have hS := HSZ.out _ hB_1
        refine hK _ _ hS ?_
        clear hK K
        try simp only [Act.put, st]
        refine tk 4 (v := ?_) (hp _) hS rfl (fun _ _ _ _ => trivial) ?_ ?_
        rotate_left 1
        · intro w hw; (try rw [hw]); (try go_split_ands); go_simp <;> with_reducible rfl
        try simp only [Act.put, st]
        refine held_step 8 rfl (hp _) (by kernel_rfl) (by kernel_rfl) (fun K hK => ⟨?_, ?_⟩)
        · exact fun _ _ => trivial
        go_simp
        refine (callsIn_wide.2 (HZ.out _)).mono ?_
        rintro e w2 ⟨rfl, hb_2⟩
        have hB_2 : Below z.heap.size z w2 := Below.after' hS.1 hb_2
        have hS := HSZ.out _ hB_2
        refine hK _ _ hS ?_
        clear hK K
        try simp only [Act.put, st]
        refine tk 9 (v := ?_) (hp _) hS rfl (fun _ _ _ _ => trivial) ?_ ?_
        rotate_left 1
        · intro w hw; (try rw [hw]); (try go_split_ands); go_simp <;> with_reducible rfl
        try simp only [Act.put, st]
        refine tk 10 (v := ?_) (hp _) hS rfl (fun _ _ _ _ => trivial) ?_ ?_
        rotate_left 1
        · intro w hw; (try rw [hw]); (try go_split_ands); go_simp <;> with_reducible rfl
        try simp only [Act.put, st]
        refine tk 11 (v := ?_) (hp _) hS rfl (fun _ _ _ _ => trivial) ?_ ?_
        rotate_left 1
        · intro w hw; (try rw [hw]); (try go_split_ands); go_simp <;> with_reducible rfl
        try simp only [Act.put, st]
        refine held_end (by kernel_rfl) ?_
        gi_wp2
        go_roundw
        case rel => exact ⟨k + 1, by omega, by go_num, by rw [HMN.out]; congr 1; split <;> omega, by rw [HMX.out]; congr 1; split <;> omega, hBz.trans (hB_2.mono hBz.size)⟩
        case measure => simp [intOf]; omega
      · obtain rfl : k = n := by omega
        have hnlt : ¬ ((k : Int) < (k : Int)) := by omega
        have ht : xs.take k = xs := List.take_of_length_le (by rw [HN.out]; omega)
        have HT := Lib.hid ht
        clear ht
        gi_wp2
        go_ret2
        refine ⟨?_, by go_grown⟩
        simp [HT.out]
set_option maxRecDepth 100000 in
set_option maxHeartbeats 4000000 in
theorem ends_m (f : Pt → Int) (A : Option Addr) (n c : Nat) (xs : List Pt) (w : World) (hn : xs.length = n) (h1 : 1 ≤ n) (h64 : n ≤ 4000) (hx : Pts? w.heap.size w A xs)
    (hp : ∀ p ∈ xs, ∀ W, Calls Tryz.prog 106 #[p.val] W fun e w' => e = .returned (.int .i64 (f p)) ∧ Below W.heap.size W w') :
    Calls Tryz.prog 72 #[.slice A n c, .func (.func 106) #[] #[]] w fun e w' => e = .returned (.tuple #[.int .i64 (minL f xs), .int .i64 (maxL f xs)]) ∧ Below w.heap.size w w' := by
  obtain ⟨b, off, rfl, hlt0, hcs⟩ := hx (by omega)
  have HCS := Lib.hid hcs
  have HN := Lib.hid hn
  have HP := Lib.hid hp
  obtain ⟨q, hq0⟩ : ∃ q, xs[0]? = some q := ⟨_, List.getElem?_eq_getElem (by omega)⟩
  obtain ⟨x0, x1⟩ := hcs 0 q hq0
  simp only [Nat.zero_mul, Nat.add_zero] at x0 x1
  have hlo : minL f xs = xs.foldl (fun m x => min m (f x)) (f q) := by simp only [minL, List.getD_eq_getElem?_getD, hq0, Option.getD_some]
  have hhi : maxL f xs = xs.foldl (fun m x => max m (f x)) (f q) := by simp only [maxL, List.getD_eq_getElem?_getD, hq0, Option.getD_some]
  rw [hlo, hhi]
  have vq := hp q (List.mem_of_getElem? hq0)
  generalize hfq : f q = F at *
  have HQ := Lib.hid vq
  have hn0 : 0 < n := by omega
  have hn0i : (0 : Int) < (n : Int) := by omega
  have hpl : ∀ ops, PlainOps Fence.wide ops := fun ops => plainOps_none rfl
  clear hx hcs hn hp vq hlo hhi hq0 hfq
  refine (callsIn_wide (n := 6)).1 ?_
  refine callsIn_of_wp Tryz.func72 rfl trivial ?_ rfl
  simp only [Tryz.ntmps72, List.size_toArray, List.length_cons, List.length_nil, Nat.reduceAdd, Nat.reduceSub, Array.replicate_succ, Array.replicate_zero, List.push_toArray, List.append_toArray, List.nil_append, List.cons_append]
  gi_wp2
  gi_cut [6, 7] from 8 (fun s6 s7 wx => s6 = .int .i64 F ∧ s7 = .int .i64 F ∧ Below w.heap.size w wx)
  case first =>
    have hp := hpl
    have HSZ := Lib.hid (show ∀ w9, Below w.heap.size w w9 → Below w.heap.size w w9 ∧ w9.cell? ⟨b, off, none⟩ = some (.int .i64 q.x) ∧ w9.cell? ⟨b, off + 1, none⟩ = some (.int .i64 q.y) from fun w9 h9 => ⟨h9, kp h9 x0, kp h9 x1⟩)
    refine held_begin [0, 1, 2, 3, 5, 6, 7, 8, 10, 11] (fun w9 => Below w.heap.size w w9 ∧ w9.cell? ⟨b, off, none⟩ = some (.int .i64 q.x) ∧ w9.cell? ⟨b, off + 1, none⟩ = some (.int .i64 q.y)) (by kernel_rfl) (⟨Below.drew (Below.refl _ _), x0, x1⟩) (fun hS => ?_)
    refine tk 0 (v := ?_) (hp _) hS rfl (fun _ _ _ _ => trivial) ?_ ?_
    rotate_left 1
    · intro w hw; (try rw [hw]); (try go_split_ands); go_simp <;> with_reducible rfl
    try simp only [Act.put, st]
    refine tk 1 (v := ?_) (hp _) hS rfl (fun _ _ _ _ => trivial) ?_ ?_
    rotate_left 1
    · intro w hw; (try rw [hw]); (try go_split_ands); go_simp <;> with_reducible rfl
    try simp only [Act.put, st]
    refine tk 2 (v := ?_) (hp _) hS rfl (fun _ _ _ _ => trivial) ?_ ?_
    rotate_left 1
    · intro w hw; (try rw [hw]); (try go_split_ands); go_simp <;> with_reducible rfl
    try simp only [Act.put, st]
    refine tk 3 (v := ?_) (hp _) hS rfl (fun _ _ _ _ => trivial) ?_ ?_
    rotate_left 1
    · intro w hw; (try rw [hw]); (try go_split_ands); go_simp <;> with_reducible rfl
    try simp only [Act.put, st]
    refine tk 5 (v := ?_) (hp _) hS rfl (fun _ _ _ _ => trivial) ?_ ?_
    rotate_left 1
    · intro w hw; (try rw [hw]); (try go_split_ands); go_simp <;> with_reducible rfl
    try simp only [Act.put, st]
    refine tk 6 (v := ?_) (hp _) hS rfl (fun _ _ _ _ => trivial) ?_ ?_
    rotate_left 1
    · intro w hw; (try rw [hw]); (try go_split_ands); go_simp <;> with_reducible rfl
    try simp only [Act.put, st]
    refine tk 7 (v := ?_) (hp _) hS rfl (fun _ _ _ _ => trivial) ?_ ?_
    rotate_left 1
    · intro w hw; (try rw [hw]); (try go_split_ands); go_simp <;> with_reducible rfl
    try simp only [Act.put, st]
    refine tk 8 (v := ?_) (hp _) hS rfl (fun _ _ _ _ => trivial) ?_ ?_
    rotate_left 1
    · intro w hw; (try rw [hw]); (try go_split_ands); go_simp <;> with_reducible rfl
    try simp only [Act.put, st]
    refine held_step 4 rfl (hp _) (by kernel_rfl) (by kernel_rfl) (fun K hK => ⟨?_, ?_⟩)
    · exact fun _ _ => trivial
    go_simp
    refine (callsIn_wide.2 (HQ.out _)).mono ?_
    rintro e w1 ⟨rfl, hb_1⟩
    have hB_1 : Below w.heap.size w w1 := Below.after' hS.1 hb_1
    have hS := HSZ.out _ hB_1
    refine hK _ _ hS ?_
    clear hK K
    try simp only [Act.put, st]
    refine held_step 9 rfl (hp _) (by kernel_rfl) (by kernel_rfl) (fun K hK => ⟨?_, ?_⟩)
    · exact fun _ _ => trivial
    go_simp
    refine (callsIn_wide.2 (HQ.out _)).mono ?_
    rintro e w2 ⟨rfl, hb_2⟩
    have hB_2 : Below w.heap.size w w2 := Below.after' hS.1 hb_2
    have hS := HSZ.out _ hB_2
    refine hK _ _ hS ?_
    clear hK K
    try simp only [Act.put, st]
    refine tk 10 (v := ?_) (hp _) hS rfl (fun _ _ _ _ => trivial) ?_ ?_
    rotate_left 1
    · intro w hw; (try rw [hw]); (try go_split_ands); go_simp <;> with_reducible rfl
    try simp only [Act.put, st]
    refine tk 11 (v := ?_) (hp _) hS rfl (fun _ _ _ _ => trivial) ?_ ?_
    rotate_left 1
    · intro w hw; (try rw [hw]); (try go_split_ands); go_simp <;> with_reducible rfl
    try simp only [Act.put, st]
    refine held_end (by kernel_rfl) ?_
    gi_wp2
    gi_meet
    case rel => exact ⟨rfl, rfl, hB_2⟩
  case rest =>
    obtain ⟨rfl, rfl, hB0⟩ := hcut
    clear HQ x0 x1
    gi_wp2
    gi_loopw [6, 7, 22] (fun s6 s7 s22 wr => ∃ k : Nat, k ≤ n ∧ s22 = .int .i64 k ∧ s6 = .int .i64 ((xs.take k).foldl (fun m x => min m (f x)) F) ∧ s7 = .int .i64 ((xs.take k).foldl (fun m x => max m (f x)) F) ∧ Below w.heap.size w wr)
      (fun _ _ s22 _ => n - (intOf s22).toNat)
    case atStart => exact ⟨0, Nat.zero_le _, rfl, rfl, rfl, hB0⟩
    case round =>
      obtain ⟨k, hk, rfl, rfl, rfl, hB⟩ := hrel
      by_cases hlt : k < n
      · obtain ⟨p, hpk⟩ : ∃ p, xs[k]? = some p := ⟨_, List.getElem?_eq_getElem (by rw [HN.out]; exact hlt)⟩
        obtain ⟨c0, c1⟩ := (HCS.out k p hpk).upto hB hlt0
        have hmn := foldl_take_succ (fun m x => min m (f x)) F hpk
        have hmx := foldl_take_succ (fun m x => max m (f x)) F hpk
        have vp := HP.out p (List.mem_of_getElem? hpk)
        generalize (xs.take k).foldl (fun m x => min m (f x)) F = LO at *
        generalize (xs.take k).foldl (fun m x => max m (f x)) F = HI at *
        have HMN := Lib.hid hmn
        have HMX := Lib.hid hmx
        generalize f p = Z at *
        have HZ := Lib.hid vp
        have hlt2 : (k : Int) < (n : Int) := by omega
        clear hpk hmn hmx vp
        gi_wp2
        have hBz : Below w.heap.size w (wr.alloc (.cells #[.int .i64 p.x, .int .i64 p.y] 23)).drew := Below.drew (hB.alloc hB.size _)
        have y0 : (wr.alloc (.cells #[.int .i64 p.x, .int .i64 p.y] 23)).drew.cell? ⟨wr.heap.size, 0, none⟩ = some (.int .i64 p.x) := by go_cell
        have y1 : (wr.alloc (.cells #[.int .i64 p.x, .int .i64 p.y] 23)).drew.cell? ⟨wr.heap.size, 1, none⟩ = some (.int .i64 p.y) := by go_cell
        have hp := hpl
        refine held_begin [0, 1, 2, 4, 5, 6, 7, 9, 10, 11] (fun w9 => Below (wr.alloc (.cells #[.int .i64 p.x, .int .i64 p.y] 23)).drew.heap.size (wr.alloc (.cells #[.int .i64 p.x, .int .i64 p.y] 23)).drew w9 ∧ w9.cell? ⟨wr.heap.size, 0, none⟩ = some (.int .i64 p.x) ∧ w9.cell? ⟨wr.heap.size, 1, none⟩ = some (.int .i64 p.y)) (by kernel_rfl) (⟨Below.refl _ _, y0, y1⟩) (fun hS => ?_)
        generalize (wr.alloc (.cells #[.int .i64 p.x, .int .i64 p.y] 23)).drew = z at *
        have HSZ := Lib.hid (show ∀ w9, Below z.heap.size z w9 → Below z.heap.size z w9 ∧ w9.cell? ⟨wr.heap.size, 0, none⟩ = some (.int .i64 p.x) ∧ w9.cell? ⟨wr.heap.size, 1, none⟩ = some (.int .i64 p.y) from fun w9 h9 => ⟨h9, kp h9 y0, kp h9 y1⟩)
        refine tk 0 (v := ?_) (hp _) hS rfl (fun _ _ _ _ => trivial) ?_ ?_
        rotate_left 1
        · intro w hw; (try rw [hw]); (try go_split_ands); go_simp <;> with_reducible rfl
        try simp only [Act.put, st]
        refine tk 1 (v := ?_) (hp _) hS rfl (fun _ _ _ _ => trivial) ?_ ?_
        rotate_left 1
        · intro w hw; (try rw [hw]); (try go_split_ands); go_simp <;> with_reducible rfl
        try simp only [Act.put, st]
        refine tk 2 (v := ?_) (hp _) hS rfl (fun _ _ _ _ => trivial) ?_ ?_
        rotate_left 1
        · intro w hw; (try rw [hw]); (try go_split_ands); go_simp <;> with_reducible rfl
        try simp only [Act.put, st]
        refine tk 5 (v := ?_) (hp _) hS rfl (fun _ _ _ _ => trivial) ?_ ?_
        rotate_left 1
        · intro w hw; (try rw [hw]); (try go_split_ands); go_simp <;> with_reducible rfl
        try simp only [Act.put, st]
        refine tk 6 (v := ?_) (hp _) hS rfl (fun _ _ _ _ => trivial) ?_ ?_
        rotate_left 1
        · intro w hw; (try rw [hw]); (try go_split_ands); go_simp <;> with_reducible rfl
        try simp only [Act.put, st]
        refine tk 7 (v := ?_) (hp _) hS rfl (fun _ _ _ _ => trivial) ?_ ?_
        rotate_left 1
        · intro w hw; (try rw [hw]); (try go_split_ands); go_simp <;> with_reducible rfl
        try simp only [Act.put, st]
        refine held_step 3 rfl (hp _) (by kernel_rfl) (by kernel_rfl) (fun K hK => ⟨?_, ?_⟩)
        · exact fun _ _ => trivial
        go_simp
        refine (callsIn_wide.2 (HZ.out _)).mono ?_
        rintro e w1 ⟨rfl, hb_1⟩
        have hB_1 : Below z.heap.size z w1 := Below.after' hS.1 hb_1
        have hS := HSZ.out _ hB_1
        refine hK _ _ hS ?_
        clear hK K
        try simp only [Act.put, st]
        refine tk 4 (v := ?_) (hp _) hS rfl (fun _ _ _ _ => trivial) ?_ ?_
        rotate_left 1
        · intro w hw; (try rw [hw]); (try go_split_ands); go_simp <;> with_reducible rfl
        try simp only [Act.put, st]
        refine held_step 8 rfl (hp _) (by kernel_rfl) (by kernel_rfl) (fun K hK => ⟨?_, ?_⟩)
        · exact fun _ _ => trivial
        go_simp
        refine (callsIn_wide.2 (HZ.out _)).mono ?_
        rintro e w2 ⟨rfl, hb_2⟩
        have hB_2 : Below z.heap.size z w2 := Below.after' hS.1 hb_2
        have hS := HSZ.out _ hB_2
        refine hK _ _ hS ?_
        clear hK K
        try simp only [Act.put, st]
        refine tk 9 (v := ?_) (hp _) hS rfl (fun _ _ _ _ => trivial) ?_ ?_
        rotate_left 1
        · intro w hw; (try rw [hw]); (try go_split_ands); go_simp <;> with_reducible rfl
        try simp only [Act.put, st]
        refine tk 10 (v := ?_) (hp _) hS rfl (fun _ _ _ _ => trivial) ?_ ?_
        rotate_left 1
        · intro w hw; (try rw [hw]); (try go_split_ands); go_simp <;> with_reducible rfl
        try simp only [Act.put, st]
        refine tk 11 (v := ?_) (hp _) hS rfl (fun _ _ _ _ => trivial) ?_ ?_
        rotate_left 1
        · intro w hw; (try rw [hw]); (try go_split_ands); go_simp <;> with_reducible rfl
        try simp only [Act.put, st]
        refine held_end (by kernel_rfl) ?_
        gi_wp2
        go_roundw
        case rel => exact ⟨k + 1, by omega, by go_num, by rw [HMN.out]; congr 1; split <;> omega, by rw [HMX.out]; congr 1; split <;> omega, hBz.trans (hB_2.mono hBz.size)⟩
        case measure => simp [intOf]; omega
      · obtain rfl : k = n := by omega
        have hnlt : ¬ ((k : Int) < (k : Int)) := by omega
        have ht : xs.take k = xs := List.take_of_length_le (by rw [HN.out]; omega)
        have HT := Lib.hid ht
        clear ht
        gi_wp2
        go_ret2
        refine ⟨?_, by go_grown⟩
        simp [HT.out]
set_option maxRecDepth 100000 in
set_option maxHeartbeats 4000000 in
theorem fn73_any (p : Pt) (w : World) : Calls Tryz.prog 73 #[p.val] w fun e w' => e = .returned (.int .i64 (p.x)) ∧ Below w.heap.size w w' := by
  skip
  go_enter Tryz.func73, Tryz.ntmps73
  go_wp2_with fail
  go_ret
  exact ⟨rfl, by go_grown⟩
set_option maxRecDepth 100000 in
set_option maxHeartbeats 4000000 in
theorem fn74_any (p : Pt) (w : World) : Calls Tryz.prog 74 #[p.val] w fun e w' => e = .returned (.int .i64 (p.y)) ∧ Below w.heap.size w w' := by
  skip
  go_enter Tryz.func74, Tryz.ntmps74
  go_wp2_with fail
  go_ret
  exact ⟨rfl, by go_grown⟩
set_option maxRecDepth 100000 in
set_option maxHeartbeats 4000000 in
theorem fn105_any (p : Pt) (h : Nr p) (w : World) : Calls Tryz.prog 105 #[p.val] w fun e w' => e = .returned (.int .i64 (p.x + p.y)) ∧ Below w.heap.size w w' := by
  unfold Nr at h
  go_enter Tryz.func105, Tryz.ntmps105
  go_wp2_with fail
  go_ret
  exact ⟨rfl, by go_grown⟩
set_option maxRecDepth 100000 in
set_option maxHeartbeats 4000000 in
theorem fn106_any (p : Pt) (h : Nr p) (w : World) : Calls Tryz.prog 106 #[p.val] w fun e w' => e = .returned (.int .i64 (p.x - p.y)) ∧ Below w.heap.size w w' := by
  unfold Nr at h
  go_enter Tryz.func106, Tryz.ntmps106
  go_wp2_with fail
  go_ret
  exact ⟨rfl, by go_grown⟩
end Go.Proofs.YtnhdnkeiijiiaaaGreat
namespace Go.Proofs.YtnhdnkeiijiiaaaGreat
open Go.RowKit
set_option linter.unusedSimpArgs false
set_option linter.unusedVariables false
attribute [local go_sem ↓] Go.wp_at_zero Go.wp_at_succ

theorem ret_2p1 {R : Ending → World → Prop} {fn : Func} {p q u : Tmp} {a : Act} {w : World} {B C : Nat} {x0 x1 y0 y1 : Value} (hres : fn.results = #[.cell p 23, .cell q 23, .tmp u]) (hd : a.defers = [])
    (hp : a.tmps.getD p undef = .pointer (some ⟨B, 0, none⟩)) (hq : a.tmps.getD q undef = .pointer (some ⟨C, 0, none⟩)) (c : w.cell? ⟨B, 0, none⟩ = some x0 ∧ w.cell? ⟨B, 1, none⟩ = some x1) (d : w.cell? ⟨C, 0, none⟩ = some y0 ∧ w.cell? ⟨C, 1, none⟩ = some y1)
    (hR : R (.returned (.tuple #[.agg #[x0, x1], .agg #[y0, y1], a.tmps.getD u undef])) w) : bodyPost Tryz.prog fn R .ret a w := by
  refine bodyPost_ret (v := .tuple #[.agg #[x0, x1], .agg #[y0, y1], a.tmps.getD u undef]) ?_ hd hR
  have hp' : a.tmps[p]?.getD undef = .pointer (some ⟨B, 0, none⟩) := by simpa using hp
  have hq' : a.tmps[q]?.getD undef = .pointer (some ⟨C, 0, none⟩) := by simpa using hq
  simp only [results, hres]
  simp [Sem.run_bind, Result.andThen, hp', hq', go_sem, c.1, c.2, d.1, d.2]
theorem pl_of_valid {xs : List Pt} (h : validB xs = true) : ∀ p ∈ xs, plB p = true := by
  simp only [validB, Bool.and_eq_true] at h
  exact fun p hp => pl_of_first h.1.2 hp
theorem len_of_valid {xs : List Pt} (h : validB xs = true) : 1 ≤ xs.length ∧ xs.length ≤ 64 := by
  simp only [validB, Bool.and_eq_true, decide_eq_true_eq] at h
  exact h.1.1
set_option maxRecDepth 100000 in
set_option maxHeartbeats 4000000 in
theorem hBox_bad (A : Option Addr) (n c : Nat) (xs : List Pt) (w : World) (hn : xs.length = n) (hx : Pts? w.heap.size w A xs) (hI : Ok64 xs) (hv : validB xs = false) :
    Calls Tryz.prog 43 #[.slice A n c] w fun e w' => e = .returned (.tuple #[.agg #[.int .i64 0, .int .i64 0], .agg #[.int .i64 0, .int .i64 0], .int .i64 1]) ∧ Below w.heap.size w w' := by
  have v := fun W (hB : Below w.heap.size w W) => hValid_any A n c xs W hn (hx.later hB) hI
  rw [hv] at v
  have HV := Lib.hid (show ∀ W, Below w.heap.size w W → _ from v)
  clear v hx hI hn hv
  go_enter Tryz.func43, Tryz.ntmps43
  go_wp2_with fail
  refine (HV.out _ (by go_grown)).mono ?_
  rintro e w1 ⟨rfl, hb1⟩
  have hB1 : Below w.heap.size w w1 := below_after (by go_grown) hb1
  have c_a0 : w1.cell? ⟨w.heap.size, 0, none⟩ = some (.int .i64 0) := kp hb1 (by go_cell)
  have c_a1 : w1.cell? ⟨w.heap.size, 1, none⟩ = some (.int .i64 0) := kp hb1 (by go_cell)
  have c_b0 : w1.cell? ⟨w.heap.size + 1, 0, none⟩ = some (.int .i64 0) := kp hb1 (by go_cell)
  have c_b1 : w1.cell? ⟨w.heap.size + 1, 1, none⟩ = some (.int .i64 0) := kp hb1 (by go_cell)
  have f_a0 : w1.frozen? ⟨w.heap.size, 0, none⟩ = false := kf hb1 (by go_simp) (by go_simp)
  have f_a1 : w1.frozen? ⟨w.heap.size, 1, none⟩ = false := kf hb1 (by go_simp) (by go_simp)
  have f_b0 : w1.frozen? ⟨w.heap.size + 1, 0, none⟩ = false := kf hb1 (by go_simp) (by go_simp)
  have f_b1 : w1.frozen? ⟨w.heap.size + 1, 1, none⟩ = false := kf hb1 (by go_simp) (by go_simp)
  clear hb1
  go_upto_region 2 with fail
  go_region
  go_wp2_with fail
  refine ret_2p1 rfl rfl rfl rfl ⟨by go_cell, by go_cell⟩ ⟨by go_cell, by go_cell⟩ ⟨rfl, by go_grown⟩
set_option maxRecDepth 100000 in
set_option maxHeartbeats 4000000 in
theorem hBox_ok (A : Option Addr) (n c : Nat) (xs : List Pt) (w : World) (hn : xs.length = n) (hx : Pts? w.heap.size w A xs) (hI : Ok64 xs) (hv : validB xs = true) :
    Calls Tryz.prog 43 #[.slice A n c] w fun e w' => e = .returned (.tuple #[.agg #[.int .i64 (minL Pt.x xs), .int .i64 (minL Pt.y xs)], .agg #[.int .i64 (maxL Pt.x xs), .int .i64 (maxL Pt.y xs)], .int .i64 0]) ∧ Below w.heap.size w w' := by
  have v := fun W (hB : Below w.heap.size w W) => hValid_any A n c xs W hn (hx.later hB) hI
  rw [hv] at v
  have hl := len_of_valid hv
  have vx := fun W (hB : Below w.heap.size w W) => ends_x Pt.x A n c xs W hn (by omega) (by omega) (hx.later hB) (fun p _ W => fn73_any p W)
  have vy := fun W (hB : Below w.heap.size w W) => ends_y Pt.y A n c xs W hn (by omega) (by omega) (hx.later hB) (fun p _ W => fn74_any p W)
  generalize minL Pt.x xs = LX at *
  generalize minL Pt.y xs = LY at *
  generalize maxL Pt.x xs = HX at *
  generalize maxL Pt.y xs = HY at *
  have HV := Lib.hid (show ∀ W, Below w.heap.size w W → _ from v)
  have VX := Lib.hid (show ∀ W, Below w.heap.size w W → _ from vx)
  have VY := Lib.hid (show ∀ W, Below w.heap.size w W → _ from vy)
  clear v vx vy hx hI hn hv hl
  go_enter Tryz.func43, Tryz.ntmps43
  go_wp2_with fail
  refine (HV.out _ (by go_grown)).mono ?_
  rintro e v1 ⟨rfl, hb1⟩
  have hB1 : Below w.heap.size w v1 := below_after (by go_grown) hb1
  have hz1 := hb1.size
  try simp only [World.size_alloc, World.size_setCell, World.size_drew] at hz1
  have hw1 := hB1.size
  have f_a0 : v1.frozen? ⟨w.heap.size, 0, none⟩ = false := kf hb1 (by go_simp) (by go_simp)
  have f_a1 : v1.frozen? ⟨w.heap.size, 1, none⟩ = false := kf hb1 (by go_simp) (by go_simp)
  have c_a0 : v1.cell? ⟨w.heap.size, 0, none⟩ = some (.int .i64 0) := kp hb1 (by go_cell)
  have c_a1 : v1.cell? ⟨w.heap.size, 1, none⟩ = some (.int .i64 0) := kp hb1 (by go_cell)
  have f_b0 : v1.frozen? ⟨w.heap.size + 1, 0, none⟩ = false := kf hb1 (by go_simp) (by go_simp)
  have f_b1 : v1.frozen? ⟨w.heap.size + 1, 1, none⟩ = false := kf hb1 (by go_simp) (by go_simp)
  have c_b0 : v1.cell? ⟨w.heap.size + 1, 0, none⟩ = some (.int .i64 0) := kp hb1 (by go_cell)
  have c_b1 : v1.cell? ⟨w.heap.size + 1, 1, none⟩ = some (.int .i64 0) := kp hb1 (by go_cell)
  clear hb1
  go_wp2_with fail
  refine (VX.out _ (by go_grown)).mono ?_
  rintro e v2 ⟨rfl, hb2⟩
  have hB2 : Below w.heap.size w v2 := below_after (by go_grown) hb2
  have hz2 := hb2.size
  try simp only [World.size_alloc, World.size_setCell, World.size_drew] at hz2
  have hw2 := hB2.size
  replace f_a0 : v2.frozen? ⟨w.heap.size, 0, none⟩ = false := kf hb2 (by go_simp) (by go_simp)
  replace f_a1 : v2.frozen? ⟨w.heap.size, 1, none⟩ = false := kf hb2 (by go_simp) (by go_simp)
  replace c_a0 : v2.cell? ⟨w.heap.size, 0, none⟩ = some (.int .i64 0) := kp hb2 (by go_cell)
  replace c_a1 : v2.cell? ⟨w.heap.size, 1, none⟩ = some (.int .i64 0) := kp hb2 (by go_cell)
  replace f_b0 : v2.frozen? ⟨w.heap.size + 1, 0, none⟩ = false := kf hb2 (by go_simp) (by go_simp)
  replace f_b1 : v2.frozen? ⟨w.heap.size + 1, 1, none⟩ = false := kf hb2 (by go_simp) (by go_simp)
  replace c_b0 : v2.cell? ⟨w.heap.size + 1, 0, none⟩ = some (.int .i64 0) := kp hb2 (by go_cell)
  replace c_b1 : v2.cell? ⟨w.heap.size + 1, 1, none⟩ = some (.int .i64 0) := kp hb2 (by go_cell)
  clear hb2 hB1
  go_wp2_with fail
  refine (VY.out _ (by go_grown)).mono ?_
  rintro e v3 ⟨rfl, hb3⟩
  have hB3 : Below w.heap.size w v3 := below_after (by go_grown) hb3
  have hz3 := hb3.size
  try simp only [World.size_alloc, World.size_setCell, World.size_drew] at hz3
  have hw3 := hB3.size
  replace f_a0 : v3.frozen? ⟨w.heap.size, 0, none⟩ = false := kf hb3 (by go_simp) (by go_simp)
  replace f_a1 : v3.frozen? ⟨w.heap.size, 1, none⟩ = false := kf hb3 (by go_simp) (by go_simp)
  replace c_a0 : v3.cell? ⟨w.heap.size, 0, none⟩ = some (.int .i64 LX) := kp hb3 (by go_cell)
  replace c_a1 : v3.cell? ⟨w.heap.size, 1, none⟩ = some (.int .i64 0) := kp hb3 (by go_cell)
  replace f_b0 : v3.frozen? ⟨w.heap.size + 1, 0, none⟩ = false := kf hb3 (by go_simp) (by go_simp)
  replace f_b1 : v3.frozen? ⟨w.heap.size + 1, 1, none⟩ = false := kf hb3 (by go_simp) (by go_simp)
  replace c_b0 : v3.cell? ⟨w.heap.size + 1, 0, none⟩ = some (.int .i64 HX) := kp hb3 (by go_cell)
  replace c_b1 : v3.cell? ⟨w.heap.size + 1, 1, none⟩ = some (.int .i64 0) := kp hb3 (by go_cell)
  clear hb3 hB2
  go_wp2_with fail
  go_upto_region 5 with fail
  go_region
  go_wp2_with fail
  refine ret_2p1 rfl rfl rfl rfl ⟨by go_cell, by go_cell⟩ ⟨by go_cell, ?_⟩ ⟨rfl, by go_grown⟩
  rw [cell_drew_own, World.cell?_setCell_same']
  go_simp
end Go.Proofs.YtnhdnkeiijiiaaaGreat
namespace Go.Proofs.YtnhdnkeiijiiaaaGreat
open Go.RowKit Go.Shelf
set_option linter.unusedSimpArgs false
set_option linter.unusedVariables false
attribute [local go_sem] Oper.semAt_some

/-- a point is in a polygon -/
def insB (xs : List Pt) (x : Pt) : Bool :=
  if xs.length < 3 then decide (turnS (xs.getD 0 default) (xs.getD (xs.length - 1) default) x = 0) && decide (minL Pt.x xs ≤ x.x) && decide (x.x ≤ maxL Pt.x xs) && decide (minL Pt.y xs ≤ x.y) && decide (x.y ≤ maxL Pt.y xs)
  else (sidesL xs).all fun s => decide (0 ≤ turnS s.1 s.2 x)
theorem set1c {w : World} {B : Nat} {v0 : Value} (v : Value) (h : w.cell? ⟨B, 0, none⟩ = some v0) : (w.setCell ⟨B, 0, none⟩ v).cell? ⟨B, 0, none⟩ = some v := World.cell?_setCell_same' _ _ _ (by rw [h]; rfl)
set_option maxRecDepth 100000 in
set_option maxHeartbeats 4000000 in
theorem hHas_bad1 (A : Option Addr) (n c : Nat) (xs : List Pt) (x : Pt) (w : World) (hn : xs.length = n) (hx : Pts? w.heap.size w A xs) (hI : Ok64 xs) (hv : validB xs = false) :
    Calls Tryz.prog 29 #[.slice A n c, x.val] w fun e w' => e = .returned (.tuple #[.bool false, .int .i64 1]) ∧ Below w.heap.size w w' := by
  have v := fun W (hB : Below w.heap.size w W) => hValid_any A n c xs W hn (hx.later hB) hI
  rw [hv] at v
  have HV := Lib.hid (show ∀ W, Below w.heap.size w W → _ from v)
  clear v hx hI hn hv
  refine (callsIn_wide (n := 6)).1 ?_
  refine callsIn_of_wp_marks Tryz.func29 rfl trivial ?_ rfl
  simp only [Tryz.ntmps29, List.size_toArray, List.length_cons, List.length_nil, Nat.reduceAdd, Nat.reduceSub, Array.replicate_succ, Array.replicate_zero, List.push_toArray, List.append_toArray, List.nil_append, List.cons_append]
  gi_wp2
  refine ⟨trivial, (callsIn_wide.2 (HV.out _ (by go_grown))).mono ?_⟩
  rintro e w1 ⟨rfl, hb1⟩
  have hB1 : Below w.heap.size w w1 := below_after (by go_grown) hb1
  have c_x0 : w1.cell? ⟨w.heap.size, 0, none⟩ = some (.int .i64 x.x) := kp hb1 (by go_cell)
  have c_x1 : w1.cell? ⟨w.heap.size, 1, none⟩ = some (.int .i64 x.y) := kp hb1 (by go_cell)
  have f_r : w1.frozen? ⟨w.heap.size + 1, 0, none⟩ = false := kf hb1 (by go_simp) (by go_simp)
  have c_r : w1.cell? ⟨w.heap.size + 1, 0, none⟩ = some (.bool false) := kp hb1 (by go_cell)
  have f_e : w1.frozen? ⟨w.heap.size + 1 + 1, 0, none⟩ = false := kf hb1 (by go_simp) (by go_simp)
  have c_e : w1.cell? ⟨w.heap.size + 1 + 1, 0, none⟩ = some (.int .i64 0) := kp hb1 (by go_cell)
  clear hb1
  gi_wp2
  refine ⟨trivial, ?_⟩
  gi_wp2
  have k1 : (World.setCell w1 ⟨w.heap.size + 1, 0, none⟩ (.bool false)).cell? ⟨w.heap.size + 1, 0, none⟩ = some (.bool false) := set1c _ c_r
  have k2 : (World.setCell (World.setCell w1 ⟨w.heap.size + 1, 0, none⟩ (.bool false)) ⟨w.heap.size + 1 + 1, 0, none⟩ (.int .i64 1)).cell? ⟨w.heap.size + 1 + 1, 0, none⟩ = some (.int .i64 1) := set1c _ (v0 := .int .i64 0) (by go_cell)
  refine ⟨.tuple #[.bool false, .int .i64 1], ?_, rfl, by go_grown⟩
  simp [results, Tryz.f29, go_sem, k1, k2]
set_option maxRecDepth 100000 in
set_option maxHeartbeats 4000000 in
theorem hHas_bad2 (A : Option Addr) (n c : Nat) (xs : List Pt) (x : Pt) (w : World) (hn : xs.length = n) (hx : Pts? w.heap.size w A xs) (hI : Ok64 xs) (hv : validB xs = true) (h1 : I64 x.x) (h2 : I64 x.y) (hp : plB x = false) :
    Calls Tryz.prog 29 #[.slice A n c, x.val] w fun e w' => e = .returned (.tuple #[.bool false, .int .i64 1]) ∧ Below w.heap.size w w' := by
  have v := fun W (hB : Below w.heap.size w W) => hValid_any A n c xs W hn (hx.later hB) hI
  rw [hv] at v
  have vp := fun W => hisPlace_any x W h1 h2
  rw [hp] at vp
  have HV := Lib.hid (show ∀ W, Below w.heap.size w W → _ from v)
  have HP := Lib.hid vp
  clear v hx hI hn hv vp hp
  refine (callsIn_wide (n := 6)).1 ?_
  refine callsIn_of_wp_marks Tryz.func29 rfl trivial ?_ rfl
  simp only [Tryz.ntmps29, List.size_toArray, List.length_cons, List.length_nil, Nat.reduceAdd, Nat.reduceSub, Array.replicate_succ, Array.replicate_zero, List.push_toArray, List.append_toArray, List.nil_append, List.cons_append]
  gi_wp2
  refine ⟨trivial, (callsIn_wide.2 (HV.out _ (by go_grown))).mono ?_⟩
  rintro e w1 ⟨rfl, hb1⟩
  have hB1 : Below w.heap.size w w1 := below_after (by go_grown) hb1
  have c_x0 : w1.cell? ⟨w.heap.size, 0, none⟩ = some (.int .i64 x.x) := kp hb1 (by go_cell)
  have c_x1 : w1.cell? ⟨w.heap.size, 1, none⟩ = some (.int .i64 x.y) := kp hb1 (by go_cell)
  have f_r : w1.frozen? ⟨w.heap.size + 1, 0, none⟩ = false := kf hb1 (by go_simp) (by go_simp)
  have c_r : w1.cell? ⟨w.heap.size + 1, 0, none⟩ = some (.bool false) := kp hb1 (by go_cell)
  have f_e : w1.frozen? ⟨w.heap.size + 1 + 1, 0, none⟩ = false := kf hb1 (by go_simp) (by go_simp)
  have c_e : w1.cell? ⟨w.heap.size + 1 + 1, 0, none⟩ = some (.int .i64 0) := kp hb1 (by go_cell)
  clear hb1
  gi_wp2
  refine ⟨trivial, (callsIn_wide.2 (HP.out _)).mono ?_⟩
  rintro e w2 ⟨rfl, hb2⟩
  have hB2 : Below w.heap.size w w2 := below_after (by go_grown) hb2
  replace c_x0 : w2.cell? ⟨w.heap.size, 0, none⟩ = some (.int .i64 x.x) := kp hb2 (by go_cell)
  replace c_x1 : w2.cell? ⟨w.heap.size, 1, none⟩ = some (.int .i64 x.y) := kp hb2 (by go_cell)
  replace f_r : w2.frozen? ⟨w.heap.size + 1, 0, none⟩ = false := kf hb2 (by go_simp) (by go_simp)
  replace c_r : w2.cell? ⟨w.heap.size + 1, 0, none⟩ = some (.bool false) := kp hb2 (by go_cell)
  replace f_e : w2.frozen? ⟨w.heap.size + 1 + 1, 0, none⟩ = false := kf hb2 (by go_simp) (by go_simp)
  replace c_e : w2.cell? ⟨w.heap.size + 1 + 1, 0, none⟩ = some (.int .i64 0) := kp hb2 (by go_cell)
  clear hb2
  gi_wp2
  have k1 : (World.setCell w2 ⟨w.heap.size + 1, 0, none⟩ (.bool false)).cell? ⟨w.heap.size + 1, 0, none⟩ = some (.bool false) := set1c _ c_r
  have k2 : (World.setCell (World.setCell w2 ⟨w.heap.size + 1, 0, none⟩ (.bool false)) ⟨w.heap.size + 1 + 1, 0, none⟩ (.int .i64 1)).cell? ⟨w.heap.size + 1 + 1, 0, none⟩ = some (.int .i64 1) := set1c _ (v0 := .int .i64 0) (by go_cell)
  refine ⟨.tuple #[.bool false, .int .i64 1], ?_, rfl, by go_grown⟩
  simp [results, Tryz.f29, go_sem, k1, k2]
set_option maxRecDepth 100000 in
set_option maxHeartbeats 4000000 in
theorem hHas_small (A : Option Addr) (n c : Nat) (xs : List Pt) (x : Pt) (w : World) (hn : xs.length = n) (hx : Pts? w.heap.size w A xs) (hI : Ok64 xs) (hv : validB xs = true) (h1 : I64 x.x) (h2 : I64 x.y) (hp : plB x = true) (h3 : n < 3) :
    Calls Tryz.prog 29 #[.slice A n c, x.val] w fun e w' => e = .returned (.tuple #[.bool (insB xs x), .int .i64 0]) ∧ Below w.heap.size w w' := by
  have v := fun W (hB : Below w.heap.size w W) => hValid_any A n c xs W hn (hx.later hB) hI
  have vb := fun W (hB : Below w.heap.size w W) => hBox_ok A n c xs W hn (hx.later hB) hI hv
  have hlen := len_of_valid hv
  have hpl := pl_of_valid hv
  rw [hv] at v
  have vp := fun W => hisPlace_any x W h1 h2
  rw [hp] at vp
  have hn0 : 0 < n := by omega
  obtain ⟨b, off, rfl, hlt0, hcs⟩ := hx (by omega)
  obtain ⟨p, hp0⟩ : ∃ p, xs[0]? = some p := ⟨_, List.getElem?_eq_getElem (by omega)⟩
  obtain ⟨q, hq0⟩ : ∃ q, xs[n - 1]? = some q := ⟨_, List.getElem?_eq_getElem (by omega)⟩
  obtain ⟨y0, y1⟩ := hcs 0 p hp0
  obtain ⟨z0, z1⟩ := hcs (n - 1) q hq0
  simp only [Nat.zero_mul, Nat.add_zero] at y0 y1
  have vt := fun W => hturn_any p q x W (nr_of_pl (hpl p (List.mem_of_getElem? hp0))) (nr_of_pl (hpl q (List.mem_of_getElem? hq0))) (nr_of_pl hp)
  have hins : insB xs x = (decide (turnS p q x = 0) && decide (minL Pt.x xs ≤ x.x) && decide (x.x ≤ maxL Pt.x xs) && decide (minL Pt.y xs ≤ x.y) && decide (x.y ≤ maxL Pt.y xs)) := by
    unfold insB
    rw [if_pos (by omega), hn]
    simp only [List.getD_eq_getElem?_getD, hp0, hq0, Option.getD_some]
  rw [hins]
  generalize turnS p q x = T at *
  generalize minL Pt.x xs = LX at *
  generalize minL Pt.y xs = LY at *
  generalize maxL Pt.x xs = HX at *
  generalize maxL Pt.y xs = HY at *
  have HV := Lib.hid (show ∀ W, Below w.heap.size w W → _ from v)
  have HB := Lib.hid (show ∀ W, Below w.heap.size w W → _ from vb)
  have HP := Lib.hid vp
  have HT := Lib.hid vt
  have h3i : (n : Int) < 3 := by omega
  obtain ⟨m, rfl⟩ : ∃ m, n = m + 1 := ⟨n - 1, by omega⟩
  simp only [Nat.add_sub_cancel] at z0 z1
  clear v hx hI hn hv vp hp vt vb hins hpl hcs hp0 hq0 hlen
  refine (callsIn_wide (n := 6)).1 ?_
  refine callsIn_of_wp_marks Tryz.func29 rfl trivial ?_ rfl
  simp only [Tryz.ntmps29, List.size_toArray, List.length_cons, List.length_nil, Nat.reduceAdd, Nat.reduceSub, Array.replicate_succ, Array.replicate_zero, List.push_toArray, List.append_toArray, List.nil_append, List.cons_append]
  gi_wp2
  refine ⟨trivial, (callsIn_wide.2 (HV.out _ (by go_grown))).mono ?_⟩
  rintro e w1 ⟨rfl, hb1⟩
  have hB1 : Below w.heap.size w w1 := below_after (by go_grown) hb1
  have c_x0 : w1.cell? ⟨w.heap.size, 0, none⟩ = some (.int .i64 x.x) := kp hb1 (by go_cell)
  have c_x1 : w1.cell? ⟨w.heap.size, 1, none⟩ = some (.int .i64 x.y) := kp hb1 (by go_cell)
  have f_r : w1.frozen? ⟨w.heap.size + 1, 0, none⟩ = false := kf hb1 (by go_simp) (by go_simp)
  have c_r : w1.cell? ⟨w.heap.size + 1, 0, none⟩ = some (.bool false) := kp hb1 (by go_cell)
  have f_e : w1.frozen? ⟨w.heap.size + 1 + 1, 0, none⟩ = false := kf hb1 (by go_simp) (by go_simp)
  have c_e : w1.cell? ⟨w.heap.size + 1 + 1, 0, none⟩ = some (.int .i64 0) := kp hb1 (by go_cell)
  clear hb1
  gi_wp2
  refine ⟨trivial, (callsIn_wide.2 (HP.out _)).mono ?_⟩
  rintro e w2 ⟨rfl, hb2⟩
  have hB2 : Below w.heap.size w w2 := below_after (by go_grown) hb2
  replace c_x0 : w2.cell? ⟨w.heap.size, 0, none⟩ = some (.int .i64 x.x) := kp hb2 (by go_cell)
  replace c_x1 : w2.cell? ⟨w.heap.size, 1, none⟩ = some (.int .i64 x.y) := kp hb2 (by go_cell)
  replace f_r : w2.frozen? ⟨w.heap.size + 1, 0, none⟩ = false := kf hb2 (by go_simp) (by go_simp)
  replace c_r : w2.cell? ⟨w.heap.size + 1, 0, none⟩ = some (.bool false) := kp hb2 (by go_cell)
  replace f_e : w2.frozen? ⟨w.heap.size + 1 + 1, 0, none⟩ = false := kf hb2 (by go_simp) (by go_simp)
  replace c_e : w2.cell? ⟨w.heap.size + 1 + 1, 0, none⟩ = some (.int .i64 0) := kp hb2 (by go_cell)
  clear hb2
  gi_wp2
  refine ⟨trivial, (callsIn_wide.2 (HB.out _ (by go_grown))).mono ?_⟩
  rintro e w3 ⟨rfl, hb3⟩
  have hB3 : Below w.heap.size w w3 := below_after (by go_grown) hb3
  replace c_x0 : w3.cell? ⟨w.heap.size, 0, none⟩ = some (.int .i64 x.x) := kp hb3 (by go_cell)
  replace c_x1 : w3.cell? ⟨w.heap.size, 1, none⟩ = some (.int .i64 x.y) := kp hb3 (by go_cell)
  replace f_r : w3.frozen? ⟨w.heap.size + 1, 0, none⟩ = false := kf hb3 (by go_simp) (by go_simp)
  replace c_r : w3.cell? ⟨w.heap.size + 1, 0, none⟩ = some (.bool false) := kp hb3 (by go_cell)
  replace f_e : w3.frozen? ⟨w.heap.size + 1 + 1, 0, none⟩ = false := kf hb3 (by go_simp) (by go_simp)
  replace c_e : w3.cell? ⟨w.heap.size + 1 + 1, 0, none⟩ = some (.int .i64 0) := kp hb3 (by go_cell)
  clear hb3
  gi_wp2
  have hBz : Below w.heap.size w ((w3.alloc (.cells #[.int .i64 LX, .int .i64 LY] 23)).alloc (.cells #[.int .i64 HX, .int .i64 HY] 23)).drew := Below.drew ((hB3.alloc hB3.size _).alloc (by simp; exact Nat.le_succ_of_le hB3.size) _)
  replace y0 := kp hB3 y0
  replace y1 := kp hB3 y1
  replace z0 := kp hB3 z0
  replace z1 := kp hB3 z1
  have k0 : ((w3.alloc (.cells #[.int .i64 LX, .int .i64 LY] 23)).alloc (.cells #[.int .i64 HX, .int .i64 HY] 23)).drew.cell? ⟨b, off, none⟩ = some (.int .i64 p.x) := by go_cell
  have k1 : ((w3.alloc (.cells #[.int .i64 LX, .int .i64 LY] 23)).alloc (.cells #[.int .i64 HX, .int .i64 HY] 23)).drew.cell? ⟨b, off + 1, none⟩ = some (.int .i64 p.y) := by go_cell
  have k2 : ((w3.alloc (.cells #[.int .i64 LX, .int .i64 LY] 23)).alloc (.cells #[.int .i64 HX, .int .i64 HY] 23)).drew.cell? ⟨b, off + m * 2, none⟩ = some (.int .i64 q.x) := by go_cell
  have k3 : ((w3.alloc (.cells #[.int .i64 LX, .int .i64 LY] 23)).alloc (.cells #[.int .i64 HX, .int .i64 HY] 23)).drew.cell? ⟨b, off + m * 2 + 1, none⟩ = some (.int .i64 q.y) := by go_cell
  have k4 : ((w3.alloc (.cells #[.int .i64 LX, .int .i64 LY] 23)).alloc (.cells #[.int .i64 HX, .int .i64 HY] 23)).drew.cell? ⟨w.heap.size, 0, none⟩ = some (.int .i64 x.x) := by go_cell
  have k5 : ((w3.alloc (.cells #[.int .i64 LX, .int .i64 LY] 23)).alloc (.cells #[.int .i64 HX, .int .i64 HY] 23)).drew.cell? ⟨w.heap.size, 1, none⟩ = some (.int .i64 x.y) := by go_cell
  have k6 : ((w3.alloc (.cells #[.int .i64 LX, .int .i64 LY] 23)).alloc (.cells #[.int .i64 HX, .int .i64 HY] 23)).drew.cell? ⟨w3.heap.size, 0, none⟩ = some (.int .i64 LX) := by go_cell
  have k7 : ((w3.alloc (.cells #[.int .i64 LX, .int .i64 LY] 23)).alloc (.cells #[.int .i64 HX, .int .i64 HY] 23)).drew.cell? ⟨w3.heap.size, 1, none⟩ = some (.int .i64 LY) := by go_cell
  have k8 : ((w3.alloc (.cells #[.int .i64 LX, .int .i64 LY] 23)).alloc (.cells #[.int .i64 HX, .int .i64 HY] 23)).drew.cell? ⟨w3.heap.size + 1, 0, none⟩ = some (.int .i64 HX) := by go_cell
  have k9 : ((w3.alloc (.cells #[.int .i64 LX, .int .i64 LY] 23)).alloc (.cells #[.int .i64 HX, .int .i64 HY] 23)).drew.cell? ⟨w3.heap.size + 1, 1, none⟩ = some (.int .i64 HY) := by go_cell
  have c_r2 : ((w3.alloc (.cells #[.int .i64 LX, .int .i64 LY] 23)).alloc (.cells #[.int .i64 HX, .int .i64 HY] 23)).drew.cell? ⟨w.heap.size + 1, 0, none⟩ = some (.bool false) := by go_cell
  have c_e2 : ((w3.alloc (.cells #[.int .i64 LX, .int .i64 LY] 23)).alloc (.cells #[.int .i64 HX, .int .i64 HY] 23)).drew.cell? ⟨w.heap.size + 1 + 1, 0, none⟩ = some (.int .i64 0) := by go_cell
  have f_r2 : ((w3.alloc (.cells #[.int .i64 LX, .int .i64 LY] 23)).alloc (.cells #[.int .i64 HX, .int .i64 HY] 23)).drew.frozen? ⟨w.heap.size + 1, 0, none⟩ = false := by go_simp
  have f_e2 : ((w3.alloc (.cells #[.int .i64 LX, .int .i64 LY] 23)).alloc (.cells #[.int .i64 HX, .int .i64 HY] 23)).drew.frozen? ⟨w.heap.size + 1 + 1, 0, none⟩ = false := by go_simp
  have hp : ∀ ops, PlainOps Fence.wide ops := fun ops => plainOps_none rfl
  have hm1 : IntKind.i64.wrap (m : Int) = (m : Int) := IntWalk.i64_in _ (by omega)
  have hm2 : (0 : Int) < (m : Int) + 1 := by omega
  have hm3 : (m : Int) < (m : Int) + 1 := by omega
  have hm4 : (0 : Int) ≤ (m : Int) := by omega
  refine held_begin [0, 1, 2, 3, 4, 5, 6, 7, 8, 9, 11, 12, 13, 14, 15, 16, 17, 18, 19, 20, 21, 22, 23, 24, 25, 26, 27, 28, 29, 30, 31, 32, 33, 34, 35, 36, 37, 38, 39] (fun w9 => Below ((w3.alloc (.cells #[.int .i64 LX, .int .i64 LY] 23)).alloc (.cells #[.int .i64 HX, .int .i64 HY] 23)).drew.heap.size ((w3.alloc (.cells #[.int .i64 LX, .int .i64 LY] 23)).alloc (.cells #[.int .i64 HX, .int .i64 HY] 23)).drew w9 ∧ w9.cell? ⟨b, off, none⟩ = some (.int .i64 p.x) ∧ w9.cell? ⟨b, off + 1, none⟩ = some (.int .i64 p.y) ∧ w9.cell? ⟨b, off + m * 2, none⟩ = some (.int .i64 q.x) ∧ w9.cell? ⟨b, off + m * 2 + 1, none⟩ = some (.int .i64 q.y) ∧ w9.cell? ⟨w.heap.size, 0, none⟩ = some (.int .i64 x.x) ∧ w9.cell? ⟨w.heap.size, 1, none⟩ = some (.int .i64 x.y) ∧ w9.cell? ⟨w3.heap.size, 0, none⟩ = some (.int .i64 LX) ∧ w9.cell? ⟨w3.heap.size, 1, none⟩ = some (.int .i64 LY) ∧ w9.cell? ⟨w3.heap.size + 1, 0, none⟩ = some (.int .i64 HX) ∧ w9.cell? ⟨w3.heap.size + 1, 1, none⟩ = some (.int .i64 HY)) (by kernel_rfl) (⟨Below.refl _ _, k0, k1, k2, k3, k4, k5, k6, k7, k8, k9⟩) (fun hS => ?_)
  generalize ((w3.alloc (.cells #[.int .i64 LX, .int .i64 LY] 23)).alloc (.cells #[.int .i64 HX, .int .i64 HY] 23)).drew = z at *
  have HSZ := Lib.hid (show ∀ w9, Below z.heap.size z w9 → Below z.heap.size z w9 ∧ w9.cell? ⟨b, off, none⟩ = some (.int .i64 p.x) ∧ w9.cell? ⟨b, off + 1, none⟩ = some (.int .i64 p.y) ∧ w9.cell? ⟨b, off + m * 2, none⟩ = some (.int .i64 q.x) ∧ w9.cell? ⟨b, off + m * 2 + 1, none⟩ = some (.int .i64 q.y) ∧ w9.cell? ⟨w.heap.size, 0, none⟩ = some (.int .i64 x.x) ∧ w9.cell? ⟨w.heap.size, 1, none⟩ = some (.int .i64 x.y) ∧ w9.cell? ⟨w3.heap.size, 0, none⟩ = some (.int .i64 LX) ∧ w9.cell? ⟨w3.heap.size, 1, none⟩ = some (.int .i64 LY) ∧ w9.cell? ⟨w3.heap.size + 1, 0, none⟩ = some (.int .i64 HX) ∧ w9.cell? ⟨w3.heap.size + 1, 1, none⟩ = some (.int .i64 HY) from fun w9 h9 => ⟨h9, kp h9 k0, kp h9 k1, kp h9 k2, kp h9 k3, kp h9 k4, kp h9 k5, kp h9 k6, kp h9 k7, kp h9 k8, kp h9 k9⟩)
  clear c_r c_e f_r f_e y0 y1 z0 z1 c_x0 c_x1 HV HP HB
  refine tk 0 (v := ?_) (hp _) hS rfl (fun _ _ _ _ => trivial) ?_ ?_
  rotate_left 1
  · intro w hw; (try rw [hw]); (try go_split_ands); go_simp <;> with_reducible rfl
  try simp only [Act.put, st]
  refine tk 1 (v := ?_) (hp _) hS rfl (fun _ _ _ _ => trivial) ?_ ?_
  rotate_left 1
  · intro w hw; (try rw [hw]); (try go_split_ands); go_simp <;> with_reducible rfl
  try simp only [Act.put, st]
  refine tk 2 (v := ?_) (hp _) hS rfl (fun _ _ _ _ => trivial) ?_ ?_
  rotate_left 1
  · intro w hw; (try rw [hw]); (try go_split_ands); go_simp <;> with_reducible rfl
  try simp only [Act.put, st]
  refine tk 3 (v := ?_) (hp _) hS rfl (fun _ _ _ _ => trivial) ?_ ?_
  rotate_left 1
  · intro w hw; (try rw [hw]); (try go_split_ands); go_simp <;> with_reducible rfl
  try simp only [Act.put, st]
  refine tk 4 (v := ?_) (hp _) hS rfl (fun _ _ _ _ => trivial) ?_ ?_
  rotate_left 1
  · intro w hw; (try rw [hw]); (try go_split_ands); go_simp <;> with_reducible rfl
  try simp only [Act.put, st]
  refine tk 5 (v := ?_) (hp _) hS rfl (fun _ _ _ _ => trivial) ?_ ?_
  rotate_left 1
  · intro w hw; (try rw [hw]); (try go_split_ands); go_simp <;> with_reducible rfl
  try simp only [Act.put, st]
  refine tk 6 (v := ?_) (hp _) hS rfl (fun _ _ _ _ => trivial) ?_ ?_
  rotate_left 1
  · intro w hw; (try rw [hw]); (try go_split_ands); go_simp <;> with_reducible rfl
  try simp only [Act.put, st]
  refine tk 7 (v := ?_) (hp _) hS rfl (fun _ _ _ _ => trivial) ?_ ?_
  rotate_left 1
  · intro w hw; (try rw [hw]); (try go_split_ands); go_simp <;> with_reducible rfl
  try simp only [Act.put, st]
  refine tk 8 (v := ?_) (hp _) hS rfl (fun _ _ _ _ => trivial) ?_ ?_
  rotate_left 1
  · intro w hw; (try rw [hw]); (try go_split_ands); go_simp <;> with_reducible rfl
  try simp only [Act.put, st]
  refine tk 9 (v := ?_) (hp _) hS rfl (fun _ _ _ _ => trivial) ?_ ?_
  rotate_left 1
  · intro w hw; (try rw [hw]); (try go_split_ands); go_simp <;> with_reducible rfl
  try simp only [Act.put, st]
  refine held_step 10 rfl (hp _) (by kernel_rfl) (by kernel_rfl) (fun K hK => ⟨?_, ?_⟩)
  · exact fun _ _ => trivial
  go_simp
  refine (callsIn_wide.2 (HT.out _)).mono ?_
  rintro e w5 ⟨rfl, hb_5⟩
  have hB_5 : Below z.heap.size z w5 := Below.after' hS.1 hb_5
  have hS := HSZ.out _ hB_5
  refine hK _ _ hS ?_
  clear hK K
  try simp only [Act.put, st]
  have c_r := (hS.1.cell (p := ⟨w.heap.size + 1, 0, none⟩) (World.block_lt_of_cell? _ _ c_r2)).trans c_r2
  have c_e := (hS.1.cell (p := ⟨w.heap.size + 1 + 1, 0, none⟩) (World.block_lt_of_cell? _ _ c_e2)).trans c_e2
  have f_r := (hS.1.frozen (p := ⟨w.heap.size + 1, 0, none⟩) (World.block_lt_of_cell? _ _ c_r2)).trans f_r2
  have f_e := (hS.1.frozen (p := ⟨w.heap.size + 1 + 1, 0, none⟩) (World.block_lt_of_cell? _ _ c_e2)).trans f_e2
  have hBf := hBz.trans (hS.1.mono hBz.size)
  clear HSZ HT k0 k1 k2 k3 c_r2 c_e2 f_r2 f_e2 hBz hb_5 hB_5 hB3 hB2 hB1
  by_cases e0 : T = 0
  rotate_left 1
  · have g0 : decide (T = 0) = false := by simp; omega
    have gg : (T == 0) = false := by simp [e0]
    refine tk 11 (v := ?_) (hp _) hS rfl (fun _ _ _ _ => trivial) ?_ ?_
    rotate_left 1
    · intro w hw; (try rw [hw]); (try go_split_ands); go_simp <;> with_reducible rfl
    try simp only [Act.put, st]
    refine tk 12 (v := ?_) (hp _) hS rfl (fun _ _ _ _ => trivial) ?_ ?_
    rotate_left 1
    · intro w hw; (try rw [hw]); (try go_split_ands); go_simp <;> with_reducible rfl
    try simp only [Act.put, st]
    refine sk 13 (hp _) hS rfl (fun _ _ _ _ => trivial) ?_
    try simp only [Act.put, st]
    refine sk 14 (hp _) hS rfl (fun _ _ _ _ => trivial) ?_
    try simp only [Act.put, st]
    refine sk 15 (hp _) hS rfl (fun _ _ _ _ => trivial) ?_
    try simp only [Act.put, st]
    refine sk 16 (hp _) hS rfl (fun _ _ _ _ => trivial) ?_
    try simp only [Act.put, st]
    refine sk 17 (hp _) hS rfl (fun _ _ _ _ => trivial) ?_
    try simp only [Act.put, st]
    refine tk 18 (v := ?_) (hp _) hS rfl (fun _ _ _ _ => trivial) ?_ ?_
    rotate_left 1
    · intro w hw; (try rw [hw]); (try go_split_ands); go_simp <;> with_reducible rfl
    try simp only [Act.put, st]
    refine tk 19 (v := ?_) (hp _) hS rfl (fun _ _ _ _ => trivial) ?_ ?_
    rotate_left 1
    · intro w hw; (try rw [hw]); (try go_split_ands); go_simp <;> with_reducible rfl
    try simp only [Act.put, st]
    refine sk 20 (hp _) hS rfl (fun _ _ _ _ => trivial) ?_
    try simp only [Act.put, st]
    refine sk 21 (hp _) hS rfl (fun _ _ _ _ => trivial) ?_
    try simp only [Act.put, st]
    refine sk 22 (hp _) hS rfl (fun _ _ _ _ => trivial) ?_
    try simp only [Act.put, st]
    refine sk 23 (hp _) hS rfl (fun _ _ _ _ => trivial) ?_
    try simp only [Act.put, st]
    refine sk 24 (hp _) hS rfl (fun _ _ _ _ => trivial) ?_
    try simp only [Act.put, st]
    refine tk 25 (v := ?_) (hp _) hS rfl (fun _ _ _ _ => trivial) ?_ ?_
    rotate_left 1
    · intro w hw; (try rw [hw]); (try go_split_ands); go_simp <;> with_reducible rfl
    try simp only [Act.put, st]
    refine tk 26 (v := ?_) (hp _) hS rfl (fun _ _ _ _ => trivial) ?_ ?_
    rotate_left 1
    · intro w hw; (try rw [hw]); (try go_split_ands); go_simp <;> with_reducible rfl
    try simp only [Act.put, st]
    refine sk 27 (hp _) hS rfl (fun _ _ _ _ => trivial) ?_
    try simp only [Act.put, st]
    refine sk 28 (hp _) hS rfl (fun _ _ _ _ => trivial) ?_
    try simp only [Act.put, st]
    refine sk 29 (hp _) hS rfl (fun _ _ _ _ => trivial) ?_
    try simp only [Act.put, st]
    refine sk 30 (hp _) hS rfl (fun _ _ _ _ => trivial) ?_
    try simp only [Act.put, st]
    refine sk 31 (hp _) hS rfl (fun _ _ _ _ => trivial) ?_
    try simp only [Act.put, st]
    refine tk 32 (v := ?_) (hp _) hS rfl (fun _ _ _ _ => trivial) ?_ ?_
    rotate_left 1
    · intro w hw; (try rw [hw]); (try go_split_ands); go_simp <;> with_reducible rfl
    try simp only [Act.put, st]
    refine tk 33 (v := ?_) (hp _) hS rfl (fun _ _ _ _ => trivial) ?_ ?_
    rotate_left 1
    · intro w hw; (try rw [hw]); (try go_split_ands); go_simp <;> with_reducible rfl
    try simp only [Act.put, st]
    refine sk 34 (hp _) hS rfl (fun _ _ _ _ => trivial) ?_
    try simp only [Act.put, st]
    refine sk 35 (hp _) hS rfl (fun _ _ _ _ => trivial) ?_
    try simp only [Act.put, st]
    refine sk 36 (hp _) hS rfl (fun _ _ _ _ => trivial) ?_
    try simp only [Act.put, st]
    refine sk 37 (hp _) hS rfl (fun _ _ _ _ => trivial) ?_
    try simp only [Act.put, st]
    refine sk 38 (hp _) hS rfl (fun _ _ _ _ => trivial) ?_
    try simp only [Act.put, st]
    refine tk 39 (v := ?_) (hp _) hS rfl (fun _ _ _ _ => trivial) ?_ ?_
    rotate_left 1
    · intro w hw; (try rw [hw]); (try go_split_ands); go_simp <;> with_reducible rfl
    try simp only [Act.put, st]
    have k1 : (World.setCell w5 ⟨w.heap.size + 1, 0, none⟩ (.bool false)).cell? ⟨w.heap.size + 1, 0, none⟩ = some (.bool false) := set1c _ c_r
    have k2 : (World.setCell (World.setCell w5 ⟨w.heap.size + 1, 0, none⟩ (.bool false)) ⟨w.heap.size + 1 + 1, 0, none⟩ (.int .i64 0)).cell? ⟨w.heap.size + 1 + 1, 0, none⟩ = some (.int .i64 0) := set1c _ (v0 := .int .i64 0) (by go_cell)
    refine held_one 40 rfl (hp _) (by kernel_rfl) (by kernel_rfl) (by kernel_rfl) (fun K hK => ⟨?_, ?_⟩)
    · exact fun _ _ => trivial
    go_simp
    refine hK _ _ ?_
    clear hK K
    try simp only [Act.put, st]
    refine held_one 41 rfl (hp _) (by kernel_rfl) (by kernel_rfl) (by kernel_rfl) (fun K hK => ⟨?_, ?_⟩)
    · exact fun _ _ => trivial
    go_simp
    refine hK _ _ ?_
    clear hK K
    try simp only [Act.put, st]
    refine held_end (by kernel_rfl) ?_
    gi_wp2
    refine ⟨.tuple #[.bool false, .int .i64 0], ?_, by simp only [g0, Bool.and_true, Bool.true_and, Bool.false_and, Bool.and_false], by go_grown⟩
    simp [results, Tryz.f29, go_sem, k1, k2]
  subst e0
  have g0 : decide ((0 : Int) = 0) = true := by simp
  by_cases e1 : LX ≤ x.x
  rotate_left 1
  · have g1 : decide (LX ≤ x.x) = false := by simp; omega
    refine tk 11 (v := ?_) (hp _) hS rfl (fun _ _ _ _ => trivial) ?_ ?_
    rotate_left 1
    · intro w hw; (try rw [hw]); (try go_split_ands); go_simp <;> with_reducible rfl
    try simp only [Act.put, st]
    refine tk 12 (v := ?_) (hp _) hS rfl (fun _ _ _ _ => trivial) ?_ ?_
    rotate_left 1
    · intro w hw; (try rw [hw]); (try go_split_ands); go_simp <;> with_reducible rfl
    try simp only [Act.put, st]
    refine tk 13 (v := ?_) (hp _) hS rfl (fun _ _ _ _ => trivial) ?_ ?_
    rotate_left 1
    · intro w hw; (try rw [hw]); (try go_split_ands); go_simp <;> with_reducible rfl
    try simp only [Act.put, st]
    refine tk 14 (v := ?_) (hp _) hS rfl (fun _ _ _ _ => trivial) ?_ ?_
    rotate_left 1
    · intro w hw; (try rw [hw]); (try go_split_ands); go_simp <;> with_reducible rfl
    try simp only [Act.put, st]
    refine tk 15 (v := ?_) (hp _) hS rfl (fun _ _ _ _ => trivial) ?_ ?_
    rotate_left 1
    · intro w hw; (try rw [hw]); (try go_split_ands); go_simp <;> with_reducible rfl
    try simp only [Act.put, st]
    refine tk 16 (v := ?_) (hp _) hS rfl (fun _ _ _ _ => trivial) ?_ ?_
    rotate_left 1
    · intro w hw; (try rw [hw]); (try go_split_ands); go_simp <;> with_reducible rfl
    try simp only [Act.put, st]
    refine tk 17 (v := ?_) (hp _) hS rfl (fun _ _ _ _ => trivial) ?_ ?_
    rotate_left 1
    · intro w hw; (try rw [hw]); (try go_split_ands); go_simp <;> with_reducible rfl
    try simp only [Act.put, st]
    refine tk 18 (v := ?_) (hp _) hS rfl (fun _ _ _ _ => trivial) ?_ ?_
    rotate_left 1
    · intro w hw; (try rw [hw]); (try go_split_ands); go_simp <;> with_reducible rfl
    try simp only [Act.put, st]
    refine tk 19 (v := ?_) (hp _) hS rfl (fun _ _ _ _ => trivial) ?_ ?_
    rotate_left 1
    · intro w hw; (try rw [hw]); (try go_split_ands); go_simp <;> with_reducible rfl
    try simp only [Act.put, st]
    refine sk 20 (hp _) hS rfl (fun _ _ _ _ => trivial) ?_
    try simp only [Act.put, st]
    refine sk 21 (hp _) hS rfl (fun _ _ _ _ => trivial) ?_
    try simp only [Act.put, st]
    refine sk 22 (hp _) hS rfl (fun _ _ _ _ => trivial) ?_
    try simp only [Act.put, st]
    refine sk 23 (hp _) hS rfl (fun _ _ _ _ => trivial) ?_
    try simp only [Act.put, st]
    refine sk 24 (hp _) hS rfl (fun _ _ _ _ => trivial) ?_
    try simp only [Act.put, st]
    refine tk 25 (v := ?_) (hp _) hS rfl (fun _ _ _ _ => trivial) ?_ ?_
    rotate_left 1
    · intro w hw; (try rw [hw]); (try go_split_ands); go_simp <;> with_reducible rfl
    try simp only [Act.put, st]
    refine tk 26 (v := ?_) (hp _) hS rfl (fun _ _ _ _ => trivial) ?_ ?_
    rotate_left 1
    · intro w hw; (try rw [hw]); (try go_split_ands); go_simp <;> with_reducible rfl
    try simp only [Act.put, st]
    refine sk 27 (hp _) hS rfl (fun _ _ _ _ => trivial) ?_
    try simp only [Act.put, st]
    refine sk 28 (hp _) hS rfl (fun _ _ _ _ => trivial) ?_
    try simp only [Act.put, st]
    refine sk 29 (hp _) hS rfl (fun _ _ _ _ => trivial) ?_
    try simp only [Act.put, st]
    refine sk 30 (hp _) hS rfl (fun _ _ _ _ => trivial) ?_
    try simp only [Act.put, st]
    refine sk 31 (hp _) hS rfl (fun _ _ _ _ => trivial) ?_
    try simp only [Act.put, st]
    refine tk 32 (v := ?_) (hp _) hS rfl (fun _ _ _ _ => trivial) ?_ ?_
    rotate_left 1
    · intro w hw; (try rw [hw]); (try go_split_ands); go_simp <;> with_reducible rfl
    try simp only [Act.put, st]
    refine tk 33 (v := ?_) (hp _) hS rfl (fun _ _ _ _ => trivial) ?_ ?_
    rotate_left 1
    · intro w hw; (try rw [hw]); (try go_split_ands); go_simp <;> with_reducible rfl
    try simp only [Act.put, st]
    refine sk 34 (hp _) hS rfl (fun _ _ _ _ => trivial) ?_
    try simp only [Act.put, st]
    refine sk 35 (hp _) hS rfl (fun _ _ _ _ => trivial) ?_
    try simp only [Act.put, st]
    refine sk 36 (hp _) hS rfl (fun _ _ _ _ => trivial) ?_
    try simp only [Act.put, st]
    refine sk 37 (hp _) hS rfl (fun _ _ _ _ => trivial) ?_
    try simp only [Act.put, st]
    refine sk 38 (hp _) hS rfl (fun _ _ _ _ => trivial) ?_
    try simp only [Act.put, st]
    refine tk 39 (v := ?_) (hp _) hS rfl (fun _ _ _ _ => trivial) ?_ ?_
    rotate_left 1
    · intro w hw; (try rw [hw]); (try go_split_ands); go_simp <;> with_reducible rfl
    try simp only [Act.put, st]
    have k1 : (World.setCell w5 ⟨w.heap.size + 1, 0, none⟩ (.bool false)).cell? ⟨w.heap.size + 1, 0, none⟩ = some (.bool false) := set1c _ c_r
    have k2 : (World.setCell (World.setCell w5 ⟨w.heap.size + 1, 0, none⟩ (.bool false)) ⟨w.heap.size + 1 + 1, 0, none⟩ (.int .i64 0)).cell? ⟨w.heap.size + 1 + 1, 0, none⟩ = some (.int .i64 0) := set1c _ (v0 := .int .i64 0) (by go_cell)
    refine held_one 40 rfl (hp _) (by kernel_rfl) (by kernel_rfl) (by kernel_rfl) (fun K hK => ⟨?_, ?_⟩)
    · exact fun _ _ => trivial
    go_simp
    refine hK _ _ ?_
    clear hK K
    try simp only [Act.put, st]
    refine held_one 41 rfl (hp _) (by kernel_rfl) (by kernel_rfl) (by kernel_rfl) (fun K hK => ⟨?_, ?_⟩)
    · exact fun _ _ => trivial
    go_simp
    refine hK _ _ ?_
    clear hK K
    try simp only [Act.put, st]
    refine held_end (by kernel_rfl) ?_
    gi_wp2
    refine ⟨.tuple #[.bool false, .int .i64 0], ?_, by simp only [g0, g1, Bool.and_true, Bool.true_and, Bool.false_and, Bool.and_false], by go_grown⟩
    simp [results, Tryz.f29, go_sem, k1, k2]
  have g1 : decide (LX ≤ x.x) = true := by simp; omega
  by_cases e2 : x.x ≤ HX
  rotate_left 1
  · have g2 : decide (x.x ≤ HX) = false := by simp; omega
    refine tk 11 (v := ?_) (hp _) hS rfl (fun _ _ _ _ => trivial) ?_ ?_
    rotate_left 1
    · intro w hw; (try rw [hw]); (try go_split_ands); go_simp <;> with_reducible rfl
    try simp only [Act.put, st]
    refine tk 12 (v := ?_) (hp _) hS rfl (fun _ _ _ _ => trivial) ?_ ?_
    rotate_left 1
    · intro w hw; (try rw [hw]); (try go_split_ands); go_simp <;> with_reducible rfl
    try simp only [Act.put, st]
    refine tk 13 (v := ?_) (hp _) hS rfl (fun _ _ _ _ => trivial) ?_ ?_
    rotate_left 1
    · intro w hw; (try rw [hw]); (try go_split_ands); go_simp <;> with_reducible rfl
    try simp only [Act.put, st]
    refine tk 14 (v := ?_) (hp _) hS rfl (fun _ _ _ _ => trivial) ?_ ?_
    rotate_left 1
    · intro w hw; (try rw [hw]); (try go_split_ands); go_simp <;> with_reducible rfl
    try simp only [Act.put, st]
    refine tk 15 (v := ?_) (hp _) hS rfl (fun _ _ _ _ => trivial) ?_ ?_
    rotate_left 1
    · intro w hw; (try rw [hw]); (try go_split_ands); go_simp <;> with_reducible rfl
    try simp only [Act.put, st]
    refine tk 16 (v := ?_) (hp _) hS rfl (fun _ _ _ _ => trivial) ?_ ?_
    rotate_left 1
    · intro w hw; (try rw [hw]); (try go_split_ands); go_simp <;> with_reducible rfl
    try simp only [Act.put, st]
    refine tk 17 (v := ?_) (hp _) hS rfl (fun _ _ _ _ => trivial) ?_ ?_
    rotate_left 1
    · intro w hw; (try rw [hw]); (try go_split_ands); go_simp <;> with_reducible rfl
    try simp only [Act.put, st]
    refine tk 18 (v := ?_) (hp _) hS rfl (fun _ _ _ _ => trivial) ?_ ?_
    rotate_left 1
    · intro w hw; (try rw [hw]); (try go_split_ands); go_simp <;> with_reducible rfl
    try simp only [Act.put, st]
    refine tk 19 (v := ?_) (hp _) hS rfl (fun _ _ _ _ => trivial) ?_ ?_
    rotate_left 1
    · intro w hw; (try rw [hw]); (try go_split_ands); go_simp <;> with_reducible rfl
    try simp only [Act.put, st]
    refine tk 20 (v := ?_) (hp _) hS rfl (fun _ _ _ _ => trivial) ?_ ?_
    rotate_left 1
    · intro w hw; (try rw [hw]); (try go_split_ands); go_simp <;> with_reducible rfl
    try simp only [Act.put, st]
    refine tk 21 (v := ?_) (hp _) hS rfl (fun _ _ _ _ => trivial) ?_ ?_
    rotate_left 1
    · intro w hw; (try rw [hw]); (try go_split_ands); go_simp <;> with_reducible rfl
    try simp only [Act.put, st]
    refine tk 22 (v := ?_) (hp _) hS rfl (fun _ _ _ _ => trivial) ?_ ?_
    rotate_left 1
    · intro w hw; (try rw [hw]); (try go_split_ands); go_simp <;> with_reducible rfl
    try simp only [Act.put, st]
    refine tk 23 (v := ?_) (hp _) hS rfl (fun _ _ _ _ => trivial) ?_ ?_
    rotate_left 1
    · intro w hw; (try rw [hw]); (try go_split_ands); go_simp <;> with_reducible rfl
    try simp only [Act.put, st]
    refine tk 24 (v := ?_) (hp _) hS rfl (fun _ _ _ _ => trivial) ?_ ?_
    rotate_left 1
    · intro w hw; (try rw [hw]); (try go_split_ands); go_simp <;> with_reducible rfl
    try simp only [Act.put, st]
    refine tk 25 (v := ?_) (hp _) hS rfl (fun _ _ _ _ => trivial) ?_ ?_
    rotate_left 1
    · intro w hw; (try rw [hw]); (try go_split_ands); go_simp <;> with_reducible rfl
    try simp only [Act.put, st]
    refine tk 26 (v := ?_) (hp _) hS rfl (fun _ _ _ _ => trivial) ?_ ?_
    rotate_left 1
    · intro w hw; (try rw [hw]); (try go_split_ands); go_simp <;> with_reducible rfl
    try simp only [Act.put, st]
    refine sk 27 (hp _) hS rfl (fun _ _ _ _ => trivial) ?_
    try simp only [Act.put, st]
    refine sk 28 (hp _) hS rfl (fun _ _ _ _ => trivial) ?_
    try simp only [Act.put, st]
    refine sk 29 (hp _) hS rfl (fun _ _ _ _ => trivial) ?_
    try simp only [Act.put, st]
    refine sk 30 (hp _) hS rfl (fun _ _ _ _ => trivial) ?_
    try simp only [Act.put, st]
    refine sk 31 (hp _) hS rfl (fun _ _ _ _ => trivial) ?_
    try simp only [Act.put, st]
    refine tk 32 (v := ?_) (hp _) hS rfl (fun _ _ _ _ => trivial) ?_ ?_
    rotate_left 1
    · intro w hw; (try rw [hw]); (try go_split_ands); go_simp <;> with_reducible rfl
    try simp only [Act.put, st]
    refine tk 33 (v := ?_) (hp _) hS rfl (fun _ _ _ _ => trivial) ?_ ?_
    rotate_left 1
    · intro w hw; (try rw [hw]); (try go_split_ands); go_simp <;> with_reducible rfl
    try simp only [Act.put, st]
    refine sk 34 (hp _) hS rfl (fun _ _ _ _ => trivial) ?_
    try simp only [Act.put, st]
    refine sk 35 (hp _) hS rfl (fun _ _ _ _ => trivial) ?_
    try simp only [Act.put, st]
    refine sk 36 (hp _) hS rfl (fun _ _ _ _ => trivial) ?_
    try simp only [Act.put, st]
    refine sk 37 (hp _) hS rfl (fun _ _ _ _ => trivial) ?_
    try simp only [Act.put, st]
    refine sk 38 (hp _) hS rfl (fun _ _ _ _ => trivial) ?_
    try simp only [Act.put, st]
    refine tk 39 (v := ?_) (hp _) hS rfl (fun _ _ _ _ => trivial) ?_ ?_
    rotate_left 1
    · intro w hw; (try rw [hw]); (try go_split_ands); go_simp <;> with_reducible rfl
    try simp only [Act.put, st]
    have k1 : (World.setCell w5 ⟨w.heap.size + 1, 0, none⟩ (.bool false)).cell? ⟨w.heap.size + 1, 0, none⟩ = some (.bool false) := set1c _ c_r
    have k2 : (World.setCell (World.setCell w5 ⟨w.heap.size + 1, 0, none⟩ (.bool false)) ⟨w.heap.size + 1 + 1, 0, none⟩ (.int .i64 0)).cell? ⟨w.heap.size + 1 + 1, 0, none⟩ = some (.int .i64 0) := set1c _ (v0 := .int .i64 0) (by go_cell)
    refine held_one 40 rfl (hp _) (by kernel_rfl) (by kernel_rfl) (by kernel_rfl) (fun K hK => ⟨?_, ?_⟩)
    · exact fun _ _ => trivial
    go_simp
    refine hK _ _ ?_
    clear hK K
    try simp only [Act.put, st]
    refine held_one 41 rfl (hp _) (by kernel_rfl) (by kernel_rfl) (by kernel_rfl) (fun K hK => ⟨?_, ?_⟩)
    · exact fun _ _ => trivial
    go_simp
    refine hK _ _ ?_
    clear hK K
    try simp only [Act.put, st]
    refine held_end (by kernel_rfl) ?_
    gi_wp2
    refine ⟨.tuple #[.bool false, .int .i64 0], ?_, by simp only [g0, g1, g2, Bool.and_true, Bool.true_and, Bool.false_and, Bool.and_false], by go_grown⟩
    simp [results, Tryz.f29, go_sem, k1, k2]
  have g2 : decide (x.x ≤ HX) = true := by simp; omega
  by_cases e3 : LY ≤ x.y
  rotate_left 1
  · have g3 : decide (LY ≤ x.y) = false := by simp; omega
    refine tk 11 (v := ?_) (hp _) hS rfl (fun _ _ _ _ => trivial) ?_ ?_
    rotate_left 1
    · intro w hw; (try rw [hw]); (try go_split_ands); go_simp <;> with_reducible rfl
    try simp only [Act.put, st]
    refine tk 12 (v := ?_) (hp _) hS rfl (fun _ _ _ _ => trivial) ?_ ?_
    rotate_left 1
    · intro w hw; (try rw [hw]); (try go_split_ands); go_simp <;> with_reducible rfl
    try simp only [Act.put, st]
    refine tk 13 (v := ?_) (hp _) hS rfl (fun _ _ _ _ => trivial) ?_ ?_
    rotate_left 1
    · intro w hw; (try rw [hw]); (try go_split_ands); go_simp <;> with_reducible rfl
    try simp only [Act.put, st]
    refine tk 14 (v := ?_) (hp _) hS rfl (fun _ _ _ _ => trivial) ?_ ?_
    rotate_left 1
    · intro w hw; (try rw [hw]); (try go_split_ands); go_simp <;> with_reducible rfl
    try simp only [Act.put, st]
    refine tk 15 (v := ?_) (hp _) hS rfl (fun _ _ _ _ => trivial) ?_ ?_
    rotate_left 1
    · intro w hw; (try rw [hw]); (try go_split_ands); go_simp <;> with_reducible rfl
    try simp only [Act.put, st]
    refine tk 16 (v := ?_) (hp _) hS rfl (fun _ _ _ _ => trivial) ?_ ?_
    rotate_left 1
    · intro w hw; (try rw [hw]); (try go_split_ands); go_simp <;> with_reducible rfl
    try simp only [Act.put, st]
    refine tk 17 (v := ?_) (hp _) hS rfl (fun _ _ _ _ => trivial) ?_ ?_
    rotate_left 1
    · intro w hw; (try rw [hw]); (try go_split_ands); go_simp <;> with_reducible rfl
    try simp only [Act.put, st]
    refine tk 18 (v := ?_) (hp _) hS rfl (fun _ _ _ _ => trivial) ?_ ?_
    rotate_left 1
    · intro w hw; (try rw [hw]); (try go_split_ands); go_simp <;> with_reducible rfl
    try simp only [Act.put, st]
    refine tk 19 (v := ?_) (hp _) hS rfl (fun _ _ _ _ => trivial) ?_ ?_
    rotate_left 1
    · intro w hw; (try rw [hw]); (try go_split_ands); go_simp <;> with_reducible rfl
    try simp only [Act.put, st]
    refine tk 20 (v := ?_) (hp _) hS rfl (fun _ _ _ _ => trivial) ?_ ?_
    rotate_left 1
    · intro w hw; (try rw [hw]); (try go_split_ands); go_simp <;> with_reducible rfl
    try simp only [Act.put, st]
    refine tk 21 (v := ?_) (hp _) hS rfl (fun _ _ _ _ => trivial) ?_ ?_
    rotate_left 1
    · intro w hw; (try rw [hw]); (try go_split_ands); go_simp <;> with_reducible rfl
    try simp only [Act.put, st]
    refine tk 22 (v := ?_) (hp _) hS rfl (fun _ _ _ _ => trivial) ?_ ?_
    rotate_left 1
    · intro w hw; (try rw [hw]); (try go_split_ands); go_simp <;> with_reducible rfl
    try simp only [Act.put, st]
    refine tk 23 (v := ?_) (hp _) hS rfl (fun _ _ _ _ => trivial) ?_ ?_
    rotate_left 1
    · intro w hw; (try rw [hw]); (try go_split_ands); go_simp <;> with_reducible rfl
    try simp only [Act.put, st]
    refine tk 24 (v := ?_) (hp _) hS rfl (fun _ _ _ _ => trivial) ?_ ?_
    rotate_left 1
    · intro w hw; (try rw [hw]); (try go_split_ands); go_simp <;> with_reducible rfl
    try simp only [Act.put, st]
    refine tk 25 (v := ?_) (hp _) hS rfl (fun _ _ _ _ => trivial) ?_ ?_
    rotate_left 1
    · intro w hw; (try rw [hw]); (try go_split_ands); go_simp <;> with_reducible rfl
    try simp only [Act.put, st]
    refine tk 26 (v := ?_) (hp _) hS rfl (fun _ _ _ _ => trivial) ?_ ?_
    rotate_left 1
    · intro w hw; (try rw [hw]); (try go_split_ands); go_simp <;> with_reducible rfl
    try simp only [Act.put, st]
    refine tk 27 (v := ?_) (hp _) hS rfl (fun _ _ _ _ => trivial) ?_ ?_
    rotate_left 1
    · intro w hw; (try rw [hw]); (try go_split_ands); go_simp <;> with_reducible rfl
    try simp only [Act.put, st]
    refine tk 28 (v := ?_) (hp _) hS rfl (fun _ _ _ _ => trivial) ?_ ?_
    rotate_left 1
    · intro w hw; (try rw [hw]); (try go_split_ands); go_simp <;> with_reducible rfl
    try simp only [Act.put, st]
    refine tk 29 (v := ?_) (hp _) hS rfl (fun _ _ _ _ => trivial) ?_ ?_
    rotate_left 1
    · intro w hw; (try rw [hw]); (try go_split_ands); go_simp <;> with_reducible rfl
    try simp only [Act.put, st]
    refine tk 30 (v := ?_) (hp _) hS rfl (fun _ _ _ _ => trivial) ?_ ?_
    rotate_left 1
    · intro w hw; (try rw [hw]); (try go_split_ands); go_simp <;> with_reducible rfl
    try simp only [Act.put, st]
    refine tk 31 (v := ?_) (hp _) hS rfl (fun _ _ _ _ => trivial) ?_ ?_
    rotate_left 1
    · intro w hw; (try rw [hw]); (try go_split_ands); go_simp <;> with_reducible rfl
    try simp only [Act.put, st]
    refine tk 32 (v := ?_) (hp _) hS rfl (fun _ _ _ _ => trivial) ?_ ?_
    rotate_left 1
    · intro w hw; (try rw [hw]); (try go_split_ands); go_simp <;> with_reducible rfl
    try simp only [Act.put, st]
    refine tk 33 (v := ?_) (hp _) hS rfl (fun _ _ _ _ => trivial) ?_ ?_
    rotate_left 1
    · intro w hw; (try rw [hw]); (try go_split_ands); go_simp <;> with_reducible rfl
    try simp only [Act.put, st]
    refine sk 34 (hp _) hS rfl (fun _ _ _ _ => trivial) ?_
    try simp only [Act.put, st]
    refine sk 35 (hp _) hS rfl (fun _ _ _ _ => trivial) ?_
    try simp only [Act.put, st]
    refine sk 36 (hp _) hS rfl (fun _ _ _ _ => trivial) ?_
    try simp only [Act.put, st]
    refine sk 37 (hp _) hS rfl (fun _ _ _ _ => trivial) ?_
    try simp only [Act.put, st]
    refine sk 38 (hp _) hS rfl (fun _ _ _ _ => trivial) ?_
    try simp only [Act.put, st]
    refine tk 39 (v := ?_) (hp _) hS rfl (fun _ _ _ _ => trivial) ?_ ?_
    rotate_left 1
    · intro w hw; (try rw [hw]); (try go_split_ands); go_simp <;> with_reducible rfl
    try simp only [Act.put, st]
    have k1 : (World.setCell w5 ⟨w.heap.size + 1, 0, none⟩ (.bool false)).cell? ⟨w.heap.size + 1, 0, none⟩ = some (.bool false) := set1c _ c_r
    have k2 : (World.setCell (World.setCell w5 ⟨w.heap.size + 1, 0, none⟩ (.bool false)) ⟨w.heap.size + 1 + 1, 0, none⟩ (.int .i64 0)).cell? ⟨w.heap.size + 1 + 1, 0, none⟩ = some (.int .i64 0) := set1c _ (v0 := .int .i64 0) (by go_cell)
    refine held_one 40 rfl (hp _) (by kernel_rfl) (by kernel_rfl) (by kernel_rfl) (fun K hK => ⟨?_, ?_⟩)
    · exact fun _ _ => trivial
    go_simp
    refine hK _ _ ?_
    clear hK K
    try simp only [Act.put, st]
    refine held_one 41 rfl (hp _) (by kernel_rfl) (by kernel_rfl) (by kernel_rfl) (fun K hK => ⟨?_, ?_⟩)
    · exact fun _ _ => trivial
    go_simp
    refine hK _ _ ?_
    clear hK K
    try simp only [Act.put, st]
    refine held_end (by kernel_rfl) ?_
    gi_wp2
    refine ⟨.tuple #[.bool false, .int .i64 0], ?_, by simp only [g0, g1, g2, g3, Bool.and_true, Bool.true_and, Bool.false_and, Bool.and_false], by go_grown⟩
    simp [results, Tryz.f29, go_sem, k1, k2]
  have g3 : decide (LY ≤ x.y) = true := by simp; omega
  by_cases e4 : x.y ≤ HY
  rotate_left 1
  · have g4 : decide (x.y ≤ HY) = false := by simp; omega
    refine tk 11 (v := ?_) (hp _) hS rfl (fun _ _ _ _ => trivial) ?_ ?_
    rotate_left 1
    · intro w hw; (try rw [hw]); (try go_split_ands); go_simp <;> with_reducible rfl
    try simp only [Act.put, st]
    refine tk 12 (v := ?_) (hp _) hS rfl (fun _ _ _ _ => trivial) ?_ ?_
    rotate_left 1
    · intro w hw; (try rw [hw]); (try go_split_ands); go_simp <;> with_reducible rfl
    try simp only [Act.put, st]
    refine tk 13 (v := ?_) (hp _) hS rfl (fun _ _ _ _ => trivial) ?_ ?_
    rotate_left 1
    · intro w hw; (try rw [hw]); (try go_split_ands); go_simp <;> with_reducible rfl
    try simp only [Act.put, st]
    refine tk 14 (v := ?_) (hp _) hS rfl (fun _ _ _ _ => trivial) ?_ ?_
    rotate_left 1
    · intro w hw; (try rw [hw]); (try go_split_ands); go_simp <;> with_reducible rfl
    try simp only [Act.put, st]
    refine tk 15 (v := ?_) (hp _) hS rfl (fun _ _ _ _ => trivial) ?_ ?_
    rotate_left 1
    · intro w hw; (try rw [hw]); (try go_split_ands); go_simp <;> with_reducible rfl
    try simp only [Act.put, st]
    refine tk 16 (v := ?_) (hp _) hS rfl (fun _ _ _ _ => trivial) ?_ ?_
    rotate_left 1
    · intro w hw; (try rw [hw]); (try go_split_ands); go_simp <;> with_reducible rfl
    try simp only [Act.put, st]
    refine tk 17 (v := ?_) (hp _) hS rfl (fun _ _ _ _ => trivial) ?_ ?_
    rotate_left 1
    · intro w hw; (try rw [hw]); (try go_split_ands); go_simp <;> with_reducible rfl
    try simp only [Act.put, st]
    refine tk 18 (v := ?_) (hp _) hS rfl (fun _ _ _ _ => trivial) ?_ ?_
    rotate_left 1
    · intro w hw; (try rw [hw]); (try go_split_ands); go_simp <;> with_reducible rfl
    try simp only [Act.put, st]
    refine tk 19 (v := ?_) (hp _) hS rfl (fun _ _ _ _ => trivial) ?_ ?_
    rotate_left 1
    · intro w hw; (try rw [hw]); (try go_split_ands); go_simp <;> with_reducible rfl
    try simp only [Act.put, st]
    refine tk 20 (v := ?_) (hp _) hS rfl (fun _ _ _ _ => trivial) ?_ ?_
    rotate_left 1
    · intro w hw; (try rw [hw]); (try go_split_ands); go_simp <;> with_reducible rfl
    try simp only [Act.put, st]
    refine tk 21 (v := ?_) (hp _) hS rfl (fun _ _ _ _ => trivial) ?_ ?_
    rotate_left 1
    · intro w hw; (try rw [hw]); (try go_split_ands); go_simp <;> with_reducible rfl
    try simp only [Act.put, st]
    refine tk 22 (v := ?_) (hp _) hS rfl (fun _ _ _ _ => trivial) ?_ ?_
    rotate_left 1
    · intro w hw; (try rw [hw]); (try go_split_ands); go_simp <;> with_reducible rfl
    try simp only [Act.put, st]
    refine tk 23 (v := ?_) (hp _) hS rfl (fun _ _ _ _ => trivial) ?_ ?_
    rotate_left 1
    · intro w hw; (try rw [hw]); (try go_split_ands); go_simp <;> with_reducible rfl
    try simp only [Act.put, st]
    refine tk 24 (v := ?_) (hp _) hS rfl (fun _ _ _ _ => trivial) ?_ ?_
    rotate_left 1
    · intro w hw; (try rw [hw]); (try go_split_ands); go_simp <;> with_reducible rfl
    try simp only [Act.put, st]
    refine tk 25 (v := ?_) (hp _) hS rfl (fun _ _ _ _ => trivial) ?_ ?_
    rotate_left 1
    · intro w hw; (try rw [hw]); (try go_split_ands); go_simp <;> with_reducible rfl
    try simp only [Act.put, st]
    refine tk 26 (v := ?_) (hp _) hS rfl (fun _ _ _ _ => trivial) ?_ ?_
    rotate_left 1
    · intro w hw; (try rw [hw]); (try go_split_ands); go_simp <;> with_reducible rfl
    try simp only [Act.put, st]
    refine tk 27 (v := ?_) (hp _) hS rfl (fun _ _ _ _ => trivial) ?_ ?_
    rotate_left 1
    · intro w hw; (try rw [hw]); (try go_split_ands); go_simp <;> with_reducible rfl
    try simp only [Act.put, st]
    refine tk 28 (v := ?_) (hp _) hS rfl (fun _ _ _ _ => trivial) ?_ ?_
    rotate_left 1
    · intro w hw; (try rw [hw]); (try go_split_ands); go_simp <;> with_reducible rfl
    try simp only [Act.put, st]
    refine tk 29 (v := ?_) (hp _) hS rfl (fun _ _ _ _ => trivial) ?_ ?_
    rotate_left 1
    · intro w hw; (try rw [hw]); (try go_split_ands); go_simp <;> with_reducible rfl
    try simp only [Act.put, st]
    refine tk 30 (v := ?_) (hp _) hS rfl (fun _ _ _ _ => trivial) ?_ ?_
    rotate_left 1
    · intro w hw; (try rw [hw]); (try go_split_ands); go_simp <;> with_reducible rfl
    try simp only [Act.put, st]
    refine tk 31 (v := ?_) (hp _) hS rfl (fun _ _ _ _ => trivial) ?_ ?_
    rotate_left 1
    · intro w hw; (try rw [hw]); (try go_split_ands); go_simp <;> with_reducible rfl
    try simp only [Act.put, st]
    refine tk 32 (v := ?_) (hp _) hS rfl (fun _ _ _ _ => trivial) ?_ ?_
    rotate_left 1
    · intro w hw; (try rw [hw]); (try go_split_ands); go_simp <;> with_reducible rfl
    try simp only [Act.put, st]
    refine tk 33 (v := ?_) (hp _) hS rfl (fun _ _ _ _ => trivial) ?_ ?_
    rotate_left 1
    · intro w hw; (try rw [hw]); (try go_split_ands); go_simp <;> with_reducible rfl
    try simp only [Act.put, st]
    refine tk 34 (v := ?_) (hp _) hS rfl (fun _ _ _ _ => trivial) ?_ ?_
    rotate_left 1
    · intro w hw; (try rw [hw]); (try go_split_ands); go_simp <;> with_reducible rfl
    try simp only [Act.put, st]
    refine tk 35 (v := ?_) (hp _) hS rfl (fun _ _ _ _ => trivial) ?_ ?_
    rotate_left 1
    · intro w hw; (try rw [hw]); (try go_split_ands); go_simp <;> with_reducible rfl
    try simp only [Act.put, st]
    refine tk 36 (v := ?_) (hp _) hS rfl (fun _ _ _ _ => trivial) ?_ ?_
    rotate_left 1
    · intro w hw; (try rw [hw]); (try go_split_ands); go_simp <;> with_reducible rfl
    try simp only [Act.put, st]
    refine tk 37 (v := ?_) (hp _) hS rfl (fun _ _ _ _ => trivial) ?_ ?_
    rotate_left 1
    · intro w hw; (try rw [hw]); (try go_split_ands); go_simp <;> with_reducible rfl
    try simp only [Act.put, st]
    refine tk 38 (v := ?_) (hp _) hS rfl (fun _ _ _ _ => trivial) ?_ ?_
    rotate_left 1
    · intro w hw; (try rw [hw]); (try go_split_ands); go_simp <;> with_reducible rfl
    try simp only [Act.put, st]
    refine tk 39 (v := ?_) (hp _) hS rfl (fun _ _ _ _ => trivial) ?_ ?_
    rotate_left 1
    · intro w hw; (try rw [hw]); (try go_split_ands); go_simp <;> with_reducible rfl
    try simp only [Act.put, st]
    have k1 : (World.setCell w5 ⟨w.heap.size + 1, 0, none⟩ (.bool false)).cell? ⟨w.heap.size + 1, 0, none⟩ = some (.bool false) := set1c _ c_r
    have k2 : (World.setCell (World.setCell w5 ⟨w.heap.size + 1, 0, none⟩ (.bool false)) ⟨w.heap.size + 1 + 1, 0, none⟩ (.int .i64 0)).cell? ⟨w.heap.size + 1 + 1, 0, none⟩ = some (.int .i64 0) := set1c _ (v0 := .int .i64 0) (by go_cell)
    refine held_one 40 rfl (hp _) (by kernel_rfl) (by kernel_rfl) (by kernel_rfl) (fun K hK => ⟨?_, ?_⟩)
    · exact fun _ _ => trivial
    go_simp
    refine hK _ _ ?_
    clear hK K
    try simp only [Act.put, st]
    refine held_one 41 rfl (hp _) (by kernel_rfl) (by kernel_rfl) (by kernel_rfl) (fun K hK => ⟨?_, ?_⟩)
    · exact fun _ _ => trivial
    go_simp
    refine hK _ _ ?_
    clear hK K
    try simp only [Act.put, st]
    refine held_end (by kernel_rfl) ?_
    gi_wp2
    refine ⟨.tuple #[.bool false, .int .i64 0], ?_, by simp only [g0, g1, g2, g3, g4, Bool.and_true, Bool.true_and, Bool.false_and, Bool.and_false], by go_grown⟩
    simp [results, Tryz.f29, go_sem, k1, k2]
  have g4 : decide (x.y ≤ HY) = true := by simp; omega
  refine tk 11 (v := ?_) (hp _) hS rfl (fun _ _ _ _ => trivial) ?_ ?_
  rotate_left 1
  · intro w hw; (try rw [hw]); (try go_split_ands); go_simp <;> with_reducible rfl
  try simp only [Act.put, st]
  refine tk 12 (v := ?_) (hp _) hS rfl (fun _ _ _ _ => trivial) ?_ ?_
  rotate_left 1
  · intro w hw; (try rw [hw]); (try go_split_ands); go_simp <;> with_reducible rfl
  try simp only [Act.put, st]
  refine tk 13 (v := ?_) (hp _) hS rfl (fun _ _ _ _ => trivial) ?_ ?_
  rotate_left 1
  · intro w hw; (try rw [hw]); (try go_split_ands); go_simp <;> with_reducible rfl
  try simp only [Act.put, st]
  refine tk 14 (v := ?_) (hp _) hS rfl (fun _ _ _ _ => trivial) ?_ ?_
  rotate_left 1
  · intro w hw; (try rw [hw]); (try go_split_ands); go_simp <;> with_reducible rfl
  try simp only [Act.put, st]
  refine tk 15 (v := ?_) (hp _) hS rfl (fun _ _ _ _ => trivial) ?_ ?_
  rotate_left 1
  · intro w hw; (try rw [hw]); (try go_split_ands); go_simp <;> with_reducible rfl
  try simp only [Act.put, st]
  refine tk 16 (v := ?_) (hp _) hS rfl (fun _ _ _ _ => trivial) ?_ ?_
  rotate_left 1
  · intro w hw; (try rw [hw]); (try go_split_ands); go_simp <;> with_reducible rfl
  try simp only [Act.put, st]
  refine tk 17 (v := ?_) (hp _) hS rfl (fun _ _ _ _ => trivial) ?_ ?_
  rotate_left 1
  · intro w hw; (try rw [hw]); (try go_split_ands); go_simp <;> with_reducible rfl
  try simp only [Act.put, st]
  refine tk 18 (v := ?_) (hp _) hS rfl (fun _ _ _ _ => trivial) ?_ ?_
  rotate_left 1
  · intro w hw; (try rw [hw]); (try go_split_ands); go_simp <;> with_reducible rfl
  try simp only [Act.put, st]
  refine tk 19 (v := ?_) (hp _) hS rfl (fun _ _ _ _ => trivial) ?_ ?_
  rotate_left 1
  · intro w hw; (try rw [hw]); (try go_split_ands); go_simp <;> with_reducible rfl
  try simp only [Act.put, st]
  refine tk 20 (v := ?_) (hp _) hS rfl (fun _ _ _ _ => trivial) ?_ ?_
  rotate_left 1
  · intro w hw; (try rw [hw]); (try go_split_ands); go_simp <;> with_reducible rfl
  try simp only [Act.put, st]
  refine tk 21 (v := ?_) (hp _) hS rfl (fun _ _ _ _ => trivial) ?_ ?_
  rotate_left 1
  · intro w hw; (try rw [hw]); (try go_split_ands); go_simp <;> with_reducible rfl
  try simp only [Act.put, st]
  refine tk 22 (v := ?_) (hp _) hS rfl (fun _ _ _ _ => trivial) ?_ ?_
  rotate_left 1
  · intro w hw; (try rw [hw]); (try go_split_ands); go_simp <;> with_reducible rfl
  try simp only [Act.put, st]
  refine tk 23 (v := ?_) (hp _) hS rfl (fun _ _ _ _ => trivial) ?_ ?_
  rotate_left 1
  · intro w hw; (try rw [hw]); (try go_split_ands); go_simp <;> with_reducible rfl
  try simp only [Act.put, st]
  refine tk 24 (v := ?_) (hp _) hS rfl (fun _ _ _ _ => trivial) ?_ ?_
  rotate_left 1
  · intro w hw; (try rw [hw]); (try go_split_ands); go_simp <;> with_reducible rfl
  try simp only [Act.put, st]
  refine tk 25 (v := ?_) (hp _) hS rfl (fun _ _ _ _ => trivial) ?_ ?_
  rotate_left 1
  · intro w hw; (try rw [hw]); (try go_split_ands); go_simp <;> with_reducible rfl
  try simp only [Act.put, st]
  refine tk 26 (v := ?_) (hp _) hS rfl (fun _ _ _ _ => trivial) ?_ ?_
  rotate_left 1
  · intro w hw; (try rw [hw]); (try go_split_ands); go_simp <;> with_reducible rfl
  try simp only [Act.put, st]
  refine tk 27 (v := ?_) (hp _) hS rfl (fun _ _ _ _ => trivial) ?_ ?_
  rotate_left 1
  · intro w hw; (try rw [hw]); (try go_split_ands); go_simp <;> with_reducible rfl
  try simp only [Act.put, st]
  refine tk 28 (v := ?_) (hp _) hS rfl (fun _ _ _ _ => trivial) ?_ ?_
  rotate_left 1
  · intro w hw; (try rw [hw]); (try go_split_ands); go_simp <;> with_reducible rfl
  try simp only [Act.put, st]
  refine tk 29 (v := ?_) (hp _) hS rfl (fun _ _ _ _ => trivial) ?_ ?_
  rotate_left 1
  · intro w hw; (try rw [hw]); (try go_split_ands); go_simp <;> with_reducible rfl
  try simp only [Act.put, st]
  refine tk 30 (v := ?_) (hp _) hS rfl (fun _ _ _ _ => trivial) ?_ ?_
  rotate_left 1
  · intro w hw; (try rw [hw]); (try go_split_ands); go_simp <;> with_reducible rfl
  try simp only [Act.put, st]
  refine tk 31 (v := ?_) (hp _) hS rfl (fun _ _ _ _ => trivial) ?_ ?_
  rotate_left 1
  · intro w hw; (try rw [hw]); (try go_split_ands); go_simp <;> with_reducible rfl
  try simp only [Act.put, st]
  refine tk 32 (v := ?_) (hp _) hS rfl (fun _ _ _ _ => trivial) ?_ ?_
  rotate_left 1
  · intro w hw; (try rw [hw]); (try go_split_ands); go_simp <;> with_reducible rfl
  try simp only [Act.put, st]
  refine tk 33 (v := ?_) (hp _) hS rfl (fun _ _ _ _ => trivial) ?_ ?_
  rotate_left 1
  · intro w hw; (try rw [hw]); (try go_split_ands); go_simp <;> with_reducible rfl
  try simp only [Act.put, st]
  refine tk 34 (v := ?_) (hp _) hS rfl (fun _ _ _ _ => trivial) ?_ ?_
  rotate_left 1
  · intro w hw; (try rw [hw]); (try go_split_ands); go_simp <;> with_reducible rfl
  try simp only [Act.put, st]
  refine tk 35 (v := ?_) (hp _) hS rfl (fun _ _ _ _ => trivial) ?_ ?_
  rotate_left 1
  · intro w hw; (try rw [hw]); (try go_split_ands); go_simp <;> with_reducible rfl
  try simp only [Act.put, st]
  refine tk 36 (v := ?_) (hp _) hS rfl (fun _ _ _ _ => trivial) ?_ ?_
  rotate_left 1
  · intro w hw; (try rw [hw]); (try go_split_ands); go_simp <;> with_reducible rfl
  try simp only [Act.put, st]
  refine tk 37 (v := ?_) (hp _) hS rfl (fun _ _ _ _ => trivial) ?_ ?_
  rotate_left 1
  · intro w hw; (try rw [hw]); (try go_split_ands); go_simp <;> with_reducible rfl
  try simp only [Act.put, st]
  refine tk 38 (v := ?_) (hp _) hS rfl (fun _ _ _ _ => trivial) ?_ ?_
  rotate_left 1
  · intro w hw; (try rw [hw]); (try go_split_ands); go_simp <;> with_reducible rfl
  try simp only [Act.put, st]
  refine tk 39 (v := ?_) (hp _) hS rfl (fun _ _ _ _ => trivial) ?_ ?_
  rotate_left 1
  · intro w hw; (try rw [hw]); (try go_split_ands); go_simp <;> with_reducible rfl
  try simp only [Act.put, st]
  have k1 : (World.setCell w5 ⟨w.heap.size + 1, 0, none⟩ (.bool true)).cell? ⟨w.heap.size + 1, 0, none⟩ = some (.bool true) := set1c _ c_r
  have k2 : (World.setCell (World.setCell w5 ⟨w.heap.size + 1, 0, none⟩ (.bool true)) ⟨w.heap.size + 1 + 1, 0, none⟩ (.int .i64 0)).cell? ⟨w.heap.size + 1 + 1, 0, none⟩ = some (.int .i64 0) := set1c _ (v0 := .int .i64 0) (by go_cell)
  refine held_one 40 rfl (hp _) (by kernel_rfl) (by kernel_rfl) (by kernel_rfl) (fun K hK => ⟨?_, ?_⟩)
  · exact fun _ _ => trivial
  go_simp
  refine hK _ _ ?_
  clear hK K
  try simp only [Act.put, st]
  refine held_one 41 rfl (hp _) (by kernel_rfl) (by kernel_rfl) (by kernel_rfl) (fun K hK => ⟨?_, ?_⟩)
  · exact fun _ _ => trivial
  go_simp
  refine hK _ _ ?_
  clear hK K
  try simp only [Act.put, st]
  refine held_end (by kernel_rfl) ?_
  gi_wp2
  refine ⟨.tuple #[.bool true, .int .i64 0], ?_, by simp only [g0, g1, g2, g3, g4, Bool.and_true, Bool.true_and, Bool.false_and, Bool.and_false], by go_grown⟩
  simp [results, Tryz.f29, go_sem, k1, k2]
end Go.Proofs.YtnhdnkeiijiiaaaGreat
namespace Go.Proofs.YtnhdnkeiijiiaaaGreat
open Go.RowKit Go.Shelf
set_option linter.unusedSimpArgs false
set_option linter.unusedVariables false
attribute [local go_sem] Oper.semAt_some

def InAll (xs : List Pt) (x : Pt) (pre : List (Sd xs)) : Prop := ∀ s ∈ pre, 0 ≤ turnS s.1.1 s.1.2 x
def InBad (xs : List Pt) (x : Pt) (pre : List (Sd xs)) : Prop := ∃ s ∈ pre, turnS s.1.1 s.1.2 x < 0
set_option maxRecDepth 100000 in
set_option maxHeartbeats 4000000 in
theorem hHas_big (A : Option Addr) (n c : Nat) (xs : List Pt) (x : Pt) (w : World) (hn : xs.length = n) (hx : Pts? w.heap.size w A xs) (hI : Ok64 xs) (hv : validB xs = true) (h1 : I64 x.x) (h2 : I64 x.y) (hp : plB x = true) (h3 : ¬ n < 3) :
    Calls Tryz.prog 29 #[.slice A n c, x.val] w fun e w' => e = .returned (.tuple #[.bool (insB xs x), .int .i64 0]) ∧ Below w.heap.size w w' := by
  have v := fun W (hB : Below w.heap.size w W) => hValid_any A n c xs W hn (hx.later hB) hI
  have hlen := len_of_valid hv
  have hpl := pl_of_valid hv
  rw [hv] at v
  have vp := fun W => hisPlace_any x W h1 h2
  have hnx := nr_of_pl hp
  rw [hp] at vp
  have HV := Lib.hid (show ∀ W, Below w.heap.size w W → _ from v)
  have HP := Lib.hid vp
  have HPL := Lib.hid hpl
  have HX := Lib.hid hx
  have HN := Lib.hid hn
  have hins : insB xs x = (sidesL xs).all fun s => decide (0 ≤ turnS s.1 s.2 x) := by
    unfold insB
    rw [if_neg (by omega)]
  have HINS := Lib.hid hins
  have h3i : ¬ ((n : Int) < 3) := by omega
  have h3d : decide ((n : Int) < 3) = false := by simp; omega
  have hn1000 : n ≤ 1000000 := by omega
  clear v hx hI hn hv vp hp hins hpl hlen
  refine (callsIn_wide (n := 6)).1 ?_
  refine callsIn_of_wp_marks Tryz.func29 rfl trivial ?_ rfl
  simp only [Tryz.ntmps29, List.size_toArray, List.length_cons, List.length_nil, Nat.reduceAdd, Nat.reduceSub, Array.replicate_succ, Array.replicate_zero, List.push_toArray, List.append_toArray, List.nil_append, List.cons_append]
  gi_wp2
  refine ⟨trivial, (callsIn_wide.2 (HV.out _ (by go_grown))).mono ?_⟩
  rintro e w1 ⟨rfl, hb1⟩
  have hB1 : Below w.heap.size w w1 := below_after (by go_grown) hb1
  have c_x0 : w1.cell? ⟨w.heap.size, 0, none⟩ = some (.int .i64 x.x) := kp hb1 (by go_cell)
  have c_x1 : w1.cell? ⟨w.heap.size, 1, none⟩ = some (.int .i64 x.y) := kp hb1 (by go_cell)
  have f_r : w1.frozen? ⟨w.heap.size + 1, 0, none⟩ = false := kf hb1 (by go_simp) (by go_simp)
  have c_r : w1.cell? ⟨w.heap.size + 1, 0, none⟩ = some (.bool false) := kp hb1 (by go_cell)
  have f_e : w1.frozen? ⟨w.heap.size + 1 + 1, 0, none⟩ = false := kf hb1 (by go_simp) (by go_simp)
  have c_e : w1.cell? ⟨w.heap.size + 1 + 1, 0, none⟩ = some (.int .i64 0) := kp hb1 (by go_cell)
  clear hb1
  gi_wp2
  refine ⟨trivial, (callsIn_wide.2 (HP.out _)).mono ?_⟩
  rintro e w2 ⟨rfl, hb2⟩
  have hB2 : Below w.heap.size w w2 := below_after (by go_grown) hb2
  replace c_x0 : w2.cell? ⟨w.heap.size, 0, none⟩ = some (.int .i64 x.x) := kp hb2 (by go_cell)
  replace c_x1 : w2.cell? ⟨w.heap.size, 1, none⟩ = some (.int .i64 x.y) := kp hb2 (by go_cell)
  replace f_r : w2.frozen? ⟨w.heap.size + 1, 0, none⟩ = false := kf hb2 (by go_simp) (by go_simp)
  replace c_r : w2.cell? ⟨w.heap.size + 1, 0, none⟩ = some (.bool false) := kp hb2 (by go_cell)
  replace f_e : w2.frozen? ⟨w.heap.size + 1 + 1, 0, none⟩ = false := kf hb2 (by go_simp) (by go_simp)
  replace c_e : w2.cell? ⟨w.heap.size + 1 + 1, 0, none⟩ = some (.int .i64 0) := kp hb2 (by go_cell)
  clear hb2
  gi_wp2_with (refine ⟨trivial, ?_⟩; gi_at_call 57; refine (hsides_in Fence.wide 5 trivial rfl _ _ _ _).mono ?_; rintro e w' ⟨rfl, rfl⟩)
  obtain ⟨W0, hW0⟩ : ∃ W0, w2.alloc (.cells #[.slice A n c] 39) = W0 := ⟨_, rfl⟩
  have hb0 : Below w2.heap.size w2 W0 := by rw [← hW0]; exact (Below.refl _ w2).alloc (Nat.le_refl _) _
  have hs0 : w2.heap.size < W0.heap.size := by rw [← hW0]; simp
  have hB0 : Below w.heap.size w W0 := hB2.trans (hb0.mono hB2.size)
  have hBs0 : W0.heap[w2.heap.size]? = some (.cells #[.slice A n c] 39 (0, 0)) := by rw [← hW0]; exact World.alloc_heap_new _ _
  replace c_x0 : W0.cell? ⟨w.heap.size, 0, none⟩ = some (.int .i64 x.x) := kp hb0 (by assumption)
  replace c_x1 : W0.cell? ⟨w.heap.size, 1, none⟩ = some (.int .i64 x.y) := kp hb0 (by assumption)
  replace f_r : W0.frozen? ⟨w.heap.size + 1, 0, none⟩ = false := kf hb0 (by first | assumption | (go_simp; done)) (by first | assumption | (go_simp; done))
  replace c_r : W0.cell? ⟨w.heap.size + 1, 0, none⟩ = some (.bool false) := kp hb0 (by assumption)
  replace f_e : W0.frozen? ⟨w.heap.size + 1 + 1, 0, none⟩ = false := kf hb0 (by first | assumption | (go_simp; done)) (by first | assumption | (go_simp; done))
  replace c_e : W0.cell? ⟨w.heap.size + 1 + 1, 0, none⟩ = some (.int .i64 0) := kp hb0 (by assumption)
  rw [hW0]
  clear hW0 hb0
  refine wpIn_rangeFunc_ownH rfl (by omega) (gf := 83) (lb := #[.pointer (some ⟨w2.heap.size, 0, none⟩)]) rfl trivial (enters_of Tryz.func83 (by kernel_rfl) rfl)
    (hsides_stops Fence.wide _ trivial rfl (by omega) w2.heap.size w.heap.size A n c xs HN.out hn1000 W0 hB0.size hBs0 (HX.out.upto hB0)) kp2_t (kp2_b hB0.size) (Below.refl _ _) (fun _ => rfl)
    (fun pre W => (InAll xs x pre ∧ W.cell? ⟨w.heap.size, 0, none⟩ = some (.int .i64 x.x) ∧ W.cell? ⟨w.heap.size, 1, none⟩ = some (.int .i64 x.y) ∧ W.cell? ⟨w.heap.size + 1, 0, none⟩ = some (.bool false) ∧ W.frozen? ⟨w.heap.size + 1, 0, none⟩ = false ∧ W.cell? ⟨w.heap.size + 1 + 1, 0, none⟩ = some (.int .i64 0) ∧ W.frozen? ⟨w.heap.size + 1 + 1, 0, none⟩ = false) ∧ Below w.heap.size w W)
    (fun cd pre W => (cd = .ret ∧ InBad xs x pre ∧ W.cell? ⟨w.heap.size + 1, 0, none⟩ = some (.bool false) ∧ W.cell? ⟨w.heap.size + 1 + 1, 0, none⟩ = some (.int .i64 0)) ∧ Below w.heap.size w W)
    (OwnFrom.and (Own.from (fun s A B row hs hg hr => ⟨hs.1, cell_kept hs.2.1 hg hr, cell_kept hs.2.2.1 hg hr, cell_kept hs.2.2.2.1 hg hr, (frozen_kept hs.2.2.2.1 hg hr).trans hs.2.2.2.2.1, cell_kept hs.2.2.2.2.2.1 hg hr, (frozen_kept hs.2.2.2.2.2.1 hg hr).trans hs.2.2.2.2.2.2⟩) _) (ownFrom_below (Nat.le_refl _) hB0.size))
    (fun c => OwnFrom.and (Own.from (fun s A B row hs hg hr => ⟨hs.1, hs.2.1, cell_kept hs.2.2.1 hg hr, cell_kept hs.2.2.2 hg hr⟩) _) (ownFrom_below (Nat.le_refl _) hB0.size))
    ⟨⟨fun p hp => absurd hp (by simp), c_x0, c_x1, c_r, f_r, c_e, f_e⟩, hB0⟩
    (fun y a' W => ∃ Ba Bb, PtAt W Ba 0 y.1.1 ∧ PtAt W Bb 0 y.1.2 ∧ a' = { tmps := #[Value.slice A n c, x.val, undef, Value.pointer (some ⟨w.heap.size, 0, none⟩), Value.pointer (some ⟨w.heap.size + 1, 0, none⟩), Value.pointer (some ⟨w.heap.size + 1 + 1, 0, none⟩), undef, undef, undef, .pointer (some ⟨Ba, 0, none⟩), .pointer (some ⟨Bb, 0, none⟩), Value.slice A n c, Value.bool true, Value.bool false, Value.bool false, Value.agg #[.int .i64 x.x, .int .i64 x.y], Value.bool true, Value.bool false, Value.bool false, Value.slice A n c, .int .i64 ↑n, Value.bool false, undef, undef, undef, undef, undef, undef, undef, undef, undef, undef, undef, undef, undef, undef, undef, undef, undef, undef, undef, undef, undef, undef, undef, undef, undef, undef, undef, undef, undef, undef, undef, undef, undef, undef, undef, undef, undef, undef, undef, undef, undef, undef, undef, undef, undef, undef, Value.slice A n c, Value.func (Fn.func 83) #[] #[Value.pointer (some ⟨w2.heap.size, 0, none⟩)], .agg #[.int .i64 y.1.1.x, .int .i64 y.1.1.y], .agg #[.int .i64 y.1.2.x, .int .i64 y.1.2.y], undef, undef, undef, undef, undef], defers := [] })
    (fun y a' _ X Y row hs hg hr => by
      obtain ⟨Ba, Bb, ⟨h3, h4⟩, ⟨h5, h6⟩, h7⟩ := hs
      exact ⟨Ba, Bb, ⟨cell_kept h3 hg (fun r e => (hr r e).2), cell_kept h4 hg (fun r e => (hr r e).2)⟩, ⟨cell_kept h5 hg (fun r e => (hr r e).2), cell_kept h6 hg (fun r e => (hr r e).2)⟩, h7⟩)
    ?assign ?body ?done ?stop
  case assign =>
    rintro l pre y W K ⟨⟨hp, i1, i2, i3, i4, i5, i6⟩, hB⟩ hK
    gi_wp2
    have hbn : Below W.heap.size W ((W.alloc (.cells #[.int .i64 y.1.1.x, .int .i64 y.1.1.y] 23)).alloc (.cells #[.int .i64 y.1.2.x, .int .i64 y.1.2.y] 23)) := by go_grown
    exact hK _ _ (keepsFrom_of hbn _) ⟨hbn.mono hB.size, KeepT.below hbn⟩ ⟨⟨hp, kp hbn i1, kp hbn i2, kp hbn i3, kf hbn (by rw [i3]; rfl) i4, kp hbn i5, kf hbn (by rw [i5]; rfl) i6⟩, hB.trans (hbn.mono hB.size)⟩ ⟨W.heap.size, W.heap.size + 1, ⟨by go_cell, by go_cell⟩, ⟨by go_cell, by go_cell⟩, rfl⟩
  case body =>
    rintro l pre ⟨⟨⟨a1x, a1y⟩, ⟨a2x, a2y⟩⟩, hmem⟩ a' W hl ⟨r, hr⟩ ⟨⟨hp, i1, i2, i3, i4, i5, i6⟩, hB⟩ ⟨Ba, Bb, ⟨x0, x1⟩, ⟨y0, y1⟩, rfl⟩ hlen
    dsimp only at x0 x1 y0 y1 ⊢
    simp only [Nat.zero_add] at x1 y1
    have hm12 := sides_mem hmem
    have vt := fun W => hturn_any ⟨a1x, a1y⟩ ⟨a2x, a2y⟩ x W (nr_of_pl (HPL.out _ hm12.1)) (nr_of_pl (HPL.out _ hm12.2)) hnx
    have HM := Lib.hid hmem
    have hall : 0 ≤ turnS ⟨a1x, a1y⟩ ⟨a2x, a2y⟩ x → InAll xs x (pre ++ [⟨_, hmem⟩]) := fun h9 s hs => by
      rcases List.mem_append.1 hs with h8 | h8
      · exact hp s h8
      · rw [List.mem_singleton.1 h8]; exact h9
    have hbad : turnS ⟨a1x, a1y⟩ ⟨a2x, a2y⟩ x < 0 → InBad xs x (pre ++ [⟨_, hmem⟩]) := fun h9 => ⟨⟨_, hmem⟩, List.mem_append_right _ (List.mem_singleton.2 rfl), h9⟩
    generalize turnS ⟨a1x, a1y⟩ ⟨a2x, a2y⟩ x = T at *
    have HT := Lib.hid vt
    have HALL := Lib.hid hall
    have HBAD := Lib.hid hbad
    clear vt hall hbad hm12
    by_cases hT : T < 0
    · gi_wp2
      refine ⟨trivial, (CallsIn.inRound l (callsIn_wide.2 (HT.out _))).mono ?_⟩
      rintro e w5 ⟨rfl, hb5⟩
      have j1 := kf hb5 (by rw [i3]; rfl) i4
      have j2 := kf hb5 (by rw [i5]; rfl) i6
      have j3 := kp hb5 i3
      have j4 := kp hb5 i5
      gi_wp2
      exact ⟨((keepsFrom_of hb5 _).trans ((KeepsOthers.setCell _ _ _).from _)).trans ((KeepsOthers.setCell _ _ _).from _), ⟨rfl, HBAD.out hT, by go_cell, by go_cell⟩, ((hB.trans (hb5.mono hB.size)).setCell (p := ⟨w.heap.size + 1, 0, none⟩) (by simp) _).setCell (p := ⟨w.heap.size + 1 + 1, 0, none⟩) (by simp; omega) _⟩
    · gi_wp2
      refine ⟨trivial, (CallsIn.inRound l (callsIn_wide.2 (HT.out _))).mono ?_⟩
      rintro e w5 ⟨rfl, hb5⟩
      gi_wp2
      exact ⟨keepsFrom_of hb5 _, ⟨hb5.mono hB.size, KeepT.below hb5⟩, ⟨HALL.out (by omega), kp hb5 i1, kp hb5 i2, kp hb5 i3, kf hb5 (by rw [i3]; rfl) i4, kp hb5 i5, kf hb5 (by rw [i5]; rfl) i6⟩, hB.trans (hb5.mono hB.size)⟩
  case done =>
    rintro D ys W hD rfl ⟨⟨hall, i1, i2, i3, i4, i5, i6⟩, hB⟩ hK
    have hv : insB xs x = true := by
      rw [HINS.out, List.all_eq_true]
      exact fun s hs => by simpa using hall ⟨s, hs⟩ (List.mem_attach _ _)
    have HV2 := Lib.hid hv
    clear hv hall
    gi_wp2
    have hK1 := (KeepsOthers.setCell W ⟨w.heap.size + 1, 0, none⟩ (.bool true)).same D _ hK rfl
    have hK' := (KeepsOthers.setCell (W.setCell ⟨w.heap.size + 1, 0, none⟩ (.bool true)) ⟨w.heap.size + 1 + 1, 0, none⟩ (.int .i64 0)).same D _ hK1 rfl
    refine ⟨by simp, .inl ⟨_, _, rfl, run_takeDeferred hK', ?_⟩⟩
    have k1 : ((W.setCell ⟨w.heap.size + 1, 0, none⟩ (.bool true)).setCell ⟨w.heap.size + 1 + 1, 0, none⟩ (.int .i64 0)).cell? ⟨w.heap.size + 1, 0, none⟩ = some (.bool true) := by go_cell
    have k2 : ((W.setCell ⟨w.heap.size + 1, 0, none⟩ (.bool true)).setCell ⟨w.heap.size + 1 + 1, 0, none⟩ (.int .i64 0)).cell? ⟨w.heap.size + 1 + 1, 0, none⟩ = some (.int .i64 0) := by go_cell
    have hc5 := cell_kept k1 (grownBy_putObj' _ D (.deferred none)) (fun r e => by cases e; exact ⟨_, hK', rfl⟩)
    have hc6 := cell_kept k2 (grownBy_putObj' _ D (.deferred none)) (fun r e => by cases e; exact ⟨_, hK', rfl⟩)
    refine ⟨.tuple #[.bool true, .int .i64 0], ?_, ?_, ((hB.setCell (p := ⟨w.heap.size + 1, 0, none⟩) (by simp) _).setCell (p := ⟨w.heap.size + 1 + 1, 0, none⟩) (by simp; omega) _).trans (belowK_b (w := w) (Nat.le_refl _) _ D _ _ (by have := hB0.size; omega) hK' rfl rfl)⟩
    · simp [results, Tryz.f29, go_sem, hc5, hc6]
    · rw [HV2.out]
  case stop =>
    rintro D cd pre W hD hpre ⟨⟨rfl, ⟨s, hs, hsb⟩, k1, k2⟩, hB⟩ hK
    have hv : insB xs x = false := by
      rw [HINS.out, List.all_eq_false]
      exact ⟨s.1, s.2, by simp; omega⟩
    have HV2 := Lib.hid hv
    clear hv hsb hpre hs
    gi_wp2
    refine ⟨by simp, .inl ⟨_, _, rfl, run_takeDeferred hK, ?_⟩⟩
    have hc5 := cell_kept k1 (grownBy_putObj' _ D (.deferred none)) (fun r e => by cases e; exact ⟨_, hK, rfl⟩)
    have hc6 := cell_kept k2 (grownBy_putObj' _ D (.deferred none)) (fun r e => by cases e; exact ⟨_, hK, rfl⟩)
    refine ⟨.tuple #[.bool false, .int .i64 0], ?_, ?_, hB.trans (belowK_b (w := w) (Nat.le_refl _) W D _ _ (by have := hB0.size; omega) hK rfl rfl)⟩
    · simp [results, Tryz.f29, go_sem, hc5, hc6]
    · rw [HV2.out]
theorem hHas_ok (A : Option Addr) (n c : Nat) (xs : List Pt) (x : Pt) (w : World) (hn : xs.length = n) (hx : Pts? w.heap.size w A xs) (hI : Ok64 xs) (hv : validB xs = true) (h1 : I64 x.x) (h2 : I64 x.y) (hp : plB x = true) :
    Calls Tryz.prog 29 #[.slice A n c, x.val] w fun e w' => e = .returned (.tuple #[.bool (insB xs x), .int .i64 0]) ∧ Below w.heap.size w w' := by
  by_cases h3 : n < 3
  · exact hHas_small A n c xs x w hn hx hI hv h1 h2 hp h3
  · exact hHas_big A n c xs x w hn hx hI hv h1 h2 hp h3
end Go.Proofs.YtnhdnkeiijiiaaaGreat
namespace Go.Proofs.YtnhdnkeiijiiaaaGreat
open Go.RowKit
set_option linter.unusedSimpArgs false
set_option linter.unusedVariables false
attribute [local go_sem ↓] Go.wp_at_zero Go.wp_at_succ
set_option maxRecDepth 100000 in
set_option maxHeartbeats 4000000 in
theorem rHas1_any (A : Option Addr) (c bx : Nat) (xs : List Pt) (x : Pt) (w : World) (hx : Pts? w.heap.size w A xs) (hv : validB xs = true) (hp : plB x = true) (c0 : w.cell? ⟨bx, 0, none⟩ = some (.int .i64 x.x)) (c1 : w.cell? ⟨bx, 1, none⟩ = some (.int .i64 x.y)) :
    Calls Tryz.prog 28 #[.slice A xs.length c, .pointer (some ⟨bx, 0, none⟩)] w fun e w' => e = .returned (.bool (insB xs x)) ∧ Below w.heap.size w w' := by
  have h64 : I64 x.x ∧ I64 x.y := by have := (plB_iff x).1 hp; unfold I64; omega
  have v := fun W (hB : Below w.heap.size w W) => hHas_ok A xs.length c xs x W rfl (hx.later hB) (ok64_of_pl (pl_of_valid hv)) hv h64.1 h64.2 hp
  generalize insB xs x = V at *
  generalize xs.length = m at *
  have HV := Lib.hid (show ∀ W, Below w.heap.size w W → _ from v)
  clear v hx hv h64
  go_enter Tryz.func28, Tryz.ntmps28
  go_wp2_with fail
  refine (HV.out _ (by go_grown)).mono ?_
  rintro e w1 ⟨rfl, hb1⟩
  go_wp2_with fail
  go_ret
  exact ⟨rfl, by go_grown⟩
set_option maxRecDepth 100000 in
set_option maxHeartbeats 4000000 in
theorem rHas_ok (A : Option Addr) (n c : Nat) (rs : List (List Pt)) (x : Pt) (w : World) (hn : rs.length = n) (hbig : n ≤ 9223372036854775807) (hx : Reg? w.heap.size w A rs) (hI : Oks64 rs) (hv : regB rs = true) (hp : plB x = true) :
    Calls Tryz.prog 13 #[.slice A n c, x.val] w fun e w' => e = .returned (.tuple #[.bool (rs.any fun r => insB r x), .int .i64 0]) ∧ Below w.heap.size w w' := by
  have h64 : I64 x.x ∧ I64 x.y := by have := (plB_iff x).1 hp; unfold I64; omega
  have v := fun W (hB : Below w.heap.size w W) => rValid_any A n c rs W hn hbig (hx.later hB) hI
  have hall : ∀ r ∈ rs, validB r = true := by
    unfold regB at hv
    simp only [Bool.and_eq_true, List.all_eq_true] at hv
    exact hv.2
  rw [hv] at v
  have vp := fun W => risPlace_any x W
  rw [hp] at vp
  have vh := fun W (hB : Below w.heap.size w W) (bx : Nat) (c0 : W.cell? ⟨bx, 0, none⟩ = some (.int .i64 x.x)) (c1 : W.cell? ⟨bx, 1, none⟩ = some (.int .i64 x.y)) =>
    has30_in (fun r => insB r x) bx A n c rs W hn hbig (hx.later hB) (fun W' r Ai ci hr hB' hP => rHas1_any Ai ci bx r x W' hP (hall r hr) hp (kp hB' c0) (kp hB' c1))
  generalize (rs.any fun r => insB r x) = V at *
  have HV := Lib.hid (show ∀ W, Below w.heap.size w W → _ from v)
  have HP := Lib.hid vp
  have HH := Lib.hid (show ∀ W, Below w.heap.size w W → ∀ bx, W.cell? ⟨bx, 0, none⟩ = some (.int .i64 x.x) → W.cell? ⟨bx, 1, none⟩ = some (.int .i64 x.y) → _ from vh)
  clear v vp vh hx hv hI hn hall h64 hp
  go_enter Tryz.func13, Tryz.ntmps13
  go_wp2_with fail
  refine (HV.out _ (by go_grown)).mono ?_
  rintro e v1 ⟨rfl, hb1⟩
  have hB1 : Below w.heap.size w v1 := below_after (by go_grown) hb1
  have hz1 := hb1.size
  try simp only [World.size_alloc, World.size_setCell, World.size_drew] at hz1
  have hw1 := hB1.size
  have c_x0 : v1.cell? ⟨w.heap.size, 0, none⟩ = some (.int .i64 x.x) := kp hb1 (by go_cell)
  have c_x1 : v1.cell? ⟨w.heap.size, 1, none⟩ = some (.int .i64 x.y) := kp hb1 (by go_cell)
  clear hb1
  go_wp2_with fail
  refine (HP.out _).mono ?_
  rintro e v2 ⟨rfl, hb2⟩
  have hB2 : Below w.heap.size w v2 := below_after (by go_grown) hb2
  have hz2 := hb2.size
  try simp only [World.size_alloc, World.size_setCell, World.size_drew] at hz2
  have hw2 := hB2.size
  replace c_x0 : v2.cell? ⟨w.heap.size, 0, none⟩ = some (.int .i64 x.x) := kp hb2 (by go_cell)
  replace c_x1 : v2.cell? ⟨w.heap.size, 1, none⟩ = some (.int .i64 x.y) := kp hb2 (by go_cell)
  clear hb2 hB1
  go_wp2_with fail
  refine (HH.out _ (by go_grown) w.heap.size (by go_cell) (by go_cell)).mono ?_
  rintro e v3 ⟨rfl, hb3⟩
  have hB3 : Below w.heap.size w v3 := below_after (by go_grown) hb3
  have hz3 := hb3.size
  try simp only [World.size_alloc, World.size_setCell, World.size_drew] at hz3
  have hw3 := hB3.size
  replace c_x0 : v3.cell? ⟨w.heap.size, 0, none⟩ = some (.int .i64 x.x) := kp hb3 (by go_cell)
  replace c_x1 : v3.cell? ⟨w.heap.size, 1, none⟩ = some (.int .i64 x.y) := kp hb3 (by go_cell)
  clear hb3 hB2
  go_wp2_with fail
  go_ret2
  refine ⟨?_, by go_grown⟩
  simp
set_option maxRecDepth 100000 in
set_option maxHeartbeats 4000000 in
theorem rHas_bad1 (A : Option Addr) (n c : Nat) (rs : List (List Pt)) (x : Pt) (w : World) (hn : rs.length = n) (hbig : n ≤ 9223372036854775807) (hx : Reg? w.heap.size w A rs) (hI : Oks64 rs) (hv : regB rs = false) :
    Calls Tryz.prog 13 #[.slice A n c, x.val] w fun e w' => e = .returned (.tuple #[.bool false, .int .i64 1]) ∧ Below w.heap.size w w' := by
  have v := fun W (hB : Below w.heap.size w W) => rValid_any A n c rs W hn hbig (hx.later hB) hI
  rw [hv] at v
  have vp := fun W => risPlace_any x W
  skip
  have HV := Lib.hid (show ∀ W, Below w.heap.size w W → _ from v)
  have HP := Lib.hid vp
  clear v vp hx hv hI hn
  go_enter Tryz.func13, Tryz.ntmps13
  go_wp2_with fail
  refine (HV.out _ (by go_grown)).mono ?_
  rintro e v1 ⟨rfl, hb1⟩
  have hB1 : Below w.heap.size w v1 := below_after (by go_grown) hb1
  have hz1 := hb1.size
  try simp only [World.size_alloc, World.size_setCell, World.size_drew] at hz1
  have hw1 := hB1.size
  have c_x0 : v1.cell? ⟨w.heap.size, 0, none⟩ = some (.int .i64 x.x) := kp hb1 (by go_cell)
  have c_x1 : v1.cell? ⟨w.heap.size, 1, none⟩ = some (.int .i64 x.y) := kp hb1 (by go_cell)
  clear hb1
  go_wp2_with fail
  go_ret2
  refine ⟨?_, by go_grown⟩
  simp
set_option maxRecDepth 100000 in
set_option maxHeartbeats 4000000 in
theorem rHas_bad2 (A : Option Addr) (n c : Nat) (rs : List (List Pt)) (x : Pt) (w : World) (hn : rs.length = n) (hbig : n ≤ 9223372036854775807) (hx : Reg? w.heap.size w A rs) (hI : Oks64 rs) (hv : regB rs = true) (hp : plB x = false) :
    Calls Tryz.prog 13 #[.slice A n c, x.val] w fun e w' => e = .returned (.tuple #[.bool false, .int .i64 1]) ∧ Below w.heap.size w w' := by
  have v := fun W (hB : Below w.heap.size w W) => rValid_any A n c rs W hn hbig (hx.later hB) hI
  rw [hv] at v
  have vp := fun W => risPlace_any x W
  rw [hp] at vp
  have HV := Lib.hid (show ∀ W, Below w.heap.size w W → _ from v)
  have HP := Lib.hid vp
  clear v vp hx hv hI hn
  go_enter Tryz.func13, Tryz.ntmps13
  go_wp2_with fail
  refine (HV.out _ (by go_grown)).mono ?_
  rintro e v1 ⟨rfl, hb1⟩
  have hB1 : Below w.heap.size w v1 := below_after (by go_grown) hb1
  have hz1 := hb1.size
  try simp only [World.size_alloc, World.size_setCell, World.size_drew] at hz1
  have hw1 := hB1.size
  have c_x0 : v1.cell? ⟨w.heap.size, 0, none⟩ = some (.int .i64 x.x) := kp hb1 (by go_cell)
  have c_x1 : v1.cell? ⟨w.heap.size, 1, none⟩ = some (.int .i64 x.y) := kp hb1 (by go_cell)
  clear hb1
  go_wp2_with fail
  refine (HP.out _).mono ?_
  rintro e v2 ⟨rfl, hb2⟩
  have hB2 : Below w.heap.size w v2 := below_after (by go_grown) hb2
  have hz2 := hb2.size
  try simp only [World.size_alloc, World.size_setCell, World.size_drew] at hz2
  have hw2 := hB2.size
  replace c_x0 : v2.cell? ⟨w.heap.size, 0, none⟩ = some (.int .i64 x.x) := kp hb2 (by go_cell)
  replace c_x1 : v2.cell? ⟨w.heap.size, 1, none⟩ = some (.int .i64 x.y) := kp hb2 (by go_cell)
  clear hb2 hB1
  go_wp2_with fail
  go_ret2
  refine ⟨?_, by go_grown⟩
  simp
end Go.Proofs.YtnhdnkeiijiiaaaGreat
