import Derived.Test.YtnhdnkeiijiiaaaGreatA9
import Derived.RangeFuncNested
import Derived.RangeFuncBound
import Derived.RangeFuncCalls
import Derived.RangeFuncLeaves
import Derived.RangeFuncBox
import Derived.Shelf.Abstract
import Derived.Shelf.RegionOpen
import Derived.WalkKit
import Derived.OwnWalkIn
import Derived.TacticsInMore
import Derived.LoopNIn
import Derived.LoopIn
import Derived.RegionIn
import Derived.Maps.AppendAt
import Derived.Stop.RegionWithIn
import Derived.Sort.CutIn
namespace Go.Proofs.YtnhdnkeiijiiaaaGreat
open Go.RowKit Go.Shelf
set_option linter.unusedSimpArgs false
set_option linter.unusedVariables false
attribute [local go_sem] Oper.semAt_some
/-- while crossings are collected: q at w's end, the list behind it, the first iterator's slice behind that -/
structure CrossI (w : World) (B : Option Addr) (m d : Nat) (v : Value) (xs : List Pt) (W : World) : Prop where
  below : Below w.heap.size w W
  size : w.heap.size + 3 ≤ W.heap.size
  q : W.heap[w.heap.size]? = some (.cells #[.slice B m d] 39 (0, 0))
  out : W.heap[w.heap.size + 1]? = some (.cells #[v] 39 (0, 0))
  own : Own W w.heap.size v xs
  at' : ∀ k, v.ownBlock = some k → w.heap.size + 3 ≤ k
theorem CrossI.later {w : World} {B : Option Addr} {m d : Nat} {v : Value} {xs : List Pt} {W W' : World} (c : CrossI w B m d v xs W) (hb : Below W.heap.size W W') : CrossI w B m d v xs W' where
  below := c.below.trans (hb.mono c.below.size)
  size := Nat.le_trans c.size hb.size
  q := (hb.block _ (Array.getElem?_eq_some_iff.1 c.q).1).trans c.q
  out := (hb.block _ (Array.getElem?_eq_some_iff.1 c.out).1).trans c.out
  own := c.own.later hb
  at' := c.at'
theorem CrossI.push {w : World} {B : Option Addr} {m d : Nat} {v v' : Value} {xs ys : List Pt} {W W' : World} (c : CrossI w B m d v xs W) (p : PushV 39 w.heap.size (w.heap.size + 1) v v' ys W W') : CrossI w B m d v' ys W' := by
  have h2 := c.size
  refine ⟨c.below.trans (p.below c.below.size (by omega) (fun k e => by have := c.at' k e; omega)), Nat.le_trans c.size p.size, p.keeps c.q (by omega) (fun e => by have := c.at' _ e; omega), p.cell, p.own, fun k e => ?_⟩
  rcases p.at' k e with e' | e'
  · exact c.at' k e'
  · omega
theorem CrossI.kept' {w : World} {B : Option Addr} {m d : Nat} {v : Value} {xs : List Pt} {W W' : World} {row : Option Nat} (c : CrossI w B m d v xs W) (hg : W.grownBy W' row) (hr : ∀ r, row = some r → w.heap.size ≤ r ∧ ∃ o : Obj, W.heap[r]? = some o ∧ o.isCells = false) : CrossI w B m d v xs W' :=
  have hr2 := fun r e => (hr r e).2
  ⟨c.below.grown hg c.below.size (fun k e => (hr k e).1), Nat.le_trans c.size hg.size, (grownBy_keeps_cells hg hr2 c.q rfl).trans c.q, (grownBy_keeps_cells hg hr2 c.out rfl).trans c.out, own_grown c.own hg hr2, c.at'⟩
def crossL (ys : List Pt) {xs : List Pt} (pre : List (Sd xs)) : List Pt := (pre.map (·.1)).flatMap fun s => (sidesL ys).flatMap (crossS s)
def crossM (s : Pt × Pt) {ys : List Pt} (pre : List (Sd ys)) : List Pt := (pre.map (·.1)).flatMap (crossS s)
theorem crossM_snoc (s : Pt × Pt) {ys : List Pt} (pre : List (Sd ys)) (r : Sd ys) : crossM s (pre ++ [r]) = crossM s pre ++ crossS s r.1 := by simp [crossM]
theorem crossM_all (s : Pt × Pt) (ys : List Pt) : crossM s (sidesL ys).attach = (sidesL ys).flatMap (crossS s) := by
  unfold crossM
  rw [List.attach_map_subtype_val]
theorem crossL_snoc (ys : List Pt) {xs : List Pt} (pre : List (Sd xs)) (s : Sd xs) : crossL ys (pre ++ [s]) = crossL ys pre ++ (sidesL ys).flatMap (crossS s.1) := by simp [crossL]
theorem crossL_all (ys xs : List Pt) : crossL ys (sidesL xs).attach = crossingsS xs ys := by
  unfold crossL crossingsS
  rw [List.attach_map_subtype_val]
theorem crossS_len (s r : Pt × Pt) : (crossS s r).length ≤ 4 := by unfold crossS; split <;> simp [frameS, gridL]
theorem crossM_len (s : Pt × Pt) {ys : List Pt} (pre : List (Sd ys)) : (crossM s pre).length ≤ 4 * pre.length := by
  have := flatMap_len_le (crossS s) 4 (crossS_len s) (pre.map (·.1))
  rw [List.length_map] at this
  exact this
theorem crossL_len (ys : List Pt) {xs : List Pt} (pre : List (Sd xs)) : (crossL ys pre).length ≤ 4 * ys.length * pre.length := by
  have := flatMap_len_le (fun s => (sidesL ys).flatMap (crossS s)) (4 * ys.length) (fun s => by
    have := flatMap_len_le (crossS s) 4 (crossS_len s) (sidesL ys)
    rw [sides_length] at this; exact this) (pre.map (·.1))
  rw [List.length_map] at this
  exact this
theorem turn_bd {a b c : Pt} (ha : plB a = true) (hb : plB b = true) (hc : plB c = true) : -3000000000000 ≤ turnS a b c ∧ turnS a b c ≤ 3000000000000 := by
  have h1 := (plB_iff a).1 ha
  have h2 := (plB_iff b).1 hb
  have h3 := (plB_iff c).1 hc
  have m1 := mul_bd (a := b.x - a.x) (b := c.y - a.y) (A := 1000000) (B := 1000000) (by omega) (by omega) (by omega) (by omega)
  have m2 := mul_bd (a := b.y - a.y) (b := c.x - a.x) (A := 1000000) (B := 1000000) (by omega) (by omega) (by omega) (by omega)
  unfold turnS
  omega
theorem own_not39 {w : World} {base : Nat} {v : Value} {xs : List Pt} (h : Own w base v xs) {k : Nat} {cs : Array Value} {z : Nat × Nat} (e : w.heap[k]? = some (.cells cs 39 z)) : v.ownBlock ≠ some k := fun e' => by
  rcases h.2 with ⟨rfl, -⟩ | ⟨g, cap, cur, rfl, hb, hh, -⟩
  · cases e'
  · cases e'; rw [hh] at e; cases e
/-- while a side's crossings are collected: its ends at Ba and Bb -/
structure InnI (w Wi : World) (N0 : Nat) (B : Option Addr) (m d Ba Bb : Nat) (ax ay bx bY : Int) (xs : List Pt) (v : Value) (W : World) : Prop where
  c : CrossI w B m d v xs W
  na : v.ownBlock ≠ some Ba
  nb : v.ownBlock ≠ some Bb
  la : w.heap.size + 3 ≤ Ba
  lb : w.heap.size + 3 ≤ Bb
  ha : W.heap[Ba]? = some (.cells #[.int .i64 ax, .int .i64 ay] 23 (0, 0))
  hb : W.heap[Bb]? = some (.cells #[.int .i64 bx, .int .i64 bY] 23 (0, 0))
  kp : KpB w.heap.size (w.heap.size + 1 + 1) Wi W
  kf : KeepsFrom N0 Wi W
theorem InnI.later {w Wi : World} {N0 : Nat} {B : Option Addr} {m d Ba Bb : Nat} {ax ay bx bY : Int} {xs : List Pt} {v : Value} {W W' : World} (i : InnI w Wi N0 B m d Ba Bb ax ay bx bY xs v W) (h : Below W.heap.size W W') : InnI w Wi N0 B m d Ba Bb ax ay bx bY xs v W' where
  c := i.c.later h
  na := i.na
  nb := i.nb
  la := i.la
  lb := i.lb
  ha := (h.block _ (Array.getElem?_eq_some_iff.1 i.ha).1).trans i.ha
  hb := (h.block _ (Array.getElem?_eq_some_iff.1 i.hb).1).trans i.hb
  kp := kpB_t i.kp ⟨h.mono i.c.below.size, fun cs z e => (h.block _ (Array.getElem?_eq_some_iff.1 e).1).trans e⟩
  kf := i.kf.trans (keepsFrom_of h _)
theorem InnI.push {w Wi : World} {N0 : Nat} {B : Option Addr} {m d Ba Bb : Nat} {ax ay bx bY : Int} {xs ys : List Pt} {v v' : Value} {W W' : World} (i : InnI w Wi N0 B m d Ba Bb ax ay bx bY xs v W) (p : PushV 39 w.heap.size (w.heap.size + 1) v v' ys W W') : InnI w Wi N0 B m d Ba Bb ax ay bx bY ys v' W' := by
  have la := i.la; have lb := i.lb; have hz := i.c.size
  have l1 := (Array.getElem?_eq_some_iff.1 i.ha).1
  have l2 := (Array.getElem?_eq_some_iff.1 i.hb).1
  refine ⟨i.c.push p, fun e => ?_, fun e => ?_, la, lb, p.keeps i.ha (by omega) i.na, p.keeps i.hb (by omega) i.nb, kpB_t i.kp ⟨p.below i.c.below.size (by omega) (fun k e => by have := i.c.at' k e; omega), fun cs z e => p.keeps e (by omega) (fun e' => by have := i.c.at' _ e'; omega)⟩, i.kf.trans ((p.others i.c.out i.c.own).from _)⟩
  · rcases p.at' _ e with e' | e'
    · exact i.na e'
    · omega
  · rcases p.at' _ e with e' | e'
    · exact i.nb e'
    · omega
theorem InnI.kept' {w Wi : World} {N0 : Nat} {B : Option Addr} {m d Ba Bb : Nat} {ax ay bx bY : Int} {xs : List Pt} {v : Value} {W W' : World} {row : Option Nat} (i : InnI w Wi N0 B m d Ba Bb ax ay bx bY xs v W) (hg : W.grownBy W' row) (hN : w.heap.size ≤ Wi.heap.size) (hr : ∀ r, row = some r → Wi.heap.size ≤ r ∧ ∃ o : Obj, W.heap[r]? = some o ∧ o.isCells = false) : InnI w Wi N0 B m d Ba Bb ax ay bx bY xs v W' := by
  have hr2 := fun r e => (hr r e).2
  exact ⟨i.c.kept' hg (fun r e => ⟨Nat.le_trans hN (hr r e).1, (hr r e).2⟩), i.na, i.nb, i.la, i.lb, (grownBy_keeps_cells hg hr2 i.ha rfl).trans i.ha, (grownBy_keeps_cells hg hr2 i.hb rfl).trans i.hb,
    kpB_t i.kp ⟨(Below.refl _ W).grown hg i.c.below.size (fun k e => Nat.le_trans hN (hr k e).1), fun cs z e => (grownBy_keeps_cells hg hr2 e rfl).trans e⟩, ownFrom_keepsFrom (Nat.le_refl _) () W W' row i.kf hg hr⟩
set_option maxRecDepth 100000 in
set_option maxHeartbeats 4000000 in
theorem crossings_any (A B : Option Addr) (n c m d : Nat) (xs ys : List Pt) (w : World) (hn : xs.length = n) (hm : ys.length = m) (hx : Pts? w.heap.size w A xs) (hy : Pts? w.heap.size w B ys) (hn64 : n ≤ 64) (hm64 : m ≤ 64) (hpx : ∀ p ∈ xs, plB p = true) (hpy : ∀ p ∈ ys, plB p = true) :
    Calls Tryz.prog 119 #[.slice A n c, .slice B m d] w (RetPts w.heap.size w (crossingsS xs ys)) := by
  have HX := Lib.hid hx
  have HN := Lib.hid hn
  have HY := Lib.hid hy
  have HM := Lib.hid hm
  have HPX := Lib.hid hpx
  have HPY := Lib.hid hpy
  clear hx hn hy hm hpx hpy
  refine (callsIn_wide (n := 6)).1 ?_
  refine callsIn_of_wp_marks Tryz.func119 rfl trivial ?_ rfl
  simp only [Tryz.ntmps119, List.size_toArray, List.length_cons, List.length_nil, Nat.reduceAdd, Nat.reduceSub, Array.replicate_succ, Array.replicate_zero, List.push_toArray, List.append_toArray, List.nil_append, List.cons_append]
  gi_wp2_with (refine ⟨trivial, ?_⟩; gi_at_call 117; refine (csides_in Fence.wide 5 trivial rfl _ _ _ _).mono ?_; rintro e w' ⟨rfl, rfl⟩)
  obtain ⟨W0, hW0⟩ : ∃ W0, ((w.alloc (.cells #[.slice B m d] 39)).alloc (.cells #[.slice none 0 0] 39)).alloc (.cells #[.slice A n c] 39) = W0 := ⟨_, rfl⟩
  have hb0 : Below w.heap.size w W0 := by rw [← hW0]; go_grown
  have hz0 : W0.heap.size = w.heap.size + 3 := by rw [← hW0]; simp
  have k0 : W0.heap[w.heap.size]? = some (.cells #[.slice B m d] 39 (0, 0)) := by rw [← hW0]; exact (Below.heap_alloc _ _ _ (by simp; omega)).trans ((Below.heap_alloc _ _ _ (by simp)).trans (World.alloc_heap_new w _))
  have k1 : W0.heap[w.heap.size + 1]? = some (.cells #[.slice none 0 0] 39 (0, 0)) := by
    rw [← hW0]
    refine (Below.heap_alloc _ _ _ (by simp)).trans ?_
    have h9 := World.alloc_heap_new (w.alloc (.cells #[.slice B m d] 39)) (.cells #[.slice none 0 0] 39)
    rw [World.size_alloc] at h9; exact h9
  have hBs : W0.heap[w.heap.size + 1 + 1]? = some (.cells #[.slice A n c] 39 (0, 0)) := by
    rw [← hW0]
    have h9 := World.alloc_heap_new ((w.alloc (.cells #[.slice B m d] 39)).alloc (.cells #[.slice none 0 0] 39)) (.cells #[.slice A n c] 39)
    rw [World.size_alloc, World.size_alloc] at h9; exact h9
  have ci0 : CrossI w B m d (.slice none 0 0) (crossL ys ([] : List (Sd xs))) W0 := ⟨hb0, by omega, k0, k1, own_nil _ _, fun k e => by cases e⟩
  rw [hW0]
  clear hW0 k0 k1
  refine wpIn_rangeFunc_ownH rfl (by omega) (gf := 136) (lb := #[.pointer (some ⟨w.heap.size + 1 + 1, 0, none⟩)]) rfl trivial (enters_of Tryz.func136 (by kernel_rfl) rfl)
    (csidesB_stops Fence.wide _ trivial rfl (by omega) (w.heap.size + 1 + 1) w.heap.size A n c xs HN.out (by omega) W0 hb0.size hBs (HX.out.upto hb0)) kpB_t (kpB_b hb0.size) (Below.refl _ _) (fun _ => rfl)
    (fun pre W => ∃ v, CrossI w B m d v (crossL ys pre) W)
    (fun cd pre W => False)
    (fun s A B row hs hg hr => hs.imp fun v c => c.kept' hg (fun r e => ⟨by have := (hr r e).1; have := hb0.size; omega, (hr r e).2⟩))
    (fun c s A B row hs hg hr => hs)
    ⟨_, ci0⟩
    (fun y a' W => ∃ Ba Bb v, W.heap[Ba]? = some (.cells #[.int .i64 y.1.1.x, .int .i64 y.1.1.y] 23 (0, 0)) ∧ W.heap[Bb]? = some (.cells #[.int .i64 y.1.2.x, .int .i64 y.1.2.y] 23 (0, 0)) ∧ W.heap[w.heap.size + 1]? = some (.cells #[v] 39 (0, 0)) ∧ v.ownBlock ≠ some Ba ∧ v.ownBlock ≠ some Bb ∧ w.heap.size + 3 ≤ Ba ∧ w.heap.size + 3 ≤ Bb ∧ a' = { tmps := #[Value.slice A n c, Value.slice B m d, undef, Value.pointer (some ⟨w.heap.size, 0, none⟩), Value.slice none 0 0, Value.pointer (some ⟨w.heap.size + 1, 0, none⟩), .pointer (some ⟨Ba, 0, none⟩), .pointer (some ⟨Bb, 0, none⟩), undef, undef, undef, undef, Value.slice A n c, Value.func (Fn.func 136) #[] #[Value.pointer (some ⟨w.heap.size + 1 + 1, 0, none⟩)], .agg #[.int .i64 y.1.1.x, .int .i64 y.1.1.y], .agg #[.int .i64 y.1.2.x, .int .i64 y.1.2.y], undef, undef, undef, undef, undef, undef, undef, undef, undef, undef, undef, undef, undef, undef, undef, undef, undef, undef, undef, undef, undef, undef, undef, undef, undef, undef, undef, undef, undef, undef, undef, undef, undef, undef], defers := [] })
    (fun y a' _ X Y row hs hg hr => by
      obtain ⟨Ba, Bb, v, h3, h4, h5, h6⟩ := hs
      have hr2 := fun r e => (hr r e).2
      exact ⟨Ba, Bb, v, (grownBy_keeps_cells hg hr2 h3 rfl).trans h3, (grownBy_keeps_cells hg hr2 h4 rfl).trans h4, (grownBy_keeps_cells hg hr2 h5 rfl).trans h5, h6⟩)
    ?assign ?body ?done ?stop
  case assign =>
    rintro l pre y W K ⟨v, hC⟩ hK
    gi_wp2
    have hbn : Below W.heap.size W ((W.alloc (.cells #[.int .i64 y.1.1.x, .int .i64 y.1.1.y] 23)).alloc (.cells #[.int .i64 y.1.2.x, .int .i64 y.1.2.y] 23)) := by go_grown
    have hvl := fun k e => (own_block_lt hC.own (k := k) e).2
    have hCs := hC.size
    exact hK _ _ (keepsFrom_of hbn _) ⟨hbn.mono hC.below.size, fun cs z e => (hbn.block _ (Array.getElem?_eq_some_iff.1 e).1).trans e⟩ ⟨v, hC.later hbn⟩
      ⟨W.heap.size, W.heap.size + 1, v, (Below.heap_alloc _ _ _ (by simp)).trans (World.alloc_heap_new W _), (by have h9 := World.alloc_heap_new (W.alloc (.cells #[.int .i64 y.1.1.x, .int .i64 y.1.1.y] 23)) (.cells #[.int .i64 y.1.2.x, .int .i64 y.1.2.y] 23); rw [World.size_alloc] at h9; exact h9), (hC.later hbn).out, (fun e => by have := hvl _ e; omega), (fun e => by have := hvl _ e; omega), hCs, by omega, rfl⟩
  case stop =>
    rintro D cd pre W hD hpre hF
    exact hF.elim
  case done =>
    rintro D zs W hD hys ⟨v, hC⟩ hK
    rw [hys, crossL_all] at hC
    have hkc := hC.out
    obtain ⟨A9, c9, rfl, -⟩ := hC.own.slice
    have HC9 := Lib.hid hC
    have ck : W.cell? ⟨w.heap.size + 1, 0, none⟩ = some (.slice A9 (crossingsS xs ys).length c9) := by simp [World.cell?, hkc]
    clear hC hkc hys
    gi_wp2
    refine ⟨by simp, .inl ⟨_, _, rfl, run_takeDeferred hK, ?_⟩⟩
    refine ⟨.slice A9 (crossingsS xs ys).length c9, ?_, _, rfl, own_grown HC9.out.own (grownBy_putObj' _ D (.deferred none)) (fun r e => by cases e; exact ⟨_, hK, rfl⟩), HC9.out.below.trans (belowK_b (w := w) (Nat.le_refl _) _ D _ _ (by have := hb0.size; omega) hK rfl rfl)⟩
    simp [results, Tryz.f119, go_sem]
  case body =>
    rintro l pre ⟨⟨⟨ax, ay⟩, ⟨bx, bY⟩⟩, hmem⟩ a' W hl ⟨r, hr⟩ ⟨v, hC⟩ ⟨Ba, Bb, v', ha0, hb0', hv', hna, hnb, hBa, hBb, rfl⟩ hlen
    obtain rfl : v = v' := by have := hC.out.symm.trans hv'; simpa using this
    dsimp only at ha0 hb0' ⊢
    have hm12 := sides_mem hmem
    have hpa := HPX.out _ hm12.1
    have hpb := HPX.out _ hm12.2
    dsimp only at hpa hpb
    have hq := hC.q
    have cq : W.cell? ⟨w.heap.size, 0, none⟩ = some (.slice B m d) := by simp [World.cell?, hq]
    have hcl := crossL_len ys pre
    rw [HM.out] at hcl
    have hcl2 : (crossL ys pre).length ≤ 16384 := by
      have : 4 * m * pre.length ≤ 256 * 64 := Nat.mul_le_mul (by omega) (by omega)
      omega
    have HCL := Lib.hid hcl2
    have HC := Lib.hid hC
    have HA0 := Lib.hid ha0
    have HB0 := Lib.hid hb0'
    have hCs := hC.below.size
    have hCz := hC.size
    clear hC hq hv' hcl hcl2 hm12 ha0 hb0'
    gi_wp2_with (refine ⟨trivial, ?_⟩; gi_at_call 117; refine (CallsIn.inRound l (csides_in Fence.wide _ trivial rfl _ _ _ _)).mono ?_; rintro e w' ⟨rfl, rfl⟩)
    obtain ⟨Wi, hWi⟩ : ∃ Wi, W.alloc (.cells #[.slice B m d] 39) = Wi := ⟨_, rfl⟩
    have hbi : Below W.heap.size W Wi := by rw [← hWi]; exact (Below.refl _ W).alloc (Nat.le_refl _) _
    have hBs2 : Wi.heap[W.heap.size]? = some (.cells #[.slice B m d] 39 (0, 0)) := by rw [← hWi]; exact World.alloc_heap_new _ _
    have hsi := hbi.size
    have hlr := (hbi.block l (Array.getElem?_eq_some_iff.1 hr).1).trans hr
    have hi0 : InnI w Wi W0.heap.size B m d Ba Bb ax ay bx bY (crossL ys pre ++ crossM (⟨ax, ay⟩, ⟨bx, bY⟩) ([] : List (Sd ys))) v Wi :=
      ⟨by rw [show crossM (⟨ax, ay⟩, ⟨bx, bY⟩) ([] : List (Sd ys)) = [] from rfl, List.append_nil]; exact HC.out.later hbi, hna, hnb, hBa, hBb, (hbi.block _ (Array.getElem?_eq_some_iff.1 HA0.out).1).trans HA0.out, (hbi.block _ (Array.getElem?_eq_some_iff.1 HB0.out).1).trans HB0.out, ⟨Below.refl _ _, fun cs z e => e⟩, KeepsFrom.refl _ _⟩
    have hwW := HC.out.below
    rw [hWi]
    clear hWi cq
    refine wpIn_rangeFunc_ownN (l₀ := l) rfl hlr (by omega) (gf := 136) (lb := #[.pointer (some ⟨W.heap.size, 0, none⟩)]) rfl trivial (enters_of Tryz.func136 (by kernel_rfl) rfl)
      ((csidesB_stops Fence.wide _ trivial rfl (by omega) W.heap.size w.heap.size B m d ys HM.out (by omega) Wi (by omega) hBs2 (HY.out.upto (hwW.trans (hbi.mono hCs)))).inRound l) kpB_t (kpB_b (by omega)) (Below.refl _ _) (fun _ => rfl)
      (fun pre2 W2 => ∃ v2, InnI w Wi W0.heap.size B m d Ba Bb ax ay bx bY (crossL ys pre ++ crossM (⟨ax, ay⟩, ⟨bx, bY⟩) pre2) v2 W2)
      (fun cd pre W => False)
      (fun s A B row hs hg hr => hs.imp fun v c => c.kept' hg (by omega) hr)
      (fun c s A B row hs hg hr => hs)
      ⟨_, hi0⟩
      (fun y a' W2 => ∃ Bc Bd, W2.heap[Bc]? = some (.cells #[.int .i64 y.1.1.x, .int .i64 y.1.1.y] 23 (0, 0)) ∧ W2.heap[Bd]? = some (.cells #[.int .i64 y.1.2.x, .int .i64 y.1.2.y] 23 (0, 0)) ∧ a' = { tmps := #[Value.slice A n c, Value.slice B m d, undef, Value.pointer (some ⟨w.heap.size, 0, none⟩), Value.slice none 0 0, Value.pointer (some ⟨w.heap.size + 1, 0, none⟩), Value.pointer (some ⟨Ba, 0, none⟩), Value.pointer (some ⟨Bb, 0, none⟩), .pointer (some ⟨Bc, 0, none⟩), .pointer (some ⟨Bd, 0, none⟩), undef, undef, Value.slice A n c, Value.func (Fn.func 136) #[] #[Value.pointer (some ⟨w.heap.size + 1 + 1, 0, none⟩)], Value.agg #[.int .i64 ax, .int .i64 ay], Value.agg #[.int .i64 bx, .int .i64 bY], Value.slice B m d, Value.func (Fn.func 136) #[] #[Value.pointer (some ⟨W.heap.size, 0, none⟩)], .agg #[.int .i64 y.1.1.x, .int .i64 y.1.1.y], .agg #[.int .i64 y.1.2.x, .int .i64 y.1.2.y], undef, undef, undef, undef, undef, undef, undef, undef, undef, undef, undef, undef, undef, undef, undef, undef, undef, undef, undef, undef, undef, undef, undef, undef, undef, undef, undef, undef, undef, undef], defers := [] })
      (fun y a' _ X Y row hs hg hr => by
        obtain ⟨Bc, Bd, h3, h4, h6⟩ := hs
        have hr2 := fun r e => (hr r e).2
        exact ⟨Bc, Bd, (grownBy_keeps_cells hg hr2 h3 rfl).trans h3, (grownBy_keeps_cells hg hr2 h4 rfl).trans h4, h6⟩)
      ?assign2 ?body2 ?done2 ?stop2
    case assign2 =>
      rintro l2 pre2 y W2 K ⟨v2, hi⟩ hK
      gi_wp2
      have hbn : Below W2.heap.size W2 ((W2.alloc (.cells #[.int .i64 y.1.1.x, .int .i64 y.1.1.y] 23)).alloc (.cells #[.int .i64 y.1.2.x, .int .i64 y.1.2.y] 23)) := by go_grown
      exact hK _ _ (keepsFrom_of hbn _) ⟨hbn.mono hi.c.below.size, fun cs z e => (hbn.block _ (Array.getElem?_eq_some_iff.1 e).1).trans e⟩ ⟨v2, hi.later hbn⟩
        ⟨W2.heap.size, W2.heap.size + 1, (Below.heap_alloc _ _ _ (by simp)).trans (World.alloc_heap_new W2 _), (by have h9 := World.alloc_heap_new (W2.alloc (.cells #[.int .i64 y.1.1.x, .int .i64 y.1.1.y] 23)) (.cells #[.int .i64 y.1.2.x, .int .i64 y.1.2.y] 23); rw [World.size_alloc] at h9; exact h9), rfl⟩
    case stop2 =>
      rintro cd pre2 W2 hpre hF
      exact hF.elim
    case done2 =>
      rintro zs W2 hzs ⟨v2, hi⟩
      rw [hzs, crossM_all] at hi
      have hkf : KeepsFrom W0.heap.size W W2 := (keepsFrom_of hbi _).trans hi.kf
      have hkp : KpB w.heap.size (w.heap.size + 1 + 1) W W2 := kpB_t ⟨hbi.mono hCs, fun cs z e => (hbi.block _ (Array.getElem?_eq_some_iff.1 e).1).trans e⟩ hi.kp
      have hc2 := hi.c
      have HZ := Lib.hid (And.intro hkf (And.intro hkp hc2))
      clear hi hkf hkp hc2 hzs
      gi_wp2
      obtain ⟨hkf, hkp, hc2⟩ := HZ.out
      exact ⟨hkf, hkp, ⟨v2, by rw [crossL_snoc]; exact hc2⟩⟩
    case body2 =>
      rintro l2 pre2 ⟨⟨⟨cx, cy⟩, ⟨dx, dy⟩⟩, hmem2⟩ a' W2 hl2 ⟨r2, hr2⟩ ⟨v2, hi⟩ ⟨Bc, Bd, hc0, hd0, rfl⟩ hlen2
      dsimp only at hc0 hd0 ⊢
      have hm12 := sides_mem hmem2
      have hpc := HPY.out _ hm12.1
      have hpd := HPY.out _ hm12.2
      dsimp only at hpc hpd
      have b1 := turn_bd hpa hpb hpc
      have b2 := turn_bd hpa hpb hpd
      have u1 := fun W => cturn_any ⟨ax, ay⟩ ⟨bx, bY⟩ ⟨cx, cy⟩ W (nr_of_pl hpa) (nr_of_pl hpb) (nr_of_pl hpc)
      have u2 := fun W => cturn_any ⟨ax, ay⟩ ⟨bx, bY⟩ ⟨dx, dy⟩ W (nr_of_pl hpa) (nr_of_pl hpb) (nr_of_pl hpd)
      have u4 := fun W => cturn_any ⟨cx, cy⟩ ⟨dx, dy⟩ ⟨ax, ay⟩ W (nr_of_pl hpc) (nr_of_pl hpd) (nr_of_pl hpa)
      have u5 := fun W => cturn_any ⟨cx, cy⟩ ⟨dx, dy⟩ ⟨bx, bY⟩ W (nr_of_pl hpc) (nr_of_pl hpd) (nr_of_pl hpb)
      have hsn : crossL ys pre ++ crossM (⟨ax, ay⟩, ⟨bx, bY⟩) (pre2 ++ [⟨(⟨cx, cy⟩, ⟨dx, dy⟩), hmem2⟩]) = (crossL ys pre ++ crossM (⟨ax, ay⟩, ⟨bx, bY⟩) pre2) ++ (if crossesB (turnS ⟨ax, ay⟩ ⟨bx, bY⟩ ⟨cx, cy⟩) (turnS ⟨ax, ay⟩ ⟨bx, bY⟩ ⟨dx, dy⟩) && crossesB (turnS ⟨cx, cy⟩ ⟨dx, dy⟩ ⟨ax, ay⟩) (turnS ⟨cx, cy⟩ ⟨dx, dy⟩ ⟨bx, bY⟩) then frameS ⟨cx, cy⟩ ⟨dx, dy⟩ (turnS ⟨ax, ay⟩ ⟨bx, bY⟩ ⟨cx, cy⟩) (turnS ⟨ax, ay⟩ ⟨bx, bY⟩ ⟨dx, dy⟩) else []) := by
        rw [crossM_snoc, ← List.append_assoc]; rfl
      have hml := crossM_len (⟨ax, ay⟩, ⟨bx, bY⟩) pre2
      have hll : (crossL ys pre ++ crossM (⟨ax, ay⟩, ⟨bx, bY⟩) pre2).length ≤ 17000 := by have := HCL.out; rw [List.length_append]; omega
      have HLL := Lib.hid hll
      clear hll hml hm12
      generalize crossL ys pre ++ crossM (⟨ax, ay⟩, ⟨bx, bY⟩) pre2 = LL at *
      generalize turnS ⟨ax, ay⟩ ⟨bx, bY⟩ ⟨cx, cy⟩ = s at *
      generalize turnS ⟨ax, ay⟩ ⟨bx, bY⟩ ⟨dx, dy⟩ = t at *
      generalize turnS ⟨cx, cy⟩ ⟨dx, dy⟩ ⟨ax, ay⟩ = s' at *
      generalize turnS ⟨cx, cy⟩ ⟨dx, dy⟩ ⟨bx, bY⟩ = t' at *
      have u3 := fun W => crosses_any s t W
      have u6 := fun W => crosses_any s' t' W
      have u7 := fun W (h : crossesB s t = true) => frame_any ⟨cx, cy⟩ ⟨dx, dy⟩ s t W h hpc hpd b1 b2
      have U1 := Lib.hid u1
      have U2 := Lib.hid u2
      have U4 := Lib.hid u4
      have U5 := Lib.hid u5
      have HSN := Lib.hid hsn
      have HI := Lib.hid hi
      have HI0 := Lib.hid (show w.heap.size ≤ W2.heap.size from hi.c.below.size)
      have HC0 := Lib.hid hc0
      have HD0 := Lib.hid hd0
      have hia := hi.ha
      have hib := hi.hb
      have hbz : Below W2.heap.size W2 W2.drew := Below.drew (Below.refl _ _)
      have ca0 : W2.drew.cell? ⟨Ba, 0, none⟩ = some (.int .i64 ax) := by go_simp; simp [World.cell?, hia]
      have ca1 : W2.drew.cell? ⟨Ba, 1, none⟩ = some (.int .i64 ay) := by go_simp; simp [World.cell?, hia]
      have cb0 : W2.drew.cell? ⟨Bb, 0, none⟩ = some (.int .i64 bx) := by go_simp; simp [World.cell?, hib]
      have cb1 : W2.drew.cell? ⟨Bb, 1, none⟩ = some (.int .i64 bY) := by go_simp; simp [World.cell?, hib]
      have cc0 : W2.drew.cell? ⟨Bc, 0, none⟩ = some (.int .i64 cx) := by go_simp; simp [World.cell?, hc0]
      have cc1 : W2.drew.cell? ⟨Bc, 1, none⟩ = some (.int .i64 cy) := by go_simp; simp [World.cell?, hc0]
      have cd0 : W2.drew.cell? ⟨Bd, 0, none⟩ = some (.int .i64 dx) := by go_simp; simp [World.cell?, hd0]
      have cd1 : W2.drew.cell? ⟨Bd, 1, none⟩ = some (.int .i64 dy) := by go_simp; simp [World.cell?, hd0]
      clear u1 u2 u4 u5 hsn hi hc0 hd0 hia hib hpc hpd b1 b2
      gi_wp2
      refine held_begin [0, 1, 2, 4, 5, 6, 8, 9] (fun w9 => Below W2.drew.heap.size W2.drew w9 ∧ w9.cell? ⟨Ba, 0, none⟩ = some (.int .i64 ax) ∧ w9.cell? ⟨Ba, 1, none⟩ = some (.int .i64 ay) ∧ w9.cell? ⟨Bb, 0, none⟩ = some (.int .i64 bx) ∧ w9.cell? ⟨Bb, 1, none⟩ = some (.int .i64 bY) ∧ w9.cell? ⟨Bc, 0, none⟩ = some (.int .i64 cx) ∧ w9.cell? ⟨Bc, 1, none⟩ = some (.int .i64 cy) ∧ w9.cell? ⟨Bd, 0, none⟩ = some (.int .i64 dx) ∧ w9.cell? ⟨Bd, 1, none⟩ = some (.int .i64 dy)) (by kernel_rfl) (⟨Below.refl _ _, ca0, ca1, cb0, cb1, cc0, cc1, cd0, cd1⟩) (fun hS => ?_)
      generalize W2.drew = z at *
      have HSZ := Lib.hid (show ∀ w9, Below z.heap.size z w9 → Below z.heap.size z w9 ∧ w9.cell? ⟨Ba, 0, none⟩ = some (.int .i64 ax) ∧ w9.cell? ⟨Ba, 1, none⟩ = some (.int .i64 ay) ∧ w9.cell? ⟨Bb, 0, none⟩ = some (.int .i64 bx) ∧ w9.cell? ⟨Bb, 1, none⟩ = some (.int .i64 bY) ∧ w9.cell? ⟨Bc, 0, none⟩ = some (.int .i64 cx) ∧ w9.cell? ⟨Bc, 1, none⟩ = some (.int .i64 cy) ∧ w9.cell? ⟨Bd, 0, none⟩ = some (.int .i64 dx) ∧ w9.cell? ⟨Bd, 1, none⟩ = some (.int .i64 dy) from fun w9 h9 => ⟨h9, kp h9 ca0, kp h9 ca1, kp h9 cb0, kp h9 cb1, kp h9 cc0, kp h9 cc1, kp h9 cd0, kp h9 cd1⟩)
      refine tk 0 (v := ?_) (plainOps_some rfl (by kernel_rfl)) hS rfl (fun _ _ _ _ => trivial) ?_ ?_
      rotate_left 1
      · intro w hw; (try rw [hw]); (try go_split_ands); go_simp <;> with_reducible rfl
      try simp only [Act.put, st]
      refine tk 1 (v := ?_) (plainOps_some rfl (by kernel_rfl)) hS rfl (fun _ _ _ _ => trivial) ?_ ?_
      rotate_left 1
      · intro w hw; (try rw [hw]); (try go_split_ands); go_simp <;> with_reducible rfl
      try simp only [Act.put, st]
      refine tk 2 (v := ?_) (plainOps_some rfl (by kernel_rfl)) hS rfl (fun _ _ _ _ => trivial) ?_ ?_
      rotate_left 1
      · intro w hw; (try rw [hw]); (try go_split_ands); go_simp <;> with_reducible rfl
      try simp only [Act.put, st]
      refine tk 4 (v := ?_) (plainOps_some rfl (by kernel_rfl)) hS rfl (fun _ _ _ _ => trivial) ?_ ?_
      rotate_left 1
      · intro w hw; (try rw [hw]); (try go_split_ands); go_simp <;> with_reducible rfl
      try simp only [Act.put, st]
      refine tk 5 (v := ?_) (plainOps_some rfl (by kernel_rfl)) hS rfl (fun _ _ _ _ => trivial) ?_ ?_
      rotate_left 1
      · intro w hw; (try rw [hw]); (try go_split_ands); go_simp <;> with_reducible rfl
      try simp only [Act.put, st]
      refine tk 6 (v := ?_) (plainOps_some rfl (by kernel_rfl)) hS rfl (fun _ _ _ _ => trivial) ?_ ?_
      rotate_left 1
      · intro w hw; (try rw [hw]); (try go_split_ands); go_simp <;> with_reducible rfl
      try simp only [Act.put, st]
      refine held_step 3 rfl (plainOps_some rfl (by kernel_rfl)) (by kernel_rfl) (by kernel_rfl) (fun K hK => ⟨?_, ?_⟩)
      · exact fun _ _ => trivial
      go_simp
      refine (CallsIn.inRound l2 (callsIn_wide.2 (U1.out _))).mono ?_
      rintro e w1 ⟨rfl, hb_1⟩
      have hB_1 : Below z.heap.size z w1 := Below.after' hS.1 hb_1
      have hS := HSZ.out _ hB_1
      refine hK _ _ hS ?_
      clear hK K
      try simp only [Act.put, st]
      refine held_step 7 rfl (plainOps_some rfl (by kernel_rfl)) (by kernel_rfl) (by kernel_rfl) (fun K hK => ⟨?_, ?_⟩)
      · exact fun _ _ => trivial
      go_simp
      refine (CallsIn.inRound l2 (callsIn_wide.2 (U2.out _))).mono ?_
      rintro e w2 ⟨rfl, hb_2⟩
      have hB_2 : Below z.heap.size z w2 := Below.after' hS.1 hb_2
      have hS := HSZ.out _ hB_2
      refine hK _ _ hS ?_
      clear hK K
      try simp only [Act.put, st]
      refine tk 8 (v := ?_) (plainOps_some rfl (by kernel_rfl)) hS rfl (fun _ _ _ _ => trivial) ?_ ?_
      rotate_left 1
      · intro w hw; (try rw [hw]); (try go_split_ands); go_simp <;> with_reducible rfl
      try simp only [Act.put, st]
      refine tk 9 (v := ?_) (plainOps_some rfl (by kernel_rfl)) hS rfl (fun _ _ _ _ => trivial) ?_ ?_
      rotate_left 1
      · intro w hw; (try rw [hw]); (try go_split_ands); go_simp <;> with_reducible rfl
      try simp only [Act.put, st]
      refine held_end (by kernel_rfl) ?_
      have hb3 : Below W2.heap.size W2 w2 := hbz.trans (hB_2.mono hbz.size)
      have HI2 := Lib.hid (HI.out.later hb3)
      have hbz2 : Below w2.heap.size w2 w2.drew := Below.drew (Below.refl _ _)
      obtain ⟨-, ea0, ea1, eb0, eb1, ec0, ec1, ed0, ed1⟩ := hS
      have fa0 : w2.drew.cell? ⟨Ba, 0, none⟩ = some (.int .i64 ax) := by go_simp
      have fa1 : w2.drew.cell? ⟨Ba, 1, none⟩ = some (.int .i64 ay) := by go_simp
      have fb0 : w2.drew.cell? ⟨Bb, 0, none⟩ = some (.int .i64 bx) := by go_simp
      have fb1 : w2.drew.cell? ⟨Bb, 1, none⟩ = some (.int .i64 bY) := by go_simp
      have fc0 : w2.drew.cell? ⟨Bc, 0, none⟩ = some (.int .i64 cx) := by go_simp
      have fc1 : w2.drew.cell? ⟨Bc, 1, none⟩ = some (.int .i64 cy) := by go_simp
      have fd0 : w2.drew.cell? ⟨Bd, 0, none⟩ = some (.int .i64 dx) := by go_simp
      have fd1 : w2.drew.cell? ⟨Bd, 1, none⟩ = some (.int .i64 dy) := by go_simp
      clear HSZ hb_1 hB_1 hb_2 hB_2 hbz ca0 ca1 cb0 cb1 cc0 cc1 cd0 cd1 HI
      clear ea0 ea1 eb0 eb1 ec0 ec1 ed0 ed1
      cases c1 : crossesB s t with
      | false =>
        rw [c1] at HSN
        simp only [c1] at u3
        have V3 := Lib.hid u3
        clear u3 u6
        gi_wp2
        refine held_begin [0, 1, 3, 4, 5, 6, 7, 8, 9, 10, 11, 12, 13] (fun w9 => Below w2.drew.heap.size w2.drew w9 ∧ w9.cell? ⟨Ba, 0, none⟩ = some (.int .i64 ax) ∧ w9.cell? ⟨Ba, 1, none⟩ = some (.int .i64 ay) ∧ w9.cell? ⟨Bb, 0, none⟩ = some (.int .i64 bx) ∧ w9.cell? ⟨Bb, 1, none⟩ = some (.int .i64 bY) ∧ w9.cell? ⟨Bc, 0, none⟩ = some (.int .i64 cx) ∧ w9.cell? ⟨Bc, 1, none⟩ = some (.int .i64 cy) ∧ w9.cell? ⟨Bd, 0, none⟩ = some (.int .i64 dx) ∧ w9.cell? ⟨Bd, 1, none⟩ = some (.int .i64 dy)) (by kernel_rfl) (⟨Below.refl _ _, fa0, fa1, fb0, fb1, fc0, fc1, fd0, fd1⟩) (fun hS => ?_)
        generalize w2.drew = z2 at *
        have HSZ := Lib.hid (show ∀ w9, Below z2.heap.size z2 w9 → Below z2.heap.size z2 w9 ∧ w9.cell? ⟨Ba, 0, none⟩ = some (.int .i64 ax) ∧ w9.cell? ⟨Ba, 1, none⟩ = some (.int .i64 ay) ∧ w9.cell? ⟨Bb, 0, none⟩ = some (.int .i64 bx) ∧ w9.cell? ⟨Bb, 1, none⟩ = some (.int .i64 bY) ∧ w9.cell? ⟨Bc, 0, none⟩ = some (.int .i64 cx) ∧ w9.cell? ⟨Bc, 1, none⟩ = some (.int .i64 cy) ∧ w9.cell? ⟨Bd, 0, none⟩ = some (.int .i64 dx) ∧ w9.cell? ⟨Bd, 1, none⟩ = some (.int .i64 dy) from fun w9 h9 => ⟨h9, kp h9 fa0, kp h9 fa1, kp h9 fb0, kp h9 fb1, kp h9 fc0, kp h9 fc1, kp h9 fd0, kp h9 fd1⟩)
        refine tk 0 (v := ?_) (plainOps_some rfl (by kernel_rfl)) hS rfl (fun _ _ _ _ => trivial) ?_ ?_
        rotate_left 1
        · intro w hw; (try rw [hw]); (try go_split_ands); go_simp <;> with_reducible rfl
        try simp only [Act.put, st]
        refine tk 1 (v := ?_) (plainOps_some rfl (by kernel_rfl)) hS rfl (fun _ _ _ _ => trivial) ?_ ?_
        rotate_left 1
        · intro w hw; (try rw [hw]); (try go_split_ands); go_simp <;> with_reducible rfl
        try simp only [Act.put, st]
        refine held_step 2 rfl (plainOps_some rfl (by kernel_rfl)) (by kernel_rfl) (by kernel_rfl) (fun K hK => ⟨?_, ?_⟩)
        · exact fun _ _ => trivial
        go_simp
        refine (CallsIn.inRound l2 (callsIn_wide.2 (V3.out _))).mono ?_
        rintro e w3 ⟨rfl, hb_3⟩
        have hB_3 : Below z2.heap.size z2 w3 := Below.after' hS.1 hb_3
        have hS := HSZ.out _ hB_3
        refine hK _ _ hS ?_
        clear hK K
        try simp only [Act.put, st]
        refine tk 3 (v := ?_) (plainOps_some rfl (by kernel_rfl)) hS rfl (fun _ _ _ _ => trivial) ?_ ?_
        rotate_left 1
        · intro w hw; (try rw [hw]); (try go_split_ands); go_simp <;> with_reducible rfl
        try simp only [Act.put, st]
        refine sk 4 (plainOps_some rfl (by kernel_rfl)) hS rfl (fun _ _ _ _ => trivial) ?_
        try simp only [Act.put, st]
        refine sk 5 (plainOps_some rfl (by kernel_rfl)) hS rfl (fun _ _ _ _ => trivial) ?_
        try simp only [Act.put, st]
        refine sk 6 (plainOps_some rfl (by kernel_rfl)) hS rfl (fun _ _ _ _ => trivial) ?_
        try simp only [Act.put, st]
        refine sk 7 (plainOps_some rfl (by kernel_rfl)) hS rfl (fun _ _ _ _ => trivial) ?_
        try simp only [Act.put, st]
        refine sk 8 (plainOps_some rfl (by kernel_rfl)) hS rfl (fun _ _ _ _ => trivial) ?_
        try simp only [Act.put, st]
        refine sk 9 (plainOps_some rfl (by kernel_rfl)) hS rfl (fun _ _ _ _ => trivial) ?_
        try simp only [Act.put, st]
        refine sk 10 (plainOps_some rfl (by kernel_rfl)) hS rfl (fun _ _ _ _ => trivial) ?_
        try simp only [Act.put, st]
        refine sk 11 (plainOps_some rfl (by kernel_rfl)) hS rfl (fun _ _ _ _ => trivial) ?_
        try simp only [Act.put, st]
        refine sk 12 (plainOps_some rfl (by kernel_rfl)) hS rfl (fun _ _ _ _ => trivial) ?_
        try simp only [Act.put, st]
        refine tk 13 (v := ?_) (plainOps_some rfl (by kernel_rfl)) hS rfl (fun _ _ _ _ => trivial) ?_ ?_
        rotate_left 1
        · intro w hw; (try rw [hw]); (try go_split_ands); go_simp <;> with_reducible rfl
        try simp only [Act.put, st]
        refine held_end (by kernel_rfl) ?_
        have hb9 : Below w2.heap.size w2 w3 := hbz2.trans (hB_3.mono hbz2.size)
        have HI9 := Lib.hid (HI2.out.later hb9)
        have hbt : Below W2.heap.size W2 w3 := hb3.trans (hb9.mono hb3.size)
        clear hS HSZ
        gi_wp2
        refine ⟨keepsFrom_of hbt _, ⟨hbt.mono HI0.out, fun cs z e => (hbt.block _ (Array.getElem?_eq_some_iff.1 e).1).trans e⟩, ⟨v2, by rw [HSN.out]; rw [if_neg (by simp), List.append_nil]; exact HI9.out⟩⟩
      | true =>
        have u8 := fun W => u7 W c1
        rw [c1] at HSN
        simp only [c1] at u3
        cases c2 : crossesB s' t' with
        | false =>
          rw [c2] at HSN
          simp only [c2] at u6
          clear u7 u8
          have V3 := Lib.hid u3
          have V6 := Lib.hid u6
          clear u3 u6
          gi_wp2
          refine held_begin [0, 1, 3, 4, 5, 6, 8, 9, 10, 13] (fun w9 => Below w2.drew.heap.size w2.drew w9 ∧ w9.cell? ⟨Ba, 0, none⟩ = some (.int .i64 ax) ∧ w9.cell? ⟨Ba, 1, none⟩ = some (.int .i64 ay) ∧ w9.cell? ⟨Bb, 0, none⟩ = some (.int .i64 bx) ∧ w9.cell? ⟨Bb, 1, none⟩ = some (.int .i64 bY) ∧ w9.cell? ⟨Bc, 0, none⟩ = some (.int .i64 cx) ∧ w9.cell? ⟨Bc, 1, none⟩ = some (.int .i64 cy) ∧ w9.cell? ⟨Bd, 0, none⟩ = some (.int .i64 dx) ∧ w9.cell? ⟨Bd, 1, none⟩ = some (.int .i64 dy)) (by kernel_rfl) (⟨Below.refl _ _, fa0, fa1, fb0, fb1, fc0, fc1, fd0, fd1⟩) (fun hS => ?_)
          generalize w2.drew = z2 at *
          have HSZ := Lib.hid (show ∀ w9, Below z2.heap.size z2 w9 → Below z2.heap.size z2 w9 ∧ w9.cell? ⟨Ba, 0, none⟩ = some (.int .i64 ax) ∧ w9.cell? ⟨Ba, 1, none⟩ = some (.int .i64 ay) ∧ w9.cell? ⟨Bb, 0, none⟩ = some (.int .i64 bx) ∧ w9.cell? ⟨Bb, 1, none⟩ = some (.int .i64 bY) ∧ w9.cell? ⟨Bc, 0, none⟩ = some (.int .i64 cx) ∧ w9.cell? ⟨Bc, 1, none⟩ = some (.int .i64 cy) ∧ w9.cell? ⟨Bd, 0, none⟩ = some (.int .i64 dx) ∧ w9.cell? ⟨Bd, 1, none⟩ = some (.int .i64 dy) from fun w9 h9 => ⟨h9, kp h9 fa0, kp h9 fa1, kp h9 fb0, kp h9 fb1, kp h9 fc0, kp h9 fc1, kp h9 fd0, kp h9 fd1⟩)
          refine tk 0 (v := ?_) (plainOps_some rfl (by kernel_rfl)) hS rfl (fun _ _ _ _ => trivial) ?_ ?_
          rotate_left 1
          · intro w hw; (try rw [hw]); (try go_split_ands); go_simp <;> with_reducible rfl
          try simp only [Act.put, st]
          refine tk 1 (v := ?_) (plainOps_some rfl (by kernel_rfl)) hS rfl (fun _ _ _ _ => trivial) ?_ ?_
          rotate_left 1
          · intro w hw; (try rw [hw]); (try go_split_ands); go_simp <;> with_reducible rfl
          try simp only [Act.put, st]
          refine held_step 2 rfl (plainOps_some rfl (by kernel_rfl)) (by kernel_rfl) (by kernel_rfl) (fun K hK => ⟨?_, ?_⟩)
          · exact fun _ _ => trivial
          go_simp
          refine (CallsIn.inRound l2 (callsIn_wide.2 (V3.out _))).mono ?_
          rintro e w3 ⟨rfl, hb_3⟩
          have hB_3 : Below z2.heap.size z2 w3 := Below.after' hS.1 hb_3
          have hS := HSZ.out _ hB_3
          refine hK _ _ hS ?_
          clear hK K
          try simp only [Act.put, st]
          refine tk 3 (v := ?_) (plainOps_some rfl (by kernel_rfl)) hS rfl (fun _ _ _ _ => trivial) ?_ ?_
          rotate_left 1
          · intro w hw; (try rw [hw]); (try go_split_ands); go_simp <;> with_reducible rfl
          try simp only [Act.put, st]
          refine tk 4 (v := ?_) (plainOps_some rfl (by kernel_rfl)) hS rfl (fun _ _ _ _ => trivial) ?_ ?_
          rotate_left 1
          · intro w hw; (try rw [hw]); (try go_split_ands); go_simp <;> with_reducible rfl
          try simp only [Act.put, st]
          refine tk 5 (v := ?_) (plainOps_some rfl (by kernel_rfl)) hS rfl (fun _ _ _ _ => trivial) ?_ ?_
          rotate_left 1
          · intro w hw; (try rw [hw]); (try go_split_ands); go_simp <;> with_reducible rfl
          try simp only [Act.put, st]
          refine tk 6 (v := ?_) (plainOps_some rfl (by kernel_rfl)) hS rfl (fun _ _ _ _ => trivial) ?_ ?_
          rotate_left 1
          · intro w hw; (try rw [hw]); (try go_split_ands); go_simp <;> with_reducible rfl
          try simp only [Act.put, st]
          refine tk 8 (v := ?_) (plainOps_some rfl (by kernel_rfl)) hS rfl (fun _ _ _ _ => trivial) ?_ ?_
          rotate_left 1
          · intro w hw; (try rw [hw]); (try go_split_ands); go_simp <;> with_reducible rfl
          try simp only [Act.put, st]
          refine tk 9 (v := ?_) (plainOps_some rfl (by kernel_rfl)) hS rfl (fun _ _ _ _ => trivial) ?_ ?_
          rotate_left 1
          · intro w hw; (try rw [hw]); (try go_split_ands); go_simp <;> with_reducible rfl
          try simp only [Act.put, st]
          refine tk 10 (v := ?_) (plainOps_some rfl (by kernel_rfl)) hS rfl (fun _ _ _ _ => trivial) ?_ ?_
          rotate_left 1
          · intro w hw; (try rw [hw]); (try go_split_ands); go_simp <;> with_reducible rfl
          try simp only [Act.put, st]
          refine held_step 7 rfl (plainOps_some rfl (by kernel_rfl)) (by kernel_rfl) (by kernel_rfl) (fun K hK => ⟨?_, ?_⟩)
          · exact fun _ _ => trivial
          go_simp
          refine (CallsIn.inRound l2 (callsIn_wide.2 (U4.out _))).mono ?_
          rintro e w4 ⟨rfl, hb_4⟩
          have hB_4 : Below z2.heap.size z2 w4 := Below.after' hS.1 hb_4
          have hS := HSZ.out _ hB_4
          refine hK _ _ hS ?_
          clear hK K
          try simp only [Act.put, st]
          refine held_step 11 rfl (plainOps_some rfl (by kernel_rfl)) (by kernel_rfl) (by kernel_rfl) (fun K hK => ⟨?_, ?_⟩)
          · exact fun _ _ => trivial
          go_simp
          refine (CallsIn.inRound l2 (callsIn_wide.2 (U5.out _))).mono ?_
          rintro e w5 ⟨rfl, hb_5⟩
          have hB_5 : Below z2.heap.size z2 w5 := Below.after' hS.1 hb_5
          have hS := HSZ.out _ hB_5
          refine hK _ _ hS ?_
          clear hK K
          try simp only [Act.put, st]
          refine held_step 12 rfl (plainOps_some rfl (by kernel_rfl)) (by kernel_rfl) (by kernel_rfl) (fun K hK => ⟨?_, ?_⟩)
          · exact fun _ _ => trivial
          go_simp
          refine (CallsIn.inRound l2 (callsIn_wide.2 (V6.out _))).mono ?_
          rintro e w6 ⟨rfl, hb_6⟩
          have hB_6 : Below z2.heap.size z2 w6 := Below.after' hS.1 hb_6
          have hS := HSZ.out _ hB_6
          refine hK _ _ hS ?_
          clear hK K
          try simp only [Act.put, st]
          refine tk 13 (v := ?_) (plainOps_some rfl (by kernel_rfl)) hS rfl (fun _ _ _ _ => trivial) ?_ ?_
          rotate_left 1
          · intro w hw; (try rw [hw]); (try go_split_ands); go_simp <;> with_reducible rfl
          try simp only [Act.put, st]
          refine held_end (by kernel_rfl) ?_
          have hb9 : Below w2.heap.size w2 w6 := hbz2.trans (hB_6.mono hbz2.size)
          have HI9 := Lib.hid (HI2.out.later hb9)
          have hbt : Below W2.heap.size W2 w6 := hb3.trans (hb9.mono hb3.size)
          clear hS HSZ
          gi_wp2
          refine ⟨keepsFrom_of hbt _, ⟨hbt.mono HI0.out, fun cs z e => (hbt.block _ (Array.getElem?_eq_some_iff.1 e).1).trans e⟩, ⟨v2, by rw [HSN.out]; rw [if_neg (by simp), List.append_nil]; exact HI9.out⟩⟩
        | true =>
          rw [c2] at HSN
          simp only [c2] at u6
          have V7 := Lib.hid u8
          clear u7 u8
          have V3 := Lib.hid u3
          have V6 := Lib.hid u6
          clear u3 u6
          gi_wp2
          refine held_begin [0, 1, 3, 4, 5, 6, 8, 9, 10, 13] (fun w9 => Below w2.drew.heap.size w2.drew w9 ∧ w9.cell? ⟨Ba, 0, none⟩ = some (.int .i64 ax) ∧ w9.cell? ⟨Ba, 1, none⟩ = some (.int .i64 ay) ∧ w9.cell? ⟨Bb, 0, none⟩ = some (.int .i64 bx) ∧ w9.cell? ⟨Bb, 1, none⟩ = some (.int .i64 bY) ∧ w9.cell? ⟨Bc, 0, none⟩ = some (.int .i64 cx) ∧ w9.cell? ⟨Bc, 1, none⟩ = some (.int .i64 cy) ∧ w9.cell? ⟨Bd, 0, none⟩ = some (.int .i64 dx) ∧ w9.cell? ⟨Bd, 1, none⟩ = some (.int .i64 dy)) (by kernel_rfl) (⟨Below.refl _ _, fa0, fa1, fb0, fb1, fc0, fc1, fd0, fd1⟩) (fun hS => ?_)
          generalize w2.drew = z2 at *
          have HSZ := Lib.hid (show ∀ w9, Below z2.heap.size z2 w9 → Below z2.heap.size z2 w9 ∧ w9.cell? ⟨Ba, 0, none⟩ = some (.int .i64 ax) ∧ w9.cell? ⟨Ba, 1, none⟩ = some (.int .i64 ay) ∧ w9.cell? ⟨Bb, 0, none⟩ = some (.int .i64 bx) ∧ w9.cell? ⟨Bb, 1, none⟩ = some (.int .i64 bY) ∧ w9.cell? ⟨Bc, 0, none⟩ = some (.int .i64 cx) ∧ w9.cell? ⟨Bc, 1, none⟩ = some (.int .i64 cy) ∧ w9.cell? ⟨Bd, 0, none⟩ = some (.int .i64 dx) ∧ w9.cell? ⟨Bd, 1, none⟩ = some (.int .i64 dy) from fun w9 h9 => ⟨h9, kp h9 fa0, kp h9 fa1, kp h9 fb0, kp h9 fb1, kp h9 fc0, kp h9 fc1, kp h9 fd0, kp h9 fd1⟩)
          refine tk 0 (v := ?_) (plainOps_some rfl (by kernel_rfl)) hS rfl (fun _ _ _ _ => trivial) ?_ ?_
          rotate_left 1
          · intro w hw; (try rw [hw]); (try go_split_ands); go_simp <;> with_reducible rfl
          try simp only [Act.put, st]
          refine tk 1 (v := ?_) (plainOps_some rfl (by kernel_rfl)) hS rfl (fun _ _ _ _ => trivial) ?_ ?_
          rotate_left 1
          · intro w hw; (try rw [hw]); (try go_split_ands); go_simp <;> with_reducible rfl
          try simp only [Act.put, st]
          refine held_step 2 rfl (plainOps_some rfl (by kernel_rfl)) (by kernel_rfl) (by kernel_rfl) (fun K hK => ⟨?_, ?_⟩)
          · exact fun _ _ => trivial
          go_simp
          refine (CallsIn.inRound l2 (callsIn_wide.2 (V3.out _))).mono ?_
          rintro e w3 ⟨rfl, hb_3⟩
          have hB_3 : Below z2.heap.size z2 w3 := Below.after' hS.1 hb_3
          have hS := HSZ.out _ hB_3
          refine hK _ _ hS ?_
          clear hK K
          try simp only [Act.put, st]
          refine tk 3 (v := ?_) (plainOps_some rfl (by kernel_rfl)) hS rfl (fun _ _ _ _ => trivial) ?_ ?_
          rotate_left 1
          · intro w hw; (try rw [hw]); (try go_split_ands); go_simp <;> with_reducible rfl
          try simp only [Act.put, st]
          refine tk 4 (v := ?_) (plainOps_some rfl (by kernel_rfl)) hS rfl (fun _ _ _ _ => trivial) ?_ ?_
          rotate_left 1
          · intro w hw; (try rw [hw]); (try go_split_ands); go_simp <;> with_reducible rfl
          try simp only [Act.put, st]
          refine tk 5 (v := ?_) (plainOps_some rfl (by kernel_rfl)) hS rfl (fun _ _ _ _ => trivial) ?_ ?_
          rotate_left 1
          · intro w hw; (try rw [hw]); (try go_split_ands); go_simp <;> with_reducible rfl
          try simp only [Act.put, st]
          refine tk 6 (v := ?_) (plainOps_some rfl (by kernel_rfl)) hS rfl (fun _ _ _ _ => trivial) ?_ ?_
          rotate_left 1
          · intro w hw; (try rw [hw]); (try go_split_ands); go_simp <;> with_reducible rfl
          try simp only [Act.put, st]
          refine tk 8 (v := ?_) (plainOps_some rfl (by kernel_rfl)) hS rfl (fun _ _ _ _ => trivial) ?_ ?_
          rotate_left 1
          · intro w hw; (try rw [hw]); (try go_split_ands); go_simp <;> with_reducible rfl
          try simp only [Act.put, st]
          refine tk 9 (v := ?_) (plainOps_some rfl (by kernel_rfl)) hS rfl (fun _ _ _ _ => trivial) ?_ ?_
          rotate_left 1
          · intro w hw; (try rw [hw]); (try go_split_ands); go_simp <;> with_reducible rfl
          try simp only [Act.put, st]
          refine tk 10 (v := ?_) (plainOps_some rfl (by kernel_rfl)) hS rfl (fun _ _ _ _ => trivial) ?_ ?_
          rotate_left 1
          · intro w hw; (try rw [hw]); (try go_split_ands); go_simp <;> with_reducible rfl
          try simp only [Act.put, st]
          refine held_step 7 rfl (plainOps_some rfl (by kernel_rfl)) (by kernel_rfl) (by kernel_rfl) (fun K hK => ⟨?_, ?_⟩)
          · exact fun _ _ => trivial
          go_simp
          refine (CallsIn.inRound l2 (callsIn_wide.2 (U4.out _))).mono ?_
          rintro e w4 ⟨rfl, hb_4⟩
          have hB_4 : Below z2.heap.size z2 w4 := Below.after' hS.1 hb_4
          have hS := HSZ.out _ hB_4
          refine hK _ _ hS ?_
          clear hK K
          try simp only [Act.put, st]
          refine held_step 11 rfl (plainOps_some rfl (by kernel_rfl)) (by kernel_rfl) (by kernel_rfl) (fun K hK => ⟨?_, ?_⟩)
          · exact fun _ _ => trivial
          go_simp
          refine (CallsIn.inRound l2 (callsIn_wide.2 (U5.out _))).mono ?_
          rintro e w5 ⟨rfl, hb_5⟩
          have hB_5 : Below z2.heap.size z2 w5 := Below.after' hS.1 hb_5
          have hS := HSZ.out _ hB_5
          refine hK _ _ hS ?_
          clear hK K
          try simp only [Act.put, st]
          refine held_step 12 rfl (plainOps_some rfl (by kernel_rfl)) (by kernel_rfl) (by kernel_rfl) (fun K hK => ⟨?_, ?_⟩)
          · exact fun _ _ => trivial
          go_simp
          refine (CallsIn.inRound l2 (callsIn_wide.2 (V6.out _))).mono ?_
          rintro e w6 ⟨rfl, hb_6⟩
          have hB_6 : Below z2.heap.size z2 w6 := Below.after' hS.1 hb_6
          have hS := HSZ.out _ hB_6
          refine hK _ _ hS ?_
          clear hK K
          try simp only [Act.put, st]
          refine tk 13 (v := ?_) (plainOps_some rfl (by kernel_rfl)) hS rfl (fun _ _ _ _ => trivial) ?_ ?_
          rotate_left 1
          · intro w hw; (try rw [hw]); (try go_split_ands); go_simp <;> with_reducible rfl
          try simp only [Act.put, st]
          refine held_end (by kernel_rfl) ?_
          have hb9 : Below w2.heap.size w2 w6 := hbz2.trans (hB_6.mono hbz2.size)
          have HI9 := Lib.hid (HI2.out.later hb9)
          obtain ⟨-, -, -, -, -, gc0, gc1, gd0, gd1⟩ := hS
          have hbz3 : Below w6.heap.size w6 w6.drew := Below.drew (Below.refl _ _)
          have co9 := HI9.out.c.out
          have ko0 : w6.drew.cell? ⟨w.heap.size + 1, 0, none⟩ = some v2 := by go_simp; simp [World.cell?, co9]
          have kc0 : w6.drew.cell? ⟨Bc, 0, none⟩ = some (.int .i64 cx) := by go_simp
          have kc1 : w6.drew.cell? ⟨Bc, 1, none⟩ = some (.int .i64 cy) := by go_simp
          have kd0 : w6.drew.cell? ⟨Bd, 0, none⟩ = some (.int .i64 dx) := by go_simp
          have kd1 : w6.drew.cell? ⟨Bd, 1, none⟩ = some (.int .i64 dy) := by go_simp
          clear HSZ co9 gc0 gc1 gd0 gd1 hb_3 hB_3 hb_4 hB_4 hb_5 hB_5 hb_6 hB_6
          have HIz := Lib.hid (HI9.out.later hbz3)
          gi_wp2
          refine held_begin [0, 1, 2, 3, 4] (fun w9 => Below w6.drew.heap.size w6.drew w9 ∧ w9.cell? ⟨w.heap.size + 1, 0, none⟩ = some (v2) ∧ w9.cell? ⟨Bc, 0, none⟩ = some (.int .i64 cx) ∧ w9.cell? ⟨Bc, 1, none⟩ = some (.int .i64 cy) ∧ w9.cell? ⟨Bd, 0, none⟩ = some (.int .i64 dx) ∧ w9.cell? ⟨Bd, 1, none⟩ = some (.int .i64 dy)) (by kernel_rfl) (⟨Below.refl _ _, ko0, kc0, kc1, kd0, kd1⟩) (fun hS => ?_)
          generalize w6.drew = z3 at *
          have HSZ := Lib.hid (show ∀ w9, Below z3.heap.size z3 w9 → Below z3.heap.size z3 w9 ∧ w9.cell? ⟨w.heap.size + 1, 0, none⟩ = some (v2) ∧ w9.cell? ⟨Bc, 0, none⟩ = some (.int .i64 cx) ∧ w9.cell? ⟨Bc, 1, none⟩ = some (.int .i64 cy) ∧ w9.cell? ⟨Bd, 0, none⟩ = some (.int .i64 dx) ∧ w9.cell? ⟨Bd, 1, none⟩ = some (.int .i64 dy) from fun w9 h9 => ⟨h9, kp h9 ko0, kp h9 kc0, kp h9 kc1, kp h9 kd0, kp h9 kd1⟩)
          refine tk 0 (v := ?_) (plainOps_some rfl (by kernel_rfl)) hS rfl (fun _ _ _ _ => trivial) ?_ ?_
          rotate_left 1
          · intro w hw; (try rw [hw]); (try go_split_ands); go_simp <;> with_reducible rfl
          try simp only [Act.put, st]
          refine tk 1 (v := ?_) (plainOps_some rfl (by kernel_rfl)) hS rfl (fun _ _ _ _ => trivial) ?_ ?_
          rotate_left 1
          · intro w hw; (try rw [hw]); (try go_split_ands); go_simp <;> with_reducible rfl
          try simp only [Act.put, st]
          refine tk 2 (v := ?_) (plainOps_some rfl (by kernel_rfl)) hS rfl (fun _ _ _ _ => trivial) ?_ ?_
          rotate_left 1
          · intro w hw; (try rw [hw]); (try go_split_ands); go_simp <;> with_reducible rfl
          try simp only [Act.put, st]
          refine tk 3 (v := ?_) (plainOps_some rfl (by kernel_rfl)) hS rfl (fun _ _ _ _ => trivial) ?_ ?_
          rotate_left 1
          · intro w hw; (try rw [hw]); (try go_split_ands); go_simp <;> with_reducible rfl
          try simp only [Act.put, st]
          refine tk 4 (v := ?_) (plainOps_some rfl (by kernel_rfl)) hS rfl (fun _ _ _ _ => trivial) ?_ ?_
          rotate_left 1
          · intro w hw; (try rw [hw]); (try go_split_ands); go_simp <;> with_reducible rfl
          try simp only [Act.put, st]
          refine held_step 5 rfl (plainOps_some rfl (by kernel_rfl)) (by kernel_rfl) (by kernel_rfl) (fun K hK => ⟨?_, ?_⟩)
          · exact fun _ _ => trivial
          go_simp
          refine (CallsIn.inRound l2 (callsIn_wide.2 (V7.out _))).mono ?_
          rintro e w7 ⟨v7, rfl, ho7, hb_7⟩
          have hB_7 : Below z3.heap.size z3 w7 := Below.after' hS.1 hb_7
          have hS := HSZ.out _ hB_7
          refine hK _ _ hS ?_
          clear hK K
          try simp only [Act.put, st]
          have hi7 := HIz.out.later hB_7
          have hfl : (frameS ⟨cx, cy⟩ ⟨dx, dy⟩ s t).length = 4 := rfl
          generalize hfr : frameS ⟨cx, cy⟩ ⟨dx, dy⟩ s t = fr at *
          obtain ⟨g7, c7, rfl, hg7, hg7'⟩ := own_block ho7 (by intro e; rw [e] at hfl; simp at hfl)
          obtain ⟨_, _, e7, _, _, _, hp7⟩ := ho7.slice
          cases e7
          have hbw7 : w.heap.size ≤ w7.heap.size := hi7.c.below.size
          obtain ⟨v8, w8, hrun, hown, hgr, hat⟩ := run_append_pts w7 39 w.heap.size v2 LL hi7.c.own (some ⟨g7, 0, none⟩) fr.length c7 fr (by simp) rfl hp7 (by have := HLL.out; omega) hbw7
          have HRUN := Lib.hid hrun
          have hz7 := hi7.c.size
          have hnb7 : v2.ownBlock ≠ some (w.heap.size + 1) := fun e => by have := hi7.c.at' _ e; omega
          have h8 : w8.heap[w.heap.size + 1]? = some (.cells #[v2] 39 (0, 0)) := (hgr.block (w.heap.size + 1) (by omega) (fun e => hnb7 e.symm)).trans hi7.c.out
          have c8 : w8.cell? ⟨w.heap.size + 1, 0, none⟩ = some v2 := by simp [World.cell?, h8]
          have f8 : w8.frozen? ⟨w.heap.size + 1, 0, none⟩ = false := by simp [World.frozen?, h8]
          have hpd := pushV_of (w := w7) (Below.refl _ _) (by omega) h8 hown hgr rfl hat hnb7
          have hbt7 : Below W2.heap.size W2 w7 := hb3.trans ((hb9.trans ((hbz3.trans (hB_7.mono hbz3.size)).mono hb9.size)).mono hb3.size)
          obtain ⟨A9, q9, e9, _⟩ := hown.slice
          generalize hL9 : (LL ++ fr).length = L9 at e9
          subst e9
          have HPD := Lib.hid hpd
          have HI7 := Lib.hid hi7
          have HB7 := Lib.hid hbt7
          clear hown hgr hat h8 hpd hi7 hrun ho7 hp7 hS HSZ hbt7
          refine held_one 6 rfl (plainOps_some rfl (by kernel_rfl)) (by kernel_rfl) (by kernel_rfl) (by kernel_rfl) (fun K hK => ⟨?_, ?_⟩)
          · exact fun _ _ => trivial
          rw [run_append_op (s := .tmp 42) (x := .tmp 47) rfl _ _ _ rfl rfl HRUN.out]
          go_simp
          refine hK _ _ ?_
          clear hK K
          try simp only [Act.put, st]
          refine held_one 7 rfl (plainOps_some rfl (by kernel_rfl)) (by kernel_rfl) (by kernel_rfl) (by kernel_rfl) (fun K hK => ⟨?_, ?_⟩)
          · exact fun _ _ => trivial
          go_simp
          refine hK _ _ ?_
          clear hK K
          try simp only [Act.put, st]
          refine held_end (by kernel_rfl) ?_
          gi_wp2
          refine ⟨(keepsFrom_of HB7.out _).trans ((HPD.out.others HI7.out.c.out HI7.out.c.own).from _), ⟨(HB7.out.mono HI0.out).trans (HPD.out.below hbw7 (by omega) (fun k e => by have := HI7.out.c.at' k e; omega)), fun cs z e => HPD.out.keeps ((HB7.out.block _ (Array.getElem?_eq_some_iff.1 e).1).trans e) (by omega) (own_not39 HI7.out.c.own ((HB7.out.block _ (Array.getElem?_eq_some_iff.1 e).1).trans e))⟩, ⟨_, by rw [HSN.out, if_pos (by rfl)]; exact HI7.out.push HPD.out⟩⟩
end Go.Proofs.YtnhdnkeiijiiaaaGreat
namespace Go.Proofs.YtnhdnkeiijiiaaaGreat
open Go.RowKit Go.Shelf
set_option linter.unusedSimpArgs false
set_option linter.unusedVariables false
attribute [local go_sem ↓] Go.wp_at_zero Go.wp_at_succ
theorem crossings_len (xs ys : List Pt) : (crossingsS xs ys).length ≤ 4 * ys.length * xs.length := by
  have := flatMap_len_le (fun s => (sidesL ys).flatMap (crossS s)) (4 * ys.length) (fun s => by
    have := flatMap_len_le (crossS s) 4 (crossS_len s) (sidesL ys)
    rw [sides_length] at this; exact this) (sidesL xs)
  rw [sides_length] at this
  exact this
theorem shared_len {xs ys : List Pt} (hx : xs.length ≤ 64) (hy : ys.length ≤ 64) : (sharedS xs ys).length ≤ 20000 := by
  have h1 := crossings_len xs ys
  have h2 : (cornersS xs ys).length ≤ xs.length := List.length_filter_le _ _
  have h3 : (cornersS ys xs).length ≤ ys.length := List.length_filter_le _ _
  have h4 : 4 * ys.length * xs.length ≤ 256 * 64 := Nat.mul_le_mul (by omega) (by omega)
  unfold sharedS
  simp only [List.length_append]
  omega
set_option maxHeartbeats 1600000 in
set_option maxRecDepth 100000 in
theorem shared_any (A B : Option Addr) (n c m d : Nat) (xs ys : List Pt) (w : World) (hn : xs.length = n) (hm : ys.length = m) (hx : Pts? w.heap.size w A xs) (hy : Pts? w.heap.size w B ys) (hv1 : validB xs = true) (hv2 : validB ys = true) :
    Calls Tryz.prog 92 #[.slice A n c, .slice B m d] w (RetPts w.heap.size w (sharedS xs ys)) := by
  have hl1 := len_of_valid hv1
  have hl2 := len_of_valid hv2
  have v1 := fun W (hB : Below w.heap.size w W) => corners_any A B n c m d xs ys W hn hm (by omega) (hx.later hB) (hy.later hB) (pl_of_valid hv1) hv2
  have v2 := fun W (hB : Below w.heap.size w W) => corners_any B A m d n c ys xs W hm hn (by omega) (hy.later hB) (hx.later hB) (pl_of_valid hv2) hv1
  have v3 := fun W (hB : Below w.heap.size w W) => crossings_any A B n c m d xs ys W hn hm (hx.later hB) (hy.later hB) (by omega) (by omega) (pl_of_valid hv1) (pl_of_valid hv2)
  have hsl := shared_len (xs := xs) (ys := ys) (by omega) (by omega)
  have hfl : [cornersS xs ys, cornersS ys xs, crossingsS xs ys].flatten = sharedS xs ys := by simp [sharedS]
  have hle : lens [cornersS xs ys, cornersS ys xs, crossingsS xs ys] = (sharedS xs ys).length := by rw [← hfl, flatten_len]
  generalize cornersS xs ys = P1 at *
  generalize cornersS ys xs = P2 at *
  generalize crossingsS xs ys = P3 at *
  have V1 := Lib.hid v1
  have V2 := Lib.hid v2
  have V3 := Lib.hid v3
  have HFL := Lib.hid hfl
  have HLE := Lib.hid hle
  clear v1 v2 v3 hx hy hv1 hv2 hn hm hl1 hl2 hfl hle
  go_enter Tryz.func92, Tryz.ntmps92
  go_wp2_with fail
  refine (V1.out _ (Below.refl _ _)).mono ?_
  rintro e w1 ⟨v1, rfl, ho1, hb1⟩
  have HO1 := Lib.hid ho1
  clear ho1
  go_wp2_with fail
  refine (V2.out _ hb1).mono ?_
  rintro e w2 ⟨v2, rfl, ho2, hb2⟩
  have hB2 : Below w.heap.size w w2 := hb1.trans (hb2.mono hb1.size)
  have HO1' := Lib.hid (HO1.out.later hb2)
  have HO2 := Lib.hid ho2
  clear ho2 hb2 hb1 HO1
  go_wp2_with fail
  refine (V3.out _ hB2).mono ?_
  rintro e w3 ⟨v3, rfl, ho3, hb3⟩
  have hB3 : Below w.heap.size w w3 := hB2.trans (hb3.mono hB2.size)
  have ho1 := HO1'.out.later hb3
  have ho2 := HO2.out.later hb3
  obtain ⟨A1, c1, rfl, -, hA1, -, hp1⟩ := ho1.slice
  obtain ⟨A2, c2, rfl, -, hA2, -, hp2⟩ := ho2.slice
  obtain ⟨A3, c3, rfl, -, hA3, -, hp3⟩ := ho3.slice
  have hb4 : Below w3.heap.size w3 (w3.alloc (.cells #[.slice A1 P1.length c1, .slice A2 P2.length c2, .slice A3 P3.length c3] 39)) := (Below.refl _ _).alloc (Nat.le_refl _) _
  have hreg : Reg? (w3.alloc (.cells #[.slice A1 P1.length c1, .slice A2 P2.length c2, .slice A3 P3.length c3] 39)).heap.size (w3.alloc (.cells #[.slice A1 P1.length c1, .slice A2 P2.length c2, .slice A3 P3.length c3] 39)) (some ⟨w3.heap.size, 0, none⟩) [P1, P2, P3] := fun _ => ⟨w3.heap.size, 0, rfl, by simp, fun i r hr => by
    match i, hr with
    | 0, hr => cases hr; exact ⟨A1, c1, by go_cell, hp1.later hb4⟩
    | 1, hr => cases hr; exact ⟨A2, c2, by go_cell, hp2.later hb4⟩
    | 2, hr => cases hr; exact ⟨A3, c3, by go_cell, hp3.later hb4⟩
    | i + 3, hr => simp at hr⟩
  have hr0 : ∀ b off, (some ⟨w3.heap.size, 0, none⟩ : Option Addr) = some ⟨b, off, none⟩ → ∀ i r, [P1, P2, P3][i]? = some r → ∀ Ai ci, (w3.alloc (.cells #[.slice A1 P1.length c1, .slice A2 P2.length c2, .slice A3 P3.length c3] 39)).cell? ⟨b, off + i, none⟩ = some (.slice Ai r.length ci) → Ai = none → r.length = 0 ∧ ci = 0 := by
    intro b off e i r hr Ai ci hcell hAi
    cases e
    have hk := World.alloc_heap_new w3 (.cells #[.slice A1 P1.length c1, .slice A2 P2.length c2, .slice A3 P3.length c3] 39)
    simp only [World.cell?, hk] at hcell
    match i, hr with
    | 0, hr =>
      cases hr
      simp at hcell
      have := hA1 (hcell.1.trans hAi)
      exact ⟨by rw [this.1]; rfl, by rw [← hcell.2]; exact this.2⟩
    | 1, hr =>
      cases hr
      simp at hcell
      have := hA2 (hcell.1.trans hAi)
      exact ⟨by rw [this.1]; rfl, by rw [← hcell.2]; exact this.2⟩
    | 2, hr =>
      cases hr
      simp at hcell
      have := hA3 (hcell.1.trans hAi)
      exact ⟨by rw [this.1]; rfl, by rw [← hcell.2]; exact this.2⟩
    | i + 3, hr => simp at hr
  have hcall := Concat_any (some ⟨w3.heap.size, 0, none⟩) 3 3 [P1, P2, P3] _ rfl hreg hr0 (by rw [HLE.out]; omega) (by omega)
  rw [HFL.out] at hcall
  have HCALL := Lib.hid hcall
  have hB4 : Below w.heap.size w (w3.alloc (.cells #[.slice A1 P1.length c1, .slice A2 P2.length c2, .slice A3 P3.length c3] 39)) := hB3.trans (hb4.mono hB3.size)
  clear ho1 ho2 ho3 hp1 hp2 hp3 hA1 hA2 hA3 hreg hr0 hcall hb3 hB2 HO1' HO2 V1 V2 V3 hb4
  generalize P1.length = n1 at *
  generalize P2.length = n2 at *
  generalize P3.length = n3 at *
  go_wp2_with fail
  refine HCALL.out.mono ?_
  rintro e w5 ⟨v5, rfl, ho5, hb5⟩
  have HO5 := Lib.hid (own_mono ho5 hB4.size)
  have hB5 : Below w.heap.size w w5 := hB4.trans (hb5.mono hB4.size)
  clear ho5 hb5 hB4 hB3
  go_wp2_with fail
  go_ret
  exact ⟨_, rfl, HO5.out, hB5⟩
set_option maxHeartbeats 1600000 in
set_option maxRecDepth 100000 in
theorem cMeet_ok (A B : Option Addr) (n c m d : Nat) (xs ys : List Pt) (w : World) (hn : xs.length = n) (hm : ys.length = m) (hx : Pts? w.heap.size w A xs) (hy : Pts? w.heap.size w B ys) (hv1 : validB xs = true) (hv2 : validB ys = true) :
    Calls Tryz.prog 70 #[.slice A n c, .slice B m d] w fun e w' => ∃ v, e = .returned (.tuple #[v, .bool (decide (sharedS xs ys ≠ [])), .int .i64 0]) ∧ Below w.heap.size w w' ∧ (sharedS xs ys = [] → v = .slice none 0 0) ∧ (sharedS xs ys ≠ [] → Own w' w.heap.size v (aroundS (sharedS xs ys))) := by
  have hl1 := len_of_valid hv1
  have hl2 := len_of_valid hv2
  have hpl := pl_of_valid hv1
  have v1 := fun W (hB : Below w.heap.size w W) => hValid_any A n c xs W hn (hx.later hB) (ok64_of_pl (pl_of_valid hv1))
  have v2 := fun W (hB : Below w.heap.size w W) => hValid_any B m d ys W hm (hy.later hB) (ok64_of_pl (pl_of_valid hv2))
  have v3 := fun W (hB : Below w.heap.size w W) => shared_any A B n c m d xs ys W hn hm (hx.later hB) (hy.later hB) hv1 hv2
  have hcp : ∀ p ∈ sharedS xs ys, plB p = true := fun p hp => pl_box.2 (shared_box hv1 (fun c hc => pl_box.1 (hpl c hc)) hp)
  have hsl := shared_len (xs := xs) (ys := ys) (by omega) (by omega)
  rw [hv1] at v1
  rw [hv2] at v2
  have V1 := Lib.hid v1
  have V2 := Lib.hid v2
  have V3 := Lib.hid v3
  have HCP := Lib.hid hcp
  clear v1 v2 v3 hx hy hv1 hv2 hn hm hcp hpl
  have hR : aroundS (sharedS xs ys) = aroundF (sharedS xs ys).length (sharedS xs ys) := rfl
  rw [hR]
  clear hR
  generalize sharedS xs ys = P at *
  cases P with
  | nil =>
    go_enter Tryz.func70, Tryz.ntmps70
    go_wp2_with fail
    refine (V1.out _ (Below.refl _ _)).mono ?_
    rintro e w1 ⟨rfl, hb1⟩
    go_wp2_with fail
    refine (V2.out _ hb1).mono ?_
    rintro e w2 ⟨rfl, hb2⟩
    have hB2 : Below w.heap.size w w2 := hb1.trans (hb2.mono hb1.size)
    clear hb2 hb1
    go_wp2_with fail
    refine (V3.out _ hB2).mono ?_
    rintro e w3 ⟨v3, rfl, ho3, hb3⟩
    obtain ⟨A3, c3, rfl, -⟩ := ho3.slice
    have hB3 : Below w.heap.size w w3 := hB2.trans (hb3.mono hB2.size)
    clear hb3 hB2 ho3
    go_wp2_with fail
    refine (caround_nil c3 A3 w3).mono ?_
    rintro e w4 ⟨rfl, hb4⟩
    have hB4 : Below w.heap.size w w4 := hB3.trans (hb4.mono hB3.size)
    clear hb4 hB3
    go_wp2_with fail
    refine bodyPost_ret (v := .tuple #[.slice none 0 0, .bool false, .int .i64 0]) (by simp [results, Tryz.f70, go_sem]) rfl ?_
    exact ⟨.slice none 0 0, by simp, hB4, fun _ => rfl, fun h => absurd rfl h⟩
  | cons p P =>
    have hne : p :: P ≠ [] := by simp
    generalize p :: P = Q at *
    have HNE := Lib.hid hne
    clear hne
    go_enter Tryz.func70, Tryz.ntmps70
    go_wp2_with fail
    refine (V1.out _ (Below.refl _ _)).mono ?_
    rintro e w1 ⟨rfl, hb1⟩
    go_wp2_with fail
    refine (V2.out _ hb1).mono ?_
    rintro e w2 ⟨rfl, hb2⟩
    have hB2 : Below w.heap.size w w2 := hb1.trans (hb2.mono hb1.size)
    clear hb2 hb1
    go_wp2_with fail
    refine (V3.out _ hB2).mono ?_
    rintro e w3 ⟨v3, rfl, ho3, hb3⟩
    obtain ⟨A3, c3, rfl, hc3, -, -, hp3⟩ := ho3.slice
    have hB3 : Below w.heap.size w w3 := hB2.trans (hb3.mono hB2.size)
    have hcall := caround_any Q.length A3 Q.length c3 Q w3 rfl (Nat.le_refl _) hc3 hp3 HCP.out HNE.out (by omega)
    have HCALL := Lib.hid hcall
    clear hb3 hB2 ho3 hcall hp3
    go_wp2_with fail
    refine HCALL.out.mono ?_
    rintro e w4 ⟨v4, rfl, ho4, hb4⟩
    have hB4 : Below w.heap.size w w4 := hB3.trans (hb4.mono hB3.size)
    have HO4 := Lib.hid (own_mono ho4 hB3.size)
    clear hb4 hB3 ho4
    go_wp2_with fail
    refine bodyPost_ret (v := .tuple #[v4, .bool true, .int .i64 0]) (by simp [results, Tryz.f70, go_sem]) rfl ?_
    exact ⟨v4, by simp [HNE.out], hB4, fun h => absurd h HNE.out, fun _ => HO4.out⟩
end Go.Proofs.YtnhdnkeiijiiaaaGreat
namespace Go.Proofs.YtnhdnkeiijiiaaaGreat
open Go.RowKit Go.Shelf
set_option linter.unusedSimpArgs false
set_option linter.unusedVariables false
attribute [local go_sem ↓] Go.wp_at_zero Go.wp_at_succ
attribute [local go_sem] Oper.semAt_some
theorem polyInfo : (Tryz.prog.info? 39).map (fun i => (i.zero, i.size, i.bytes)) = some (some (.slice none 0 0), 1, 24) := by kernel_rfl
/-- a row of polygons of the call's own, each in a row of the call's own -/
def OwnR (w : World) (base : Nat) (v : Value) (rs : List (List Pt)) : Prop :=
  ∃ us : List Value, w.ownsRow base 39 1 v rs.length us ∧ ∀ (i : Nat) (r : List Pt), rs[i]? = some r → ∃ u, us[i]? = some u ∧ Own w base u r
theorem own_block23 {w : World} {base : Nat} {v : Value} {xs : List Pt} (h : Own w base v xs) {k : Nat} (e : v.ownBlock = some k) : ∃ cs z, w.heap[k]? = some (.cells cs 23 z) := by
  rcases h.2 with ⟨rfl, -⟩ | ⟨g, cap, cur, rfl, hb, hh, -⟩
  · cases e
  · cases e; exact ⟨_, _, hh⟩
theorem ownR_block39 {w : World} {base : Nat} {v : Value} {rs : List (List Pt)} (h : OwnR w base v rs) {k : Nat} (e : v.ownBlock = some k) : base ≤ k ∧ k < w.heap.size ∧ ∃ cs, w.heap[k]? = some (.cells cs 39 (0, 0)) := by
  obtain ⟨us, h1, -⟩ := h
  rcases h1.2 with ⟨rfl, -⟩ | ⟨g, cap, cur, rfl, hb, hh, -⟩
  · cases e
  · cases e; exact ⟨hb, (Array.getElem?_eq_some_iff.1 hh).1, _, hh⟩
theorem ownR_nil (w : World) (base : Nat) : OwnR w base (.slice none 0 0) [] := ⟨[], ⟨rfl, .inl ⟨rfl, rfl⟩⟩, fun i r h => by simp at h⟩
/-- a world in which all rows lie as they lay -/
theorem OwnR.keptG {w w' : World} {base : Nat} {v : Value} {rs : List (List Pt)} (h : OwnR w base v rs) (hk : ∀ k cs t, w.heap[k]? = some (.cells cs t (0, 0)) → (t = 39 → v.ownBlock = some k) → (t = 23 ∨ t = 39) → w'.heap[k]? = some (.cells cs t (0, 0))) : OwnR w' base v rs := by
  obtain ⟨us, h1, h2⟩ := h
  refine ⟨us, ⟨h1.1, ?_⟩, fun i r hr => ?_⟩
  · rcases h1.2 with h0 | ⟨g, cap, cur, rfl, hb, hh, hr⟩
    · exact .inl h0
    · exact .inr ⟨g, cap, cur, rfl, hb, hk _ _ _ hh (fun _ => rfl) (.inr rfl), hr⟩
  · obtain ⟨u, hu, ho⟩ := h2 i r hr
    refine ⟨u, hu, ⟨ho.1, ?_⟩⟩
    rcases ho.2 with h0 | ⟨g, cap, cur, rfl, hb, hh, hr⟩
    · exact .inl h0
    · exact .inr ⟨g, cap, cur, rfl, hb, hk _ _ _ hh (fun e => by cases e) (.inl rfl), hr⟩
theorem OwnR.later {w w' : World} {base : Nat} {v : Value} {rs : List (List Pt)} (h : OwnR w base v rs) (hb : Below w.heap.size w w') : OwnR w' base v rs :=
  h.keptG fun k cs t e _ _ => (hb.block k (Array.getElem?_eq_some_iff.1 e).1).trans e
theorem ownR_mono {w : World} {base base' : Nat} {v : Value} {rs : List (List Pt)} (h : OwnR w base v rs) (hb : base' ≤ base) : OwnR w base' v rs := by
  obtain ⟨us, h1, h2⟩ := h
  refine ⟨us, ⟨h1.1, ?_⟩, fun i r hr => (h2 i r hr).imp fun u hu => ⟨hu.1, own_mono hu.2 hb⟩⟩
  rcases h1.2 with h0 | ⟨g, cap, cur, rfl, hb', hh, hr⟩
  · exact .inl h0
  · exact .inr ⟨g, cap, cur, rfl, Nat.le_trans hb hb', hh, hr⟩
theorem ownR_grown {W W' : World} {row : Option Nat} {base : Nat} {v : Value} {rs : List (List Pt)} (h : OwnR W base v rs) (hg : W.grownBy W' row) (hr : ∀ r, row = some r → ∃ o : Obj, W.heap[r]? = some o ∧ o.isCells = false) : OwnR W' base v rs :=
  h.keptG fun k cs t e _ _ => (grownBy_keeps_cells hg hr e rfl).trans e
theorem ownR_setCell_other {w : World} {base B t : Nat} {v x : Value} {rs : List (List Pt)} (h : OwnR w base v rs) (hne : v.ownBlock ≠ some B) (ht : t ≠ 23) (hB : w.heap[B]? = some (.cells #[x] t (0, 0))) (u : Value) : OwnR (w.setCell ⟨B, 0, none⟩ u) base v rs :=
  h.keptG fun k cs t' e h1 h2 => by
    refine (Below.heap_setCell w ⟨B, 0, none⟩ u k (fun e' => ?_)).trans e
    dsimp only at e'
    subst e'
    rcases h2 with rfl | rfl
    · rw [hB] at e
      simp only [Option.some.injEq, Obj.cells.injEq] at e
      exact ht e.2.1
    · exact hne (h1 rfl)
theorem OwnR.slice {w : World} {base : Nat} {v : Value} {rs : List (List Pt)} (h : OwnR w base v rs) : ∃ A c, v = .slice A rs.length c ∧ rs.length ≤ c ∧ (A = none → rs = [] ∧ c = 0) ∧ (∀ b o t, A = some ⟨b, o, t⟩ → base ≤ b ∧ b < w.heap.size ∧ o = 0 ∧ t = none) ∧ Reg? w.heap.size w A rs := by
  obtain ⟨us, h1, h2⟩ := h
  have h1' := h1
  rcases h1.2 with ⟨rfl, hn⟩ | ⟨g, cap, cur, rfl, hb, hh, hnc, _, hsz, ht⟩
  · have hx : rs = [] := List.eq_nil_of_length_eq_zero hn
    subst hx
    exact ⟨none, 0, rfl, Nat.le_refl _, (fun _ => ⟨rfl, rfl⟩), (fun b o t e => by cases e), fun hp => absurd hp (by simp)⟩
  · have hg : g < w.heap.size := (Array.getElem?_eq_some_iff.1 hh).1
    refine ⟨some ⟨g, 0, none⟩, cap, rfl, hnc, (fun e => by cases e), (fun b o t e => by cases e; exact ⟨hb, hg, rfl, rfl⟩), fun _ => ⟨g, 0, rfl, hg, fun i r hr => ?_⟩⟩
    obtain ⟨u, hu, ho⟩ := h2 i r hr
    obtain ⟨A, c, rfl, -, -, -, hp⟩ := ho.slice
    refine ⟨A, c, ?_, hp⟩
    have h3 := h1'.cells (g := g) rfl i _ hu
    rw [addP] at h3
    exact h3
/-- what a function that hands back a new region says -/
def RetReg (base : Nat) (w : World) (rs : List (List Pt)) (e : Ending) (w' : World) : Prop := ∃ v, e = .returned v ∧ OwnR w' base v rs ∧ Below w.heap.size w w'
theorem own_one {w : World} {base : Nat} {v : Value} {xs : List Pt} (h : Own w base v xs) : v.oneCell' = true := by
  obtain ⟨A, c, rfl, -⟩ := h.slice; rfl
/-- behind an append of a polygon -/
theorem ownR_append {W w' : World} {base : Nat} {v v' u : Value} {rs : List (List Pt)} {r : List Pt} (hown : OwnR W base v rs) (ho : Own W base u r) (hg : W.grownBy w' v.ownBlock) (us : List Value) (h1 : w'.ownsRow base 39 1 v' (rs.length + 1) (us ++ [u])) (hus : us.length = rs.length) (h2 : ∀ (i : Nat) (r : List Pt), rs[i]? = some r → ∃ u, us[i]? = some u ∧ Own W base u r) : OwnR w' base v' (rs ++ [r]) := by
  have key : ∀ u r, Own W base u r → Own w' base u r := fun u r ho => own_kept ho fun k e => by
    obtain ⟨cs, z, hh⟩ := own_block23 ho e
    refine hg.block k (Array.getElem?_eq_some_iff.1 hh).1 fun e' => ?_
    obtain ⟨-, -, cs', hh'⟩ := ownR_block39 hown e'.symm
    rw [hh] at hh'
    cases hh'
  refine ⟨us ++ [u], by rw [List.length_append]; exact h1, fun i r' hr => ?_⟩
  by_cases hi : i < rs.length
  · rw [List.getElem?_append_left hi] at hr
    obtain ⟨u', hu', ho'⟩ := h2 i r' hr
    exact ⟨u', by rw [List.getElem?_append_left (by omega)]; exact hu', key _ _ ho'⟩
  · rw [List.getElem?_append_right (by omega)] at hr
    have : i - rs.length = 0 := by
      rcases Nat.eq_zero_or_pos (i - rs.length) with h | h
      · exact h
      · rw [List.getElem?_eq_none (by simp only [List.length_cons, List.length_nil]; omega)] at hr; cases hr
    rw [this] at hr
    simp at hr
    subst hr
    exact ⟨u, by rw [List.getElem?_append_right (by omega), show i - us.length = 0 by omega]; rfl, key _ _ ho⟩
/-- one polygon appended to a region of the call's own -/
theorem wpList_append_poly {ops : Array Oper} {rest : List Oper} {o : Oper} {a : Act} {Q : Exit → Act → World → Prop} (W1 : World) (hgd : o.guard = none) (s x : Operand)
    (ho : o.op = .call { callee := .builtin .append, args := #[s, x], argTypes := #[27, 27] }) (base : Nat) (v u : Value) (rs : List (List Pt)) (r : List Pt) (hs : a.eval s = v) (hown : OwnR W1 base v rs) (hu : Own W1 base u r)
    (hx : a.eval x = .slice (some ⟨W1.heap.size, 0, none⟩) 1 1) (hb : rs.length + 1 ≤ 2000000000000) (hbase : base ≤ W1.heap.size)
    (h : ∀ v' w', OwnR w' base v' (rs ++ [r]) → Below base W1 w' → W1.heap.size < w'.heap.size → (∀ b, b < W1.heap.size → v.ownBlock ≠ some b → w'.heap[b]? = W1.heap[b]?) → (∀ b, v'.ownBlock = some b → v.ownBlock = some b ∨ W1.heap.size ≤ b) → wpList Tryz.prog ops Q rest (a.put o.dst v') w') :
    wpList Tryz.prog ops Q (o :: rest) a (W1.alloc (.cells #[u] 39)) := by
  have hB : Below W1.heap.size W1 (W1.alloc (.cells #[u] 39)) := (Below.refl _ W1).alloc (Nat.le_refl _) _
  have hown1 := hown.later hB
  have hu1 := hu.later hB
  obtain ⟨us, hr1, hr2⟩ := hown1
  have hul : us.length = rs.length := by have := hr1.1; omega
  obtain ⟨i0, hi, hz0, hz1, hz2⟩ := info_parts polyInfo
  refine wpList_append_own_at _ hgd s x 27 ho base 39 i0 _ 1 24 Tryz.underlying27 hi hz0 hz1 hz2 rfl (by omega) v rs.length us hs hr1 ⟨W1.heap.size, 0, none⟩ 1 1 [u] hx rfl (cell_one_new W1 u 39) (by simp [own_one hu]) (by unfold maxLen; omega) (by omega) (by simp; omega) ?_
  intro v' w' h1 h2 _ h3
  have hsz := h2.size
  simp only [World.size_alloc] at hsz
  have hlt := fun k e => ownR_block39 (hown) (k := k) e
  refine h v' w' (ownR_append (hown.later hB) hu1 h2 us h1 hul hr2) ?_ (by omega) ?_ ?_
  · exact (hB.mono hbase).grown h2 (by simp; omega) (fun k e => (hlt k e).1)
  · intro b hb1 hne
    rw [h2.block b (by simp; omega) (fun e => hne e.symm)]
    exact Below.heap_alloc _ _ _ hb1
  · intro b hb1
    rcases h3 with h3 | h3
    · left; rw [← h3]; exact hb1
    · right; rw [h3] at hb1; simp at hb1; omega
/-- the same, inside a fence -/
theorem wpListIn_append_poly {F : Fence} {nF : Nat} {ops : Array Oper} {rest : List Oper} {o : Oper} {a : Act} {Q : Exit → Act → World → Prop} (W1 : World) (hgd : o.guard = none) (s x : Operand)
    (ho : o.op = .call { callee := .builtin .append, args := #[s, x], argTypes := #[27, 27] }) (base : Nat) (v u : Value) (rs : List (List Pt)) (r : List Pt) (hs : a.eval s = v) (hown : OwnR W1 base v rs) (hu : Own W1 base u r)
    (hx : a.eval x = .slice (some ⟨W1.heap.size, 0, none⟩) 1 1) (hb : rs.length + 1 ≤ 2000000000000) (hbase : base ≤ W1.heap.size)
    (h : ∀ v' w', OwnR w' base v' (rs ++ [r]) → (W1.alloc (.cells #[u] 39)).grownBy w' v.ownBlock → (v'.ownBlock = v.ownBlock ∨ v'.ownBlock = some (W1.alloc (.cells #[u] 39)).heap.size) → wpListIn F nF Tryz.prog ops Q rest (a.put o.dst v') w') :
    wpListIn F nF Tryz.prog ops Q (o :: rest) a (W1.alloc (.cells #[u] 39)) := by
  have hB : Below W1.heap.size W1 (W1.alloc (.cells #[u] 39)) := (Below.refl _ W1).alloc (Nat.le_refl _) _
  have hown1 := hown.later hB
  have hu1 := hu.later hB
  obtain ⟨us, hr1, hr2⟩ := hown1
  have hul : us.length = rs.length := by have := hr1.1; omega
  obtain ⟨i0, hi, hz0, hz1, hz2⟩ := info_parts polyInfo
  refine wpListIn_append_own_at _ hgd s x 27 ho base 39 i0 _ 1 24 Tryz.underlying27 hi hz0 hz1 hz2 rfl (by omega) v rs.length us hs hr1 ⟨W1.heap.size, 0, none⟩ 1 1 [u] hx rfl (cell_one_new W1 u 39) (by simp [own_one hu]) (by unfold maxLen; omega) (by omega) (by simp; omega) ?_
  intro v' w' h1 h2 _ h3
  exact h v' w' (ownR_append (hown.later hB) hu1 h2 us h1 hul hr2) h2 h3
/-- a variable at B that held v holds a region of the call's own; whatever is neither it nor the old row lies as it lay -/
structure PushR (t base B : Nat) (v v' : Value) (ys : List (List Pt)) (w w' : World) : Prop where
  cell : w'.heap[B]? = some (.cells #[v'] t (0, 0))
  own : OwnR w' base v' ys
  at' : ∀ k, v'.ownBlock = some k → v.ownBlock = some k ∨ w.heap.size ≤ k
  os : w'.os = w.os
  tape : w'.tape = w.tape
  output : w'.output = w.output
  size : w.heap.size ≤ w'.heap.size
  block : ∀ k, k < w.heap.size → k ≠ B → v.ownBlock ≠ some k → w'.heap[k]? = w.heap[k]?
theorem pushR_of {t base B : Nat} (ht : t ≠ 23) {v v7 : Value} {ys : List (List Pt)} {w w6 w7 : World} {r : Option Nat} (hBw : Below w.heap.size w w6) (hBlt : B < w.heap.size) (h7 : w7.heap[B]? = some (.cells #[v] t (0, 0))) (hown : OwnR w7 base v7 ys) (hgr : w6.grownBy w7 r) (hr : r = v.ownBlock)
    (hat : v7.ownBlock = r ∨ v7.ownBlock = some w6.heap.size) (hne : v.ownBlock ≠ some B) : PushR t base B v v7 ys w (w7.setCell ⟨B, 0, none⟩ v7) := by
  have hw5 := hBw.size
  refine ⟨one_setCell h7, ownR_setCell_other hown ?_ ht h7 _, fun k hk => ?_, ?_, ?_, ?_, ?_, fun k hk h1 h2 => ?_⟩
  · rcases hat with h | h
    · rw [h, hr]; exact hne
    · rw [h]
      intro e
      simp only [Option.some.injEq] at e

      omega
  · rcases hat with h | h
    · left; rw [← hr, ← h]; exact hk
    · right
      rw [h] at hk
      simp only [Option.some.injEq] at hk
      omega
  · exact hgr.os.trans hBw.os
  · exact hgr.tape.trans hBw.tape
  · exact hgr.output.trans hBw.output
  · rw [World.size_setCell]; exact Nat.le_trans hw5 hgr.size
  · refine (Below.heap_setCell w7 ⟨B, 0, none⟩ v7 k h1).trans ?_
    refine (hgr.block k (by omega) (by rw [hr]; exact fun e => h2 e.symm)).trans ?_
    exact hBw.block k hk
theorem PushR.before {t base B : Nat} {v v' : Value} {ys : List (List Pt)} {w w0 w' : World} (h : PushR t base B v v' ys w0 w') (hb : Below w.heap.size w w0) : PushR t base B v v' ys w w' where
  cell := h.cell
  own := h.own
  at' := fun k e => (h.at' k e).imp id (fun h => Nat.le_trans hb.size h)
  os := h.os.trans hb.os
  tape := h.tape.trans hb.tape
  output := h.output.trans hb.output
  size := Nat.le_trans hb.size h.size
  block := fun k hk h1 h2 => (h.block k (Nat.lt_of_lt_of_le hk hb.size) h1 h2).trans (hb.block k hk)
theorem PushR.after {t base B : Nat} {v v' : Value} {ys : List (List Pt)} {w w0 w' : World} (h : PushR t base B v v' ys w w0) (hb : Below w0.heap.size w0 w') : PushR t base B v v' ys w w' where
  cell := (hb.block B (Array.getElem?_eq_some_iff.1 h.cell).1).trans h.cell
  own := h.own.later hb
  at' := h.at'
  os := hb.os.trans h.os
  tape := hb.tape.trans h.tape
  output := hb.output.trans h.output
  size := Nat.le_trans h.size hb.size
  block := fun k hk h1 h2 => (hb.block k (Nat.lt_of_lt_of_le hk h.size)).trans (h.block k hk h1 h2)
theorem PushR.trans {t base B : Nat} {v v1 v' : Value} {ys zs : List (List Pt)} {w w0 w' : World} (h : PushR t base B v v1 ys w w0) (k : PushR t base B v1 v' zs w0 w') : PushR t base B v v' zs w w' where
  cell := k.cell
  own := k.own
  at' := fun j e => by
    rcases k.at' j e with e' | e'
    · exact h.at' j e'
    · exact .inr (Nat.le_trans h.size e')
  os := k.os.trans h.os
  tape := k.tape.trans h.tape
  output := k.output.trans h.output
  size := Nat.le_trans h.size k.size
  block := fun j hj h1 h2 => (k.block j (Nat.lt_of_lt_of_le hj h.size) h1 (fun e => by
    rcases h.at' j e with e' | e'
    · exact h2 e'
    · omega)).trans (h.block j hj h1 h2)
/-- nothing has happened to it -/
theorem PushR.same {t base B : Nat} {v : Value} {xs : List (List Pt)} {w w' : World} (hB : w.heap[B]? = some (.cells #[v] t (0, 0))) (hO : OwnR w base v xs) (hb : Below w.heap.size w w') : PushR t base B v v xs w w' where
  cell := (hb.block B (Array.getElem?_eq_some_iff.1 hB).1).trans hB
  own := hO.later hb
  at' := fun k e => .inl e
  os := hb.os
  tape := hb.tape
  output := hb.output
  size := hb.size
  block := fun k hk _ _ => hb.block k hk
theorem PushR.ne {t base B : Nat} {v v' : Value} {ys : List (List Pt)} {w w' : World} (h : PushR t base B v v' ys w w') (hne : v.ownBlock ≠ some B) (hB : B < w.heap.size) : v'.ownBlock ≠ some B := fun e => by
  rcases h.at' B e with e' | e'
  · exact hne e'
  · omega
theorem PushR.keeps {t base B : Nat} {v v' : Value} {ys : List (List Pt)} {w w' : World} (h : PushR t base B v v' ys w w') {k : Nat} {o : Obj} (hk : w.heap[k]? = some o) (h1 : k ≠ B) (h2 : v.ownBlock ≠ some k) : w'.heap[k]? = some o := (h.block k (Array.getElem?_eq_some_iff.1 hk).1 h1 h2).trans hk
set_option maxRecDepth 100000 in
set_option maxHeartbeats 4000000 in
theorem add_ok (base Bt : Nat) (v u : Value) (rs : List (List Pt)) (r : List Pt) (w : World) (hB : w.heap[Bt]? = some (.cells #[v] 100 (0, 0))) (hO : OwnR w base v rs) (hu : Own w base u r) (hlen : rs.length ≤ 1000000) (hbase : base ≤ w.heap.size) :
    Calls Tryz.prog 69 #[.pointer (some ⟨Bt, 0, none⟩), u, .bool true, .int .i64 0] w fun e w' => e = .returned (.tuple #[]) ∧ ∃ v', PushR 100 base Bt v v' (rs ++ [r]) w w' := by
  have hBlt : Bt < w.heap.size := (Array.getElem?_eq_some_iff.1 hB).1
  have c0 : w.cell? ⟨Bt, 0, none⟩ = some v := by simp [World.cell?, hB]
  have hne : v.ownBlock ≠ some Bt := fun e => by
    obtain ⟨-, -, cs, hh⟩ := ownR_block39 hO e
    rw [hB] at hh; cases hh
  have HB := Lib.hid hB
  have HO := Lib.hid hO
  obtain ⟨Au, cu, eu, -⟩ := hu.slice
  generalize hlr : r.length = lr at eu
  subst eu
  have HU := Lib.hid hu
  clear hB hO hu hlr
  refine (callsIn_wide (n := 6)).1 ?_
  refine callsIn_of_wp Tryz.func69 rfl trivial ?_ rfl
  simp only [Tryz.ntmps69, List.size_toArray, List.length_cons, List.length_nil, Nat.reduceAdd, Nat.reduceSub, Array.replicate_succ, Array.replicate_zero, List.push_toArray, List.append_toArray, List.nil_append, List.cons_append]
  gi_wp2_with (gi_at_builtin; go_must (refine wpListIn_append_poly _ (by rfl) (.tmp 17) (.tmp 19) (by rfl) base _ _ rs r (by rfl) HO.out HU.out (by rfl) (by omega) hbase ?_))
  intro v7 w7 hown hgr hat
  have hb3 : Below w.heap.size w (w.alloc (.cells #[.slice Au lr cu] 39)) := (Below.refl _ w).alloc (Nat.le_refl _) _
  have h7 : w7.heap[Bt]? = some (.cells #[v] 100 (0, 0)) := by
    refine (hgr.block Bt (by simp; omega) (fun e => hne e.symm)).trans ?_
    exact (hb3.block Bt hBlt).trans HB.out
  have c7 : w7.cell? ⟨Bt, 0, none⟩ = some v := by simp [World.cell?, h7]
  have f7 : w7.frozen? ⟨Bt, 0, none⟩ = false := by simp [World.frozen?, h7]
  have hpd := pushR_of (t := 100) (by decide) (w := w) hb3 hBlt h7 hown hgr rfl (hat.imp id (fun h => by rw [World.size_alloc]; exact h)) hne
  obtain ⟨A7, q7, e7, _⟩ := hown.slice
  generalize hL7 : (rs ++ [r]).length = L7 at e7
  subst e7
  have HPD := Lib.hid hpd
  clear hown hgr hat h7 hpd hb3
  gi_wp2
  go_end0
  exact ⟨rfl, _, HPD.out⟩
set_option maxRecDepth 100000 in
set_option maxHeartbeats 4000000 in
theorem add_no (Bt : Nat) (u : Value) (e : Int) (w : World) :
    Calls Tryz.prog 69 #[.pointer (some ⟨Bt, 0, none⟩), u, .bool false, .int .i64 e] w fun e w' => e = .returned (.tuple #[]) ∧ w' = w := by
  refine (callsIn_wide (n := 6)).1 ?_
  refine callsIn_of_wp Tryz.func69 rfl trivial ?_ rfl
  simp only [Tryz.ntmps69, List.size_toArray, List.length_cons, List.length_nil, Nat.reduceAdd, Nat.reduceSub, Array.replicate_succ, Array.replicate_zero, List.push_toArray, List.append_toArray, List.nil_append, List.cons_append]
  gi_wp2
  go_end0
  exact ⟨rfl, rfl⟩
end Go.Proofs.YtnhdnkeiijiiaaaGreat
namespace Go.Proofs.YtnhdnkeiijiiaaaGreat
open Go.RowKit Go.Shelf
set_option linter.unusedSimpArgs false
set_option linter.unusedVariables false
attribute [local go_sem ↓] Go.wp_at_zero Go.wp_at_succ
theorem Reg?.at {n₀ : Nat} {w : World} {A : Option Addr} {rs : List (List Pt)} (h : Reg? n₀ w A rs) {i : Nat} (hi : i < rs.length) : ∃ b off, A = some ⟨b, off, none⟩ ∧ b < n₀ ∧ ∃ Ai ci, w.cell? ⟨b, off + i, none⟩ = some (.slice Ai (rs.getD i []).length ci) ∧ Pts? n₀ w Ai (rs.getD i []) := by
  obtain ⟨b, off, e, hlt, hc⟩ := h (by omega)
  have hg : rs[i]? = some (rs.getD i []) := by rw [List.getD_eq_getElem?_getD, List.getElem?_eq_getElem hi]; rfl
  obtain ⟨Ai, ci, h1, h2⟩ := hc i _ hg
  exact ⟨b, off, e, hlt, Ai, ci, h1, h2⟩
theorem covered_none {l : List (List Pt)} {i : Nat} (h : ∀ k, k < l.length → coverB l i k = false) : coveredS l i = false := by
  unfold coveredS
  rw [List.any_eq_false]
  exact fun k hk => by rw [h k (List.mem_range.1 hk)]; simp
theorem covered_some {l : List (List Pt)} {i k : Nat} (hk : k < l.length) (h : coverB l i k = true) : coveredS l i = true := by
  unfold coveredS
  rw [List.any_eq_true]
  exact ⟨k, List.mem_range.2 hk, h⟩
set_option maxHeartbeats 3200000 in
set_option maxRecDepth 100000 in
theorem covered_any (Bt : Nat) (A : Option Addr) (n c i : Nat) (rs : List (List Pt)) (w : World) (hn : rs.length = n) (hi : i < n) (hbig : n ≤ 1000000) (ct : w.cell? ⟨Bt, 0, none⟩ = some (.slice A n c)) (hx : Reg? w.heap.size w A rs) (hv : ∀ r ∈ rs, validB r = true) :
    Calls Tryz.prog 93 #[.pointer (some ⟨Bt, 0, none⟩), .int .i64 i] w fun e w' => e = .returned (.bool (coveredS rs i)) ∧ Below w.heap.size w w' := by
  have hvi := getD_valid hv (i := i) (by omega)
  obtain ⟨b, off, rfl, hb, Ai, ci, hc0, hp0⟩ := hx.at (i := i) (by omega)
  have HX := Lib.hid hx
  have HN := Lib.hid hn
  have HV := Lib.hid hv
  have HVI := Lib.hid hvi
  have HP0 := Lib.hid hp0
  have hin : (i : Int) < (n : Int) := by omega
  have hi0 : (0 : Int) ≤ (i : Int) := by omega
  clear hx hn hv hvi hp0
  go_enter Tryz.func93, Tryz.ntmps93
  go_wp2_with fail
  go_loopg [15] (n + 1) (fun g s15 wr => ∃ k : Nat, k ≤ n ∧ g + k = n + 1 ∧ s15 = .int .i64 k ∧ Aside (∀ j, j < k → coverB rs i j = false) ∧ Below w.heap.size w wr)
  case atStart => exact ⟨0, by omega, by omega, rfl, fun j hj => absurd hj (by omega), Below.refl _ _⟩
  case round =>
    obtain ⟨k, hk, hg, rfl, hno, hBr⟩ := hrel
    have HNO := Lib.hid hno
    clear hno
    have ctr := (hBr.cell (p := ⟨Bt, 0, none⟩) (World.block_lt_of_cell? _ _ ct)).trans ct
    by_cases hlt : k < n
    · have hvk := getD_valid HV.out (i := k) (by rw [HN.out]; exact hlt)
      obtain ⟨b', off', e', hb', Ak, ck, hck, hpk⟩ := HX.out.at (i := k) (by rw [HN.out]; exact hlt)
      cases e'
      have hci := (hBr.cell (p := ⟨b, off + i, none⟩) hb).trans hc0
      replace hck := (hBr.cell (p := ⟨b, off + k, none⟩) hb).trans hck
      have hlt2 : (k : Int) < (n : Int) := by omega
      have hw := Within_any Ai Ak _ ci _ ck (rs.getD i []) (rs.getD k []) wr rfl rfl ((HP0.out.upto hBr).mono hBr.size) ((hpk.upto hBr).mono hBr.size) HVI.out hvk
      have heq := fun W (hb : Below wr.heap.size wr W) => equal_any Ai Ak (rs.getD i []).length (rs.getD k []).length ci ck (rs.getD i []) (rs.getD k []) W rfl rfl (by have := len_of_valid HVI.out; omega) (by have := len_of_valid hvk; omega) (((HP0.out.upto hBr).mono hBr.size).later hb) (((hpk.upto hBr).mono hBr.size).later hb)
      have hcov : coverB rs i k = (withinS (rs.getD i []) (rs.getD k []) && (decide (k ≠ i) && (decide (k < i) || decide (rs.getD i [] ≠ rs.getD k [])))) := rfl
      have hstep : coverB rs i k = false → ∀ j, j < k + 1 → coverB rs i j = false := fun h j hj => by
        rcases Nat.lt_or_eq_of_le (Nat.lt_succ_iff.1 hj) with h' | rfl
        · exact HNO.out j h'
        · exact h
      have hdone : coverB rs i k = true → coveredS rs i = true := fun h => covered_some (by rw [HN.out]; exact hlt) h
      have HEQ := Lib.hid heq
      have HW := Lib.hid hw
      clear heq hw
      generalize withinS (rs.getD i []) (rs.getD k []) = bw at *
      generalize (rs.getD i []).length = li at *
      generalize (rs.getD k []).length = lk at *
      go_wp2_with fail
      refine HW.out.mono ?_
      rintro e w1 ⟨rfl, hb1⟩
      have hBr1 : Below w.heap.size w w1 := hBr.trans (hb1.mono hBr.size)
      have HE1 := Lib.hid (HEQ.out w1 hb1)
      replace ctr := kp hb1 ctr
      replace hci := kp hb1 hci
      clear hck HW HEQ hvk hpk
      cases bw with
      | false =>
        by_cases hki : k = i
        · subst hki
          have hcf : coverB rs k k = false := by rw [hcov]; simp
          have HST := Lib.hid (hstep hcf)
          clear hcf hcov hstep hdone
          go_wp2_with fail
          go_roundg (gk - 1)
          case measure => omega
          case rel => exact ⟨k + 1, by omega, by omega, by go_num, HST.out, hBr1⟩
        · have hki2 : ¬ (k : Int) = (i : Int) := by omega
          have hcf : coverB rs i k = false := by rw [hcov]; simp
          have HST := Lib.hid (hstep hcf)
          clear hcf hcov hstep hdone
          go_wp2_with fail
          go_roundg (gk - 1)
          case measure => omega
          case rel => exact ⟨k + 1, by omega, by omega, by go_num, HST.out, hBr1⟩
      | true =>
        by_cases hki : k = i
        · subst hki
          have hcf : coverB rs k k = false := by rw [hcov]; simp
          have HST := Lib.hid (hstep hcf)
          clear hcf hcov hstep hdone
          go_wp2_with fail
          go_roundg (gk - 1)
          case measure => omega
          case rel => exact ⟨k + 1, by omega, by omega, by go_num, HST.out, hBr1⟩
        · have hki2 : ¬ (k : Int) = (i : Int) := by omega
          by_cases hlt3 : k < i
          · have hlt4 : (k : Int) < (i : Int) := by omega
            have hcf : coverB rs i k = true := by rw [hcov]; simp [hki, hlt3]
            have HD := Lib.hid (hdone hcf)
            clear hcf hcov hstep hdone
            go_wp2_with fail
            go_ret
            exact ⟨by rw [HD.out]; rfl, hBr1⟩
          · have hlt4 : ¬ (k : Int) < (i : Int) := by omega
            by_cases hpq : rs.getD i [] = rs.getD k []
            · have hd : decide (rs.getD i [] = rs.getD k []) = true := by simpa using hpq
              have hcf : coverB rs i k = false := by rw [hcov]; simp only [hpq]; simp [hlt3]
              have he := HE1.out
              rw [hd] at he
              have HE2 := Lib.hid he
              have HST := Lib.hid (hstep hcf)
              clear hcf hcov hstep hdone he hd hpq HE1
              go_wp2_with fail
              refine HE2.out.mono ?_
              rintro e w2 ⟨rfl, hb2⟩
              have hBr2 : Below w.heap.size w w2 := hBr1.trans (hb2.mono hBr1.size)
              clear hb2 hBr1 ctr hci
              go_wp2_with fail
              go_roundg (gk - 1)
              case measure => omega
              case rel => exact ⟨k + 1, by omega, by omega, by go_num, HST.out, hBr2⟩
            · have hd : decide (rs.getD i [] = rs.getD k []) = false := by simpa using hpq
              have hd2 : decide (rs.getD i [] ≠ rs.getD k []) = true := decide_eq_true hpq
              have hcf : coverB rs i k = true := by rw [hcov, hd2]; simp [hki]
              have he := HE1.out
              rw [hd] at he
              have HE2 := Lib.hid he
              have HD := Lib.hid (hdone hcf)
              clear hcf hcov hstep hdone he hd hpq HE1
              go_wp2_with fail
              refine HE2.out.mono ?_
              rintro e w2 ⟨rfl, hb2⟩
              have hBr2 : Below w.heap.size w w2 := hBr1.trans (hb2.mono hBr1.size)
              clear hb2 hBr1 ctr hci
              go_wp2_with fail
              go_ret
              exact ⟨by rw [HD.out]; rfl, hBr2⟩
    · obtain rfl : k = n := by omega
      have hnlt : ¬ ((k : Int) < (k : Int)) := by omega
      have HD := Lib.hid (covered_none (l := rs) (i := i) (fun j hj => HNO.out j (by rw [← HN.out]; exact hj)))
      clear ctr
      go_wp2_with fail
      go_ret
      exact ⟨by rw [HD.out]; rfl, hBr⟩
end Go.Proofs.YtnhdnkeiijiiaaaGreat
namespace Go.Proofs.YtnhdnkeiijiiaaaGreat
open Go.RowKit Go.Shelf
set_option linter.unusedSimpArgs false
set_option linter.unusedVariables false
attribute [local go_sem] Oper.semAt_some
/-- points appended to a row of the call's own, inside a fence -/
theorem wpListIn_append_pts {F : Fence} {nF : Nat} {ops : Array Oper} {rest : List Oper} {o : Oper} {a : Act} {Q : Exit → Act → World → Prop} (w : World) (hgd : o.guard = none) (s x : Operand)
    (ho : o.op = .call { callee := .builtin .append, args := #[s, x], argTypes := #[39, 39] }) (base : Nat) (v : Value) (xs : List Pt) (hs : a.eval s = v) (hown : Own w base v xs)
    (A : Option Addr) (m c : Nat) (ys : List Pt) (hx : a.eval x = .slice A m c) (hA : A ≠ none) (hl : ys.length = m) (hr : Pts? w.heap.size w A ys) (hb : xs.length + m ≤ 2000000000000) (hbase : base ≤ w.heap.size)
    (h : ∀ v' w', Own w' base v' (xs ++ ys) → w.grownBy w' v.ownBlock → (v'.ownBlock = v.ownBlock ∨ v'.ownBlock = some w.heap.size) → wpListIn F nF Tryz.prog ops Q rest (a.put o.dst v') w') :
    wpListIn F nF Tryz.prog ops Q (o :: rest) a w := by
  obtain ⟨i0, hi, hz0, hz1, hz2⟩ := info_parts ptInfo
  cases A with
  | none => exact absurd rfl hA
  | some ad =>
    refine wpListIn_append_own_at w hgd s x 39 ho base 23 i0 _ 2 16 Tryz.underlying39 hi hz0 hz1 hz2 rfl (by omega) v xs.length (flat xs) hs hown ad m c (flat ys) hx (by rw [flat_len, hl]) hr.news flat_one (by unfold maxLen; omega) (by omega) hbase ?_
    intro v' w' h1 h2 _ h4
    exact h v' w' (by unfold Own; rw [flat_app, List.length_append, hl]; exact h1) h2 h4
theorem append_poly_grow (z : World) (base base2 g c gb m : Nat) (ty : TypeId) (rs : List (List Pt)) (r : List Pt) (u : Value) (hx : OwnR z base2 (.slice (some ⟨g, 0, none⟩) rs.length c) rs) (hu : Own z base2 u r) (hm : m ≤ rs.length) (hc : z.cell? ⟨gb, 0, none⟩ = some u) (hs : m ≤ 10000000) (hb : base ≤ z.heap.size) (hb2 : base ≤ base2) :
    ∃ (cap : Nat) (cells : Array Value), (Builtin.append_ #[27, 27] ty #[.slice (some ⟨g, 0, none⟩) m m, .slice (some ⟨gb, 0, none⟩) 1 1]).run Tryz.prog z = .ok (.slice (some ⟨z.heap.size, 0, none⟩) (m + 1) cap) (z.drew.alloc (.cells cells 39)) ∧
      OwnR (z.drew.alloc (.cells cells 39)) base (.slice (some ⟨z.heap.size, 0, none⟩) (m + 1) cap) (rs.take m ++ [r]) := by
  obtain ⟨i0, hi, hz0, hz1, hz2⟩ := info_parts polyInfo
  obtain ⟨us, h1, h2⟩ := hx
  have hul : us.length = rs.length := by have := h1.1; omega
  have hcl := h1.cells (g := g) rfl
  have hap := run_append_grow (P := Tryz.prog) z 27 ty 39 i0 _ Tryz.underlying27 hi hz0 ⟨g, 0, none⟩ m m (us.take m) (by rw [List.length_take, hz1]; omega) (fun j u hj => hcl j u (by
      rw [List.getElem?_take] at hj
      split at hj
      · exact hj
      · cases hj)) ⟨gb, 0, none⟩ 1 1 [u] (by rw [hz1]; rfl) (fun j u' hj => by
        match j, hj with
        | 0, hj => cases hj; rw [addP]; exact hc
        | j + 1, hj => simp at hj) (by omega) (by omega) (growslice_fits (by omega) (by rw [hz2]; omega))
  have hge := grownCap_ge z (m + 1) m 39
  have hle := grownCap_le_maxLen z (m + 1) m 39 (by unfold maxLen; omega)
  have hbz : Below z.heap.size z (z.drew.alloc (.cells ((us.take m).toArray ++ [u].toArray ++ Builtin.zeroCells (Value.slice none 0 0).cells (grownCap z (m + 1) m 39 - (m + 1))) 39)) := by
    have : Below z.heap.size z z.drew := Below.drew (Below.refl _ _)
    exact this.alloc (Nat.le_refl _) _
  refine ⟨_, _, hap, us.take m ++ [u], ⟨?_, .inr ⟨z.heap.size, _, _, ?_, hb, heap_alloc_new z.drew _, ?_, hle, ?_, ?_⟩⟩, fun i r' hr => ?_⟩
  · simp only [List.length_append, List.length_take, List.length_cons, List.length_nil]; omega
  · rw [show (rs.take m ++ [r]).length = m + 1 by rw [List.length_append, List.length_take]; simp; omega]
  · simp only [List.length_append, List.length_take, List.length_cons, List.length_nil]; omega
  · have h9 : ∀ k : Nat, (Builtin.zeroCells (Value.slice none 0 0).cells k).size = k * 1 := fun k => size_zeroCells _ k
    simp only [Array.size_append, List.size_toArray, h9, List.length_take, List.length_cons, List.length_nil]
    omega
  · simp only [Array.toList_append, List.length_append, List.length_take, List.length_cons, List.length_nil, ← List.append_assoc]
    rw [List.take_append_of_le_length (by simp; omega), List.take_of_length_le (by simp; omega)]
  · by_cases hi : i < m
    · rw [List.getElem?_append_left (by rw [List.length_take]; omega), List.getElem?_take, if_pos hi] at hr
      obtain ⟨u', hu', ho'⟩ := h2 i r' hr
      exact ⟨u', by rw [List.getElem?_append_left (by rw [List.length_take]; omega), List.getElem?_take, if_pos hi]; exact hu', own_mono (ho'.later hbz) hb2⟩
    · rw [List.getElem?_append_right (by rw [List.length_take]; omega)] at hr
      have hl : (rs.take m).length = m := by rw [List.length_take]; omega
      rw [hl] at hr
      have : i - m = 0 := by
        rcases Nat.eq_zero_or_pos (i - m) with h | h
        · exact h
        · rw [List.getElem?_eq_none (by simp only [List.length_cons, List.length_nil]; omega)] at hr; cases hr
      rw [this] at hr
      simp at hr
      subst hr
      exact ⟨u, by rw [List.getElem?_append_right (by rw [List.length_take]; omega), show i - (us.take m).length = 0 by rw [List.length_take]; omega]; rfl, own_mono (hu.later hbz) hb2⟩
/-- what stays of the first k -/
def keptP (l : List (List Pt)) (k : Nat) : List (List Pt) := ((List.range k).filter fun i => !coveredS l i).map fun i => l.getD i []
theorem keptP_succ (l : List (List Pt)) (k : Nat) : keptP l (k + 1) = keptP l k ++ (if coveredS l k then [] else [l.getD k []]) := by
  unfold keptP
  rw [List.range_succ, List.filter_append, List.map_append]
  congr 1
  cases h : coveredS l k <;> simp [List.filter, h]
theorem keptP_len (l : List (List Pt)) (k : Nat) : (keptP l k).length ≤ k := by
  unfold keptP
  rw [List.length_map]
  exact Nat.le_trans (List.length_filter_le _ _) (by simp)
theorem eights_take {l : List (List Pt)} {j : Nat} {r : List Pt} (h : l[j]? = some r) : (l.take (j + 1)).flatMap eightS = (l.take j).flatMap eightS ++ eightS r := by
  rw [List.take_add_one, h]; simp
set_option maxRecDepth 100000 in
set_option maxHeartbeats 4000000 in
theorem tidied_any (Bt : Nat) (A : Option Addr) (n c : Nat) (rs : List (List Pt)) (w : World) (hn : rs.length = n) (hbig : n ≤ 4000) (ct : w.cell? ⟨Bt, 0, none⟩ = some (.slice A n c)) (hx : Reg? w.heap.size w A rs) (hv : ∀ r ∈ rs, validB r = true) :
    Calls Tryz.prog 71 #[.pointer (some ⟨Bt, 0, none⟩)] w (RetReg w.heap.size w (tidiedS rs)) := by
  have HX := Lib.hid hx
  have HN := Lib.hid hn
  have HV := Lib.hid hv
  have hBt := World.block_lt_of_cell? _ _ ct
  dsimp only at hBt
  have hcv := fun (i : Nat) (hi : i < n) (W : World) (hB : Below w.heap.size w W) => covered_any Bt A n c i rs W hn hi (by omega) ((hB.cell (p := ⟨Bt, 0, none⟩) hBt).trans ct) ((hx.upto hB).mono hB.size) hv
  have HCV := Lib.hid hcv
  have hp : ∀ ops, PlainOps Fence.wide ops := fun ops => plainOps_none rfl
  clear hx hn hv hcv
  refine (callsIn_wide (n := 6)).1 ?_
  refine callsIn_of_wp Tryz.func71 rfl trivial ?_ rfl
  simp only [Tryz.ntmps71, List.size_toArray, List.length_cons, List.length_nil, Nat.reduceAdd, Nat.reduceSub, Array.replicate_succ, Array.replicate_zero, List.push_toArray, List.append_toArray, List.nil_append, List.cons_append]
  gi_wp2
  gi_loopw [18, 3] (fun s18 s3 wr => ∃ k : Nat, k ≤ n ∧ s18 = .int .i64 k ∧ OwnR wr w.heap.size s3 (keptP rs k) ∧ Below w.heap.size w wr)
    (fun s18 _ _ => n - (intOf s18).toNat)
  case atStart => exact ⟨0, Nat.zero_le _, rfl, ownR_nil _ _, Below.refl _ _⟩
  case round =>
    obtain ⟨k, hk, rfl, hO, hBr⟩ := hrel
    have HO := Lib.hid hO
    clear hO
    by_cases hlt : k < n
    · have hvk := getD_valid HV.out (i := k) (by rw [HN.out]; exact hlt)
      obtain ⟨b', off', rfl, hb', Ak, ck, hck, hpk⟩ := HX.out.at (i := k) (by rw [HN.out]; exact hlt)
      replace hck := (hBr.cell (p := ⟨b', off' + k, none⟩) hb').trans hck
      have hlt2 : (k : Int) < (n : Int) := by omega
      have hcall := HCV.out k hlt wr hBr
      have hsn := keptP_succ rs k
      have hkl := keptP_len rs k
      have hlk := len_of_valid hvk
      have hcl := fun W (hB : Below wr.heap.size wr W) => clone_any Ak (rs.getD k []).length ck (rs.getD k []) W rfl (fun e => by subst e; exact absurd (hpk (by omega)) (by rintro ⟨b, o, e, _⟩; cases e)) (((hpk.upto hBr).mono hBr.size).later hB) (by omega)
      have HCL := Lib.hid hcl
      have HSN := Lib.hid hsn
      clear hsn hcl hvk hpk
      generalize coveredS rs k = cv at *
      generalize rs.getD k [] = Rk at *
      generalize Rk.length = lk at *
      have HC := Lib.hid hcall
      clear hcall
      cases cv with
      | true =>
        have hs9 : keptP rs (k + 1) = keptP rs k := by rw [HSN.out]; simp
        have HS9 := Lib.hid hs9
        clear hs9
        gi_wp2
        refine ⟨trivial, (callsIn_wide.2 HC.out).mono ?_⟩
        rintro e w1 ⟨rfl, hb1⟩
        have hB1 : Below w.heap.size w w1 := hBr.trans (hb1.mono hBr.size)
        have HO1 := Lib.hid (HO.out.later hb1)
        clear hb1 hck
        gi_wp2
        go_roundw
        case rel => exact ⟨k + 1, by omega, by go_num, by rw [HS9.out]; exact HO1.out, hB1⟩
        case measure => simp [intOf]; omega
      | false =>
        have hs9 : keptP rs (k + 1) = keptP rs k ++ [Rk] := by rw [HSN.out]; simp
        have HS9 := Lib.hid hs9
        clear hs9
        gi_wp2
        refine ⟨trivial, (callsIn_wide.2 HC.out).mono ?_⟩
        rintro e w1 ⟨rfl, hb1⟩
        have hB1 : Below w.heap.size w w1 := hBr.trans (hb1.mono hBr.size)
        have HO1 := Lib.hid (HO.out.later hb1)
        have HCL1 := Lib.hid (HCL.out w1 hb1)
        clear hb1 hck HC HCL
        gi_wp2
        refine ⟨trivial, (callsIn_wide.2 HCL1.out).mono ?_⟩
        rintro e w2 ⟨v2, rfl, ho2, hb2⟩
        have hB2 : Below w.heap.size w w2 := hB1.trans (hb2.mono hB1.size)
        have HO2 := Lib.hid (HO1.out.later hb2)
        obtain ⟨A2, c2, e2, -⟩ := ho2.slice
        generalize hl2 : Rk.length = l2 at e2
        subst e2
        have HU2 := Lib.hid (own_mono ho2 hB1.size)
        have hsz2 := hB2.size
        clear ho2 hb2 HO1 HCL1
        gi_wp2_with (gi_at_builtin; go_must (refine wpListIn_append_poly _ (by rfl) (.tmp 27) (.tmp 30) (by rfl) w.heap.size _ _ (keptP rs k) Rk (by rfl) HO2.out HU2.out (by rfl) (by omega) hsz2 ?_))
        intro v7 w7 hown7 hgr7 hat7
        rw [← HS9.out] at hown7
        have hB3 : Below w.heap.size w (w2.alloc (.cells #[.slice A2 l2 c2] 39)) := hB2.alloc hsz2 _
        have hB7 : Below w.heap.size w w7 := hB3.grown hgr7 hB3.size (fun j e => (ownR_block39 HO2.out e).1)
        have HO7 := Lib.hid hown7
        clear hown7 hgr7 hat7 hB3 HO2 HU2
        gi_wp2
        go_roundw
        case rel => exact ⟨k + 1, by omega, by go_num, HO7.out, hB7⟩
        case measure => simp [intOf]; omega
    · obtain rfl : k = n := by omega
      have hnlt : ¬ ((k : Int) < (k : Int)) := by omega
      have hkS : keptP rs k = keptS rs := by unfold keptP keptS; rw [HN.out]
      have hO9 := HO.out
      rw [hkS] at hO9
      have hL : (keptS rs).length ≤ 4000 := by have := keptP_len rs k; rw [hkS] at this; omega
      have hvK : ∀ r ∈ keptS rs, validB r = true := fun r hr => HV.out r (kept_sub hr)
      have htd : tidiedS rs = if (keptS rs).length ≤ 32 then keptS rs else (keptS rs).take 31 ++ [octS (((keptS rs).drop 31).flatMap eightS)] := rfl
      obtain ⟨KL, hK⟩ : ∃ KL, KL = keptS rs := ⟨_, rfl⟩
      rw [← hK] at hO9 hL hvK htd
      have HTD := Lib.hid htd
      clear hkS HO htd hK
      obtain ⟨A9, c9, e9, hc9, hA9, -, hr9⟩ := hO9.slice
      obtain ⟨L, hLK⟩ : ∃ L, KL.length = L := ⟨_, rfl⟩
      rw [hLK] at e9 hc9 hL
      subst e9
      by_cases h32 : L ≤ 32
      · have htd := HTD.out
        rw [if_pos (by rw [hLK]; exact h32)] at htd
        have HT2 := Lib.hid htd
        have h32i : (L : Int) ≤ 32 := by omega
        have HO9 := Lib.hid hO9
        clear hO9 hr9 hA9 htd
        gi_wp2
        refine bodyPost_ret (v := .slice A9 L c9) (by simp [results, Tryz.f71, go_sem]) rfl ?_
        exact ⟨_, rfl, by rw [HT2.out]; exact HO9.out, hBr⟩
      · have htd := HTD.out
        rw [if_neg (by rw [hLK]; exact h32)] at htd
        have HT2 := Lib.hid htd
        obtain ⟨M, rfl⟩ : ∃ M, L = M + 31 := ⟨L - 31, by omega⟩
        have h32i : ¬ ((M + 31 : Nat) : Int) ≤ 32 := by omega
        have HO9 := Lib.hid hO9
        have HVK := Lib.hid hvK
        have HLK := Lib.hid hLK
        obtain ⟨g, hg0⟩ : ∃ g, A9 = some ⟨g, 0, none⟩ := by
          cases A9 with
          | none => have := (hA9 rfl).1; rw [this] at hLK; simp at hLK
          | some ad =>
            obtain ⟨b, o, t⟩ := ad
            obtain ⟨_, _, e9, _, _, hk9, _⟩ := hO9.slice
            simp only [Value.slice.injEq] at e9
            obtain ⟨-, -, rfl, rfl⟩ := hk9 b o t e9.1.symm
            exact ⟨b, rfl⟩
        subst hg0
        have hce : ∀ i, i < M + 31 → ∃ Ai ci, wr.cell? ⟨g, i, none⟩ = some (.slice Ai (KL.getD i []).length ci) ∧ Pts? wr.heap.size wr Ai (KL.getD i []) := fun i hi => by
          obtain ⟨b, off, e, hb, Ai, ci, h1, h2⟩ := hr9.at (i := i) (by omega)
          cases e
          exact ⟨Ai, ci, by simpa using h1, h2⟩
        have hgz : g < wr.heap.size := (ownR_block39 hO9 rfl).2.1
        have HCE := Lib.hid hce
        have hcm : ¬ c9 = 31 := by omega
        have hLi : (31 : Int) ≤ ((M + 31 : Nat) : Int) := by omega
        have hLc : ((M + 31 : Nat) : Int) ≤ (c9 : Int) := by omega
        clear hO9 hr9 hA9 hce hvK hLK htd HTD
        gi_wp2
        have hdk : (KL.drop 31).length = M := by rw [List.length_drop, HLK.out]; omega
        have hel := fun j => flatMap_len_le eightS 16 eightS_len ((KL.drop 31).take j)
        have HDK := Lib.hid hdk
        have HEL := Lib.hid hel
        have hws := hBr.size
        clear hdk hel
        obtain ⟨w5, rfl⟩ : ∃ x, x = wr := ⟨_, rfl⟩
        gi_loopw [41, 7] (fun s41 s7 w2 => ∃ j : Nat, j ≤ M ∧ s41 = .int .i64 j ∧ Own w2 w5.heap.size s7 (((KL.drop 31).take j).flatMap eightS) ∧ Below w5.heap.size w5 w2)
          (fun s41 _ _ => M - (intOf s41).toNat)
        case atStart => exact ⟨0, Nat.zero_le _, rfl, by simp only [List.take_zero, List.flatMap_nil]; exact own_nil _ _, Below.refl _ _⟩
        case round =>
          obtain ⟨j, hj, rfl, hOc, hB2⟩ := hrel
          have HOC := Lib.hid hOc
          clear hOc
          by_cases hlt : j < M
          · obtain ⟨Ai, ci, hce, hpe⟩ := HCE.out (31 + j) (by omega)
            replace hce := (hB2.cell (p := ⟨g, 31 + j, none⟩) hgz).trans hce
            have hlt2 : (j : Int) < (M : Int) := by omega
            have hgd : (KL.drop 31)[j]? = some (KL.getD (31 + j) []) := by
              rw [List.getElem?_drop, List.getD_eq_getElem?_getD, List.getElem?_eq_getElem (by have := HLK.out; omega)]; rfl
            have hvj : validB (KL.getD (31 + j) []) = true := HVK.out _ (List.mem_of_mem_drop (List.mem_of_getElem? hgd))
            have hsn := eights_take hgd
            have he8 := Eight_ok Ai _ ci (KL.getD (31 + j) []) wr rfl ((hpe.upto hB2).mono hB2.size) hvj
            have hne8 := (flat_gd (l := [KL.getD (31 + j) []]) (by simpa using hvj) (List.mem_singleton.2 rfl)).ne
            have hel := HEL.out j
            have hel2 : ((KL.drop 31).take j).length ≤ 4000 := by rw [List.length_take]; omega
            have h8l := eightS_len (KL.getD (31 + j) [])
            generalize KL.getD (31 + j) [] = Rj at *
            generalize Rj.length = lj at *
            generalize eightS Rj = Ej at *
            have HSN := Lib.hid hsn
            have HE8 := Lib.hid he8
            have HNE := Lib.hid hne8
            have hsz := hB2.size
            clear hsn he8 hne8 hgd hvj hpe
            gi_wp2
            refine ⟨trivial, (callsIn_wide.2 HE8.out).mono ?_⟩
            rintro e w6 ⟨v6, rfl, ho6, hb6⟩
            have hB6 : Below w5.heap.size w5 w6 := hB2.trans (hb6.mono hsz)
            have HO6 := Lib.hid (HOC.out.later hb6)
            obtain ⟨A6, c6, e6, -, hA6, -, hp6⟩ := ho6.slice
            generalize hl6 : Ej.length = l6 at e6
            subst e6
            have HP6 := Lib.hid hp6
            have hA6' : A6 ≠ none := fun e => HNE.out (hA6 e).1
            have hsz6 := hB6.size
            clear ho6 hp6 hA6 hb6 HOC hce
            gi_wp2_with (gi_at_builtin; go_must (refine wpListIn_append_pts _ (by rfl) (.tmp 50) (.tmp 51) (by rfl) w5.heap.size _ _ (by rfl) HO6.out A6 l6 c6 Ej (by rfl) hA6' hl6 HP6.out (by omega) hsz6 ?_))
            intro v7 w7 hown7 hgr7 hat7
            rw [← HSN.out] at hown7
            have hB7 : Below w5.heap.size w5 w7 := hB6.grown hgr7 hB6.size (fun j e => (own_block_lt HO6.out e).1)
            have HO7 := Lib.hid hown7
            clear hown7 hgr7 hat7 HO6 HP6
            gi_wp2
            go_roundw
            case rel => exact ⟨j + 1, by omega, by go_num, HO7.out, hB7⟩
            case measure => simp [intOf]; omega
          · obtain rfl : j = M := by omega
            have hnlt : ¬ ((j : Int) < (j : Int)) := by omega
            have hO7 := HOC.out
            rw [List.take_of_length_le (by rw [HDK.out]; omega)] at hO7
            have hfl := HEL.out j
            rw [List.take_of_length_le (by rw [HDK.out]; omega), HDK.out] at hfl
            have hne7 : (KL.drop 31).flatMap eightS ≠ [] := by
              obtain ⟨r, hr⟩ : ∃ r, r ∈ KL.drop 31 := List.exists_mem_of_ne_nil _ (by intro e; have := HDK.out; rw [e] at this; simp at this; omega)
              obtain ⟨q, hq⟩ := List.exists_mem_of_ne_nil _ (flat_gd HVK.out (List.mem_of_mem_drop hr)).ne
              exact List.ne_nil_of_mem (List.mem_flatMap.2 ⟨r, hr, hq⟩)
            have hpl7 : ∀ p ∈ (KL.drop 31).flatMap eightS, plB p = true := fun p hp => by
              obtain ⟨s, hs, hq⟩ := List.mem_flatMap.1 hp
              exact (flat_gd HVK.out (List.mem_of_mem_drop hs)).pl p hq
            obtain ⟨A7, c7, e7, hc7, -, -, hp7⟩ := hO7.slice
            have hoct : ((KL.drop 31).flatMap eightS).length = ((KL.drop 31).flatMap eightS).length → octS ((KL.drop 31).flatMap eightS) = octF ((KL.drop 31).flatMap eightS).length ((KL.drop 31).flatMap eightS) := fun _ => rfl
            have hcall := fun W (hB : Below wr.heap.size wr W) => octagon_any ((KL.drop 31).flatMap eightS).length A7 _ c7 ((KL.drop 31).flatMap eightS) W rfl (Nat.le_refl _) hc7 (hp7.later hB) hpl7 hne7 (by omega)
            rw [← hoct rfl] at hcall
            have HT3 := HT2
            generalize hQ : (KL.drop 31).flatMap eightS = Q at *
            generalize hLQ : Q.length = LQ at *
            subst e7
            have HCALL := Lib.hid hcall
            have HO10 := Lib.hid (HO9.out.later hB2)
            have hBw : Below w.heap.size w wr := hBr.trans (hB2.mono hws)
            have hbz : Below wr.heap.size wr wr.drew := Below.drew (Below.refl _ _)
            have hzz := hbz.size
            have hww := hBw.size
            have h31c : (31 : Int) ≤ (c9 : Int) := by omega
            clear hO7 hfl hne7 hpl7 hoct hp7 hcall HOC HO9 hB2 HT3
            gi_wp2
            refine held_begin [0, 1, 2] (fun w9 => Below wr.drew.heap.size wr.drew w9) (by kernel_rfl) (Below.refl _ _) (fun hS => ?_)
            generalize wr.drew = z at *
            refine tk 0 (v := ?_) (hp _) hS rfl (fun _ _ _ _ => trivial) ?_ ?_
            rotate_left 1
            · intro w hw; (try rw [hw]); (try go_split_ands); go_simp <;> with_reducible rfl
            try simp only [Act.put, st]
            refine tk 1 (v := ?_) (hp _) hS rfl (fun _ _ _ _ => trivial) ?_ ?_
            rotate_left 1
            · intro w hw; (try rw [hw]); (try go_split_ands); go_simp <;> with_reducible rfl
            try simp only [Act.put, st]
            refine tk 2 (v := ?_) (hp _) hS rfl (fun _ _ _ _ => trivial) ?_ ?_
            rotate_left 1
            · intro w hw; (try rw [hw]); (try go_split_ands); go_simp <;> with_reducible rfl
            try simp only [Act.put, st]
            refine held_step 3 rfl (hp _) (by kernel_rfl) (by kernel_rfl) (fun K hK => ⟨?_, ?_⟩)
            · exact fun _ _ => trivial
            go_simp
            refine (callsIn_wide.2 (HCALL.out _ (hbz.trans (hS.mono hzz)))).mono ?_
            rintro e w8 ⟨v8, rfl, ho8, hb_8⟩
            have hB_8 : Below z.heap.size z w8 := Below.after' hS hb_8
            have hb38 : Below wr.heap.size wr w8 := hbz.trans (hB_8.mono hzz)
            obtain ⟨A8, c8, e8, -⟩ := ho8.slice
            generalize hl8 : (octS Q).length = l8 at e8
            subst e8
            have hsz8 := hb_8.size
            have hk8 := World.alloc_heap_new w8 (.cells #[.slice A8 l8 c8] 39)
            have hb8 : Below w8.heap.size w8 (w8.alloc (.cells #[.slice A8 l8 c8] 39)) := (Below.refl _ _).alloc (Nat.le_refl _) _
            have hs8 := hB_8.size
            have hs9 := hb38.size
            have hx8 := (HO10.out.later hb38).later hb8
            have hu8 := own_mono (ho8.later hb8) (show w.heap.size ≤ _ from Nat.le_trans hww (Nat.le_trans hzz hS.size))
            rw [← HLK.out] at hx8
            obtain ⟨cap9, cells9, happ, hown9⟩ := append_poly_grow _ w.heap.size w.heap.size g c9 w8.heap.size 31 27 KL (octS Q) _ hx8 hu8 (by have := HLK.out; omega) (by simp only [World.cell?]; rw [hk8]; rfl) (by omega) (by simp; omega) (Nat.le_refl _)
            have HAPP := Lib.hid happ
            have HOWN9 := Lib.hid hown9
            have HBF := Lib.hid (show Below w.heap.size w ((w8.alloc (.cells #[.slice A8 l8 c8] 39)).drew.alloc (.cells cells9 39)) from ((Below.drew ((hBw.trans (hb38.mono hww)).alloc (Nat.le_trans hww hs9) _)).alloc (by simp; omega) _))
            clear happ hown9 hx8 hu8 hk8 hb8 ho8 hb_8 HO10
            have hS := hB_8
            refine hK _ _ hS ?_
            clear hK K
            try simp only [Act.put, st]
            refine held_step 4 rfl (hp _) (by kernel_rfl) (by kernel_rfl) (fun K hK => ⟨?_, ?_⟩)
            · exact fun _ _ => trivial
            go_simp
            have hS := (show Below z.heap.size z (w8.alloc (.cells #[.slice A8 l8 c8] 39)) from hS.alloc hsz8 _)
            refine hK _ _ hS ?_
            clear hK K
            try simp only [Act.put, st]
            refine held_one 5 rfl (hp _) (by kernel_rfl) (by kernel_rfl) (by kernel_rfl) (fun K hK => ⟨?_, ?_⟩)
            · exact fun _ _ => trivial
            rw [run_append_op (s := .tmp 55) (x := .tmp 58) rfl _ _ _ rfl rfl HAPP.out]
            go_simp
            refine hK _ _ ?_
            clear hK K
            try simp only [Act.put, st]
            refine held_one 6 rfl (hp _) (by kernel_rfl) (by kernel_rfl) (by kernel_rfl) (fun K hK => ⟨?_, ?_⟩)
            · exact fun _ _ => trivial
            go_simp
            refine hK _ _ ?_
            clear hK K
            try simp only [Act.put, st]
            refine held_end (by kernel_rfl) ?_
            gi_wp2
            refine bodyPost_ret (v := _) (by simp [results, Tryz.f71, go_sem]; rfl) rfl ?_
            have hx := HOWN9.out
            have hy := HBF.out
            rw [← HT2.out] at hx
            simp at hx hy
            exact ⟨_, rfl, hx, hy⟩
end Go.Proofs.YtnhdnkeiijiiaaaGreat
namespace Go.Proofs.YtnhdnkeiijiiaaaGreat
open Go.RowKit Go.Shelf
set_option linter.unusedSimpArgs false
set_option linter.unusedVariables false
attribute [local go_sem ↓] Go.wp_at_zero Go.wp_at_succ
set_option maxHeartbeats 1600000 in
set_option maxRecDepth 100000 in
/-- region.tidy -/
theorem tidy_any (A : Option Addr) (n c : Nat) (rs : List (List Pt)) (w : World) (hn : rs.length = n) (hbig : n ≤ 4000) (hx : Reg? w.heap.size w A rs) (hv : ∀ r ∈ rs, validB r = true) :
    Calls Tryz.prog 52 #[.slice A n c] w (RetReg w.heap.size w (tidiedS rs)) := by
  have v1 := fun W (hB : Below w.heap.size w W) (B : Nat) (ct : W.cell? ⟨B, 0, none⟩ = some (.slice A n c)) => tidied_any B A n c rs W hn hbig ct (hx.later hB) hv
  have V1 := Lib.hid v1
  clear v1 hx hv hn
  go_enter Tryz.func52, Tryz.ntmps52
  go_wp2_with fail
  refine (V1.out _ (by go_grown) _ (by go_cell)).mono ?_
  rintro e w1 ⟨v1, rfl, ho1, hb1⟩
  have hB1 : Below w.heap.size w w1 := below_after (by go_grown) hb1
  have HO1 := Lib.hid (ownR_mono ho1 (show w.heap.size ≤ _ by simp))
  clear hb1 ho1
  go_wp2_with fail
  go_ret
  exact ⟨_, rfl, HO1.out, hB1⟩
/-- region.Tidy of polygons -/
def RetRegOk (base : Nat) (w : World) (rs : List (List Pt)) (e : Ending) (w' : World) : Prop := ∃ v, e = .returned (.tuple #[v, .int .i64 0]) ∧ OwnR w' base v rs ∧ Below w.heap.size w w'
def RetRegErr (w : World) (k : Int) (e : Ending) (w' : World) : Prop := e = .returned (.tuple #[.slice none 0 0, .int .i64 k]) ∧ Below w.heap.size w w'
set_option maxHeartbeats 1600000 in
set_option maxRecDepth 100000 in
theorem Tidy_ok (A : Option Addr) (n c : Nat) (rs : List (List Pt)) (w : World) (hn : rs.length = n) (hbig : n ≤ 4000) (hx : Reg? w.heap.size w A rs) (hv : ∀ r ∈ rs, validB r = true) :
    Calls Tryz.prog 25 #[.slice A n c] w (RetRegOk w.heap.size w (tidiedS rs)) := by
  have hI : Oks64 rs := fun r hr => ok64_of_pl (pl_of_valid (hv r hr))
  have v0 := fun W (hB : Below w.heap.size w W) => invalid_any A n c rs W hn (by omega) (hx.later hB) hI
  have e0 : (rs.any fun r => !validB r) = false := by rw [any_inv]; simp; exact hv
  rw [e0] at v0
  have v1 := fun W (hB : Below w.heap.size w W) => tidy_any A n c rs W hn hbig (hx.later hB) hv
  have V0 := Lib.hid v0
  have V1 := Lib.hid v1
  have h1 : ¬ ((4000 : Int) < (n : Int)) := by omega
  clear v0 v1 hx hv hn e0 hI
  go_enter Tryz.func25, Tryz.ntmps25
  go_wp2_with fail
  refine (V0.out _ (by go_grown)).mono ?_
  rintro e w1 ⟨rfl, hb1⟩
  go_wp2_with fail
  refine (V1.out _ hb1).mono ?_
  rintro e w2 ⟨v2, rfl, ho2, hb2⟩
  have hB2 : Below w.heap.size w w2 := hb1.trans (hb2.mono hb1.size)
  have HO2 := Lib.hid (ownR_mono ho2 hb1.size)
  clear hb1 hb2 ho2
  go_wp2_with fail
  go_ret2
  exact ⟨_, rfl, HO2.out, hB2⟩
set_option maxHeartbeats 1600000 in
set_option maxRecDepth 100000 in
theorem Tidy_bad (A : Option Addr) (n c : Nat) (rs : List (List Pt)) (w : World) (hn : rs.length = n) (hbig : n ≤ 9223372036854775807) (hx : Reg? w.heap.size w A rs) (hI : Oks64 rs) (hv : n ≤ 4000 → (rs.all validB) = false) :
    Calls Tryz.prog 25 #[.slice A n c] w (RetRegErr w 1) := by
  by_cases h : n ≤ 4000
  · have v0 := fun W (hB : Below w.heap.size w W) => invalid_any A n c rs W hn hbig (hx.later hB) hI
    rw [any_inv, hv h] at v0
    have V0 := Lib.hid v0
    have h1 : ¬ ((4000 : Int) < (n : Int)) := by omega
    clear v0 hx hv hn hI
    go_enter Tryz.func25, Tryz.ntmps25
    go_wp2_with fail
    refine (V0.out _ (by go_grown)).mono ?_
    rintro e w1 ⟨rfl, hb1⟩
    go_wp2_with fail
    go_ret2
    exact ⟨rfl, hb1⟩
  · have h1 : ((4000 : Int) < (n : Int)) := by omega
    clear hv hx hn hI
    go_enter Tryz.func25, Tryz.ntmps25
    go_wp2_with fail
    go_ret2
    exact ⟨rfl, by go_grown⟩
end Go.Proofs.YtnhdnkeiijiiaaaGreat
