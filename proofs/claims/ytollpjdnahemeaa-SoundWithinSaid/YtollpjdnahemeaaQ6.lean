import Derived.Test.YtollpjdnahemeaaQ5
import Derived.RangeFuncNested
import Derived.RangeFuncBound
import Derived.RangeFuncCalls
import Derived.RangeFuncLeaves
import Derived.Shelf.Abstract
import Derived.Shelf.RegionOpen
import Derived.WalkKit
import Derived.OwnWalkIn
import Derived.TacticsInMore
import Derived.LoopNIn
import Derived.LoopIn
import Derived.Maps.AppendAt
import Derived.RangeFuncBox
namespace Go.Proofs.Ytollpjdnahemeaa
open Go.RowKit Go.Shelf
set_option linter.unusedSimpArgs false
set_option linter.unusedVariables false
attribute [local go_sem] Oper.semAt_some

theorem spInfo : (Try.prog.info? 23).map (fun i => (i.zero, i.size, i.bytes)) = some (some (.agg #[.int .i64 0, .int .i64 0]), 2, 16) := by kernel_rfl
def flatS : List (Int × Int) → List Value
  | [] => []
  | s :: l => .int .i64 s.1 :: .int .i64 s.2 :: flatS l
theorem flatS_len : ∀ l, (flatS l).length = l.length * 2
  | [] => rfl
  | s :: l => by simp [flatS, flatS_len l]; omega
theorem flatS_app : ∀ (l : List (Int × Int)) (s : Int × Int), flatS (l ++ [s]) = flatS l ++ [.int .i64 s.1, .int .i64 s.2]
  | [], s => rfl
  | t :: l, s => by simp [flatS, flatS_app l s]
theorem flatS_at : ∀ (l : List (Int × Int)) (i : Nat) (s : Int × Int), l[i]? = some s → (flatS l)[i * 2]? = some (.int .i64 s.1) ∧ (flatS l)[i * 2 + 1]? = some (.int .i64 s.2)
  | [], i, s, h => by simp at h
  | t :: l, 0, s, h => by simp at h; subst h; exact ⟨rfl, rfl⟩
  | t :: l, i + 1, s, h => by
    have h1 := flatS_at l i s (by simpa using h)
    rw [show (i + 1) * 2 = i * 2 + 1 + 1 by omega]
    exact h1
theorem addQ (b off j : Nat) : (⟨b, off, none⟩ : Addr).add j = ⟨b, off + j, none⟩ := by
  unfold Addr.add
  split
  · rename_i h; subst h; rfl
  · rfl
theorem own_spans {w : World} {base n : Nat} {v : Value} {l : List (Int × Int)} (h : w.ownsRow base 23 2 v n (flatS l)) (h0 : 0 < n) : ∃ g c, v = .slice (some ⟨g, 0, none⟩) n c ∧ l.length = n ∧ n ≤ c ∧
    (∀ i s, l[i]? = some s → w.cell? ⟨g, 0 + i * 2, none⟩ = some (.int .i64 s.1) ∧ w.cell? ⟨g, 0 + i * 2 + 1, none⟩ = some (.int .i64 s.2)) := by
  have hl : l.length = n := by
    have := h.1
    rw [flatS_len] at this; omega
  rcases h.2 with ⟨rfl, rfl⟩ | ⟨g, cap, cur, rfl, hb, hh, hnc, _, hsz, ht⟩
  · omega
  · refine ⟨g, cap, rfl, hl, hnc, fun i s hr => ?_⟩
    obtain ⟨h1, h2⟩ := flatS_at l i s hr
    have h3 := h.cells (g := g) rfl _ _ h1
    have h4 := h.cells (g := g) rfl _ _ h2
    rw [addQ] at h3 h4
    exact ⟨by rw [h3], by rw [show 0 + i * 2 + 1 = 0 + (i * 2 + 1) by omega, h4]⟩
theorem cell_two_new (w : World) (x y : Value) (t : TypeId) : ∀ j u, [x, y][j]? = some u → (w.alloc (.cells #[x, y] t)).cell? ((⟨w.heap.size, 0, none⟩ : Addr).add j) = some u := by
  intro j u hj
  match j, hj with
  | 0, hj => simp at hj; subst hj; simp [Addr.add]
  | 1, hj => simp at hj; subst hj; simp [Addr.add]
theorem own_keepT {W W' : World} {base n : Nat} {v : Value} {xs : List Value} (h : W.ownsRow base 23 2 v n xs) (hg : W.grownBy W' v.ownBlock) : KeepT W W' := by
  refine KeepT.grown hg fun k hk cs z e => ?_
  rcases h.2 with ⟨rfl, _⟩ | ⟨g, cap, cur, rfl, _, hh, _⟩
  · simp [Value.ownBlock] at hk
  · simp only [Value.ownBlock, Option.some.injEq] at hk
    subst hk
    rw [hh] at e
    simp at e
theorem box_keepT {W : World} {B : Nat} {v : Value} (h : Boxed W B 84 v) (u : Value) : KeepT W (W.setCell ⟨B, 0, none⟩ u) := by
  refine KeepT.grown (grownBy_setCell' W B u) fun k hk cs z e => ?_
  cases hk
  rw [show W.heap[B]? = _ from h] at e
  simp at e

theorem keepsFrom_below {B : Nat} {W W' : World} (h : Below W.heap.size W W') : KeepsFrom B W W' := ⟨h.size, fun k o _ hk _ => (h.block k (Array.getElem?_eq_some_iff.1 hk).1).trans hk⟩
theorem boxed_later {W W' : World} {B : Nat} {t : TypeId} {v : Value} (h : Boxed W B t v) (hb : Below W.heap.size W W') : Boxed W' B t v := (hb.block B h.lt).trans h
theorem own_later {W W' : World} {base e size k : Nat} {v : Value} {xs : List Value} (h : W.ownsRow base e size v k xs) (hb : Below W.heap.size W W') : W'.ownsRow base e size v k xs := by
  rcases h with ⟨h1, ⟨h2, h3⟩ | ⟨g, cap, cur, h4, h5, h6, h7⟩⟩
  · exact ⟨h1, .inl ⟨h2, h3⟩⟩
  · exact ⟨h1, .inr ⟨g, cap, cur, h4, h5, (hb.block g (Array.getElem?_eq_some_iff.1 h6).1).trans h6, h7⟩⟩
/-- the speeds of the layers that depths meet, as the program finds them -/
def tchM (lo hi : Int) (p : Int × Wt) : Bool := (meetS lo hi p.1 p.2.til).2.2.1
def tlM (lo hi : Int) (ls : List (Int × Wt)) : List (Int × Int) := (ls.filter (tchM lo hi)).map spOf
theorem tlM_hit (lo hi : Int) (pre : List (Int × Wt)) (p : Int × Wt) (h : tchM lo hi p = true) : tlM lo hi (pre ++ [p]) = tlM lo hi pre ++ [(p.2.lo, p.2.hi)] := by simp [tlM, h, spOf]
theorem tlM_miss (lo hi : Int) (pre : List (Int × Wt)) (p : Int × Wt) (h : tchM lo hi p = false) : tlM lo hi (pre ++ [p]) = tlM lo hi pre := by simp [tlM, h]
theorem tlM_length (lo hi : Int) (ls : List (Int × Wt)) : (tlM lo hi ls).length ≤ ls.length := by simp only [tlM, List.length_map]; exact List.length_filter_le _ _
theorem lay_from : ∀ (xs : List Wt) (fr : Int), (∀ p ∈ lay fr xs, okP p = true) → ∀ p ∈ lay fr xs, fr ≤ p.1 ∧ p.2.til ≤ lastT fr xs
  | [], fr, _, p, hp => by simp [lay] at hp
  | x :: xs, fr, h, p, hp => by
    have h0 := (okP_iff _).1 (h (fr, x) (by simp [lay]))
    simp only at h0
    have hs := lay_from xs x.til (fun q hq => h q (by simp [lay, hq]))
    simp only [lay, List.mem_cons] at hp
    rcases hp with rfl | hp
    · refine ⟨Int.le_refl _, ?_⟩
      cases xs with
      | nil => exact Int.le_refl _
      | cons y ys =>
        have h1 := (hs (x.til, y) (by simp [lay]))
        have h2 := (okP_iff _).1 (h (x.til, y) (by simp [lay]))
        simp only [lastT] at h1 h2 ⊢
        omega
    · have h1 := hs p hp
      simp only [lastT]
      omega
theorem tlM_eq {xs : List Wt} {lo hi : Int} (hv : wValid xs = true) (hd : depB lo hi = true) : tlM lo hi (lay 0 xs) = tl lo hi (lay 0 xs) := by
  have v := (wValid_iff xs).1 hv
  have d := (depB_iff lo hi).1 hd
  have hne : xs ≠ [] := by intro e; rw [e] at v; simp at v
  have hl : lastT 0 xs = 100000 := by rw [lastT_frm xs 0 hne, ← v.2.2.1, frm, if_neg (by omega)]
  unfold tlM tl
  refine congrArg _ (List.filter_congr fun p hp => ?_)
  have h1 := lay_from xs 0 v.2.2.2 p hp
  have h2 := (okP_iff p).1 (v.2.2.2 p hp)
  rw [hl] at h1
  unfold tchM meetS
  rw [if_pos (by simp [vld]; omega)]
  by_cases h : lo ≤ p.2.til ∧ p.1 ≤ hi
  · rw [if_neg (by omega), (tchP_iff lo hi p).2 h]
  · rw [if_pos (by omega)]
    cases e : tchP lo hi p with
    | false => rfl
    | true => exact absurd ((tchP_iff lo hi p).1 e) h
set_option maxRecDepth 100000 in
set_option maxHeartbeats 2000000 in
theorem Speed_go (A : Option Addr) (n c : Nat) (xs : List Wt) (dl dh : Int) (w : World) (hn : xs.length = n) (hx : Wts? w.heap.size w A xs) (hv : wValid xs = true) (hd : depB dl dh = true) :
    Calls Try.prog 59 #[.slice A n c, .agg #[.int .i64 dl, .int .i64 dh]] w fun e w' => e = .returned (.tuple #[.agg #[.int .i64 (speedP dl dh xs).1, .int .i64 (speedP dl dh xs).2], .int .i64 0]) ∧ Below w.heap.size w w' := by
  have HV := fun W h => SValid_any A n c xs W hn h
  rw [hv] at HV
  have HU := fun W => upTo_any dl dh 100000 W
  rw [show (decide (0 ≤ dl) && decide (dl ≤ dh) && decide (dh ≤ 100000)) = true from hd] at HU
  have HV := Lib.hid HV
  have HU := Lib.hid HU
  have v20 : n ≤ 20 := by have := ((wValid_iff xs).1 hv).2.1; omega
  obtain ⟨i0, hi, hz0, hz1, hz2⟩ := info_parts spInfo
  refine (callsIn_wide (n := 3)).1 ?_
  refine callsIn_of_wp_marks Try.func59 rfl trivial ?_ rfl
  simp only [Try.ntmps59, List.size_toArray, List.length_cons, List.length_nil, Nat.reduceAdd, Nat.reduceSub, Array.replicate_succ, Array.replicate_zero, List.push_toArray, List.append_toArray, List.nil_append, List.cons_append]
  gi_wp2_with fail
  have hBa : Below w.heap.size w ((w.alloc (.cells #[.int .i64 dl, .int .i64 dh] 23)).alloc (.cells #[.int .i64 0, .int .i64 0] 23)) := by go_grown
  refine ⟨trivial, (callsIn_wide.2 (HV.out _ ((hx.upto hBa).mono (by simp; omega)))).mono ?_⟩
  rintro e w1 ⟨rfl, hb1⟩
  have hB1 : Below w.heap.size w w1 := below_after hBa hb1
  have p0 : w1.cell? ⟨w.heap.size, 0, none⟩ = some (.int .i64 dl) := kp hb1 (by go_cell)
  have p1 : w1.cell? ⟨w.heap.size, 1, none⟩ = some (.int .i64 dh) := kp hb1 (by go_cell)
  have q0 : w1.cell? ⟨w.heap.size + 1, 0, none⟩ = some (.int .i64 0) := kp hb1 (by go_cell)
  have q1 : w1.cell? ⟨w.heap.size + 1, 1, none⟩ = some (.int .i64 0) := kp hb1 (by go_cell)
  have f0 : w1.frozen? ⟨w.heap.size + 1, 0, none⟩ = false := (hb1.frozen (p := ⟨w.heap.size + 1, 0, none⟩) (by simp)).trans (by go_simp)
  have f1 : w1.frozen? ⟨w.heap.size + 1, 1, none⟩ = false := (hb1.frozen (p := ⟨w.heap.size + 1, 1, none⟩) (by simp)).trans (by go_simp)
  clear hb1
  gi_wp2_with fail
  refine ⟨trivial, (callsIn_wide.2 (HU.out _)).mono ?_⟩
  rintro e w2 ⟨rfl, hb2⟩
  have hB2 : Below w.heap.size w w2 := below_after hB1 hb2
  have p0 := kp hb2 p0
  have p1 := kp hb2 p1
  have q0' := kp hb2 q0
  have q1' := kp hb2 q1
  have lq := World.block_lt_of_cell? _ _ q0'
  simp only at lq
  have f0 := (hb2.frozen (p := ⟨w.heap.size + 1, 0, none⟩) (World.block_lt_of_cell? _ _ (by assumption))).trans f0
  have f1 := (hb2.frozen (p := ⟨w.heap.size + 1, 1, none⟩) (World.block_lt_of_cell? _ _ (by assumption))).trans f1
  have q0 := q0'
  have q1 := q1'
  clear hb2 q0' q1'
  gi_wp2_with fail
  refine ⟨trivial, (layers_in Fence.wide 2 trivial rfl _ _ _ _).mono ?_⟩
  rintro e w' ⟨rfl, rfl⟩
  gi_wp2_with fail
  have hc1 : ((w2.alloc (.cells #[.slice none 0 0] 84)).alloc (.cells #[.slice A n c] 60)).cell? ⟨w2.heap.size + 1, 0, none⟩ = some (.slice A n c) := by
    have h9 := Boxed.new (w2.alloc (.cells #[.slice none 0 0] 84)) 60 (.slice A n c)
    rw [World.size_alloc] at h9
    exact h9.cell
  have hc0 := (Boxed.new w2 84 (.slice none 0 0)).alloc (.cells #[.slice A n c] 60)
  have hB0 : Below w2.heap.size w2 ((w2.alloc (.cells #[.slice none 0 0] 84)).alloc (.cells #[.slice A n c] 60)) := ((Below.refl _ w2).alloc (Nat.le_refl _) _).alloc (by simp) _
  have hxW : Wts? w2.heap.size ((w2.alloc (.cells #[.slice none 0 0] 84)).alloc (.cells #[.slice A n c] 60)) A xs := ((hx.upto hB2).mono hB2.size).upto hB0
  refine wpIn_rangeFunc_ownH rfl (by omega) (gf := 99) (lb := #[.pointer (some ⟨w2.heap.size + 1, 0, none⟩)]) rfl trivial (enters_of Try.func99 (by kernel_rfl) rfl)
    (layers_stops Fence.wide _ trivial rfl (by omega) (w2.heap.size + 1) w2.heap.size _ n c xs hn (by omega) _ (by simp) (by simp; omega) hc1 hxW) kp2_t (kp2_b (by simp; omega)) (Below.refl _ _) (fun _ => rfl)
    (fun pre W => (∃ v, Boxed W w2.heap.size 84 v ∧ W.ownsRow w2.heap.size 23 2 v (tlM dl dh pre).length (flatS (tlM dl dh pre)) ∧ True) ∧ Below w2.heap.size w2 W)
    (fun _ _ _ => False)
    (OwnFrom.and (Own.from (holdsRow_own w2.heap.size w2.heap.size 84 23 2 (fun pre => (tlM dl dh pre).length) (fun pre => flatS (tlM dl dh pre)) (fun pre v => True)) _) (ownFrom_below (Nat.le_refl _) (by simp; omega)))
    (fun _ _ _ _ _ hs _ _ => hs)
    ⟨⟨_, hc0, World.ownsRow_nil _ _ _ _, trivial⟩, hB0⟩
    (fun p a' W => ∃ Bx, w2.heap.size < Bx ∧ WtAt W Bx 0 p.2 ∧ a' = { tmps := #[.slice A n c, .agg #[.int .i64 dl, .int .i64 dh], undef, .pointer (some ⟨w.heap.size, 0, none⟩), .pointer (some ⟨w.heap.size + 1, 0, none⟩), .int .i64 0, .pointer (some ⟨w2.heap.size, 0, none⟩), .int .i64 p.1, .pointer (some ⟨Bx, 0, none⟩), undef, undef, undef, .slice A n c, .bool true, .bool false, .bool false, .agg #[.int .i64 dl, .int .i64 dh], .bool true, .bool false, .bool false, undef, .slice A n c, .func (.func 99) #[] #[.pointer (some ⟨w2.heap.size + 1, 0, none⟩)], .int .i64 p.1, p.2.val, undef, undef, undef, undef, undef, undef, undef, undef, undef, undef, undef, undef, undef, undef, undef, undef, undef, undef], defers := [] })
    (fun p a' _ X Y row hs hg hr => by
      obtain ⟨Bx, h1, ⟨h2, h3, h4⟩, h5⟩ := hs
      exact ⟨Bx, h1, ⟨cell_kept h2 hg (fun r e => (hr r e).2), cell_kept h3 hg (fun r e => (hr r e).2), cell_kept h4 hg (fun r e => (hr r e).2)⟩, h5⟩)
    ?assign ?body ?done ?stop
  case assign =>
    rintro l pre p W K ⟨⟨v, hbx, hrow, _⟩, hB⟩ hK
    have hlt9 := hbx.lt
    gi_wp2
    have hbn : Below W.heap.size W (W.alloc (.cells #[.int .i64 p.2.til, .int .i64 p.2.lo, .int .i64 p.2.hi] 68)) := (Below.refl _ W).alloc (Nat.le_refl _) _
    exact hK _ _ ((KeepsOthers.alloc _ _).from _) ⟨hbn.mono hB.size, KeepT.below hbn⟩ ⟨⟨v, hbx.alloc _, hrow.alloc _, trivial⟩, hB.alloc hB.size _⟩ ⟨W.heap.size, hlt9, ⟨by go_cell, by go_cell, by go_cell⟩, rfl⟩
  case body =>
    rintro l pre p a' W hl ⟨r, hr⟩ ⟨⟨v, hbx, hrow, _⟩, hB⟩ ⟨Bx, hBx, ⟨x0, x1, x2⟩, rfl⟩ hlen
    simp only [Nat.zero_add] at x1 x2
    have d0 := (hB.cell (p := ⟨w.heap.size, 0, none⟩) (by simp; omega)).trans p0
    have d1 := (hB.cell (p := ⟨w.heap.size, 1, none⟩) (by simp; omega)).trans p1
    have hm := fun W => Meet_any dl dh p.1 p.2.til W
    have hrt : ∀ b, (meetS dl dh p.1 p.2.til).2.2.1 = b → tchM dl dh p = b := by rintro b rfl; rfl
    have hpl := tlM_length dl dh pre
    generalize (meetS dl dh p.1 p.2.til).1 = m0 at hm
    generalize (meetS dl dh p.1 p.2.til).2.1 = m1 at hm
    generalize (meetS dl dh p.1 p.2.til).2.2.2 = m3 at hm
    generalize (meetS dl dh p.1 p.2.til).2.2.1 = m2 at hm hrt
    have HM := Lib.hid hm
    clear hm
    gi_wp2_with fail
    refine ⟨trivial, (CallsIn.inRound l (callsIn_wide.2 (HM.out W))).mono ?_⟩
    rintro e w3 ⟨rfl, hb3⟩
    have hbz : Below W.heap.size W (w3.alloc (.cells #[.int .i64 m0, .int .i64 m1] 23)) := hb3.alloc hb3.size _
    have HBX := Lib.hid (boxed_later hbx hbz)
    have HROW := Lib.hid (own_later hrow hbz)
    have hBz := hB.trans (hbz.mono hB.size)
    have y1 : (w3.alloc (.cells #[.int .i64 m0, .int .i64 m1] 23)).cell? ⟨Bx, 1, none⟩ = some (.int .i64 p.2.lo) := kp hbz x1
    have y2 : (w3.alloc (.cells #[.int .i64 m0, .int .i64 m1] 23)).cell? ⟨Bx, 2, none⟩ = some (.int .i64 p.2.hi) := kp hbz x2
    have hc6 := HBX.out.cell
    cases m2 with
    | false =>
      have ht := hrt _ rfl
      gi_wp2_with fail
      exact ⟨keepsFrom_below hbz, ⟨hbz.mono hB.size, KeepT.below hbz⟩, ⟨v, HBX.out, by rw [tlM_miss _ _ _ _ ht]; exact HROW.out, trivial⟩, hBz⟩
    | true =>
      have ht := hrt _ rfl
      have hnew : ∀ j u, [Value.int .i64 p.2.lo, .int .i64 p.2.hi][j]? = some u → ((w3.alloc (.cells #[.int .i64 m0, .int .i64 m1] 23)).alloc (.cells #[.int .i64 p.2.lo, .int .i64 p.2.hi] 23)).cell? ((⟨w3.heap.size + 1, 0, none⟩ : Addr).add j) = some u := by
        have h9 := cell_two_new (w3.alloc (.cells #[.int .i64 m0, .int .i64 m1] 23)) (.int .i64 p.2.lo) (.int .i64 p.2.hi) 23
        rw [World.size_alloc] at h9
        exact h9
      gi_wp2_with (gi_at_builtin; refine wpListIn_append_own _ rfl _ _ 84 rfl w2.heap.size 23 i0 (.agg #[.int .i64 0, .int .i64 0]) 2 16 Try.underlying84 hi hz0 hz1 hz2 rfl (by decide) _ _ _ rfl (HROW.out.alloc _) ⟨w3.heap.size + 1, 0, none⟩ 1 1 [.int .i64 p.2.lo, .int .i64 p.2.hi] rfl rfl hnew (by simp [Value.oneCell']) (by unfold maxLen; omega) (by omega) (by have := hBz.size; simp at this ⊢; omega) ?_; intro v' w9 hown' hgrow _; obtain ⟨g', cap', rfl⟩ := ownsRow_succ hown'; obtain ⟨hv1, hv2, hr2, hk2, hb2⟩ := HBX.out.appended (by decide) HROW.out hBz.size (Nat.le_refl _) hown' hgrow; have hc1 := hv1.cell; have hf1 := hv1.frozen)
      exact ⟨(keepsFrom_below hbz).trans (hk2.from _), ⟨(hbz.mono hB.size).trans hb2, ((KeepT.below hbz).trans (KeepT.below ((Below.refl _ (w3.alloc (.cells #[.int .i64 m0, .int .i64 m1] 23))).alloc (Nat.le_refl _) (.cells #[.int .i64 p.2.lo, .int .i64 p.2.hi] 23)))).trans ((own_keepT (HROW.out.alloc _) hgrow).trans (box_keepT hv1 _))⟩, ⟨_, hv2, by rw [tlM_hit _ _ _ _ ht, flatS_app, List.length_append]; exact hr2, trivial⟩, hBz.trans hb2⟩
  case done =>
    rintro D ys W hD rfl ⟨⟨v, hbx, hrow, _⟩, hB⟩ hK
    rw [tlM_eq hv hd] at hrow
    have hne := tl_ne hv hd
    have h0 : 0 < (tl dl dh (lay 0 xs)).length := List.length_pos_iff.2 hne
    have hle : (tl dl dh (lay 0 xs)).length ≤ 20 := by have := tl_length dl dh (lay 0 xs); rw [lay_length] at this; omega
    obtain ⟨g, c9, rfl, hl9, hnc9, hcells⟩ := own_spans hrow h0
    have hj := joined_any g 0 _ c9 (tl dl dh (lay 0 xs)) W hl9 (by omega) h0 hnc9 (tl_ok hv) hcells
    have hsp : speedP dl dh xs = sp1 (tl dl dh (lay 0 xs)) := rfl
    rw [← hsp] at hj
    have HJ := Lib.hid hj
    have hc6 := hbx.cell
    have q0 := (hB.cell (p := ⟨w.heap.size + 1, 0, none⟩) lq).trans q0
    have q1 := (hB.cell (p := ⟨w.heap.size + 1, 1, none⟩) lq).trans q1
    have f0 := (hB.frozen (p := ⟨w.heap.size + 1, 0, none⟩) lq).trans f0
    have f1 := (hB.frozen (p := ⟨w.heap.size + 1, 1, none⟩) lq).trans f1
    generalize (tl dl dh (lay 0 xs)).length = k9 at *
    clear hj hcells hrow hsp hne
    gi_wp2_with fail
    refine ⟨trivial, (callsIn_wide.2 HJ.out).mono ?_⟩
    rintro e w4 ⟨rfl, hb4⟩
    have lqW := World.block_lt_of_cell? _ _ q0
    have q0 := kp hb4 q0
    have q1 := kp hb4 q1
    have f0 := (hb4.frozen (p := ⟨w.heap.size + 1, 0, none⟩) lqW).trans f0
    have f1 := (hb4.frozen (p := ⟨w.heap.size + 1, 1, none⟩) lqW).trans f1
    have hK4 := (hb4.block D (Array.getElem?_eq_some_iff.1 hK).1).trans hK
    have hB4 := hB2.trans ((hB.trans (hb4.mono hB.size)).mono hB2.size)
    clear hb4
    gi_wp2_with fail
    have hK' := ((KeepsOthers.setCell w4 ⟨w.heap.size + 1, 0, none⟩ (.int .i64 (speedP dl dh xs).1)).trans (KeepsOthers.setCell _ ⟨w.heap.size + 1, 1, none⟩ (.int .i64 (speedP dl dh xs).2))).same D _ hK4 rfl
    have hcs := set2s (w := w4) (B := w.heap.size + 1) (.int .i64 (speedP dl dh xs).1) (.int .i64 (speedP dl dh xs).2) (by rw [q0]; rfl) (by rw [q1]; rfl)
    have hc5 := cell_kept hcs.1 (grownBy_putObj' _ D (.deferred none)) (fun r e => by cases e; exact ⟨_, hK', rfl⟩)
    have hc7 := cell_kept hcs.2 (grownBy_putObj' _ D (.deferred none)) (fun r e => by cases e; exact ⟨_, hK', rfl⟩)
    have hB5 : Below w.heap.size w ((w4.setCell ⟨w.heap.size + 1, 0, none⟩ (.int .i64 (speedP dl dh xs).1)).setCell ⟨w.heap.size + 1, 1, none⟩ (.int .i64 (speedP dl dh xs).2)) := (hB4.setCell (p := ⟨w.heap.size + 1, 0, none⟩) (by simp) _).setCell (p := ⟨w.heap.size + 1, 1, none⟩) (by simp) _
    refine ⟨by simp, .inl ⟨_, _, rfl, run_takeDeferred hK', ?_⟩⟩
    refine ⟨.tuple #[.agg #[.int .i64 (speedP dl dh xs).1, .int .i64 (speedP dl dh xs).2], .int .i64 0], ?_, rfl, hB5.trans (belowK_b (w := w) (Nat.le_refl _) _ D _ _ (by simp at hD; omega) hK' rfl rfl)⟩
    simp [results, Try.f59, go_sem, hc5, hc7]
  case stop =>
    rintro D c pre W _ _ h _
    exact h.elim
end Go.Proofs.Ytollpjdnahemeaa
