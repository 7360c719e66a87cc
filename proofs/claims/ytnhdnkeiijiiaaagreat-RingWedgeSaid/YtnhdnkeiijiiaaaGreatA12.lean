import Derived.Test.YtnhdnkeiijiiaaaGreatA11
import Derived.RangeFuncNested
import Derived.RangeFuncBound
import Derived.RangeFuncCalls
import Derived.RangeFuncLeaves
import Derived.RangeFuncBox
import Derived.Shelf.Abstract
import Derived.Shelf.RegionOpen
import Derived.WalkKit
import Derived.OwnWalkIn
import Derived.TacticsInMore
import Derived.LoopNIn
import Derived.LoopIn
import Derived.RegionIn
import Derived.Maps.AppendAt
import Derived.Stop.RegionWithIn
import Derived.Sort.CutIn
namespace Go.Proofs.YtnhdnkeiijiiaaaGreat
open Go.RowKit Go.Shelf
set_option linter.unusedSimpArgs false
set_option linter.unusedVariables false
attribute [local go_sem] Oper.semAt_some
def secS (a : Nat) (lo hi : Int) : List Pt := hullS (secL a 2 lo hi)
theorem distB_iff {lo hi : Int} : distB lo hi = true ↔ 0 ≤ lo ∧ lo ≤ hi ∧ hi ≤ 100000 := by simp [distB, and_assoc]
theorem secL_take {lo hi : Int} (a k : Nat) (P : List Pt) (hk : k < 3) : P ++ ((raysL a 2).take (k + 1)).flatMap (fun k => roundL (atS k) hi 998) = (P ++ ((raysL a 2).take k).flatMap (fun k => roundL (atS k) hi 998)) ++ roundL (atS (a + k)) hi 998 := by
  rw [rays_take_succ (by omega), List.flatMap_append, List.append_assoc]; simp
/-- the points of the sector so far, at B8 -/
structure SecI (w1 : World) (B8 : Nat) (v : Value) (xs : List Pt) (W : World) : Prop where
  below : Below w1.heap.size w1 W
  kept : W.heap[B8]? = some (.cells #[v] 39 (0, 0))
  ge8 : w1.heap.size ≤ B8
  own : Own W w1.heap.size v xs
  at' : ∀ k, v.ownBlock = some k → k ≠ B8
/-- the first points are laid down -/
theorem sec_store {z W w1 : World} {B8 : Nat} {u v : Value} {xs : List Pt} (hz : Below z.heap.size z W)
    (h8 : W.heap[B8]? = some (.cells #[u] 39 (0, 0))) (ho : Own W z.heap.size v xs) (h9 : z.heap.size ≤ B8) (hz1 : z = w1.drew) : SecI w1 B8 v xs (W.setCell ⟨B8, 0, none⟩ v) := by
  have hne : v.ownBlock ≠ some B8 := fun e => by
    obtain ⟨cs, y, hh⟩ := own_block23 ho e
    rw [h8] at hh; cases hh
  subst hz1
  refine ⟨?_, one_setCell h8, by simpa using h9, own_mono (ownsRow_setCell_other ho hne _) (by simp), fun k e e' => hne (by rw [← e']; exact e)⟩
  exact (Below.drew (Below.refl _ _)).trans ((hz.mono (by simp)).setCell (p := ⟨B8, 0, none⟩) (by simp at h9 ⊢; omega) _)
/-- two slices side by side, to be joined, in whatever world they lie -/
theorem concat2g (A1 A2 : Option Addr) (c1 c2 : Nat) (P1 P2 : List Pt) (z : World) (b : Nat) {base : Nat} (hk : z.heap[b]? = some (.cells #[.slice A1 P1.length c1, .slice A2 P2.length c2] 39 (0, 0))) (o1 : Own z base (.slice A1 P1.length c1) P1) (o2 : Own z base (.slice A2 P2.length c2) P2) (hbig : (P1 ++ P2).length ≤ 10000000) :
    Calls Tryz.prog 75 #[.slice (some ⟨b, 0, none⟩) 2 2] z (RetPts z.heap.size z (P1 ++ P2)) := by
  have hb := (Array.getElem?_eq_some_iff.1 hk).1
  obtain ⟨A, c, e1, -, hA1, -, hp1⟩ := o1.slice
  cases e1
  obtain ⟨A, c, e2, -, hA2, -, hp2⟩ := o2.slice
  cases e2
  have hreg : Reg? z.heap.size z (some ⟨b, 0, none⟩) [P1, P2] := fun _ => ⟨b, 0, rfl, hb, fun i r hr => by
    match i, hr with
    | 0, hr => cases hr; exact ⟨A1, c1, by simp [World.cell?, hk], hp1⟩
    | 1, hr => cases hr; exact ⟨A2, c2, by simp [World.cell?, hk], hp2⟩
    | i + 2, hr => simp at hr⟩
  have h := Concat_any (some ⟨b, 0, none⟩) 2 2 [P1, P2] _ rfl hreg (by
    intro b off e i r hr Ai ci hcell hAi
    cases e
    simp only [World.cell?, hk] at hcell
    match i, hr with
    | 0, hr =>
      cases hr
      simp at hcell
      have := hA1 (hcell.1.trans hAi)
      exact ⟨by rw [this.1]; rfl, by rw [← hcell.2]; exact this.2⟩
    | 1, hr =>
      cases hr
      simp at hcell
      have := hA2 (hcell.1.trans hAi)
      exact ⟨by rw [this.1]; rfl, by rw [← hcell.2]; exact this.2⟩
    | i + 2, hr => simp at hr) (by rw [← flatten_len]; simpa using hbig) (by omega)
  simpa using h
theorem PushV.grown {t base B : Nat} {v v' : Value} {ys : List Pt} {w w0 w' : World} {row : Option Nat} (h : PushV t base B v v' ys w w0) (hg : w0.grownBy w' row) (hr : ∀ r, row = some r → w.heap.size ≤ r ∧ ∃ o : Obj, w0.heap[r]? = some o ∧ o.isCells = false) : PushV t base B v v' ys w w' where
  cell := (grownBy_keeps_cells hg (fun r e => (hr r e).2) h.cell rfl).trans h.cell
  own := own_grown h.own hg (fun r e => (hr r e).2)
  at' := h.at'
  os := hg.os.trans h.os
  tape := hg.tape.trans h.tape
  output := hg.output.trans h.output
  size := Nat.le_trans h.size hg.size
  block := fun k hk h1 h2 => (hg.block k (Nat.lt_of_lt_of_le hk h.size) (fun e => by have := (hr k e.symm).1; omega)).trans (h.block k hk h1 h2)
set_option maxRecDepth 100000 in
set_option maxHeartbeats 4000000 in
theorem Sector_ok (a : Nat) (lo hi : Int) (w : World) (ha : a < 64) (hd : distB lo hi = true) :
    Calls Tryz.prog 46 #[.int .i64 a, .int .i64 2, .agg #[.int .i64 lo, .int .i64 hi]] w fun e w' => ∃ v, e = .returned (.tuple #[v, .int .i64 0]) ∧ Own w' w.heap.size v (secS a lo hi) ∧ Below w.heap.size w w' := by
  obtain ⟨d1, d2, d3⟩ := distB_iff.1 hd
  have r0 := fun W => areRays_any a 2 W
  have er : raysB a 2 = true := by simp [raysB]; omega
  rw [er] at r0
  have b1 := atS_bd a
  have b2 := atS_bd (a + 2)
  have v1 := fun W => rat_any a W (by omega)
  have v2 := fun W => rat_any (a + 2) W (by omega)
  have v3 := fun W => rounded_any (atS a) lo 1001 W (by omega) (by omega) (by omega) (by omega) d1 (by omega) (by omega) (by omega)
  have v4 := fun W => rounded_any (atS (a + 2)) lo 1001 W (by omega) (by omega) (by omega) (by omega) d1 (by omega) (by omega) (by omega)
  have v5 := fun (k : Nat) W => rounded_any (atS k) hi 998 W (by have := atS_bd k; omega) (by have := atS_bd k; omega) (by have := atS_bd k; omega) (by have := atS_bd k; omega) (by omega) (by omega) (by omega) (by omega)
  have hpl := secL_pl a 2 lo hi d1 d2 d3
  have hln := secL_len a 2 lo hi
  have hlo : ¬ (lo < 0) := by omega
  have hlh : ¬ (hi < lo) := by omega
  have hhi : ¬ ((100000 : Int) < hi) := by omega
  have eP : secL a 2 lo hi = (roundL (atS a) lo 1001 ++ roundL (atS (a + 2)) lo 1001) ++ (raysL a 2).flatMap (fun k => roundL (atS k) hi 998) := rfl
  have eL : (roundL (atS a) lo 1001 ++ roundL (atS (a + 2)) lo 1001).length = 8 := rfl
  have ha1 : (a : Int) ≤ 63 := by omega
  have ha0 : (0 : Int) ≤ (a : Int) := by omega
  have ha2 : ((a + 2 : Nat) : Int) = (a : Int) + 2 := by omega
  rw [ha2] at v2
  generalize hP1 : roundL (atS a) lo 1001 = P1 at *
  generalize hP2 : roundL (atS (a + 2)) lo 1001 = P2 at *
  have qa : IntKind.i64.wrap ((a : Int) + 2) = (a : Int) + 2 := IntWalk.i64_in _ (by omega)
  have q1 : decide (lo < 0) = false := by simp; omega
  have q2 : decide (hi < lo) = false := by simp; omega
  have q3 : decide ((100000 : Int) < hi) = false := by simp; omega
  have HPL := Lib.hid hpl
  have HLN := Lib.hid hln
  have HEP := Lib.hid eP
  have HEL := Lib.hid eL
  have V0 := Lib.hid r0
  have V1 := Lib.hid v1
  have V2 := Lib.hid v2
  have V3 := Lib.hid v3
  have V4 := Lib.hid v4
  have V5 := Lib.hid v5
  clear r0 v1 v2 v3 v4 v5 hpl hln er eP eL hP1 hP2 hd b1 b2 ha2
  generalize atS (a + 2) = T2 at *
  generalize atS a = T1 at *
  obtain ⟨t1x, t1y⟩ := T1
  obtain ⟨t2x, t2y⟩ := T2
  refine (callsIn_wide (n := 6)).1 ?_
  refine callsIn_of_wp_marks Tryz.func46 rfl trivial ?_ rfl
  simp only [Tryz.ntmps46, List.size_toArray, List.length_cons, List.length_nil, Nat.reduceAdd, Nat.reduceSub, Array.replicate_succ, Array.replicate_zero, List.push_toArray, List.append_toArray, List.nil_append, List.cons_append]
  gi_wp2
  refine ⟨trivial, (callsIn_wide.2 (V0.out _)).mono ?_⟩
  rintro e w1 ⟨rfl, hb1⟩
  have hB1 : Below w.heap.size w w1 := below_after (by go_grown) hb1
  have c0 : w1.cell? ⟨w.heap.size, 0, none⟩ = some (.int .i64 lo) := kp hb1 (by go_cell)
  have c1 : w1.cell? ⟨w.heap.size, 1, none⟩ = some (.int .i64 hi) := kp hb1 (by go_cell)
  have c6 : w1.heap[w.heap.size + 1]? = some (.cells #[.slice none 0 0] 39 (0, 0)) := by
    refine (hb1.block _ (by simp)).trans ((Below.heap_alloc _ _ _ (by simp)).trans ?_)
    have h9 := World.alloc_heap_new (w.alloc (.cells #[.int .i64 lo, .int .i64 hi] 25)) (.cells #[.slice none 0 0] 39)
    rw [World.size_alloc] at h9; exact h9
  have c7 : w1.heap[w.heap.size + 1 + 1]? = some (.cells #[.int .i64 0] 28 (0, 0)) := by
    refine (hb1.block _ (by simp)).trans ?_
    have h9 := World.alloc_heap_new ((w.alloc (.cells #[.int .i64 lo, .int .i64 hi] 25)).alloc (.cells #[.slice none 0 0] 39)) (.cells #[.int .i64 0] 28)
    rw [World.size_alloc, World.size_alloc] at h9; exact h9
  have hz1 := hb1.size
  try simp only [World.size_alloc, World.size_setCell, World.size_drew] at hz1
  clear hb1
  gi_wp2
  replace c0 : w1.drew.cell? ⟨w.heap.size, 0, none⟩ = some (.int .i64 lo) := c0
  gi_cut [8] from 40 (fun s8 wx => ∃ B8 v, s8 = .pointer (some ⟨B8, 0, none⟩) ∧ SecI w1 B8 v (P1 ++ P2) wx)
  case first =>
    have hp : ∀ ops, PlainOps Fence.wide ops := fun ops => plainOps_none rfl
    generalize hzz : w1.drew = z at *
    have hzs : z.heap.size = w1.heap.size := by rw [← hzz]; simp
    have HSZ := Lib.hid (show ∀ w9, Below z.heap.size z w9 → Below z.heap.size z w9 ∧ w9.cell? ⟨w.heap.size, 0, none⟩ = some (.int .i64 lo) from fun w9 h9 => ⟨h9, kp h9 c0⟩)
    refine held_begin [0, 2, 3, 5, 6, 7, 9, 10] (fun w9 => Below z.heap.size z w9 ∧ w9.cell? ⟨w.heap.size, 0, none⟩ = some (.int .i64 lo)) (by kernel_rfl) (by rw [hzz]; exact HSZ.out _ (Below.refl _ _)) (fun hS => ?_)
    rw [hzz] at hS ⊢
    refine tk 0 (v := ?_) (hp _) hS rfl (fun _ _ _ _ => trivial) ?_ ?_
    rotate_left 1
    · intro w hw; (try rw [hw]); (try go_split_ands); go_simp <;> with_reducible rfl
    try simp only [Act.put, st]
    refine tk 2 (v := ?_) (hp _) hS rfl (fun _ _ _ _ => trivial) ?_ ?_
    rotate_left 1
    · intro w hw; (try rw [hw]); (try go_split_ands); go_simp <;> with_reducible rfl
    try simp only [Act.put, st]
    refine tk 3 (v := ?_) (hp _) hS rfl (fun _ _ _ _ => trivial) ?_ ?_
    rotate_left 1
    · intro w hw; (try rw [hw]); (try go_split_ands); go_simp <;> with_reducible rfl
    try simp only [Act.put, st]
    refine tk 5 (v := ?_) (hp _) hS rfl (fun _ _ _ _ => trivial) ?_ ?_
    rotate_left 1
    · intro w hw; (try rw [hw]); (try go_split_ands); go_simp <;> with_reducible rfl
    try simp only [Act.put, st]
    refine tk 6 (v := ?_) (hp _) hS rfl (fun _ _ _ _ => trivial) ?_ ?_
    rotate_left 1
    · intro w hw; (try rw [hw]); (try go_split_ands); go_simp <;> with_reducible rfl
    try simp only [Act.put, st]
    refine tk 7 (v := ?_) (hp _) hS rfl (fun _ _ _ _ => trivial) ?_ ?_
    rotate_left 1
    · intro w hw; (try rw [hw]); (try go_split_ands); go_simp <;> with_reducible rfl
    try simp only [Act.put, st]
    refine tk 9 (v := ?_) (hp _) hS rfl (fun _ _ _ _ => trivial) ?_ ?_
    rotate_left 1
    · intro w hw; (try rw [hw]); (try go_split_ands); go_simp <;> with_reducible rfl
    try simp only [Act.put, st]
    refine tk 10 (v := ?_) (hp _) hS rfl (fun _ _ _ _ => trivial) ?_ ?_
    rotate_left 1
    · intro w hw; (try rw [hw]); (try go_split_ands); go_simp <;> with_reducible rfl
    try simp only [Act.put, st]
    refine held_both 1 14 rfl rfl (hp _) (by kernel_rfl) (by kernel_rfl) (by kernel_rfl) (fun K hK => ⟨?_, ?_⟩) (fun K hK => ⟨?_, ?_⟩)
    · exact fun _ _ => trivial
    rotate_left 1
    · exact fun _ _ => trivial
    rotate_left 1
    · skip
      go_simp
      refine (callsIn_wide.2 (V1.out _)).mono ?_
      rintro e y1 ⟨rfl, hb⟩
      have hSn := HSZ.out _ (Below.after' hS.1 hb)
      clear hS hb
      have hS := hSn
      refine hK _ _ (fun _ => hS) ?_
      clear hK K hSn
      try simp only [Act.put, st]
      refine held_both 4 14 rfl rfl (hp _) (by kernel_rfl) (by kernel_rfl) (by kernel_rfl) (fun K hK => ⟨?_, ?_⟩) (fun K hK => ⟨?_, ?_⟩)
      · exact fun _ _ => trivial
      rotate_left 1
      · exact fun _ _ => trivial
      rotate_left 1
      · skip
        go_simp
        refine (callsIn_wide.2 (V3.out _)).mono ?_
        rintro e y2 ⟨v4, rfl, o4, hb⟩
        obtain ⟨A4, c4, rfl, -⟩ := o4.slice
        replace o4 := own_mono o4 (hS.1.size)
        have hSn := HSZ.out _ (Below.after' hS.1 hb)
        clear hS hb
        have hS := hSn
        refine hK _ _ (fun _ => hS) ?_
        clear hK K hSn
        try simp only [Act.put, st]
        refine held_both 8 14 rfl rfl (hp _) (by kernel_rfl) (by kernel_rfl) (by kernel_rfl) (fun K hK => ⟨?_, ?_⟩) (fun K hK => ⟨?_, ?_⟩)
        · exact fun _ _ => trivial
        rotate_left 1
        · exact fun _ _ => trivial
        rotate_left 1
        · skip
          go_simp
          refine (callsIn_wide.2 (V2.out _)).mono ?_
          rintro e y3 ⟨rfl, hb⟩
          replace o4 := o4.later hb
          have hSn := HSZ.out _ (Below.after' hS.1 hb)
          clear hS hb
          have hS := hSn
          refine hK _ _ (fun _ => hS) ?_
          clear hK K hSn
          try simp only [Act.put, st]
          refine held_both 11 14 rfl rfl (hp _) (by kernel_rfl) (by kernel_rfl) (by kernel_rfl) (fun K hK => ⟨?_, ?_⟩) (fun K hK => ⟨?_, ?_⟩)
          · exact fun _ _ => trivial
          rotate_left 1
          · exact fun _ _ => trivial
          rotate_left 1
          · skip
            go_simp
            refine (callsIn_wide.2 (V4.out _)).mono ?_
            rintro e y4 ⟨v11, rfl, o11, hb⟩
            obtain ⟨A11, c11, rfl, -⟩ := o11.slice
            replace o11 := own_mono o11 (hS.1.size)
            replace o4 := o4.later hb
            have hSn := HSZ.out _ (Below.after' hS.1 hb)
            clear hS hb
            have hS := hSn
            refine hK _ _ (fun _ => hS) ?_
            clear hK K hSn
            try simp only [Act.put, st]
            refine held_both 12 14 rfl rfl (hp _) (by kernel_rfl) (by kernel_rfl) (by kernel_rfl) (fun K hK => ⟨?_, ?_⟩) (fun K hK => ⟨?_, ?_⟩)
            · exact fun _ _ => trivial
            rotate_left 1
            · exact fun _ _ => trivial
            rotate_left 1
            · skip
              go_simp
              have hb : Below y4.heap.size y4 (y4.alloc (.cells #[.slice A4 P1.length c4, .slice A11 P2.length c11] 39)) := (Below.refl _ _).alloc (Nat.le_refl _) _
              have h12 : (y4.alloc (.cells #[.slice A4 P1.length c4, .slice A11 P2.length c11] 39)).heap[y4.heap.size]? = some (.cells #[.slice A4 P1.length c4, .slice A11 P2.length c11] 39 (0, 0)) := World.alloc_heap_new y4 _
              generalize y4.alloc (.cells #[.slice A4 P1.length c4, .slice A11 P2.length c11] 39) = y5 at *
              replace o4 := o4.later hb
              replace o11 := o11.later hb
              have hSn := HSZ.out _ (Below.after' hS.1 hb)
              clear hS hb
              have hS := hSn
              refine hK _ _ (fun _ => hS) ?_
              clear hK K hSn
              try simp only [Act.put, st]
              refine held_both 13 14 rfl rfl (hp _) (by kernel_rfl) (by kernel_rfl) (by kernel_rfl) (fun K hK => ⟨?_, ?_⟩) (fun K hK => ⟨?_, ?_⟩)
              · exact fun _ _ => trivial
              rotate_left 1
              · exact fun _ _ => trivial
              rotate_left 1
              · skip
                go_simp
                have h9 := concat2g A4 A11 c4 c11 P1 P2 _ _ h12 o4 o11 (by rw [HEL.out]; omega)
                refine (callsIn_wide.2 h9).mono ?_
                rintro e y6 ⟨v13, rfl, o13, hb⟩
                clear h9
                replace o13 := own_mono o13 (hS.1.size)
                replace o4 := o4.later hb
                replace o11 := o11.later hb
                replace h12 := (hb.block _ (Array.getElem?_eq_some_iff.1 h12).1).trans h12
                have hSn := HSZ.out _ (Below.after' hS.1 hb)
                clear hS hb
                have hS := hSn
                refine hK _ _ (fun _ => hS) ?_
                clear hK K hSn
                try simp only [Act.put, st]
                refine held_step 14 rfl (hp _) (by kernel_rfl) (by kernel_rfl) (fun K hK => ⟨?_, ?_⟩)
                · exact fun _ _ => trivial
                go_simp
                have hb : Below y6.heap.size y6 (y6.alloc (.cells #[.slice none 0 0] 39)) := (Below.refl _ _).alloc (Nat.le_refl _) _
                have h8 : (y6.alloc (.cells #[.slice none 0 0] 39)).heap[y6.heap.size]? = some (.cells #[.slice none 0 0] 39 (0, 0)) := World.alloc_heap_new y6 _
                have g8 : z.heap.size ≤ y6.heap.size := hS.1.size
                generalize y6.alloc (.cells #[.slice none 0 0] 39) = y7 at *
                replace o4 := o4.later hb
                replace o11 := o11.later hb
                replace h12 := (hb.block _ (Array.getElem?_eq_some_iff.1 h12).1).trans h12
                replace o13 := o13.later hb
                have hSn := HSZ.out _ (Below.after' hS.1 hb)
                clear hS hb
                have hS := hSn
                refine hK _ _ hS ?_
                clear hK K hSn
                try simp only [Act.put, st]
                refine held_one 15 rfl (hp _) (by kernel_rfl) (by kernel_rfl) (by kernel_rfl) (fun K hK => ⟨?_, ?_⟩)
                · exact fun _ _ => trivial
                obtain ⟨hBz, hc0⟩ := hS
                obtain ⟨A13, c13, e13, -⟩ := o13.slice
                generalize (P1 ++ P2).length = L13 at e13
                subst e13
                have HSEC := Lib.hid (sec_store hBz h8 o13 (by omega) hzz.symm)
                have c8 : y7.cell? ⟨y6.heap.size, 0, none⟩ = some (.slice none 0 0) := by simp [World.cell?, h8]
                have f8 : y7.frozen? ⟨y6.heap.size, 0, none⟩ = false := by simp [World.frozen?, h8]
                clear o4 o11 o13 h12 hBz
                go_simp
                refine hK _ _ ?_
                clear hK K
                try simp only [Act.put, st]
                refine held_end (by kernel_rfl) ?_
                gi_wp2
                gi_meet
                case rel => exact ⟨_, _, rfl, HSEC.out⟩
              · skip
                go_simp
                have hb : Below y5.heap.size y5 (y5.alloc (.cells #[.slice none 0 0] 39)) := (Below.refl _ _).alloc (Nat.le_refl _) _
                have h8 : (y5.alloc (.cells #[.slice none 0 0] 39)).heap[y5.heap.size]? = some (.cells #[.slice none 0 0] 39 (0, 0)) := World.alloc_heap_new y5 _
                have g8 : z.heap.size ≤ y5.heap.size := hS.1.size
                generalize y5.alloc (.cells #[.slice none 0 0] 39) = y6 at *
                replace o4 := o4.later hb
                replace o11 := o11.later hb
                replace h12 := (hb.block _ (Array.getElem?_eq_some_iff.1 h12).1).trans h12
                have hSn := HSZ.out _ (Below.after' hS.1 hb)
                clear hS hb
                have hS := hSn
                refine hK _ _ (fun _ => hS) ?_
                clear hK K hSn
                try simp only [Act.put, st]
                refine held_step 13 rfl (hp _) (by kernel_rfl) (by kernel_rfl) (fun K hK => ⟨?_, ?_⟩)
                · exact fun _ _ => trivial
                go_simp
                have h9 := concat2g A4 A11 c4 c11 P1 P2 _ _ h12 o4 o11 (by rw [HEL.out]; omega)
                refine (callsIn_wide.2 h9).mono ?_
                rintro e y8 ⟨v13, rfl, o13, hb⟩
                clear h9
                replace o13 := own_mono o13 (hS.1.size)
                replace h8 := (hb.block _ (Array.getElem?_eq_some_iff.1 h8).1).trans h8
                replace o4 := o4.later hb
                replace o11 := o11.later hb
                replace h12 := (hb.block _ (Array.getElem?_eq_some_iff.1 h12).1).trans h12
                have hSn := HSZ.out _ (Below.after' hS.1 hb)
                clear hS hb
                have hS := hSn
                refine hK _ _ hS ?_
                clear hK K hSn
                try simp only [Act.put, st]
                refine held_one 15 rfl (hp _) (by kernel_rfl) (by kernel_rfl) (by kernel_rfl) (fun K hK => ⟨?_, ?_⟩)
                · exact fun _ _ => trivial
                obtain ⟨hBz, hc0⟩ := hS
                obtain ⟨A13, c13, e13, -⟩ := o13.slice
                generalize (P1 ++ P2).length = L13 at e13
                subst e13
                have HSEC := Lib.hid (sec_store hBz h8 o13 (by omega) hzz.symm)
                have c8 : y8.cell? ⟨y5.heap.size, 0, none⟩ = some (.slice none 0 0) := by simp [World.cell?, h8]
                have f8 : y8.frozen? ⟨y5.heap.size, 0, none⟩ = false := by simp [World.frozen?, h8]
                clear o4 o11 o13 h12 hBz
                go_simp
                refine hK _ _ ?_
                clear hK K
                try simp only [Act.put, st]
                refine held_end (by kernel_rfl) ?_
                gi_wp2
                gi_meet
                case rel => exact ⟨_, _, rfl, HSEC.out⟩
            · skip
              go_simp
              have hb : Below y4.heap.size y4 (y4.alloc (.cells #[.slice none 0 0] 39)) := (Below.refl _ _).alloc (Nat.le_refl _) _
              have h8 : (y4.alloc (.cells #[.slice none 0 0] 39)).heap[y4.heap.size]? = some (.cells #[.slice none 0 0] 39 (0, 0)) := World.alloc_heap_new y4 _
              have g8 : z.heap.size ≤ y4.heap.size := hS.1.size
              generalize y4.alloc (.cells #[.slice none 0 0] 39) = y5 at *
              replace o4 := o4.later hb
              replace o11 := o11.later hb
              have hSn := HSZ.out _ (Below.after' hS.1 hb)
              clear hS hb
              have hS := hSn
              refine hK _ _ (fun _ => hS) ?_
              clear hK K hSn
              try simp only [Act.put, st]
              refine held_step 12 rfl (hp _) (by kernel_rfl) (by kernel_rfl) (fun K hK => ⟨?_, ?_⟩)
              · exact fun _ _ => trivial
              go_simp
              have hb : Below y5.heap.size y5 (y5.alloc (.cells #[.slice A4 P1.length c4, .slice A11 P2.length c11] 39)) := (Below.refl _ _).alloc (Nat.le_refl _) _
              have h12 : (y5.alloc (.cells #[.slice A4 P1.length c4, .slice A11 P2.length c11] 39)).heap[y5.heap.size]? = some (.cells #[.slice A4 P1.length c4, .slice A11 P2.length c11] 39 (0, 0)) := World.alloc_heap_new y5 _
              generalize y5.alloc (.cells #[.slice A4 P1.length c4, .slice A11 P2.length c11] 39) = y9 at *
              replace h8 := (hb.block _ (Array.getElem?_eq_some_iff.1 h8).1).trans h8
              replace o4 := o4.later hb
              replace o11 := o11.later hb
              have hSn := HSZ.out _ (Below.after' hS.1 hb)
              clear hS hb
              have hS := hSn
              refine hK _ _ hS ?_
              clear hK K hSn
              try simp only [Act.put, st]
              refine held_step 13 rfl (hp _) (by kernel_rfl) (by kernel_rfl) (fun K hK => ⟨?_, ?_⟩)
              · exact fun _ _ => trivial
              go_simp
              have h9 := concat2g A4 A11 c4 c11 P1 P2 _ _ h12 o4 o11 (by rw [HEL.out]; omega)
              refine (callsIn_wide.2 h9).mono ?_
              rintro e y10 ⟨v13, rfl, o13, hb⟩
              clear h9
              replace o13 := own_mono o13 (hS.1.size)
              replace h8 := (hb.block _ (Array.getElem?_eq_some_iff.1 h8).1).trans h8
              replace o4 := o4.later hb
              replace o11 := o11.later hb
              replace h12 := (hb.block _ (Array.getElem?_eq_some_iff.1 h12).1).trans h12
              have hSn := HSZ.out _ (Below.after' hS.1 hb)
              clear hS hb
              have hS := hSn
              refine hK _ _ hS ?_
              clear hK K hSn
              try simp only [Act.put, st]
              refine held_one 15 rfl (hp _) (by kernel_rfl) (by kernel_rfl) (by kernel_rfl) (fun K hK => ⟨?_, ?_⟩)
              · exact fun _ _ => trivial
              obtain ⟨hBz, hc0⟩ := hS
              obtain ⟨A13, c13, e13, -⟩ := o13.slice
              generalize (P1 ++ P2).length = L13 at e13
              subst e13
              have HSEC := Lib.hid (sec_store hBz h8 o13 (by omega) hzz.symm)
              have c8 : y10.cell? ⟨y4.heap.size, 0, none⟩ = some (.slice none 0 0) := by simp [World.cell?, h8]
              have f8 : y10.frozen? ⟨y4.heap.size, 0, none⟩ = false := by simp [World.frozen?, h8]
              clear o4 o11 o13 h12 hBz
              go_simp
              refine hK _ _ ?_
              clear hK K
              try simp only [Act.put, st]
              refine held_end (by kernel_rfl) ?_
              gi_wp2
              gi_meet
              case rel => exact ⟨_, _, rfl, HSEC.out⟩
          · skip
            go_simp
            have hb : Below y3.heap.size y3 (y3.alloc (.cells #[.slice none 0 0] 39)) := (Below.refl _ _).alloc (Nat.le_refl _) _
            have h8 : (y3.alloc (.cells #[.slice none 0 0] 39)).heap[y3.heap.size]? = some (.cells #[.slice none 0 0] 39 (0, 0)) := World.alloc_heap_new y3 _
            have g8 : z.heap.size ≤ y3.heap.size := hS.1.size
            generalize y3.alloc (.cells #[.slice none 0 0] 39) = y4 at *
            replace o4 := o4.later hb
            have hSn := HSZ.out _ (Below.after' hS.1 hb)
            clear hS hb
            have hS := hSn
            refine hK _ _ (fun _ => hS) ?_
            clear hK K hSn
            try simp only [Act.put, st]
            refine held_step 11 rfl (hp _) (by kernel_rfl) (by kernel_rfl) (fun K hK => ⟨?_, ?_⟩)
            · exact fun _ _ => trivial
            go_simp
            refine (callsIn_wide.2 (V4.out _)).mono ?_
            rintro e y11 ⟨v11, rfl, o11, hb⟩
            obtain ⟨A11, c11, rfl, -⟩ := o11.slice
            replace o11 := own_mono o11 (hS.1.size)
            replace h8 := (hb.block _ (Array.getElem?_eq_some_iff.1 h8).1).trans h8
            replace o4 := o4.later hb
            have hSn := HSZ.out _ (Below.after' hS.1 hb)
            clear hS hb
            have hS := hSn
            refine hK _ _ hS ?_
            clear hK K hSn
            try simp only [Act.put, st]
            refine held_step 12 rfl (hp _) (by kernel_rfl) (by kernel_rfl) (fun K hK => ⟨?_, ?_⟩)
            · exact fun _ _ => trivial
            go_simp
            have hb : Below y11.heap.size y11 (y11.alloc (.cells #[.slice A4 P1.length c4, .slice A11 P2.length c11] 39)) := (Below.refl _ _).alloc (Nat.le_refl _) _
            have h12 : (y11.alloc (.cells #[.slice A4 P1.length c4, .slice A11 P2.length c11] 39)).heap[y11.heap.size]? = some (.cells #[.slice A4 P1.length c4, .slice A11 P2.length c11] 39 (0, 0)) := World.alloc_heap_new y11 _
            generalize y11.alloc (.cells #[.slice A4 P1.length c4, .slice A11 P2.length c11] 39) = y12 at *
            replace h8 := (hb.block _ (Array.getElem?_eq_some_iff.1 h8).1).trans h8
            replace o4 := o4.later hb
            replace o11 := o11.later hb
            have hSn := HSZ.out _ (Below.after' hS.1 hb)
            clear hS hb
            have hS := hSn
            refine hK _ _ hS ?_
            clear hK K hSn
            try simp only [Act.put, st]
            refine held_step 13 rfl (hp _) (by kernel_rfl) (by kernel_rfl) (fun K hK => ⟨?_, ?_⟩)
            · exact fun _ _ => trivial
            go_simp
            have h9 := concat2g A4 A11 c4 c11 P1 P2 _ _ h12 o4 o11 (by rw [HEL.out]; omega)
            refine (callsIn_wide.2 h9).mono ?_
            rintro e y13 ⟨v13, rfl, o13, hb⟩
            clear h9
            replace o13 := own_mono o13 (hS.1.size)
            replace h8 := (hb.block _ (Array.getElem?_eq_some_iff.1 h8).1).trans h8
            replace o4 := o4.later hb
            replace o11 := o11.later hb
            replace h12 := (hb.block _ (Array.getElem?_eq_some_iff.1 h12).1).trans h12
            have hSn := HSZ.out _ (Below.after' hS.1 hb)
            clear hS hb
            have hS := hSn
            refine hK _ _ hS ?_
            clear hK K hSn
            try simp only [Act.put, st]
            refine held_one 15 rfl (hp _) (by kernel_rfl) (by kernel_rfl) (by kernel_rfl) (fun K hK => ⟨?_, ?_⟩)
            · exact fun _ _ => trivial
            obtain ⟨hBz, hc0⟩ := hS
            obtain ⟨A13, c13, e13, -⟩ := o13.slice
            generalize (P1 ++ P2).length = L13 at e13
            subst e13
            have HSEC := Lib.hid (sec_store hBz h8 o13 (by omega) hzz.symm)
            have c8 : y13.cell? ⟨y3.heap.size, 0, none⟩ = some (.slice none 0 0) := by simp [World.cell?, h8]
            have f8 : y13.frozen? ⟨y3.heap.size, 0, none⟩ = false := by simp [World.frozen?, h8]
            clear o4 o11 o13 h12 hBz
            go_simp
            refine hK _ _ ?_
            clear hK K
            try simp only [Act.put, st]
            refine held_end (by kernel_rfl) ?_
            gi_wp2
            gi_meet
            case rel => exact ⟨_, _, rfl, HSEC.out⟩
        · skip
          go_simp
          have hb : Below y2.heap.size y2 (y2.alloc (.cells #[.slice none 0 0] 39)) := (Below.refl _ _).alloc (Nat.le_refl _) _
          have h8 : (y2.alloc (.cells #[.slice none 0 0] 39)).heap[y2.heap.size]? = some (.cells #[.slice none 0 0] 39 (0, 0)) := World.alloc_heap_new y2 _
          have g8 : z.heap.size ≤ y2.heap.size := hS.1.size
          generalize y2.alloc (.cells #[.slice none 0 0] 39) = y3 at *
          replace o4 := o4.later hb
          have hSn := HSZ.out _ (Below.after' hS.1 hb)
          clear hS hb
          have hS := hSn
          refine hK _ _ (fun _ => hS) ?_
          clear hK K hSn
          try simp only [Act.put, st]
          refine held_step 8 rfl (hp _) (by kernel_rfl) (by kernel_rfl) (fun K hK => ⟨?_, ?_⟩)
          · exact fun _ _ => trivial
          go_simp
          refine (callsIn_wide.2 (V2.out _)).mono ?_
          rintro e y14 ⟨rfl, hb⟩
          replace h8 := (hb.block _ (Array.getElem?_eq_some_iff.1 h8).1).trans h8
          replace o4 := o4.later hb
          have hSn := HSZ.out _ (Below.after' hS.1 hb)
          clear hS hb
          have hS := hSn
          refine hK _ _ hS ?_
          clear hK K hSn
          try simp only [Act.put, st]
          refine held_step 11 rfl (hp _) (by kernel_rfl) (by kernel_rfl) (fun K hK => ⟨?_, ?_⟩)
          · exact fun _ _ => trivial
          go_simp
          refine (callsIn_wide.2 (V4.out _)).mono ?_
          rintro e y15 ⟨v11, rfl, o11, hb⟩
          obtain ⟨A11, c11, rfl, -⟩ := o11.slice
          replace o11 := own_mono o11 (hS.1.size)
          replace h8 := (hb.block _ (Array.getElem?_eq_some_iff.1 h8).1).trans h8
          replace o4 := o4.later hb
          have hSn := HSZ.out _ (Below.after' hS.1 hb)
          clear hS hb
          have hS := hSn
          refine hK _ _ hS ?_
          clear hK K hSn
          try simp only [Act.put, st]
          refine held_step 12 rfl (hp _) (by kernel_rfl) (by kernel_rfl) (fun K hK => ⟨?_, ?_⟩)
          · exact fun _ _ => trivial
          go_simp
          have hb : Below y15.heap.size y15 (y15.alloc (.cells #[.slice A4 P1.length c4, .slice A11 P2.length c11] 39)) := (Below.refl _ _).alloc (Nat.le_refl _) _
          have h12 : (y15.alloc (.cells #[.slice A4 P1.length c4, .slice A11 P2.length c11] 39)).heap[y15.heap.size]? = some (.cells #[.slice A4 P1.length c4, .slice A11 P2.length c11] 39 (0, 0)) := World.alloc_heap_new y15 _
          generalize y15.alloc (.cells #[.slice A4 P1.length c4, .slice A11 P2.length c11] 39) = y16 at *
          replace h8 := (hb.block _ (Array.getElem?_eq_some_iff.1 h8).1).trans h8
          replace o4 := o4.later hb
          replace o11 := o11.later hb
          have hSn := HSZ.out _ (Below.after' hS.1 hb)
          clear hS hb
          have hS := hSn
          refine hK _ _ hS ?_
          clear hK K hSn
          try simp only [Act.put, st]
          refine held_step 13 rfl (hp _) (by kernel_rfl) (by kernel_rfl) (fun K hK => ⟨?_, ?_⟩)
          · exact fun _ _ => trivial
          go_simp
          have h9 := concat2g A4 A11 c4 c11 P1 P2 _ _ h12 o4 o11 (by rw [HEL.out]; omega)
          refine (callsIn_wide.2 h9).mono ?_
          rintro e y17 ⟨v13, rfl, o13, hb⟩
          clear h9
          replace o13 := own_mono o13 (hS.1.size)
          replace h8 := (hb.block _ (Array.getElem?_eq_some_iff.1 h8).1).trans h8
          replace o4 := o4.later hb
          replace o11 := o11.later hb
          replace h12 := (hb.block _ (Array.getElem?_eq_some_iff.1 h12).1).trans h12
          have hSn := HSZ.out _ (Below.after' hS.1 hb)
          clear hS hb
          have hS := hSn
          refine hK _ _ hS ?_
          clear hK K hSn
          try simp only [Act.put, st]
          refine held_one 15 rfl (hp _) (by kernel_rfl) (by kernel_rfl) (by kernel_rfl) (fun K hK => ⟨?_, ?_⟩)
          · exact fun _ _ => trivial
          obtain ⟨hBz, hc0⟩ := hS
          obtain ⟨A13, c13, e13, -⟩ := o13.slice
          generalize (P1 ++ P2).length = L13 at e13
          subst e13
          have HSEC := Lib.hid (sec_store hBz h8 o13 (by omega) hzz.symm)
          have c8 : y17.cell? ⟨y2.heap.size, 0, none⟩ = some (.slice none 0 0) := by simp [World.cell?, h8]
          have f8 : y17.frozen? ⟨y2.heap.size, 0, none⟩ = false := by simp [World.frozen?, h8]
          clear o4 o11 o13 h12 hBz
          go_simp
          refine hK _ _ ?_
          clear hK K
          try simp only [Act.put, st]
          refine held_end (by kernel_rfl) ?_
          gi_wp2
          gi_meet
          case rel => exact ⟨_, _, rfl, HSEC.out⟩
      · skip
        go_simp
        have hb : Below y1.heap.size y1 (y1.alloc (.cells #[.slice none 0 0] 39)) := (Below.refl _ _).alloc (Nat.le_refl _) _
        have h8 : (y1.alloc (.cells #[.slice none 0 0] 39)).heap[y1.heap.size]? = some (.cells #[.slice none 0 0] 39 (0, 0)) := World.alloc_heap_new y1 _
        have g8 : z.heap.size ≤ y1.heap.size := hS.1.size
        generalize y1.alloc (.cells #[.slice none 0 0] 39) = y2 at *
        have hSn := HSZ.out _ (Below.after' hS.1 hb)
        clear hS hb
        have hS := hSn
        refine hK _ _ (fun _ => hS) ?_
        clear hK K hSn
        try simp only [Act.put, st]
        refine held_step 4 rfl (hp _) (by kernel_rfl) (by kernel_rfl) (fun K hK => ⟨?_, ?_⟩)
        · exact fun _ _ => trivial
        go_simp
        refine (callsIn_wide.2 (V3.out _)).mono ?_
        rintro e y18 ⟨v4, rfl, o4, hb⟩
        obtain ⟨A4, c4, rfl, -⟩ := o4.slice
        replace o4 := own_mono o4 (hS.1.size)
        replace h8 := (hb.block _ (Array.getElem?_eq_some_iff.1 h8).1).trans h8
        have hSn := HSZ.out _ (Below.after' hS.1 hb)
        clear hS hb
        have hS := hSn
        refine hK _ _ hS ?_
        clear hK K hSn
        try simp only [Act.put, st]
        refine held_step 8 rfl (hp _) (by kernel_rfl) (by kernel_rfl) (fun K hK => ⟨?_, ?_⟩)
        · exact fun _ _ => trivial
        go_simp
        refine (callsIn_wide.2 (V2.out _)).mono ?_
        rintro e y19 ⟨rfl, hb⟩
        replace h8 := (hb.block _ (Array.getElem?_eq_some_iff.1 h8).1).trans h8
        replace o4 := o4.later hb
        have hSn := HSZ.out _ (Below.after' hS.1 hb)
        clear hS hb
        have hS := hSn
        refine hK _ _ hS ?_
        clear hK K hSn
        try simp only [Act.put, st]
        refine held_step 11 rfl (hp _) (by kernel_rfl) (by kernel_rfl) (fun K hK => ⟨?_, ?_⟩)
        · exact fun _ _ => trivial
        go_simp
        refine (callsIn_wide.2 (V4.out _)).mono ?_
        rintro e y20 ⟨v11, rfl, o11, hb⟩
        obtain ⟨A11, c11, rfl, -⟩ := o11.slice
        replace o11 := own_mono o11 (hS.1.size)
        replace h8 := (hb.block _ (Array.getElem?_eq_some_iff.1 h8).1).trans h8
        replace o4 := o4.later hb
        have hSn := HSZ.out _ (Below.after' hS.1 hb)
        clear hS hb
        have hS := hSn
        refine hK _ _ hS ?_
        clear hK K hSn
        try simp only [Act.put, st]
        refine held_step 12 rfl (hp _) (by kernel_rfl) (by kernel_rfl) (fun K hK => ⟨?_, ?_⟩)
        · exact fun _ _ => trivial
        go_simp
        have hb : Below y20.heap.size y20 (y20.alloc (.cells #[.slice A4 P1.length c4, .slice A11 P2.length c11] 39)) := (Below.refl _ _).alloc (Nat.le_refl _) _
        have h12 : (y20.alloc (.cells #[.slice A4 P1.length c4, .slice A11 P2.length c11] 39)).heap[y20.heap.size]? = some (.cells #[.slice A4 P1.length c4, .slice A11 P2.length c11] 39 (0, 0)) := World.alloc_heap_new y20 _
        generalize y20.alloc (.cells #[.slice A4 P1.length c4, .slice A11 P2.length c11] 39) = y21 at *
        replace h8 := (hb.block _ (Array.getElem?_eq_some_iff.1 h8).1).trans h8
        replace o4 := o4.later hb
        replace o11 := o11.later hb
        have hSn := HSZ.out _ (Below.after' hS.1 hb)
        clear hS hb
        have hS := hSn
        refine hK _ _ hS ?_
        clear hK K hSn
        try simp only [Act.put, st]
        refine held_step 13 rfl (hp _) (by kernel_rfl) (by kernel_rfl) (fun K hK => ⟨?_, ?_⟩)
        · exact fun _ _ => trivial
        go_simp
        have h9 := concat2g A4 A11 c4 c11 P1 P2 _ _ h12 o4 o11 (by rw [HEL.out]; omega)
        refine (callsIn_wide.2 h9).mono ?_
        rintro e y22 ⟨v13, rfl, o13, hb⟩
        clear h9
        replace o13 := own_mono o13 (hS.1.size)
        replace h8 := (hb.block _ (Array.getElem?_eq_some_iff.1 h8).1).trans h8
        replace o4 := o4.later hb
        replace o11 := o11.later hb
        replace h12 := (hb.block _ (Array.getElem?_eq_some_iff.1 h12).1).trans h12
        have hSn := HSZ.out _ (Below.after' hS.1 hb)
        clear hS hb
        have hS := hSn
        refine hK _ _ hS ?_
        clear hK K hSn
        try simp only [Act.put, st]
        refine held_one 15 rfl (hp _) (by kernel_rfl) (by kernel_rfl) (by kernel_rfl) (fun K hK => ⟨?_, ?_⟩)
        · exact fun _ _ => trivial
        obtain ⟨hBz, hc0⟩ := hS
        obtain ⟨A13, c13, e13, -⟩ := o13.slice
        generalize (P1 ++ P2).length = L13 at e13
        subst e13
        have HSEC := Lib.hid (sec_store hBz h8 o13 (by omega) hzz.symm)
        have c8 : y22.cell? ⟨y1.heap.size, 0, none⟩ = some (.slice none 0 0) := by simp [World.cell?, h8]
        have f8 : y22.frozen? ⟨y1.heap.size, 0, none⟩ = false := by simp [World.frozen?, h8]
        clear o4 o11 o13 h12 hBz
        go_simp
        refine hK _ _ ?_
        clear hK K
        try simp only [Act.put, st]
        refine held_end (by kernel_rfl) ?_
        gi_wp2
        gi_meet
        case rel => exact ⟨_, _, rfl, HSEC.out⟩
    · skip
      go_simp
      have hb : Below z.heap.size z (z.alloc (.cells #[.slice none 0 0] 39)) := (Below.refl _ _).alloc (Nat.le_refl _) _
      have h8 : (z.alloc (.cells #[.slice none 0 0] 39)).heap[z.heap.size]? = some (.cells #[.slice none 0 0] 39 (0, 0)) := World.alloc_heap_new z _
      have g8 : z.heap.size ≤ z.heap.size := hS.1.size
      generalize z.alloc (.cells #[.slice none 0 0] 39) = y1 at *
      have hSn := HSZ.out _ (Below.after' hS.1 hb)
      clear hS hb
      have hS := hSn
      refine hK _ _ (fun _ => hS) ?_
      clear hK K hSn
      try simp only [Act.put, st]
      refine held_step 1 rfl (hp _) (by kernel_rfl) (by kernel_rfl) (fun K hK => ⟨?_, ?_⟩)
      · exact fun _ _ => trivial
      go_simp
      refine (callsIn_wide.2 (V1.out _)).mono ?_
      rintro e y23 ⟨rfl, hb⟩
      replace h8 := (hb.block _ (Array.getElem?_eq_some_iff.1 h8).1).trans h8
      have hSn := HSZ.out _ (Below.after' hS.1 hb)
      clear hS hb
      have hS := hSn
      refine hK _ _ hS ?_
      clear hK K hSn
      try simp only [Act.put, st]
      refine held_step 4 rfl (hp _) (by kernel_rfl) (by kernel_rfl) (fun K hK => ⟨?_, ?_⟩)
      · exact fun _ _ => trivial
      go_simp
      refine (callsIn_wide.2 (V3.out _)).mono ?_
      rintro e y24 ⟨v4, rfl, o4, hb⟩
      obtain ⟨A4, c4, rfl, -⟩ := o4.slice
      replace o4 := own_mono o4 (hS.1.size)
      replace h8 := (hb.block _ (Array.getElem?_eq_some_iff.1 h8).1).trans h8
      have hSn := HSZ.out _ (Below.after' hS.1 hb)
      clear hS hb
      have hS := hSn
      refine hK _ _ hS ?_
      clear hK K hSn
      try simp only [Act.put, st]
      refine held_step 8 rfl (hp _) (by kernel_rfl) (by kernel_rfl) (fun K hK => ⟨?_, ?_⟩)
      · exact fun _ _ => trivial
      go_simp
      refine (callsIn_wide.2 (V2.out _)).mono ?_
      rintro e y25 ⟨rfl, hb⟩
      replace h8 := (hb.block _ (Array.getElem?_eq_some_iff.1 h8).1).trans h8
      replace o4 := o4.later hb
      have hSn := HSZ.out _ (Below.after' hS.1 hb)
      clear hS hb
      have hS := hSn
      refine hK _ _ hS ?_
      clear hK K hSn
      try simp only [Act.put, st]
      refine held_step 11 rfl (hp _) (by kernel_rfl) (by kernel_rfl) (fun K hK => ⟨?_, ?_⟩)
      · exact fun _ _ => trivial
      go_simp
      refine (callsIn_wide.2 (V4.out _)).mono ?_
      rintro e y26 ⟨v11, rfl, o11, hb⟩
      obtain ⟨A11, c11, rfl, -⟩ := o11.slice
      replace o11 := own_mono o11 (hS.1.size)
      replace h8 := (hb.block _ (Array.getElem?_eq_some_iff.1 h8).1).trans h8
      replace o4 := o4.later hb
      have hSn := HSZ.out _ (Below.after' hS.1 hb)
      clear hS hb
      have hS := hSn
      refine hK _ _ hS ?_
      clear hK K hSn
      try simp only [Act.put, st]
      refine held_step 12 rfl (hp _) (by kernel_rfl) (by kernel_rfl) (fun K hK => ⟨?_, ?_⟩)
      · exact fun _ _ => trivial
      go_simp
      have hb : Below y26.heap.size y26 (y26.alloc (.cells #[.slice A4 P1.length c4, .slice A11 P2.length c11] 39)) := (Below.refl _ _).alloc (Nat.le_refl _) _
      have h12 : (y26.alloc (.cells #[.slice A4 P1.length c4, .slice A11 P2.length c11] 39)).heap[y26.heap.size]? = some (.cells #[.slice A4 P1.length c4, .slice A11 P2.length c11] 39 (0, 0)) := World.alloc_heap_new y26 _
      generalize y26.alloc (.cells #[.slice A4 P1.length c4, .slice A11 P2.length c11] 39) = y27 at *
      replace h8 := (hb.block _ (Array.getElem?_eq_some_iff.1 h8).1).trans h8
      replace o4 := o4.later hb
      replace o11 := o11.later hb
      have hSn := HSZ.out _ (Below.after' hS.1 hb)
      clear hS hb
      have hS := hSn
      refine hK _ _ hS ?_
      clear hK K hSn
      try simp only [Act.put, st]
      refine held_step 13 rfl (hp _) (by kernel_rfl) (by kernel_rfl) (fun K hK => ⟨?_, ?_⟩)
      · exact fun _ _ => trivial
      go_simp
      have h9 := concat2g A4 A11 c4 c11 P1 P2 _ _ h12 o4 o11 (by rw [HEL.out]; omega)
      refine (callsIn_wide.2 h9).mono ?_
      rintro e y28 ⟨v13, rfl, o13, hb⟩
      clear h9
      replace o13 := own_mono o13 (hS.1.size)
      replace h8 := (hb.block _ (Array.getElem?_eq_some_iff.1 h8).1).trans h8
      replace o4 := o4.later hb
      replace o11 := o11.later hb
      replace h12 := (hb.block _ (Array.getElem?_eq_some_iff.1 h12).1).trans h12
      have hSn := HSZ.out _ (Below.after' hS.1 hb)
      clear hS hb
      have hS := hSn
      refine hK _ _ hS ?_
      clear hK K hSn
      try simp only [Act.put, st]
      refine held_one 15 rfl (hp _) (by kernel_rfl) (by kernel_rfl) (by kernel_rfl) (fun K hK => ⟨?_, ?_⟩)
      · exact fun _ _ => trivial
      obtain ⟨hBz, hc0⟩ := hS
      obtain ⟨A13, c13, e13, -⟩ := o13.slice
      generalize (P1 ++ P2).length = L13 at e13
      subst e13
      rw [hzs] at h8
      have HSEC := Lib.hid (sec_store hBz h8 o13 (by omega) hzz.symm)
      have c8 : y28.cell? ⟨w1.heap.size, 0, none⟩ = some (.slice none 0 0) := by simp [World.cell?, h8]
      have f8 : y28.frozen? ⟨w1.heap.size, 0, none⟩ = false := by simp [World.frozen?, h8]
      clear o4 o11 o13 h12 hBz
      go_simp
      refine hK _ _ ?_
      clear hK K
      try simp only [Act.put, st]
      refine held_end (by kernel_rfl) ?_
      gi_wp2
      gi_meet
      case rel => exact ⟨_, _, rfl, HSEC.out⟩
  case rest =>
    obtain ⟨B8, v8, rfl, hC⟩ := hcut
    clear c0
    gi_wp2_with (refine ⟨trivial, ?_⟩; gi_at_call 77; refine (rays_in Fence.wide 5 trivial rfl _ _ _).mono ?_; rintro e w' ⟨rfl, rfl⟩)
    obtain ⟨W0, hW0⟩ : ∃ W0, (wc.alloc (.cells #[.int .i64 a] 3)).alloc (.cells #[.int .i64 2] 3) = W0 := ⟨_, rfl⟩
    have hb0 : Below wc.heap.size wc W0 := by rw [← hW0]; go_grown
    have hz0 : W0.heap.size = wc.heap.size + 2 := by rw [← hW0]; simp
    have k1 : W0.heap[wc.heap.size]? = some (.cells #[.int .i64 a] 3 (0, 0)) := by rw [← hW0]; exact (Below.heap_alloc _ _ _ (by simp)).trans (World.alloc_heap_new wc _)
    have k2 : W0.heap[wc.heap.size + 1]? = some (.cells #[.int .i64 2] 3 (0, 0)) := by
      rw [← hW0]
      have h9 := World.alloc_heap_new (wc.alloc (.cells #[.int .i64 a] 3)) (.cells #[.int .i64 2] 3)
      rw [World.size_alloc] at h9; exact h9
    have hcs := hC.below.size
    have hB0 : Below w1.heap.size w1 W0 := hC.below.trans (hb0.mono hcs)
    have h80 : W0.heap[B8]? = some (.cells #[v8] 39 (0, 0)) := (hb0.block _ (Array.getElem?_eq_some_iff.1 hC.kept).1).trans hC.kept
    have ho0 : Own W0 w1.heap.size v8 (P1 ++ P2) := hC.own.later hb0
    have hl8 : B8 < wc.heap.size := (Array.getElem?_eq_some_iff.1 hC.kept).1
    have hv8b : ∀ k, v8.ownBlock = some k → w1.heap.size ≤ k := fun k e => (own_block_lt ho0 e).1
    have hv8c : v8.ownBlock ≠ some B8 := fun e => hC.at' _ e rfl
    have hg8 := hC.ge8
    rw [hW0]
    clear hW0 hb0 hC
    refine wpIn_rangeFunc_ownH rfl (by omega) (gf := 100) (lb := #[.pointer (some ⟨wc.heap.size, 0, none⟩), .pointer (some ⟨wc.heap.size + 1, 0, none⟩)]) rfl trivial (enters_of Tryz.func100 (by kernel_rfl) rfl)
      (rays_stops _ (by omega) wc.heap.size (wc.heap.size + 1) w1.heap.size a 2 (by omega) W0 hB0.size k1 k2) kpn3_t (kpn3_b hB0.size) (Below.refl _ _) (fun _ => rfl)
      (fun pre W => ∃ v, PushV 39 w1.heap.size B8 v8 v ((P1 ++ P2) ++ pre.flatMap (fun k => roundL (atS k) hi 998)) W0 W)
      (fun cd pre W => False)
      (fun s A B row hs hg hr => hs.imp fun v c => c.grown hg (fun r e => ⟨(hr r e).1, (hr r e).2⟩))
      (fun c s A B row hs hg hr => hs)
      ⟨_, by simpa using PushV.same h80 ho0 (Below.refl _ _)⟩
      (fun y a' W => ∃ Ba, W.heap[Ba]? = some (.cells #[.int .i64 (atS y).x, .int .i64 (atS y).y] 23 (0, 0)) ∧ a' = { tmps := #[.int .i64 ↑a, .int .i64 2, Value.agg #[.int .i64 lo, .int .i64 hi], undef, undef, Value.pointer (some ⟨w.heap.size, 0, none⟩), Value.pointer (some ⟨w.heap.size + 1, 0, none⟩), Value.pointer (some ⟨w.heap.size + 1 + 1, 0, none⟩), Value.pointer (some ⟨B8, 0, none⟩), undef, Value.pointer (some ⟨Ba, 0, none⟩), undef, undef, undef, undef, undef, undef, undef, undef, .int .i64 ↑a, .int .i64 2, Value.bool true, Value.bool false, Value.bool false, Value.pointer (some ⟨w.heap.size, 0, none⟩), .int .i64 lo, Value.bool false, Value.bool false, Value.bool false, Value.pointer (some ⟨w.heap.size, 0, none⟩), .int .i64 lo, Value.pointer (some ⟨w.heap.size, 1, none⟩), .int .i64 hi, Value.bool false, Value.bool false, Value.bool false, Value.pointer (some ⟨w.heap.size, 1, none⟩), .int .i64 hi, Value.bool false, Value.bool false, u40, u41, u42, u43, u44, u45, u46, u47, u48, u49, u50, u51, u52, u53, .int .i64 ↑a, .int .i64 2, Value.func (Fn.func 100) #[] #[Value.pointer (some ⟨wc.heap.size, 0, none⟩), Value.pointer (some ⟨wc.heap.size + 1, 0, none⟩)], .int .i64 (↑y % 64), (atS y).val, u59, u60, u61, u62, u63, u64, u65, u66, u67, u68, u69, u70, u71, u72, u73, u74, u75, u76, u77, u78, u79, u80, u81, u82, u83, u84, u85, u86, u87, u88, u89, u90, u91, u92, u93, u94, u95, u96, u97, u98, u99, u100, u101, u102, u103, u104, u105, u106, u107], defers := [] })
      (fun y a' _ X Y row hs hg hr => by
        obtain ⟨Ba, h3, h5⟩ := hs
        exact ⟨Ba, (grownBy_keeps_cells hg (fun r e => (hr r e).2) h3 rfl).trans h3, h5⟩)
      ?assign ?body ?done ?stop
    case assign =>
      rintro l pre y W K ⟨v, hC⟩ hK
      gi_wp2
      have hbn : Below W.heap.size W (W.alloc (.cells #[.int .i64 (atS y).x, .int .i64 (atS y).y] 23)) := by go_grown
      exact hK _ _ (keepsFrom_of hbn _) ⟨hbn.mono (Nat.le_trans hB0.size hC.size), Keep3.below hbn⟩ ⟨v, hC.after hbn⟩ ⟨W.heap.size, World.alloc_heap_new W _, rfl⟩
    case stop =>
      rintro D cd pre W hD hpre hF
      exact hF.elim
    case body =>
      rintro l pre y a' W hl hr ⟨v, hC⟩ ⟨Ba, hBa, rfl⟩ hlen
      dsimp only
      have hsn : P1 ++ P2 ++ (pre ++ [y]).flatMap (fun k => roundL (atS k) hi 998) = (P1 ++ P2 ++ pre.flatMap (fun k => roundL (atS k) hi 998)) ++ roundL (atS y) hi 998 := by simp
      have hll := flatMap_round_len hi pre
      have hfl : (roundL (atS y) hi 998).length = 4 := rfl
      have u5 := V5.out y
      have hxl : (P1 ++ P2 ++ pre.flatMap (fun k => roundL (atS k) hi 998)).length ≤ 1000 := by rw [List.length_append, HEL.out]; omega
      generalize P1 ++ P2 ++ pre.flatMap (fun k => roundL (atS k) hi 998) = XS at *
      generalize roundL (atS y) hi 998 = fr at *
      generalize atS y = T at *
      obtain ⟨tx, ty⟩ := T
      dsimp only at hBa ⊢
      have hck := hC.cell
      have hnb : v.ownBlock ≠ some B8 := hC.ne hv8c (by omega)
      have hbW : Below w1.heap.size w1 W := hB0.trans (hC.below hB0.size hg8 hv8b)
      have s0 : W.drew.cell? ⟨B8, 0, none⟩ = some v := by go_simp; simp [World.cell?, hck]
      have s1 : W.drew.cell? ⟨Ba, 0, none⟩ = some (.int .i64 tx) := by go_simp; simp [World.cell?, hBa]
      have s2 : W.drew.cell? ⟨Ba, 1, none⟩ = some (.int .i64 ty) := by go_simp; simp [World.cell?, hBa]
      have s3 : W.drew.cell? ⟨w.heap.size, 1, none⟩ = some (.int .i64 hi) := by go_simp; exact kp hbW c1
      have U5 := Lib.hid u5
      have HSN := Lib.hid hsn
      have HCI := Lib.hid hC
      have HX := Lib.hid hxl
      have hbz : Below W.heap.size W W.drew := Below.drew (Below.refl _ _)
      have hsW : w1.heap.size ≤ W.heap.size := hbW.size
      clear u5 hC hsn hll hlen hbW hBa hxl hck c1 c6 c7
      gi_wp2
      have HSZ := Lib.hid (show ∀ w9, Below W.drew.heap.size W.drew w9 → Below W.drew.heap.size W.drew w9 ∧ w9.cell? ⟨B8, 0, none⟩ = some v ∧ w9.cell? ⟨Ba, 0, none⟩ = some (.int .i64 tx) ∧ w9.cell? ⟨Ba, 1, none⟩ = some (.int .i64 ty) ∧ w9.cell? ⟨w.heap.size, 1, none⟩ = some (.int .i64 hi) from fun w9 h9 => ⟨h9, kp h9 s0, kp h9 s1, kp h9 s2, kp h9 s3⟩)
      clear s0 s1 s2 s3
      refine held_begin [0, 1, 2, 3] (fun w9 => Below W.drew.heap.size W.drew w9 ∧ w9.cell? ⟨B8, 0, none⟩ = some v ∧ w9.cell? ⟨Ba, 0, none⟩ = some (.int .i64 tx) ∧ w9.cell? ⟨Ba, 1, none⟩ = some (.int .i64 ty) ∧ w9.cell? ⟨w.heap.size, 1, none⟩ = some (.int .i64 hi)) (by kernel_rfl) (HSZ.out _ (Below.refl _ _)) (fun hS => ?_)
      generalize W.drew = z at *
      refine tk 0 (v := ?_) (plainOps_some rfl (by kernel_rfl)) hS rfl (fun _ _ _ _ => trivial) ?_ ?_
      rotate_left 1
      · intro w hw; (try rw [hw]); (try go_split_ands); go_simp <;> with_reducible rfl
      try simp only [Act.put, st]
      refine tk 1 (v := ?_) (plainOps_some rfl (by kernel_rfl)) hS rfl (fun _ _ _ _ => trivial) ?_ ?_
      rotate_left 1
      · intro w hw; (try rw [hw]); (try go_split_ands); go_simp <;> with_reducible rfl
      try simp only [Act.put, st]
      refine tk 2 (v := ?_) (plainOps_some rfl (by kernel_rfl)) hS rfl (fun _ _ _ _ => trivial) ?_ ?_
      rotate_left 1
      · intro w hw; (try rw [hw]); (try go_split_ands); go_simp <;> with_reducible rfl
      try simp only [Act.put, st]
      refine tk 3 (v := ?_) (plainOps_some rfl (by kernel_rfl)) hS rfl (fun _ _ _ _ => trivial) ?_ ?_
      rotate_left 1
      · intro w hw; (try rw [hw]); (try go_split_ands); go_simp <;> with_reducible rfl
      try simp only [Act.put, st]
      refine held_step 4 rfl (plainOps_some rfl (by kernel_rfl)) (by kernel_rfl) (by kernel_rfl) (fun K hK => ⟨?_, ?_⟩)
      · exact fun _ _ => trivial
      go_simp
      refine (CallsIn.inRound l (callsIn_wide.2 (U5.out _))).mono ?_
      rintro e w5 ⟨v5, rfl, ho5, hb_5⟩
      have hb5 : Below W.heap.size W w5 := hbz.trans ((Below.after' hS.1 hb_5).mono hbz.size)
      have hS := HSZ.out _ (Below.after' hS.1 hb_5)
      refine hK _ _ hS ?_
      clear hK K
      try simp only [Act.put, st]
      have hP5 := HCI.out.after hb5
      obtain ⟨g5, c5, rfl, hg5, hg5'⟩ := own_block ho5 (by intro e; rw [e] at hfl; simp at hfl)
      obtain ⟨_, _, e5, _, _, _, hp5⟩ := ho5.slice
      cases e5
      obtain ⟨v7, w7, hrun, hown, hgr, hat⟩ := run_append_pts w5 39 w1.heap.size v XS hP5.own (some ⟨g5, 0, none⟩) fr.length c5 fr (by simp) rfl hp5 (by have := HX.out; omega) (Nat.le_trans hsW hb5.size)
      have HRUN := Lib.hid hrun
      have hBk5 : B8 < w5.heap.size := by have := hP5.size; omega
      have h7 : w7.heap[B8]? = some (.cells #[v] 39 (0, 0)) := (hgr.block B8 hBk5 (fun e => hnb e.symm)).trans hP5.cell
      have c7 : w7.cell? ⟨B8, 0, none⟩ = some v := by simp [World.cell?, h7]
      have f7 : w7.frozen? ⟨B8, 0, none⟩ = false := by simp [World.frozen?, h7]
      have hpd := pushV_of (w := w5) (Below.refl _ _) hBk5 h7 hown hgr rfl hat hnb
      have hpW := (PushV.same HCI.out.cell HCI.out.own hb5).trans hpd
      have hpf := hP5.trans hpd
      obtain ⟨A9, q9, e9, _⟩ := hown.slice
      generalize hL9 : (XS ++ fr).length = L9 at e9
      subst e9
      have HPD9 := Lib.hid (And.intro hpW hpf)
      clear hown hgr hat h7 hpd hpW hpf hrun ho5 hp5 hP5
      refine held_one 5 rfl (plainOps_some rfl (by kernel_rfl)) (by kernel_rfl) (by kernel_rfl) (by kernel_rfl) (fun K hK => ⟨?_, ?_⟩)
      · exact fun _ _ => trivial
      rw [run_append_op (s := .tmp 59) (x := .tmp 63) rfl _ _ _ rfl rfl HRUN.out]
      go_simp
      refine hK _ _ ?_
      clear hK K
      try simp only [Act.put, st]
      refine held_one 6 rfl (plainOps_some rfl (by kernel_rfl)) (by kernel_rfl) (by kernel_rfl) (by kernel_rfl) (fun K hK => ⟨?_, ?_⟩)
      · exact fun _ _ => trivial
      go_simp
      refine hK _ _ ?_
      clear hK K
      try simp only [Act.put, st]
      refine held_end (by kernel_rfl) ?_
      gi_wp2
      obtain ⟨hpW, hpf⟩ := HPD9.out
      refine ⟨(hpW.others HCI.out.cell HCI.out.own).from _, ⟨hpW.below hsW hg8 (fun k e => (own_block_lt HCI.out.own e).1), fun k cs y e => hpW.keeps e (fun e' => ?_) (fun e' => ?_)⟩, ⟨_, by rw [HSN.out]; exact hpf⟩⟩
      · subst e'; rw [HCI.out.cell] at e; cases e
      · obtain ⟨cs', y', hh⟩ := own_block23 HCI.out.own e'
        rw [hh] at e; cases e
    case done =>
      rintro D zs W hD hzs ⟨v, hC⟩ hK
      subst hzs
      rw [← HEP.out] at hC
      have hDlt : D < W.heap.size := (Array.getElem?_eq_some_iff.1 hK).1
      have hBW : Below w1.heap.size w1 W := hB0.trans (hC.below hB0.size hg8 hv8b)
      have hkc := hC.cell
      obtain ⟨A9, c9, rfl, hc9, -, -, hp9⟩ := hC.own.slice
      have ck : W.cell? ⟨B8, 0, none⟩ = some (.slice A9 (secL a 2 lo hi).length c9) := by simp [World.cell?, hkc]
      have d6 := (hBW.block _ (Array.getElem?_eq_some_iff.1 c6).1).trans c6
      have d7 := (hBW.block _ (Array.getElem?_eq_some_iff.1 c7).1).trans c7
      have hD6 : D ≠ w.heap.size + 1 := by omega
      have hD7 : D ≠ w.heap.size + 1 + 1 := by omega
      have hl := hullS_len (secL a 2 lo hi)
      rw [HLN.out] at hl
      have hcall := Hull_ok A9 _ c9 (secL a 2 lo hi) W rfl hp9 HPL.out (by rw [HLN.out]; omega) (by intro e; have := HLN.out; rw [e] at this; simp at this) (by omega)
      have HC9 := Lib.hid hcall
      rw [HLN.out] at ck HC9
      clear hC hp9 hcall hl hkc c1 c6 c7 hc9
      gi_wp2
      refine ⟨trivial, (callsIn_wide.2 HC9.out).mono ?_⟩
      rintro e W5 ⟨v5, rfl, ho5, hb5⟩
      have hK' := (hb5.block D hDlt).trans hK
      replace d6 := (hb5.block _ (Array.getElem?_eq_some_iff.1 d6).1).trans d6
      replace d7 := (hb5.block _ (Array.getElem?_eq_some_iff.1 d7).1).trans d7
      have hbf : Below w1.heap.size w1 W5 := hBW.trans (hb5.mono hBW.size)
      have hbf2 : Below w.heap.size w W5 := hB1.trans (hbf.mono hB1.size)
      have HO5 := Lib.hid (own_mono ho5 (Nat.le_trans hB1.size hBW.size))
      obtain ⟨A5, c5, rfl, -⟩ := ho5.slice
      generalize hLL : (hullS (secL a 2 lo hi)).length = LL at *
      have e6 : W5.cell? ⟨w.heap.size + 1, 0, none⟩ = some (.slice none 0 0) := by simp [World.cell?, d6]
      have e7 : W5.cell? ⟨w.heap.size + 1 + 1, 0, none⟩ = some (.int .i64 0) := by simp [World.cell?, d7]
      have g6 : W5.frozen? ⟨w.heap.size + 1, 0, none⟩ = false := by simp [World.frozen?, d6]
      have g7 : W5.frozen? ⟨w.heap.size + 1 + 1, 0, none⟩ = false := by simp [World.frozen?, d7]
      have hq6 : w.heap.size + 1 < W5.heap.size := by have := hbf2.size; have := hbf.size; omega
      have hq7 : w.heap.size + 1 + 1 < W5.heap.size := by have := hbf2.size; have := hbf.size; omega
      have hnn : ∀ k o, W5.heap[k]? = some o → (∀ cs y, o ≠ .cells cs 23 y) → (Value.slice A5 LL c5).ownBlock ≠ some k := fun k o hk hne e => by
        obtain ⟨cs, y, hh⟩ := own_block23 HO5.out e
        rw [hk] at hh; cases hh; exact hne _ _ rfl
      have hn6 := hnn _ _ d6 (by intro cs y e; cases e)
      have hn7 := hnn _ _ d7 (by intro cs y e; cases e)
      have HF := Lib.hid (show ∀ Wf, (W5.setCell ⟨w.heap.size + 1, 0, none⟩ (.slice A5 LL c5)).setCell ⟨w.heap.size + 1 + 1, 0, none⟩ (.int .i64 0) = Wf → Wf.heap[D]? = some (.deferred (some [])) ∧ Wf.heap[w.heap.size + 1]? = some (.cells #[.slice A5 LL c5] 39 (0, 0)) ∧ Wf.heap[w.heap.size + 1 + 1]? = some (.cells #[.int .i64 0] 28 (0, 0)) ∧ Own Wf w.heap.size (.slice A5 LL c5) (hullS (secL a 2 lo hi)) ∧ Below w.heap.size w Wf from by
        rintro Wf rfl
        refine ⟨?_, ?_, ?_, ?_, ?_⟩
        · exact (Below.heap_setCell _ ⟨_, 0, none⟩ _ D (by dsimp only; omega)).trans ((Below.heap_setCell _ ⟨_, 0, none⟩ _ D (by dsimp only; omega)).trans hK')
        · exact (Below.heap_setCell _ ⟨_, 0, none⟩ _ _ (by dsimp only; omega)).trans (one_setCell d6)
        · exact one_setCell ((Below.heap_setCell _ ⟨_, 0, none⟩ _ _ (by dsimp only; omega)).trans d7)
        · exact ownsRow_setCell_other (ownsRow_setCell_other HO5.out hn6 _) hn7 _
        · exact (hbf2.setCell (p := ⟨w.heap.size + 1, 0, none⟩) (by dsimp only; omega) _).setCell (p := ⟨w.heap.size + 1 + 1, 0, none⟩) (by dsimp only; omega) _)
      clear d6 d7 hn6 hn7 hnn
      gi_wp2
      generalize hWf : (W5.setCell ⟨w.heap.size + 1, 0, none⟩ (.slice A5 LL c5)).setCell ⟨w.heap.size + 1 + 1, 0, none⟩ (.int .i64 0) = Wf
      obtain ⟨kD, k6, k7, kO, kB⟩ := HF.out Wf hWf
      refine ⟨by simp, .inl ⟨_, _, rfl, run_takeDeferred kD, ?_⟩⟩
      have hg := grownBy_putObj' Wf D (.deferred none)
      have hr : ∀ r, some D = some r → ∃ o : Obj, Wf.heap[r]? = some o ∧ o.isCells = false := fun r e => by cases e; exact ⟨_, kD, rfl⟩
      have l6 := (grownBy_keeps_cells hg hr k6 rfl).trans k6
      have l7 := (grownBy_keeps_cells hg hr k7 rfl).trans k7
      have m6 : (Wf.putObj D (.deferred none)).cell? ⟨w.heap.size + 1, 0, none⟩ = some (.slice A5 LL c5) := by simp [World.cell?, l6]
      have m7 : (Wf.putObj D (.deferred none)).cell? ⟨w.heap.size + 1 + 1, 0, none⟩ = some (.int .i64 0) := by simp [World.cell?, l7]
      refine ⟨.tuple #[.slice A5 LL c5, .int .i64 0], ?_, _, rfl, own_grown kO hg hr, kB.trans (belowK_b (w := w) (Nat.le_refl _) _ D _ _ (by omega) kD rfl rfl)⟩
      simp [results, Tryz.f46, go_sem, m6, m7]
end Go.Proofs.YtnhdnkeiijiiaaaGreat
namespace Go.Proofs.YtnhdnkeiijiiaaaGreat
open Go.RowKit Go.Shelf
set_option linter.unusedSimpArgs false
set_option linter.unusedVariables false
attribute [local go_sem] Oper.semAt_some
set_option maxRecDepth 100000 in
set_option maxHeartbeats 4000000 in
theorem Sector_bad (a : Nat) (lo hi : Int) (w : World) (ha : a < 64) (hd : distB lo hi = false) :
    Calls Tryz.prog 46 #[.int .i64 a, .int .i64 2, .agg #[.int .i64 lo, .int .i64 hi]] w fun e w' => e = .returned (.tuple #[.slice none 0 0, .int .i64 1]) ∧ Below w.heap.size w w' := by
  have r0 := fun W => areRays_any a 2 W
  have er : raysB a 2 = true := by simp [raysB]; omega
  rw [er] at r0
  have V0 := Lib.hid r0
  have key : decide (lo < 0) = true ∨ decide (lo < 0) = false ∧ (decide (hi < lo) = true ∨ decide (hi < lo) = false ∧ decide ((100000 : Int) < hi) = true) := by
    simp [distB] at hd ⊢; omega
  clear r0 er hd
  generalize hq1 : decide (lo < 0) = q1 at *
  generalize hq2 : decide (hi < lo) = q2 at *
  generalize hq3 : decide ((100000 : Int) < hi) = q3 at *
  refine (callsIn_wide (n := 6)).1 ?_
  refine callsIn_of_wp_marks Tryz.func46 rfl trivial ?_ rfl
  simp only [Tryz.ntmps46, List.size_toArray, List.length_cons, List.length_nil, Nat.reduceAdd, Nat.reduceSub, Array.replicate_succ, Array.replicate_zero, List.push_toArray, List.append_toArray, List.nil_append, List.cons_append]
  gi_wp2
  refine ⟨trivial, (callsIn_wide.2 (V0.out _)).mono ?_⟩
  rintro e w1 ⟨rfl, hb1⟩
  have hB1 : Below w.heap.size w w1 := below_after (by go_grown) hb1
  have c0 : w1.cell? ⟨w.heap.size, 0, none⟩ = some (.int .i64 lo) := kp hb1 (by go_cell)
  have c1 : w1.cell? ⟨w.heap.size, 1, none⟩ = some (.int .i64 hi) := kp hb1 (by go_cell)
  have c6 : w1.heap[w.heap.size + 1]? = some (.cells #[.slice none 0 0] 39 (0, 0)) := by
    refine (hb1.block _ (by simp)).trans ((Below.heap_alloc _ _ _ (by simp)).trans ?_)
    have h9 := World.alloc_heap_new (w.alloc (.cells #[.int .i64 lo, .int .i64 hi] 25)) (.cells #[.slice none 0 0] 39)
    rw [World.size_alloc] at h9; exact h9
  have c7 : w1.heap[w.heap.size + 1 + 1]? = some (.cells #[.int .i64 0] 28 (0, 0)) := by
    refine (hb1.block _ (by simp)).trans ?_
    have h9 := World.alloc_heap_new ((w.alloc (.cells #[.int .i64 lo, .int .i64 hi] 25)).alloc (.cells #[.slice none 0 0] 39)) (.cells #[.int .i64 0] 28)
    rw [World.size_alloc, World.size_alloc] at h9; exact h9
  have hz1 := hb1.size
  try simp only [World.size_alloc, World.size_setCell, World.size_drew] at hz1
  clear hb1
  have e6 : w1.cell? ⟨w.heap.size + 1, 0, none⟩ = some (.slice none 0 0) := by simp [World.cell?, c6]
  have e7 : w1.cell? ⟨w.heap.size + 1 + 1, 0, none⟩ = some (.int .i64 0) := by simp [World.cell?, c7]
  have g6 : w1.frozen? ⟨w.heap.size + 1, 0, none⟩ = false := by simp [World.frozen?, c6]
  have g7 : w1.frozen? ⟨w.heap.size + 1 + 1, 0, none⟩ = false := by simp [World.frozen?, c7]
  have HF := Lib.hid (show ∀ Wf, (w1.setCell ⟨w.heap.size + 1, 0, none⟩ (.slice none 0 0)).setCell ⟨w.heap.size + 1 + 1, 0, none⟩ (.int .i64 1) = Wf → Wf.cell? ⟨w.heap.size + 1, 0, none⟩ = some (.slice none 0 0) ∧ Wf.cell? ⟨w.heap.size + 1 + 1, 0, none⟩ = some (.int .i64 1) ∧ Below w.heap.size w Wf from by
    rintro Wf rfl
    refine ⟨by go_cell, by go_cell, ?_⟩
    exact (hB1.setCell (p := ⟨w.heap.size + 1, 0, none⟩) (by dsimp only; omega) _).setCell (p := ⟨w.heap.size + 1 + 1, 0, none⟩) (by dsimp only; omega) _)
  clear c6 c7
  rcases key with rfl | ⟨rfl, rfl | ⟨rfl, rfl⟩⟩
  all_goals
    gi_wp2
    generalize hWf : (w1.setCell ⟨w.heap.size + 1, 0, none⟩ (.slice none 0 0)).setCell ⟨w.heap.size + 1 + 1, 0, none⟩ (.int .i64 1) = Wf
    obtain ⟨k6, k7, kB⟩ := HF.out Wf hWf
    refine ⟨.tuple #[.slice none 0 0, .int .i64 1], ?_, rfl, kB⟩
    simp [results, Tryz.f46, go_sem, k6, k7]
/-- what the iterator over the sectors tells of its element: a sector, or why there is none -/
def SecG (base : Nat) (lo hi : Int) (pre : List (Value × Int)) (x : Value × Int) (W : World) : Prop :=
  pre.length < 32 ∧ ((distB lo hi = true ∧ x.2 = 0 ∧ Own W base x.1 (secS (2 * pre.length) lo hi)) ∨ (distB lo hi = false ∧ x = (.slice none 0 0, 1)))
/-- a span's box stays -/
def KpS (n₀ B : Nat) (W W' : World) : Prop := Below n₀ W W' ∧ ∀ (cs : Array Value) (z : Nat × Nat), W.heap[B]? = some (Obj.cells cs 25 z) → W'.heap[B]? = some (Obj.cells cs 25 z)
theorem kpS_t {n₀ B : Nat} {X Y Z : World} (h : KpS n₀ B X Y) (k : KpS n₀ B Y Z) : KpS n₀ B X Z := ⟨h.1.trans k.1, fun cs z e => k.2 cs z (h.2 cs z e)⟩
theorem kpS_b {n₀ B : Nat} {w : World} (hn : n₀ ≤ w.heap.size) (W : World) (l : Nat) (o o' : Obj) (hl : w.heap.size ≤ l) (h : W.heap[l]? = some o) (hc : o.isCells = false) (hk : o.isWalk = false) : KpS n₀ B W (W.putObj l o') :=
  ⟨belowK_b hn W l o o' hl h hc hk, fun cs z e => (grownBy_keeps_cells (grownBy_putObj' W l o') (fun r e => by cases e; exact ⟨_, h, hc⟩) e rfl).trans e⟩
/-- the sector, or its error -/
theorem Sector_told (base a : Nat) (lo hi : Int) (w : World) (ha : a < 64) (hb : base ≤ w.heap.size) :
    Calls Tryz.prog 46 #[.int .i64 a, .int .i64 2, .agg #[.int .i64 lo, .int .i64 hi]] w fun e w' => ∃ (v : Value) (n : Int), e = .returned (.tuple #[v, .int .i64 n]) ∧ Below w.heap.size w w' ∧ ((distB lo hi = true ∧ n = 0 ∧ Own w' base v (secS a lo hi)) ∨ (distB lo hi = false ∧ v = .slice none 0 0 ∧ n = 1)) := by
  cases hd : distB lo hi with
  | true =>
    refine (Sector_ok a lo hi w ha hd).mono ?_
    rintro e w' ⟨v, rfl, ho, hbb⟩
    exact ⟨v, 0, rfl, hbb, .inl ⟨rfl, rfl, own_mono ho hb⟩⟩
  | false =>
    refine (Sector_bad a lo hi w ha hd).mono ?_
    rintro e w' ⟨rfl, hbb⟩
    exact ⟨_, _, rfl, hbb, .inr ⟨rfl, rfl, rfl⟩⟩
set_option maxRecDepth 100000 in
set_option maxHeartbeats 4000000 in
theorem sectors1_in (base B : Nat) (lo hi : Int) (l : Nat) (J Jx : List (Value × Int) → World → Prop) (W : World) (hbW : base ≤ W.heap.size) (hJ : AbidesFrom W.heap.size J)
    (hY : ∀ pre x W1, J pre W1 → SecG base lo hi pre x W1 → YieldAt Fence.wide 4 Tryz.prog l #[x.1, .int .i64 x.2] W1 fun e W' => (e = .returned (.bool true) ∧ J (pre ++ [x]) W' ∧ KpS base B W1 W') ∨ (e = .returned (.bool false) ∧ Jx (pre ++ [x]) W'))
    (hB : W.heap[B]? = some (.cells #[.int .i64 lo, .int .i64 hi] 25 (0, 0))) (h0 : J [] W) :
    CallsIn Fence.wide 5 Tryz.prog 45 #[.func (.yield l) #[] #[], .pointer (some ⟨B, 0, none⟩)] W fun e W' => (∃ v, e = .returned v) ∧ ((∃ xs, xs.length = 32 ∧ J xs W') ∨ ∃ pre, Jx pre W') := by
  refine callsIn_of_wp Tryz.func45 rfl trivial ?_ rfl
  simp only [Tryz.ntmps45, List.size_toArray, List.length_cons, List.length_nil, Nat.reduceAdd, Nat.reduceSub, Array.replicate_succ, Array.replicate_zero, List.push_toArray, List.append_toArray, List.nil_append, List.cons_append]
  gi_wp2
  gi_loopw [3] (fun s3 wr => ∃ k : Nat, k ≤ 32 ∧ s3 = .int .i64 ((2 * k : Nat) : Int) ∧ (∃ pre, pre.length = k ∧ J pre wr) ∧ W.heap.size ≤ wr.heap.size ∧ wr.heap[B]? = some (.cells #[.int .i64 lo, .int .i64 hi] 25 (0, 0)))
    (fun s3 _ => 64 - (intOf s3).toNat)
  case atStart => exact ⟨0, Nat.zero_le _, rfl, ⟨[], rfl, h0⟩, Nat.le_refl _, hB⟩
  case round =>
    obtain ⟨k, hk, rfl, ⟨pre, hpl, hJs⟩, hsz, hb1⟩ := hrel
    have c0 : wr.cell? ⟨B, 0, none⟩ = some (.int .i64 lo) := by simp [World.cell?, hb1]
    have c1 : wr.cell? ⟨B, 1, none⟩ = some (.int .i64 hi) := by simp [World.cell?, hb1]
    obtain ⟨a, ha⟩ : ∃ a, a = 2 * k := ⟨_, rfl⟩
    rw [← ha]
    by_cases hlt : k < 32
    · have hlt2 : (a : Int) < 64 := by omega
      have hS := Lib.hid (Sector_told base a lo hi wr (by omega) (by omega))
      have ha1 : (0 : Int) ≤ (a : Int) := by omega
      have HA := Lib.hid (And.intro ha hpl)
      clear ha hpl
      gi_wp2
      refine ⟨trivial, (callsIn_wide.2 hS.out).mono ?_⟩
      rintro e W2 ⟨v, n, rfl, hb, hG⟩
      have hJ2 := hJ _ _ _ none hJs ⟨hb.os, hb.tape, hb.output, hb.size, fun k hk _ => hb.block k hk⟩ (fun r e => by cases e)
      obtain ⟨ha, hpl⟩ := HA.out
      have hg : SecG base lo hi pre (v, n) W2 := by
        refine ⟨by omega, ?_⟩
        rw [hpl, ← ha]
        rcases hG with ⟨g1, g2, g3⟩ | ⟨g1, g2, g3⟩
        · exact .inl ⟨g1, g2, g3⟩
        · exact .inr ⟨g1, by rw [g2, g3]⟩
      obtain ⟨fn, tmps, assign, body, hy, hR⟩ := hY pre (v, n) W2 hJ2 hg
      dsimp only at hy
      have d1 := (hb.block _ (Array.getElem?_eq_some_iff.1 hb1).1).trans hb1
      have hs2 := Nat.le_trans hsz hb.size
      clear hJs hJ2 hb hb1 hg hG hsz c0 c1 ha hpl hS
      gi_wp2
      refine hR.mono ?_
      rintro e W3 (⟨rfl, hJ3, hk3⟩ | ⟨rfl, hJx3⟩)
      · have w1 := hk3.2 _ _ d1
        have hs3 := Nat.le_trans hs2 hk3.1.size
        gi_wp2
        go_roundw
        case rel => exact ⟨k + 1, by omega, by have := HA.out.1; congr 1; omega, ⟨_, by rw [List.length_append, HA.out.2]; rfl, hJ3⟩, hs3, w1⟩
        case measure => have := HA.out.1; simp [intOf]; omega
      · gi_wp2
        refine bodyPost_ret (results_none rfl _ _ _) rfl ?_
        exact ⟨⟨_, rfl⟩, .inr ⟨_, hJx3⟩⟩
    · obtain rfl : k = 32 := by omega
      have hnlt : ¬ ((a : Int) < 64) := by omega
      clear hY
      gi_wp2
      go_end0
      exact ⟨⟨_, rfl⟩, .inl ⟨pre, hpl, hJs⟩⟩
theorem sectors_tells (base B : Nat) (lo hi : Int) (w : World) (hbw : base ≤ w.heap.size) (hB : w.heap[B]? = some (.cells #[.int .i64 lo, .int .i64 hi] 25 (0, 0))) :
    Tells 45 #[.pointer (some ⟨B, 0, none⟩)] (fun x : Value × Int => #[x.1, .int .i64 x.2]) (KpS base B) (SecG base lo hi) (fun xs => xs.length = 32) w := fun l J Jx W hW hJ _ hY h0 =>
  sectors1_in base B lo hi l J Jx W (Nat.le_trans hbw hW.size) hJ hY ((hW.block B (Array.getElem?_eq_some_iff.1 hB).1).trans hB) h0
set_option maxRecDepth 100000 in
set_option maxHeartbeats 4000000 in
theorem sectors_in (lo hi : Int) (w : World) :
    CallsIn Fence.wide 5 Tryz.prog 23 #[.agg #[.int .i64 lo, .int .i64 hi]] w fun e w' => e = .returned (.func (.func 45) #[] #[.pointer (some ⟨w.heap.size, 0, none⟩)]) ∧ w' = w.alloc (.cells #[.int .i64 lo, .int .i64 hi] 25) := by
  refine callsIn_of_wp Tryz.func23 rfl trivial ?_ rfl
  simp only [Tryz.ntmps23, List.size_toArray, List.length_cons, List.length_nil, Nat.reduceAdd, Nat.reduceSub, Array.replicate_succ, Array.replicate_zero, List.push_toArray, List.append_toArray, List.nil_append, List.cons_append]
  gi_wp2
  go_ret
  exact ⟨rfl, rfl⟩
end Go.Proofs.YtnhdnkeiijiiaaaGreat
namespace Go.Proofs.YtnhdnkeiijiiaaaGreat
open Go.RowKit Go.Shelf
set_option linter.unusedSimpArgs false
set_option linter.unusedVariables false
attribute [local go_sem] Oper.semAt_some
/-- the sectors of a ring, moved -/
def ringL (q : Pt) (lo hi : Int) : List (List Pt) := (List.range 32).map fun j => shiftL q (secS (2 * j) lo hi)
/-- what ring.Ring answers beside a region -/
def ringErr (q : Pt) (lo hi : Int) : Int := if (distB lo hi && plB q) = true then (if (ringL q lo hi).all validB = true then 0 else 3) else 1
theorem alloc_at {W : World} {o : Obj} {k : Nat} (h : k = W.heap.size) : (W.alloc o).heap[k]? = some o := by subst h; exact World.alloc_heap_new W o
theorem alloc_old {W : World} {o r : Obj} {k : Nat} (h : W.heap[k]? = some r) : (W.alloc o).heap[k]? = some r := (Below.heap_alloc _ _ _ (Array.getElem?_eq_some_iff.1 h).1).trans h
theorem two_store {W : World} {B4 B5 t4 t5 : Nat} {u4 u5 v4 v5 : Value} (h4 : W.heap[B4]? = some (.cells #[u4] t4 (0, 0))) (h5 : W.heap[B5]? = some (.cells #[u5] t5 (0, 0))) (hne : B4 ≠ B5) :
    ((W.setCell ⟨B4, 0, none⟩ v4).setCell ⟨B5, 0, none⟩ v5).heap[B4]? = some (.cells #[v4] t4 (0, 0)) ∧ ((W.setCell ⟨B4, 0, none⟩ v4).setCell ⟨B5, 0, none⟩ v5).heap[B5]? = some (.cells #[v5] t5 (0, 0)) ∧
      (∀ k, k ≠ B4 → k ≠ B5 → ((W.setCell ⟨B4, 0, none⟩ v4).setCell ⟨B5, 0, none⟩ v5).heap[k]? = W.heap[k]?) ∧ ∀ {n₀ : Nat} {w : World}, Below n₀ w W → n₀ ≤ B4 → n₀ ≤ B5 → Below n₀ w ((W.setCell ⟨B4, 0, none⟩ v4).setCell ⟨B5, 0, none⟩ v5) :=
  ⟨(Below.heap_setCell _ ⟨_, 0, none⟩ _ _ hne).trans (one_setCell h4), one_setCell ((Below.heap_setCell _ ⟨_, 0, none⟩ _ _ hne.symm).trans h5), fun k h1 h2 => (Below.heap_setCell _ ⟨_, 0, none⟩ _ _ h2).trans (Below.heap_setCell _ ⟨_, 0, none⟩ _ _ h1),
    fun hb h1 h2 => (hb.setCell (p := ⟨B4, 0, none⟩) h1 _).setCell (p := ⟨B5, 0, none⟩) h2 _⟩
theorem sec_valid {a : Nat} {lo hi : Int} (hd : distB lo hi = true) : validB (secS a lo hi) = true := by
  obtain ⟨d1, d2, d3⟩ := distB_iff.1 hd
  have h1 := secL_len a 2 lo hi
  have h2 := hullS_len (secL a 2 lo hi)
  exact hull_valid (by intro e; rw [e] at h1; simp at h1) (secL_pl a 2 lo hi d1 d2 d3) (by omega)
theorem ringL_at {q : Pt} {lo hi : Int} {j : Nat} (hj : j < 32) : (ringL q lo hi).take (j + 1) = (ringL q lo hi).take j ++ [shiftL q (secS (2 * j) lo hi)] := by
  have : (ringL q lo hi)[j]? = some (shiftL q (secS (2 * j) lo hi)) := by simp [ringL, hj]
  rw [List.take_add_one, this]; rfl
theorem ringL_len (q : Pt) (lo hi : Int) : (ringL q lo hi).length = 32 := by simp [ringL]
theorem ringErr_1 {q : Pt} {lo hi : Int} (h : (distB lo hi && plB q) = false) : ringErr q lo hi = 1 := by simp [ringErr, h]
theorem ringErr_3 {q : Pt} {lo hi : Int} (h : (distB lo hi && plB q) = true) {j : Nat} (hj : j < 32) (hv : validB (shiftL q (secS (2 * j) lo hi)) = false) : ringErr q lo hi = 3 := by
  have : (ringL q lo hi).all validB = false := by
    rw [List.all_eq_false]
    exact ⟨_, List.mem_map.2 ⟨j, List.mem_range.2 hj, rfl⟩, by simp [hv]⟩
  simp [ringErr, h, this]
theorem ringErr_0 {q : Pt} {lo hi : Int} (h : (distB lo hi && plB q) = true) (hv : ∀ r ∈ ringL q lo hi, validB r = true) : ringErr q lo hi = 0 := by
  have : (ringL q lo hi).all validB = true := List.all_eq_true.2 hv
  simp [ringErr, h, this]
/-- the regions of a ring so far -/
structure RingI (w0 : World) (base B6 : Nat) (q : Pt) (lo hi : Int) (k : Nat) (v : Value) (W : World) : Prop where
  good : k ≠ 0 → (distB lo hi && plB q) = true
  valid : ∀ r ∈ (ringL q lo hi).take k, validB r = true
  row : PushR 27 base B6 (.slice none 0 0) v ((ringL q lo hi).take k) w0 W
/-- the error is laid down -/
structure RingX (w : World) (B4 B5 : Nat) (q : Pt) (lo hi : Int) (W : World) : Prop where
  nil : W.heap[B4]? = some (.cells #[.slice none 0 0] 27 (0, 0))
  err : W.heap[B5]? = some (.cells #[.int .i64 (ringErr q lo hi)] 28 (0, 0))
  ne : ringErr q lo hi ≠ 0
  below : Below w.heap.size w W
set_option maxRecDepth 100000 in
set_option maxHeartbeats 4000000 in
theorem Ring_any (q : Pt) (lo hi : Int) (w : World) (hq : I64 q.x ∧ I64 q.y) :
    Calls Tryz.prog 8 #[q.val, .agg #[.int .i64 lo, .int .i64 hi]] w fun e w' => (ringErr q lo hi = 0 ∧ RetRegOk w.heap.size w (tidiedS (ringL q lo hi)) e w') ∨ (ringErr q lo hi ≠ 0 ∧ RetRegErr w (ringErr q lo hi) e w') := by
  obtain ⟨qx, qy⟩ := q
  refine (callsIn_wide (n := 6)).1 ?_
  refine callsIn_of_wp_marks Tryz.func8 rfl trivial ?_ rfl
  simp only [Tryz.ntmps8, List.size_toArray, List.length_cons, List.length_nil, Nat.reduceAdd, Nat.reduceSub, Array.replicate_succ, Array.replicate_zero, List.push_toArray, List.append_toArray, List.nil_append, List.cons_append]
  gi_wp2_with (refine ⟨trivial, ?_⟩; gi_at_call 23; refine (sectors_in _ _ _).mono ?_; rintro e w' ⟨rfl, rfl⟩)
  obtain ⟨W0, hW0⟩ : ∃ W0, ((((((w.alloc (.cells #[.int .i64 qx, .int .i64 qy] 23)).alloc (.cells #[.int .i64 lo, .int .i64 hi] 25)).alloc (.cells #[.slice none 0 0] 27)).alloc (.cells #[.int .i64 0] 28)).alloc (.cells #[.slice none 0 0] 27)).alloc (.cells #[.int .i64 lo, .int .i64 hi] 25)) = W0 := ⟨_, rfl⟩
  have hz0 : w.heap.size + 6 ≤ W0.heap.size := by rw [← hW0]; simp
  have k2 : W0.heap[w.heap.size]? = some (.cells #[.int .i64 qx, .int .i64 qy] 23 (0, 0)) := by rw [← hW0]; exact alloc_old (alloc_old (alloc_old (alloc_old (alloc_old (alloc_at rfl)))))
  have k4 : W0.heap[w.heap.size + 1 + 1]? = some (.cells #[.slice none 0 0] 27 (0, 0)) := by rw [← hW0]; exact alloc_old (alloc_old (alloc_old (alloc_at (by simp))))
  have k5 : W0.heap[w.heap.size + 1 + 1 + 1]? = some (.cells #[.int .i64 0] 28 (0, 0)) := by rw [← hW0]; exact alloc_old (alloc_old (alloc_at (by simp)))
  have k6 : W0.heap[w.heap.size + 1 + 1 + 1 + 1]? = some (.cells #[.slice none 0 0] 27 (0, 0)) := by rw [← hW0]; exact alloc_old (alloc_at (by simp))
  have k7 : W0.heap[w.heap.size + 1 + 1 + 1 + 1 + 1]? = some (.cells #[.int .i64 lo, .int .i64 hi] 25 (0, 0)) := by rw [← hW0]; exact alloc_at (by simp)
  have hB0 : Below w.heap.size w W0 := by rw [← hW0]; go_grown
  rw [hW0]
  clear hW0
  have hs0 := hB0.size
  refine range_told (gf := 45) (lb := #[.pointer (some ⟨w.heap.size + 1 + 1 + 1 + 1 + 1, 0, none⟩)]) rfl (enters_of Tryz.func45 (by kernel_rfl) rfl) (sectors_tells w.heap.size _ lo hi W0 hs0 k7) kpS_t (kpS_b hs0) (fun _ => rfl)
    (fun pre W => ∃ v, RingI W0 w.heap.size (w.heap.size + 1 + 1 + 1 + 1) ⟨qx, qy⟩ lo hi pre.length v W)
    (fun pre W => RingX w (w.heap.size + 1 + 1) (w.heap.size + 1 + 1 + 1) ⟨qx, qy⟩ lo hi W)
    (fun s A B row hs hg hr => hs.imp fun v c => ⟨c.good, c.valid, c.row.grown hg (fun r e => ⟨(hr r e).1, (hr r e).2⟩)⟩)
    (fun s A B row hs hg hr => ⟨(grownBy_keeps_cells hg (fun r e => (hr r e).2) hs.nil rfl).trans hs.nil, (grownBy_keeps_cells hg (fun r e => (hr r e).2) hs.err rfl).trans hs.err, hs.ne, hs.below.grown hg hs.below.size (fun k e => by have := (hr k e).1; omega)⟩)
    (fun pre x s A B row hs hg hr => ⟨hs.1, hs.2.imp (fun h => ⟨h.1, h.2.1, own_grown h.2.2 hg (fun r e => (hr r e).2)⟩) id⟩)
    ⟨_, fun h => absurd rfl h, fun r hr => by simp at hr, by simpa using PushR.same k6 (ownR_nil _ _) (Below.refl _ _)⟩
    (fun x a' => a' = { tmps := #[Pt.val ⟨qx, qy⟩, Value.agg #[.int .i64 lo, .int .i64 hi], Value.pointer (some ⟨w.heap.size, 0, none⟩), Value.pointer (some ⟨w.heap.size + 1, 0, none⟩), Value.pointer (some ⟨w.heap.size + 1 + 1, 0, none⟩), Value.pointer (some ⟨w.heap.size + 1 + 1 + 1, 0, none⟩), Value.pointer (some ⟨w.heap.size + 1 + 1 + 1 + 1, 0, none⟩), x.1, .int .i64 x.2, undef, undef, Value.agg #[.int .i64 lo, .int .i64 hi], Value.func (Fn.func 45) #[] #[Value.pointer (some ⟨w.heap.size + 1 + 1 + 1 + 1 + 1, 0, none⟩)], x.1, .int .i64 x.2, undef, undef, undef, undef, undef, undef, undef, undef, undef, undef, undef, undef, undef, undef, undef, undef, undef, undef, undef, undef], defers := [] })
    ?assign ?body ?done ?stop
  case assign =>
    rintro l ⟨v, n⟩ W K hK
    have HK := Lib.hid hK
    clear hK
    gi_wp2
    exact HK.out _ rfl
  case body =>
    rintro l pre ⟨v, n⟩ a' W ⟨v6, hI⟩ ⟨hlt, hG⟩ rfl
    dsimp only at hG ⊢
    have hbW : Below w.heap.size w W := hB0.trans (hI.row.below (by omega) hs0)
    have m2 := hI.row.keeps k2 (by omega) (by simp [Value.ownBlock])
    have m4 := hI.row.keeps k4 (by omega) (by simp [Value.ownBlock])
    have m5 := hI.row.keeps k5 (by omega) (by simp [Value.ownBlock])
    have m6 := hI.row.cell
    have HI := Lib.hid hI
    clear hI
    have hx : ∀ (V : World) (e : Int), W.heap.size ≤ V.heap.size → Below W.heap.size W V → e = ringErr ⟨qx, qy⟩ lo hi → e ≠ 0 → KeepsFrom W0.heap.size W ((V.setCell ⟨w.heap.size + 1 + 1, 0, none⟩ (.slice none 0 0)).setCell ⟨w.heap.size + 1 + 1 + 1, 0, none⟩ (.int .i64 e)) ∧ RingX w (w.heap.size + 1 + 1) (w.heap.size + 1 + 1 + 1) ⟨qx, qy⟩ lo hi ((V.setCell ⟨w.heap.size + 1 + 1, 0, none⟩ (.slice none 0 0)).setCell ⟨w.heap.size + 1 + 1 + 1, 0, none⟩ (.int .i64 e)) := by
      intro V e hV hWV he hne
      subst he
      obtain ⟨t1, t2, t3, t4⟩ := two_store (v4 := .slice none 0 0) (v5 := .int .i64 (ringErr ⟨qx, qy⟩ lo hi)) ((hWV.block _ (Array.getElem?_eq_some_iff.1 m4).1).trans m4) ((hWV.block _ (Array.getElem?_eq_some_iff.1 m5).1).trans m5) (by omega)
      refine ⟨⟨by simpa using hV, fun k o hk h1 h2 => ?_⟩, t1, t2, hne, t4 (hbW.trans (hWV.mono hbW.size)) (by omega) (by omega)⟩
      rw [t3 k (by omega) (by omega), hWV.block k (Array.getElem?_eq_some_iff.1 h1).1]; exact h1
    have HX := Lib.hid hx
    clear hx
    have c4 : W.cell? ⟨w.heap.size + 1 + 1, 0, none⟩ = some (.slice none 0 0) := by simp [World.cell?, m4]
    have c5 : W.cell? ⟨w.heap.size + 1 + 1 + 1, 0, none⟩ = some (.int .i64 0) := by simp [World.cell?, m5]
    have f4 : W.frozen? ⟨w.heap.size + 1 + 1, 0, none⟩ = false := by simp [World.frozen?, m4]
    have f5 : W.frozen? ⟨w.heap.size + 1 + 1 + 1, 0, none⟩ = false := by simp [World.frozen?, m5]
    rcases hG with ⟨hd, rfl, hO⟩ | ⟨hd, he⟩
    · have hv := sec_valid (a := 2 * pre.length) hd
      have hlen := len_of_valid hv
      have hpl := pl_of_valid hv
      have c20 : W.cell? ⟨w.heap.size, 0, none⟩ = some (.int .i64 qx) := by simp [World.cell?, m2]
      have c21 : W.cell? ⟨w.heap.size, 1, none⟩ = some (.int .i64 qy) := by simp [World.cell?, m2]
      obtain ⟨A, c, rfl, -, -, -, hp⟩ := hO.slice
      cases hq9 : plB ⟨qx, qy⟩ with
      | false =>
        have hcall := Shift_place ⟨qx, qy⟩ A _ c (secS (2 * pre.length) lo hi) W rfl hp (ok64_of_pl hpl) hv hq9 hq
        have he := ringErr_1 (q := ⟨qx, qy⟩) (lo := lo) (hi := hi) (by rw [hq9]; simp)
        generalize (secS (2 * pre.length) lo hi).length = nn at *
        have HC := Lib.hid hcall
        have HE := Lib.hid he
        clear he hcall hp hO hpl m2 m4 m5 m6
        gi_wp2
        refine ⟨trivial, (CallsIn.inRound l (callsIn_wide.2 HC.out)).mono ?_⟩
        rintro e W5 ⟨rfl, hb5⟩
        have HB5 := Lib.hid hb5
        have d4 := kp hb5 c4
        have d5 := kp hb5 c5
        have g4 := kf hb5 (by rw [c4]; rfl) f4
        have g5 := kf hb5 (by rw [c5]; rfl) f5
        clear hb5 c4 c5 f4 f5
        gi_wp2
        exact HX.out _ 1 HB5.out.size HB5.out HE.out.symm (by decide)
      | true =>
        have hgood : (distB lo hi && plB ⟨qx, qy⟩) = true := by rw [hd, hq9]; rfl
        have hqn := (plB_iff _).1 hq9
        dsimp only at hqn
        have hsI : Ok64 (shiftL ⟨qx, qy⟩ (secS (2 * pre.length) lo hi)) := fun p hp => by
          obtain ⟨p0, h0, rfl⟩ := List.mem_map.1 hp
          have h9 := (plB_iff _).1 (hpl _ h0)
          unfold I64; dsimp only; omega
        cases hs9 : validB (shiftL ⟨qx, qy⟩ (secS (2 * pre.length) lo hi)) with
        | false =>
          have hcall := Shift_out ⟨qx, qy⟩ A _ c (secS (2 * pre.length) lo hi) W rfl hlen.2 hp (ok64_of_pl hpl) hv hq9 hq (fun p h => nr_of_pl (hpl p h)) hs9 hsI
          have he := ringErr_3 hgood hlt hs9
          generalize (secS (2 * pre.length) lo hi).length = nn at *
          have HC := Lib.hid hcall
          have HE := Lib.hid he
          clear he hcall hp hO hpl m2 m4 m5 m6 hsI
          gi_wp2
          refine ⟨trivial, (CallsIn.inRound l (callsIn_wide.2 HC.out)).mono ?_⟩
          rintro e W5 ⟨rfl, hb5⟩
          have HB5 := Lib.hid hb5
          have d4 := kp hb5 c4
          have d5 := kp hb5 c5
          have g4 := kf hb5 (by rw [c4]; rfl) f4
          have g5 := kf hb5 (by rw [c5]; rfl) f5
          clear hb5 c4 c5 f4 f5
          gi_wp2
          exact HX.out _ 3 HB5.out.size HB5.out HE.out.symm (by decide)
        | true =>
          have hcall := Shift_ok ⟨qx, qy⟩ A _ c (secS (2 * pre.length) lo hi) W rfl hlen.2 hp (ok64_of_pl hpl) hv hq9 hq (fun p h => nr_of_pl (hpl p h)) hs9 hsI
          have htk := ringL_at (q := ⟨qx, qy⟩) (lo := lo) (hi := hi) hlt
          have htl : ((ringL ⟨qx, qy⟩ lo hi).take pre.length).length ≤ 32 := by rw [List.length_take, ringL_len]; omega
          generalize (secS (2 * pre.length) lo hi).length = nn at *
          generalize shiftL ⟨qx, qy⟩ (secS (2 * pre.length) lo hi) = SH at *
          have HC := Lib.hid hcall
          have HT := Lib.hid (And.intro htk htl)
          have HG := Lib.hid (And.intro hgood hs9)
          have M6 := Lib.hid m6
          clear hcall hp hO hpl m2 m4 m5 m6 hsI c4 c5 f4 f5 HX htk htl hgood hs9
          gi_wp2
          refine ⟨trivial, (CallsIn.inRound l (callsIn_wide.2 HC.out)).mono ?_⟩
          rintro e W5 ⟨v5, rfl, ho5, hb5⟩
          have hP5 := HI.out.row.after hb5
          obtain ⟨A5, q5, e5, -⟩ := ho5.slice
          generalize hL5 : SH.length = L5 at e5
          subst e5
          have h66 := hP5.cell
          have c66 : W5.cell? ⟨w.heap.size + 1 + 1 + 1 + 1, 0, none⟩ = some v6 := by simp [World.cell?, h66]
          have hws : w.heap.size ≤ W.heap.size := hbW.size
          have HO5 := Lib.hid (own_mono ho5 hws)
          have HP5 := Lib.hid hP5
          have HB5 := Lib.hid hb5
          clear ho5 hP5 h66 c20 c21 hb5
          gi_wp2_with (gi_at_builtin; go_must (refine wpListIn_append_poly _ (by rfl) (.tmp 27) (.tmp 29) (by rfl) w.heap.size _ _ ((ringL ⟨qx, qy⟩ lo hi).take pre.length) SH (by rfl) HP5.out.own HO5.out (by rfl) (by have := HT.out.2; omega) (by have := HB5.out.size; omega) ?_))
          intro v7 w7 hown hgr hat
          have hb3 : Below W5.heap.size W5 (W5.alloc (.cells #[.slice A5 L5 q5] 39)) := (Below.refl _ W5).alloc (Nat.le_refl _) _
          have hBt : w.heap.size + 1 + 1 + 1 + 1 < W5.heap.size := (Array.getElem?_eq_some_iff.1 HP5.out.cell).1
          have hne : v6.ownBlock ≠ some (w.heap.size + 1 + 1 + 1 + 1) := HP5.out.ne (by simp [Value.ownBlock]) (by omega)
          have h7 : w7.heap[w.heap.size + 1 + 1 + 1 + 1]? = some (.cells #[v6] 27 (0, 0)) := by
            refine (hgr.block _ (by simp; omega) (fun e => hne e.symm)).trans ?_
            exact (hb3.block _ hBt).trans HP5.out.cell
          have c7 : w7.cell? ⟨w.heap.size + 1 + 1 + 1 + 1, 0, none⟩ = some v6 := by simp [World.cell?, h7]
          have f7 : w7.frozen? ⟨w.heap.size + 1 + 1 + 1 + 1, 0, none⟩ = false := by simp [World.frozen?, h7]
          have hpd := pushR_of (t := 27) (by decide) (w := W5) hb3 hBt h7 hown hgr rfl (hat.imp id (fun h => by rw [World.size_alloc]; exact h)) hne
          have hpW := (PushR.same M6.out HI.out.row.own HB5.out).trans hpd
          have hpf := HP5.out.trans hpd
          obtain ⟨A7, q7, e7, _⟩ := hown.slice
          generalize hL7 : ((ringL ⟨qx, qy⟩ lo hi).take pre.length ++ [SH]).length = L7 at e7
          subst e7
          have HPD := Lib.hid (And.intro hpW hpf)
          clear hown hgr hat h7 hpd hpW hpf hb3
          gi_wp2
          obtain ⟨hpW, hpf⟩ := HPD.out
          refine ⟨(hpW.others M6.out HI.out.row.own).from _, ⟨?_, fun cs z e => ?_⟩, ⟨.slice A7 L7 q7, fun _ => HG.out.1, fun r hr => ?_, ?_⟩⟩
          · exact ⟨hpW.os, hpW.tape, hpW.output, hpW.size, fun k hk => hpW.block k (by omega) (by omega) (fun e => by
              obtain ⟨h9, -⟩ := ownR_block39 HI.out.row.own e; omega)⟩
          · refine hpW.keeps e (by omega) (fun e' => ?_)
            obtain ⟨-, -, cs', hh⟩ := ownR_block39 HI.out.row.own e'
            rw [hh] at e; cases e
          · rw [List.length_append, List.length_cons, List.length_nil, Nat.zero_add, HT.out.1] at hr
            rcases List.mem_append.1 hr with h | h
            · exact HI.out.valid r h
            · rw [List.mem_singleton.1 h]; exact HG.out.2
          · rw [List.length_append, List.length_cons, List.length_nil, Nat.zero_add, HT.out.1]; exact hpf
    · obtain ⟨rfl, rfl⟩ := Prod.mk.injEq _ _ _ _ ▸ he
      have he := ringErr_1 (q := ⟨qx, qy⟩) (lo := lo) (hi := hi) (by rw [hd]; rfl)
      have HE := Lib.hid he
      clear he m2 m4 m5 m6
      gi_wp2
      exact HX.out _ 1 (Nat.le_refl _) (Below.refl _ _) HE.out.symm (by decide)
  case stop =>
    rintro D pre W hD hX hK
    have hg := grownBy_putObj' W D (.deferred none)
    have hr : ∀ r, some D = some r → ∃ o : Obj, W.heap[r]? = some o ∧ o.isCells = false := fun r e => by cases e; exact ⟨_, hK, rfl⟩
    have l4 := (grownBy_keeps_cells hg hr hX.nil rfl).trans hX.nil
    have l5 := (grownBy_keeps_cells hg hr hX.err rfl).trans hX.err
    have m4 : (W.putObj D (.deferred none)).cell? ⟨w.heap.size + 1 + 1, 0, none⟩ = some (.slice none 0 0) := by simp [World.cell?, l4]
    have m5 : (W.putObj D (.deferred none)).cell? ⟨w.heap.size + 1 + 1 + 1, 0, none⟩ = some (.int .i64 (ringErr ⟨qx, qy⟩ lo hi)) := by simp [World.cell?, l5]
    have hne := hX.ne
    have hbX := hX.below
    clear hX l4 l5
    gi_wp2
    refine ⟨by simp, .inl ⟨_, _, rfl, run_takeDeferred hK, ?_⟩⟩
    refine ⟨.tuple #[.slice none 0 0, .int .i64 (ringErr ⟨qx, qy⟩ lo hi)], ?_, .inr ⟨hne, rfl, hbX.trans (belowK_b (w := w) (Nat.le_refl _) _ D _ _ (by omega) hK rfl rfl)⟩⟩
    simp [results, Tryz.f8, go_sem, m4, m5]
  case done =>
    rintro D zs W hD hzs ⟨v, hI⟩ hK
    rw [hzs] at hI
    have hgood := hI.good (by decide)
    have hval := hI.valid
    have hP := hI.row
    rw [List.take_of_length_le (by rw [ringL_len]; omega)] at hval hP
    have he := ringErr_0 hgood hval
    have hDlt : D < W.heap.size := (Array.getElem?_eq_some_iff.1 hK).1
    have hBW : Below w.heap.size w W := hB0.trans (hP.below (by omega) hs0)
    have m4 := hP.keeps k4 (by omega) (by simp [Value.ownBlock])
    have m5 := hP.keeps k5 (by omega) (by simp [Value.ownBlock])
    have hkc := hP.cell
    obtain ⟨A9, c9, rfl, hc9, -, -, hp9⟩ := hP.own.slice
    have ck : W.cell? ⟨w.heap.size + 1 + 1 + 1 + 1, 0, none⟩ = some (.slice A9 (ringL ⟨qx, qy⟩ lo hi).length c9) := by simp [World.cell?, hkc]
    have htd := Tidy_ok A9 _ c9 (ringL ⟨qx, qy⟩ lo hi) W rfl (by rw [ringL_len]; omega) hp9 hval
    have HTD := Lib.hid htd
    rw [ringL_len] at ck HTD
    have HE := Lib.hid he
    clear he hI hP hp9 htd hval hgood hkc hc9 k2 k4 k5 k6 k7
    gi_wp2
    refine ⟨trivial, (callsIn_wide.2 HTD.out).mono ?_⟩
    rintro e W5 ⟨v5, rfl, ho5, hb5⟩
    have hK' := (hb5.block D hDlt).trans hK
    replace m4 := (hb5.block _ (Array.getElem?_eq_some_iff.1 m4).1).trans m4
    replace m5 := (hb5.block _ (Array.getElem?_eq_some_iff.1 m5).1).trans m5
    have hbf : Below w.heap.size w W5 := hBW.trans (hb5.mono hBW.size)
    have ho5' := ownR_mono ho5 hBW.size
    obtain ⟨A5, c5, rfl, -⟩ := ho5.slice
    generalize hLT : (tidiedS (ringL ⟨qx, qy⟩ lo hi)).length = LT at *
    have e4 : W5.cell? ⟨w.heap.size + 1 + 1, 0, none⟩ = some (.slice none 0 0) := by simp [World.cell?, m4]
    have e5 : W5.cell? ⟨w.heap.size + 1 + 1 + 1, 0, none⟩ = some (.int .i64 0) := by simp [World.cell?, m5]
    have g4 : W5.frozen? ⟨w.heap.size + 1 + 1, 0, none⟩ = false := by simp [World.frozen?, m4]
    have g5 : W5.frozen? ⟨w.heap.size + 1 + 1 + 1, 0, none⟩ = false := by simp [World.frozen?, m5]
    have hnn4 : (Value.slice A5 LT c5).ownBlock ≠ some (w.heap.size + 1 + 1) := fun e => by
      obtain ⟨-, -, cs, hh⟩ := ownR_block39 ho5' e
      rw [m4] at hh; cases hh
    have hnn5 : (Value.slice A5 LT c5).ownBlock ≠ some (w.heap.size + 1 + 1 + 1) := fun e => by
      obtain ⟨-, -, cs, hh⟩ := ownR_block39 ho5' e
      rw [m5] at hh; cases hh
    have HF := Lib.hid (show ∀ Wf, (W5.setCell ⟨w.heap.size + 1 + 1, 0, none⟩ (.slice A5 LT c5)).setCell ⟨w.heap.size + 1 + 1 + 1, 0, none⟩ (.int .i64 0) = Wf → Wf.heap[D]? = some (.deferred (some [])) ∧ Wf.heap[w.heap.size + 1 + 1]? = some (.cells #[.slice A5 LT c5] 27 (0, 0)) ∧ Wf.heap[w.heap.size + 1 + 1 + 1]? = some (.cells #[.int .i64 0] 28 (0, 0)) ∧ OwnR Wf w.heap.size (.slice A5 LT c5) (tidiedS (ringL ⟨qx, qy⟩ lo hi)) ∧ Below w.heap.size w Wf from by
      rintro Wf rfl
      obtain ⟨t1, t2, t3, t4⟩ := two_store (v4 := .slice A5 LT c5) (v5 := .int .i64 0) m4 m5 (by omega)
      exact ⟨(t3 D (by omega) (by omega)).trans hK', t1, t2, ownR_setCell_other (ownR_setCell_other ho5' hnn4 (by decide) m4 _) hnn5 (by decide) ((Below.heap_setCell _ ⟨_, 0, none⟩ _ _ (by dsimp only; omega)).trans m5) _, t4 hbf (by omega) (by omega)⟩)
    clear m4 m5 hnn4 hnn5 ho5 ho5'
    gi_wp2
    generalize hWf : (W5.setCell ⟨w.heap.size + 1 + 1, 0, none⟩ (.slice A5 LT c5)).setCell ⟨w.heap.size + 1 + 1 + 1, 0, none⟩ (.int .i64 0) = Wf
    obtain ⟨kD, n4, n5, kO, kB⟩ := HF.out Wf hWf
    refine ⟨by simp, .inl ⟨_, _, rfl, run_takeDeferred kD, ?_⟩⟩
    have hg := grownBy_putObj' Wf D (.deferred none)
    have hr : ∀ r, some D = some r → ∃ o : Obj, Wf.heap[r]? = some o ∧ o.isCells = false := fun r e => by cases e; exact ⟨_, kD, rfl⟩
    have l4 := (grownBy_keeps_cells hg hr n4 rfl).trans n4
    have l5 := (grownBy_keeps_cells hg hr n5 rfl).trans n5
    have p4 : (Wf.putObj D (.deferred none)).cell? ⟨w.heap.size + 1 + 1, 0, none⟩ = some (.slice A5 LT c5) := by simp [World.cell?, l4]
    have p5 : (Wf.putObj D (.deferred none)).cell? ⟨w.heap.size + 1 + 1 + 1, 0, none⟩ = some (.int .i64 0) := by simp [World.cell?, l5]
    refine ⟨.tuple #[.slice A5 LT c5, .int .i64 0], ?_, .inl ⟨HE.out, _, rfl, ownR_grown kO hg hr, kB.trans (belowK_b (w := w) (Nat.le_refl _) _ D _ _ (by omega) kD rfl rfl)⟩⟩
    simp [results, Tryz.f8, go_sem, p4, p5]
end Go.Proofs.YtnhdnkeiijiiaaaGreat
