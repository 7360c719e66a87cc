import Derived.Test.YtnhdnkeiijiiaaaGreatA8
import Derived.RangeFuncNested
import Derived.RangeFuncBound
import Derived.RangeFuncCalls
import Derived.RangeFuncLeaves
import Derived.RangeFuncBox
import Derived.Shelf.Abstract
import Derived.Shelf.RegionOpen
import Derived.WalkKit
import Derived.OwnWalkIn
import Derived.TacticsInMore
import Derived.LoopNIn
import Derived.LoopIn
import Derived.RegionIn
import Derived.Maps.AppendAt
import Derived.Stop.RegionWithIn
import Derived.Sort.CutIn
namespace Go.Proofs.YtnhdnkeiijiiaaaGreat
open Go.RowKit Go.Shelf
set_option linter.unusedSimpArgs false
set_option linter.unusedVariables false
attribute [local go_sem] Oper.semAt_some
/-- a variable at B that held v holds a row of points of the call's own; whatever is neither it nor the old row lies as it lay -/
structure PushV (t base B : Nat) (v v' : Value) (ys : List Pt) (w w' : World) : Prop where
  cell : w'.heap[B]? = some (.cells #[v'] t (0, 0))
  own : Own w' base v' ys
  at' : ∀ k, v'.ownBlock = some k → v.ownBlock = some k ∨ w.heap.size ≤ k
  os : w'.os = w.os
  tape : w'.tape = w.tape
  output : w'.output = w.output
  size : w.heap.size ≤ w'.heap.size
  block : ∀ k, k < w.heap.size → k ≠ B → v.ownBlock ≠ some k → w'.heap[k]? = w.heap[k]?
theorem pushV_of {t base B : Nat} {v v7 : Value} {ys : List Pt} {w w6 w7 : World} {r : Option Nat} (hBw : Below w.heap.size w w6) (hBlt : B < w.heap.size) (h7 : w7.heap[B]? = some (.cells #[v] t (0, 0))) (hown : Own w7 base v7 ys) (hgr : w6.grownBy w7 r) (hr : r = v.ownBlock)
    (hat : v7.ownBlock = r ∨ v7.ownBlock = some w6.heap.size) (hne : v.ownBlock ≠ some B) : PushV t base B v v7 ys w (w7.setCell ⟨B, 0, none⟩ v7) := by
  have hw5 := hBw.size
  refine ⟨one_setCell h7, ownsRow_setCell_other hown ?_ _, fun k hk => ?_, ?_, ?_, ?_, ?_, fun k hk h1 h2 => ?_⟩
  · rcases hat with h | h
    · rw [h, hr]; exact hne
    · rw [h]
      intro e
      simp only [Option.some.injEq] at e

      omega
  · rcases hat with h | h
    · left; rw [← hr, ← h]; exact hk
    · right
      rw [h] at hk
      simp only [Option.some.injEq] at hk
      omega
  · exact hgr.os.trans hBw.os
  · exact hgr.tape.trans hBw.tape
  · exact hgr.output.trans hBw.output
  · rw [World.size_setCell]; exact Nat.le_trans hw5 hgr.size
  · refine (Below.heap_setCell w7 ⟨B, 0, none⟩ v7 k h1).trans ?_
    refine (hgr.block k (by omega) (by rw [hr]; exact fun e => h2 e.symm)).trans ?_
    exact hBw.block k hk
theorem PushV.before {t base B : Nat} {v v' : Value} {ys : List Pt} {w w0 w' : World} (h : PushV t base B v v' ys w0 w') (hb : Below w.heap.size w w0) : PushV t base B v v' ys w w' where
  cell := h.cell
  own := h.own
  at' := fun k e => (h.at' k e).imp id (fun h => Nat.le_trans hb.size h)
  os := h.os.trans hb.os
  tape := h.tape.trans hb.tape
  output := h.output.trans hb.output
  size := Nat.le_trans hb.size h.size
  block := fun k hk h1 h2 => (h.block k (Nat.lt_of_lt_of_le hk hb.size) h1 h2).trans (hb.block k hk)
theorem PushV.after {t base B : Nat} {v v' : Value} {ys : List Pt} {w w0 w' : World} (h : PushV t base B v v' ys w w0) (hb : Below w0.heap.size w0 w') : PushV t base B v v' ys w w' where
  cell := (hb.block B (Array.getElem?_eq_some_iff.1 h.cell).1).trans h.cell
  own := h.own.later hb
  at' := h.at'
  os := hb.os.trans h.os
  tape := hb.tape.trans h.tape
  output := hb.output.trans h.output
  size := Nat.le_trans h.size hb.size
  block := fun k hk h1 h2 => (hb.block k (Nat.lt_of_lt_of_le hk h.size)).trans (h.block k hk h1 h2)
theorem PushV.trans {t base B : Nat} {v v1 v' : Value} {ys zs : List Pt} {w w0 w' : World} (h : PushV t base B v v1 ys w w0) (k : PushV t base B v1 v' zs w0 w') : PushV t base B v v' zs w w' where
  cell := k.cell
  own := k.own
  at' := fun j e => by
    rcases k.at' j e with e' | e'
    · exact h.at' j e'
    · exact .inr (Nat.le_trans h.size e')
  os := k.os.trans h.os
  tape := k.tape.trans h.tape
  output := k.output.trans h.output
  size := Nat.le_trans h.size k.size
  block := fun j hj h1 h2 => (k.block j (Nat.lt_of_lt_of_le hj h.size) h1 (fun e => by
    rcases h.at' j e with e' | e'
    · exact h2 e'
    · omega)).trans (h.block j hj h1 h2)
/-- nothing has happened to it -/
theorem PushV.same {t base B : Nat} {v : Value} {xs : List Pt} {w w' : World} (hB : w.heap[B]? = some (.cells #[v] t (0, 0))) (hO : Own w base v xs) (hb : Below w.heap.size w w') : PushV t base B v v xs w w' where
  cell := (hb.block B (Array.getElem?_eq_some_iff.1 hB).1).trans hB
  own := hO.later hb
  at' := fun k e => .inl e
  os := hb.os
  tape := hb.tape
  output := hb.output
  size := hb.size
  block := fun k hk _ _ => hb.block k hk
theorem PushV.ne {t base B : Nat} {v v' : Value} {ys : List Pt} {w w' : World} (h : PushV t base B v v' ys w w') (hne : v.ownBlock ≠ some B) (hB : B < w.heap.size) : v'.ownBlock ≠ some B := fun e => by
  rcases h.at' B e with e' | e'
  · exact hne e'
  · omega
theorem PushV.keeps {t base B : Nat} {v v' : Value} {ys : List Pt} {w w' : World} (h : PushV t base B v v' ys w w') {k : Nat} {o : Obj} (hk : w.heap[k]? = some o) (h1 : k ≠ B) (h2 : v.ownBlock ≠ some k) : w'.heap[k]? = some o := (h.block k (Array.getElem?_eq_some_iff.1 hk).1 h1 h2).trans hk
/-- an append of points, run -/
theorem run_append_pts (w : World) (ty : TypeId) (base : Nat) (v : Value) (xs : List Pt) (hown : Own w base v xs) (A : Option Addr) (m c : Nat) (ys : List Pt) (hA : A ≠ none) (hl : ys.length = m) (hr : Pts? w.heap.size w A ys) (hb : xs.length + m ≤ 2000000000000) (hbase : base ≤ w.heap.size) :
    ∃ v' w', (Builtin.append_ #[39, 39] ty #[v, .slice A m c]).run Tryz.prog w = .ok v' w' ∧ Own w' base v' (xs ++ ys) ∧ w.grownBy w' v.ownBlock ∧ (v'.ownBlock = v.ownBlock ∨ v'.ownBlock = some w.heap.size) := by
  obtain ⟨i0, hi, hz0, hz1, hz2⟩ := info_parts ptInfo
  cases A with
  | none => exact absurd rfl hA
  | some ad =>
    obtain ⟨v', w', hrun, h2, h3, _, h5⟩ := run_append_own_at (P := Tryz.prog) w base 39 ty 23 i0 _ 2 16 Tryz.underlying39 hi hz0 hz1 hz2 rfl (by omega) v xs.length (flat xs) hown ad m c (flat ys) (by rw [flat_len, hl]) hr.news flat_one (by unfold maxLen; omega) (by omega) hbase
    exact ⟨v', w', hrun, by unfold Own; rw [flat_app, List.length_append, hl]; exact h2, h3, h5⟩
set_option maxRecDepth 100000 in
set_option maxHeartbeats 4000000 in
theorem keep_11 (ax ay bx bY HA HB HC : Int) (Bh Bk base : Nat) (v : Value) (xs : List Pt) (w : World) (s t : Int) (hs : overS ⟨HA, HB, HC⟩ ⟨ax, ay⟩ = s) (ht : overS ⟨HA, HB, HC⟩ ⟨bx, bY⟩ = t) (hh : hfB ⟨HA, HB, HC⟩ = true) (ha : plB ⟨ax, ay⟩ = true) (hb : plB ⟨bx, bY⟩ = true)
    (hc1 : s ≤ 0) (hc2 : crossesB s t = true) (hs1 : -3000000000000 ≤ s ∧ s ≤ 3000000000000) (ht1 : -3000000000000 ≤ t ∧ t ≤ 3000000000000)
    (hH : w.heap[Bh]? = some (.cells #[.int .i64 HA, .int .i64 HB, .int .i64 HC] 143 (0, 0))) (hB : w.heap[Bk]? = some (.cells #[v] 39 (0, 0))) (hO : Own w base v xs) (hlen : xs.length ≤ 1000000) (hne : v.ownBlock ≠ some Bk) (hneh : v.ownBlock ≠ some Bh) (hbase : base ≤ w.heap.size) :
    Calls Tryz.prog 113 #[.agg #[.int .i64 ax, .int .i64 ay], .agg #[.int .i64 bx, .int .i64 bY], .pointer (some ⟨Bh, 0, none⟩), .pointer (some ⟨Bk, 0, none⟩)] w fun e w' => e = .returned (.tuple #[]) ∧ ∃ v', PushV 39 base Bk v v' (xs ++ [⟨ax, ay⟩] ++ frameS ⟨ax, ay⟩ ⟨bx, bY⟩ s t) w w' := by
  have v1 := fun W => over_any ⟨HA, HB, HC⟩ ⟨ax, ay⟩ W hh (nr_of_pl ha)
  have v2 := fun W => over_any ⟨HA, HB, HC⟩ ⟨bx, bY⟩ W hh (nr_of_pl hb)
  rw [hs] at v1
  rw [ht] at v2
  have v3 := fun W => crosses_any s t W
  rw [hc2] at v3
  have V1 := Lib.hid v1
  have V2 := Lib.hid v2
  have V3 := Lib.hid v3
  have V4 := Lib.hid (fun W => frame_any ⟨ax, ay⟩ ⟨bx, bY⟩ s t W hc2 ha hb hs1 ht1)
  have hfl : (frameS ⟨ax, ay⟩ ⟨bx, bY⟩ s t).length = 4 := rfl
  generalize frameS ⟨ax, ay⟩ ⟨bx, bY⟩ s t = fr at *
  have hBlt : Bk < w.heap.size := (Array.getElem?_eq_some_iff.1 hB).1
  have hHlt : Bh < w.heap.size := (Array.getElem?_eq_some_iff.1 hH).1
  have hvl := fun k e => (own_block_lt hO (k := k) e).2
  have hsd : decide (s ≤ 0) = true := by simp; omega
  have hp : ∀ ops, PlainOps Fence.wide ops := fun ops => plainOps_none rfl
  clear v1 v2 v3 hs ht hh ha hb hc2 hs1 ht1

  refine (callsIn_wide (n := 6)).1 ?_
  refine callsIn_of_wp Tryz.func113 rfl trivial ?_ rfl
  simp only [Tryz.ntmps113, List.size_toArray, List.length_cons, List.length_nil, Nat.reduceAdd, Nat.reduceSub, Array.replicate_succ, Array.replicate_zero, List.push_toArray, List.append_toArray, List.nil_append, List.cons_append]
  gi_wp2
  obtain ⟨W0, hW0⟩ : ∃ W0, (w.alloc (.cells #[.int .i64 ax, .int .i64 ay] 23)).alloc (.cells #[.int .i64 bx, .int .i64 bY] 23) = W0 := ⟨_, rfl⟩
  have hb0 : Below w.heap.size w W0 := by rw [← hW0]; go_grown
  have hz0 : W0.heap.size = w.heap.size + 2 := by rw [← hW0]; simp
  have a0 : W0.heap[w.heap.size]? = some (.cells #[.int .i64 ax, .int .i64 ay] 23 (0, 0)) := by rw [← hW0]; exact (Below.heap_alloc _ _ _ (by simp)).trans (World.alloc_heap_new w _)
  have b0 : W0.heap[w.heap.size + 1]? = some (.cells #[.int .i64 bx, .int .i64 bY] 23 (0, 0)) := by rw [← hW0]; have h9 := World.alloc_heap_new (w.alloc (.cells #[.int .i64 ax, .int .i64 ay] 23)) (.cells #[.int .i64 bx, .int .i64 bY] 23); rw [World.size_alloc] at h9; exact h9
  have hB0 := (hb0.block Bk hBlt).trans hB
  have hH0 := (hb0.block Bh hHlt).trans hH
  have hO0 := hO.later hb0
  rw [hW0]
  clear hW0 hB hH hO
  have HB0 := Lib.hid hB0
  have HO0 := Lib.hid hO0
  have HA0 := Lib.hid a0
  have HBX0 := Lib.hid b0
  clear hO0
  have hbz : Below W0.heap.size W0 W0.drew := Below.drew (Below.refl _ _)
  have ca0 : W0.drew.cell? ⟨w.heap.size, 0, none⟩ = some (.int .i64 ax) := by go_simp; simp [World.cell?, a0]
  have ca1 : W0.drew.cell? ⟨w.heap.size, 1, none⟩ = some (.int .i64 ay) := by go_simp; simp [World.cell?, a0]
  have cb0 : W0.drew.cell? ⟨w.heap.size + 1, 0, none⟩ = some (.int .i64 bx) := by go_simp; simp [World.cell?, b0]
  have cb1 : W0.drew.cell? ⟨w.heap.size + 1, 1, none⟩ = some (.int .i64 bY) := by go_simp; simp [World.cell?, b0]
  have ch0 : W0.drew.cell? ⟨Bh, 0, none⟩ = some (.int .i64 HA) := by go_simp; simp [World.cell?, hH0]
  have ch1 : W0.drew.cell? ⟨Bh, 1, none⟩ = some (.int .i64 HB) := by go_simp; simp [World.cell?, hH0]
  have ch2 : W0.drew.cell? ⟨Bh, 2, none⟩ = some (.int .i64 HC) := by go_simp; simp [World.cell?, hH0]
  clear a0 b0 hB0 hH0
  refine held_begin [0, 1, 3, 4, 6, 7] (fun w9 => Below W0.drew.heap.size W0.drew w9 ∧ w9.cell? ⟨w.heap.size, 0, none⟩ = some (.int .i64 ax) ∧ w9.cell? ⟨w.heap.size, 1, none⟩ = some (.int .i64 ay) ∧ w9.cell? ⟨w.heap.size + 1, 0, none⟩ = some (.int .i64 bx) ∧ w9.cell? ⟨w.heap.size + 1, 1, none⟩ = some (.int .i64 bY) ∧ w9.cell? ⟨Bh, 0, none⟩ = some (.int .i64 HA) ∧ w9.cell? ⟨Bh, 1, none⟩ = some (.int .i64 HB) ∧ w9.cell? ⟨Bh, 2, none⟩ = some (.int .i64 HC)) (by kernel_rfl) (⟨Below.refl _ _, ca0, ca1, cb0, cb1, ch0, ch1, ch2⟩) (fun hS => ?_)
  generalize W0.drew = z at *
  have HSZ := Lib.hid (show ∀ w9, Below z.heap.size z w9 → Below z.heap.size z w9 ∧ w9.cell? ⟨w.heap.size, 0, none⟩ = some (.int .i64 ax) ∧ w9.cell? ⟨w.heap.size, 1, none⟩ = some (.int .i64 ay) ∧ w9.cell? ⟨w.heap.size + 1, 0, none⟩ = some (.int .i64 bx) ∧ w9.cell? ⟨w.heap.size + 1, 1, none⟩ = some (.int .i64 bY) ∧ w9.cell? ⟨Bh, 0, none⟩ = some (.int .i64 HA) ∧ w9.cell? ⟨Bh, 1, none⟩ = some (.int .i64 HB) ∧ w9.cell? ⟨Bh, 2, none⟩ = some (.int .i64 HC) from fun w9 h9 => ⟨h9, kp h9 ca0, kp h9 ca1, kp h9 cb0, kp h9 cb1, kp h9 ch0, kp h9 ch1, kp h9 ch2⟩)
  refine tk 0 (v := ?_) (hp _) hS rfl (fun _ _ _ _ => trivial) ?_ ?_
  rotate_left 1
  · intro w hw; (try rw [hw]); (try go_split_ands); go_simp <;> with_reducible rfl
  try simp only [Act.put, st]
  refine tk 1 (v := ?_) (hp _) hS rfl (fun _ _ _ _ => trivial) ?_ ?_
  rotate_left 1
  · intro w hw; (try rw [hw]); (try go_split_ands); go_simp <;> with_reducible rfl
  try simp only [Act.put, st]
  refine tk 3 (v := ?_) (hp _) hS rfl (fun _ _ _ _ => trivial) ?_ ?_
  rotate_left 1
  · intro w hw; (try rw [hw]); (try go_split_ands); go_simp <;> with_reducible rfl
  try simp only [Act.put, st]
  refine tk 4 (v := ?_) (hp _) hS rfl (fun _ _ _ _ => trivial) ?_ ?_
  rotate_left 1
  · intro w hw; (try rw [hw]); (try go_split_ands); go_simp <;> with_reducible rfl
  try simp only [Act.put, st]
  refine held_step 2 rfl (hp _) (by kernel_rfl) (by kernel_rfl) (fun K hK => ⟨?_, ?_⟩)
  · exact fun _ _ => trivial
  go_simp
  refine (callsIn_wide.2 (V1.out _)).mono ?_
  rintro e w1 ⟨rfl, hb_1⟩
  have hB_1 : Below z.heap.size z w1 := Below.after' hS.1 hb_1
  have hS := HSZ.out _ hB_1
  refine hK _ _ hS ?_
  clear hK K
  try simp only [Act.put, st]
  refine held_step 5 rfl (hp _) (by kernel_rfl) (by kernel_rfl) (fun K hK => ⟨?_, ?_⟩)
  · exact fun _ _ => trivial
  go_simp
  refine (callsIn_wide.2 (V2.out _)).mono ?_
  rintro e w2 ⟨rfl, hb_2⟩
  have hB_2 : Below z.heap.size z w2 := Below.after' hS.1 hb_2
  have hS := HSZ.out _ hB_2
  refine hK _ _ hS ?_
  clear hK K
  try simp only [Act.put, st]
  refine tk 6 (v := ?_) (hp _) hS rfl (fun _ _ _ _ => trivial) ?_ ?_
  rotate_left 1
  · intro w hw; (try rw [hw]); (try go_split_ands); go_simp <;> with_reducible rfl
  try simp only [Act.put, st]
  refine tk 7 (v := ?_) (hp _) hS rfl (fun _ _ _ _ => trivial) ?_ ?_
  rotate_left 1
  · intro w hw; (try rw [hw]); (try go_split_ands); go_simp <;> with_reducible rfl
  try simp only [Act.put, st]
  refine held_end (by kernel_rfl) ?_
  have hb2 : Below W0.heap.size W0 w2 := hbz.trans (hB_2.mono hbz.size)
  have HP2 := Lib.hid (PushV.same HB0.out HO0.out hb2)
  have HA2 := Lib.hid ((hb2.block _ (by omega)).trans HA0.out)
  have HBX2 := Lib.hid ((hb2.block _ (by omega)).trans HBX0.out)
  have hz2 := hb2.size
  clear HSZ hS hb_1 hB_1 hb_2 hB_2 hbz ca0 ca1 cb0 cb1 ch0 ch1 ch2 HA0 HBX0
  have a0 := HA2.out
  have b0 := HBX2.out
  have cw := HP2.out.cell
  have ca0 : w2.cell? ⟨w.heap.size, 0, none⟩ = some (.int .i64 ax) := by simp [World.cell?, a0]
  have ca1 : w2.cell? ⟨w.heap.size, 1, none⟩ = some (.int .i64 ay) := by simp [World.cell?, a0]
  have ck0 : w2.cell? ⟨Bk, 0, none⟩ = some v := by simp [World.cell?, cw]
  clear a0 b0 cw
  have hsz9 : base ≤ (w2.alloc (.cells #[.int .i64 ax, .int .i64 ay] 23)).heap.size := by simp; omega
  have hb3 : Below w2.heap.size w2 (w2.alloc (.cells #[.int .i64 ax, .int .i64 ay] 23)) := (Below.refl _ w2).alloc (Nat.le_refl _) _
  have HOA := Lib.hid (HP2.out.own.later hb3)
  gi_wp2_with (gi_at_builtin; go_must (refine wpListIn_append_pt _ (by rfl) (.tmp 16) (.tmp 18) 39 Tryz.underlying39 (by rfl) base _ xs (by rfl) HOA.out w2.heap.size ⟨ax, ay⟩ (by rfl) (by go_cell) (by go_cell) (by omega) hsz9 ?_))
  intro v7 w7 hown hgr hat
  have hBk2 : Bk < w2.heap.size := by omega
  have h7 : w7.heap[Bk]? = some (.cells #[v] 39 (0, 0)) := by
    refine (hgr.block Bk (by simp; omega) (fun e => hne e.symm)).trans ?_
    exact (hb3.block Bk hBk2).trans HP2.out.cell
  have c7 : w7.cell? ⟨Bk, 0, none⟩ = some v := by simp [World.cell?, h7]
  have f7 : w7.frozen? ⟨Bk, 0, none⟩ = false := by simp [World.frozen?, h7]
  have hpd := pushV_of (w := w2) hb3 hBk2 h7 hown hgr rfl (hat.imp id (fun h => by rw [World.size_alloc]; exact h)) hne
  have hpd2 := HP2.out.trans hpd
  obtain ⟨A7, q7, e7, _⟩ := hown.slice
  generalize hL7 : (xs ++ [(⟨ax, ay⟩ : Pt)]).length = L7 at e7
  subst e7
  have HPD := Lib.hid hpd2
  have HA3 := Lib.hid (hpd.keeps HA2.out (by omega) (fun e => by have := hvl _ e; omega))
  have HBX3 := Lib.hid (hpd.keeps HBX2.out (by omega) (fun e => by have := hvl _ e; omega))
  clear hown hgr hat h7 hpd hpd2 HOA HP2 HA2 HBX2 hb3 hsz9 ck0 ca0 ca1
  gi_wp2
  refine ⟨trivial, (callsIn_wide.2 (V3.out _)).mono ?_⟩
  rintro e w4 ⟨rfl, hb4⟩
  have hpd4 := HPD.out.after hb4
  have HA4 := Lib.hid ((hb4.block _ (Array.getElem?_eq_some_iff.1 HA3.out).1).trans HA3.out)
  have HBX4 := Lib.hid ((hb4.block _ (Array.getElem?_eq_some_iff.1 HBX3.out).1).trans HBX3.out)
  have HPD4 := Lib.hid hpd4
  clear hpd4 HPD HA3 HBX3 hb4
  have cw := HPD4.out.cell
  have a4 := HA4.out
  have b4 := HBX4.out
  have hnb := HPD4.out.ne hne (by omega)
  generalize hv1 : Value.slice A7 L7 q7 = v1 at *
  have ca0 : w4.drew.cell? ⟨w.heap.size, 0, none⟩ = some (.int .i64 ax) := by go_simp; simp [World.cell?, a4]
  have ca1 : w4.drew.cell? ⟨w.heap.size, 1, none⟩ = some (.int .i64 ay) := by go_simp; simp [World.cell?, a4]
  have cb0 : w4.drew.cell? ⟨w.heap.size + 1, 0, none⟩ = some (.int .i64 bx) := by go_simp; simp [World.cell?, b4]
  have cb1 : w4.drew.cell? ⟨w.heap.size + 1, 1, none⟩ = some (.int .i64 bY) := by go_simp; simp [World.cell?, b4]
  have ck0 : w4.drew.cell? ⟨Bk, 0, none⟩ = some v1 := by go_simp; simp [World.cell?, cw]
  have hbz : Below w4.heap.size w4 w4.drew := Below.drew (Below.refl _ _)
  clear cw a4 b4 HA4 HBX4
  have HPZ := Lib.hid (HPD4.out.after hbz)
  clear HPD4 hbz
  gi_wp2
  refine held_begin [0, 1, 2, 3, 4] (fun w9 => Below w4.drew.heap.size w4.drew w9 ∧ w9.cell? ⟨w.heap.size, 0, none⟩ = some (.int .i64 ax) ∧ w9.cell? ⟨w.heap.size, 1, none⟩ = some (.int .i64 ay) ∧ w9.cell? ⟨w.heap.size + 1, 0, none⟩ = some (.int .i64 bx) ∧ w9.cell? ⟨w.heap.size + 1, 1, none⟩ = some (.int .i64 bY) ∧ w9.cell? ⟨Bk, 0, none⟩ = some (v1)) (by kernel_rfl) (⟨Below.refl _ _, ca0, ca1, cb0, cb1, ck0⟩) (fun hS => ?_)
  generalize w4.drew = z at *
  have HSZ := Lib.hid (show ∀ w9, Below z.heap.size z w9 → Below z.heap.size z w9 ∧ w9.cell? ⟨w.heap.size, 0, none⟩ = some (.int .i64 ax) ∧ w9.cell? ⟨w.heap.size, 1, none⟩ = some (.int .i64 ay) ∧ w9.cell? ⟨w.heap.size + 1, 0, none⟩ = some (.int .i64 bx) ∧ w9.cell? ⟨w.heap.size + 1, 1, none⟩ = some (.int .i64 bY) ∧ w9.cell? ⟨Bk, 0, none⟩ = some (v1) from fun w9 h9 => ⟨h9, kp h9 ca0, kp h9 ca1, kp h9 cb0, kp h9 cb1, kp h9 ck0⟩)
  refine tk 0 (v := ?_) (hp _) hS rfl (fun _ _ _ _ => trivial) ?_ ?_
  rotate_left 1
  · intro w hw; (try rw [hw]); (try go_split_ands); go_simp <;> with_reducible rfl
  try simp only [Act.put, st]
  refine tk 1 (v := ?_) (hp _) hS rfl (fun _ _ _ _ => trivial) ?_ ?_
  rotate_left 1
  · intro w hw; (try rw [hw]); (try go_split_ands); go_simp <;> with_reducible rfl
  try simp only [Act.put, st]
  refine tk 2 (v := ?_) (hp _) hS rfl (fun _ _ _ _ => trivial) ?_ ?_
  rotate_left 1
  · intro w hw; (try rw [hw]); (try go_split_ands); go_simp <;> with_reducible rfl
  try simp only [Act.put, st]
  refine tk 3 (v := ?_) (hp _) hS rfl (fun _ _ _ _ => trivial) ?_ ?_
  rotate_left 1
  · intro w hw; (try rw [hw]); (try go_split_ands); go_simp <;> with_reducible rfl
  try simp only [Act.put, st]
  refine tk 4 (v := ?_) (hp _) hS rfl (fun _ _ _ _ => trivial) ?_ ?_
  rotate_left 1
  · intro w hw; (try rw [hw]); (try go_split_ands); go_simp <;> with_reducible rfl
  try simp only [Act.put, st]
  refine held_step 5 rfl (hp _) (by kernel_rfl) (by kernel_rfl) (fun K hK => ⟨?_, ?_⟩)
  · exact fun _ _ => trivial
  go_simp
  refine (callsIn_wide.2 (V4.out _)).mono ?_
  rintro e w5 ⟨v5, rfl, ho5, hb_5⟩
  have hB_5 : Below z.heap.size z w5 := Below.after' hS.1 hb_5
  have hS := HSZ.out _ hB_5
  refine hK _ _ hS ?_
  clear hK K
  try simp only [Act.put, st]
  have hpz := HPZ.out.after hB_5
  obtain ⟨g5, c5, rfl, hg5, hg5'⟩ := own_block ho5 (by intro e; rw [e] at hfl; simp at hfl)
  obtain ⟨_, _, e5, _, _, _, hp5⟩ := ho5.slice
  cases e5
  obtain ⟨v7, w7, hrun, hown, hgr, hat⟩ := run_append_pts w5 39 base v1 (xs ++ [(⟨ax, ay⟩ : Pt)]) hpz.own (some ⟨g5, 0, none⟩) fr.length c5 fr (by simp) rfl hp5 (by first | omega | (simp; omega)) (by have := hpz.size; omega)
  have HRUN := Lib.hid hrun
  have hBk5 : Bk < w5.heap.size := by have := hpz.size; omega
  have h7 : w7.heap[Bk]? = some (.cells #[v1] 39 (0, 0)) := (hgr.block Bk hBk5 (fun e => hnb e.symm)).trans hpz.cell
  have c7 : w7.cell? ⟨Bk, 0, none⟩ = some v1 := by simp [World.cell?, h7]
  have f7 : w7.frozen? ⟨Bk, 0, none⟩ = false := by simp [World.frozen?, h7]
  have hpd := pushV_of (w := w5) (Below.refl _ _) hBk5 h7 hown hgr rfl hat hnb
  have hpd2 := (hpz.trans hpd).before hb0
  obtain ⟨A9, q9, e9, _⟩ := hown.slice
  generalize hL9 : (xs ++ [(⟨ax, ay⟩ : Pt)] ++ fr).length = L9 at e9
  subst e9
  have HPD9 := Lib.hid hpd2
  clear hown hgr hat h7 hpd hpd2 hpz hrun ho5 hp5
  refine held_one 6 rfl (hp _) (by kernel_rfl) (by kernel_rfl) (by kernel_rfl) (fun K hK => ⟨?_, ?_⟩)
  · exact fun _ _ => trivial
  rw [run_append_op (s := .tmp 23) (x := .tmp 28) rfl _ _ _ rfl rfl HRUN.out]
  go_simp
  refine hK _ _ ?_
  clear hK K
  try simp only [Act.put, st]
  refine held_one 7 rfl (hp _) (by kernel_rfl) (by kernel_rfl) (by kernel_rfl) (fun K hK => ⟨?_, ?_⟩)
  · exact fun _ _ => trivial
  go_simp
  refine hK _ _ ?_
  clear hK K
  try simp only [Act.put, st]
  refine held_end (by kernel_rfl) ?_
  gi_wp2
  go_end0
  exact ⟨rfl, _, by have h9 := HPD9.out; simpa only [List.append_assoc, List.singleton_append] using h9⟩
set_option maxRecDepth 100000 in
set_option maxHeartbeats 4000000 in
theorem keep_10 (ax ay bx bY HA HB HC : Int) (Bh Bk base : Nat) (v : Value) (xs : List Pt) (w : World) (s t : Int) (hs : overS ⟨HA, HB, HC⟩ ⟨ax, ay⟩ = s) (ht : overS ⟨HA, HB, HC⟩ ⟨bx, bY⟩ = t) (hh : hfB ⟨HA, HB, HC⟩ = true) (ha : plB ⟨ax, ay⟩ = true) (hb : plB ⟨bx, bY⟩ = true)
    (hc1 : s ≤ 0) (hc2 : crossesB s t = false) (hs1 : -3000000000000 ≤ s ∧ s ≤ 3000000000000) (ht1 : -3000000000000 ≤ t ∧ t ≤ 3000000000000)
    (hH : w.heap[Bh]? = some (.cells #[.int .i64 HA, .int .i64 HB, .int .i64 HC] 143 (0, 0))) (hB : w.heap[Bk]? = some (.cells #[v] 39 (0, 0))) (hO : Own w base v xs) (hlen : xs.length ≤ 1000000) (hne : v.ownBlock ≠ some Bk) (hneh : v.ownBlock ≠ some Bh) (hbase : base ≤ w.heap.size) :
    Calls Tryz.prog 113 #[.agg #[.int .i64 ax, .int .i64 ay], .agg #[.int .i64 bx, .int .i64 bY], .pointer (some ⟨Bh, 0, none⟩), .pointer (some ⟨Bk, 0, none⟩)] w fun e w' => e = .returned (.tuple #[]) ∧ ∃ v', PushV 39 base Bk v v' (xs ++ [⟨ax, ay⟩]) w w' := by
  have v1 := fun W => over_any ⟨HA, HB, HC⟩ ⟨ax, ay⟩ W hh (nr_of_pl ha)
  have v2 := fun W => over_any ⟨HA, HB, HC⟩ ⟨bx, bY⟩ W hh (nr_of_pl hb)
  rw [hs] at v1
  rw [ht] at v2
  have v3 := fun W => crosses_any s t W
  rw [hc2] at v3
  have V1 := Lib.hid v1
  have V2 := Lib.hid v2
  have V3 := Lib.hid v3
  have hBlt : Bk < w.heap.size := (Array.getElem?_eq_some_iff.1 hB).1
  have hHlt : Bh < w.heap.size := (Array.getElem?_eq_some_iff.1 hH).1
  have hvl := fun k e => (own_block_lt hO (k := k) e).2
  have hsd : decide (s ≤ 0) = true := by simp; omega
  have hp : ∀ ops, PlainOps Fence.wide ops := fun ops => plainOps_none rfl
  clear v1 v2 v3 hs ht hh ha hb hc2 hs1 ht1

  refine (callsIn_wide (n := 6)).1 ?_
  refine callsIn_of_wp Tryz.func113 rfl trivial ?_ rfl
  simp only [Tryz.ntmps113, List.size_toArray, List.length_cons, List.length_nil, Nat.reduceAdd, Nat.reduceSub, Array.replicate_succ, Array.replicate_zero, List.push_toArray, List.append_toArray, List.nil_append, List.cons_append]
  gi_wp2
  obtain ⟨W0, hW0⟩ : ∃ W0, (w.alloc (.cells #[.int .i64 ax, .int .i64 ay] 23)).alloc (.cells #[.int .i64 bx, .int .i64 bY] 23) = W0 := ⟨_, rfl⟩
  have hb0 : Below w.heap.size w W0 := by rw [← hW0]; go_grown
  have hz0 : W0.heap.size = w.heap.size + 2 := by rw [← hW0]; simp
  have a0 : W0.heap[w.heap.size]? = some (.cells #[.int .i64 ax, .int .i64 ay] 23 (0, 0)) := by rw [← hW0]; exact (Below.heap_alloc _ _ _ (by simp)).trans (World.alloc_heap_new w _)
  have b0 : W0.heap[w.heap.size + 1]? = some (.cells #[.int .i64 bx, .int .i64 bY] 23 (0, 0)) := by rw [← hW0]; have h9 := World.alloc_heap_new (w.alloc (.cells #[.int .i64 ax, .int .i64 ay] 23)) (.cells #[.int .i64 bx, .int .i64 bY] 23); rw [World.size_alloc] at h9; exact h9
  have hB0 := (hb0.block Bk hBlt).trans hB
  have hH0 := (hb0.block Bh hHlt).trans hH
  have hO0 := hO.later hb0
  rw [hW0]
  clear hW0 hB hH hO
  have HB0 := Lib.hid hB0
  have HO0 := Lib.hid hO0
  have HA0 := Lib.hid a0
  have HBX0 := Lib.hid b0
  clear hO0
  have hbz : Below W0.heap.size W0 W0.drew := Below.drew (Below.refl _ _)
  have ca0 : W0.drew.cell? ⟨w.heap.size, 0, none⟩ = some (.int .i64 ax) := by go_simp; simp [World.cell?, a0]
  have ca1 : W0.drew.cell? ⟨w.heap.size, 1, none⟩ = some (.int .i64 ay) := by go_simp; simp [World.cell?, a0]
  have cb0 : W0.drew.cell? ⟨w.heap.size + 1, 0, none⟩ = some (.int .i64 bx) := by go_simp; simp [World.cell?, b0]
  have cb1 : W0.drew.cell? ⟨w.heap.size + 1, 1, none⟩ = some (.int .i64 bY) := by go_simp; simp [World.cell?, b0]
  have ch0 : W0.drew.cell? ⟨Bh, 0, none⟩ = some (.int .i64 HA) := by go_simp; simp [World.cell?, hH0]
  have ch1 : W0.drew.cell? ⟨Bh, 1, none⟩ = some (.int .i64 HB) := by go_simp; simp [World.cell?, hH0]
  have ch2 : W0.drew.cell? ⟨Bh, 2, none⟩ = some (.int .i64 HC) := by go_simp; simp [World.cell?, hH0]
  clear a0 b0 hB0 hH0
  refine held_begin [0, 1, 3, 4, 6, 7] (fun w9 => Below W0.drew.heap.size W0.drew w9 ∧ w9.cell? ⟨w.heap.size, 0, none⟩ = some (.int .i64 ax) ∧ w9.cell? ⟨w.heap.size, 1, none⟩ = some (.int .i64 ay) ∧ w9.cell? ⟨w.heap.size + 1, 0, none⟩ = some (.int .i64 bx) ∧ w9.cell? ⟨w.heap.size + 1, 1, none⟩ = some (.int .i64 bY) ∧ w9.cell? ⟨Bh, 0, none⟩ = some (.int .i64 HA) ∧ w9.cell? ⟨Bh, 1, none⟩ = some (.int .i64 HB) ∧ w9.cell? ⟨Bh, 2, none⟩ = some (.int .i64 HC)) (by kernel_rfl) (⟨Below.refl _ _, ca0, ca1, cb0, cb1, ch0, ch1, ch2⟩) (fun hS => ?_)
  generalize W0.drew = z at *
  have HSZ := Lib.hid (show ∀ w9, Below z.heap.size z w9 → Below z.heap.size z w9 ∧ w9.cell? ⟨w.heap.size, 0, none⟩ = some (.int .i64 ax) ∧ w9.cell? ⟨w.heap.size, 1, none⟩ = some (.int .i64 ay) ∧ w9.cell? ⟨w.heap.size + 1, 0, none⟩ = some (.int .i64 bx) ∧ w9.cell? ⟨w.heap.size + 1, 1, none⟩ = some (.int .i64 bY) ∧ w9.cell? ⟨Bh, 0, none⟩ = some (.int .i64 HA) ∧ w9.cell? ⟨Bh, 1, none⟩ = some (.int .i64 HB) ∧ w9.cell? ⟨Bh, 2, none⟩ = some (.int .i64 HC) from fun w9 h9 => ⟨h9, kp h9 ca0, kp h9 ca1, kp h9 cb0, kp h9 cb1, kp h9 ch0, kp h9 ch1, kp h9 ch2⟩)
  refine tk 0 (v := ?_) (hp _) hS rfl (fun _ _ _ _ => trivial) ?_ ?_
  rotate_left 1
  · intro w hw; (try rw [hw]); (try go_split_ands); go_simp <;> with_reducible rfl
  try simp only [Act.put, st]
  refine tk 1 (v := ?_) (hp _) hS rfl (fun _ _ _ _ => trivial) ?_ ?_
  rotate_left 1
  · intro w hw; (try rw [hw]); (try go_split_ands); go_simp <;> with_reducible rfl
  try simp only [Act.put, st]
  refine tk 3 (v := ?_) (hp _) hS rfl (fun _ _ _ _ => trivial) ?_ ?_
  rotate_left 1
  · intro w hw; (try rw [hw]); (try go_split_ands); go_simp <;> with_reducible rfl
  try simp only [Act.put, st]
  refine tk 4 (v := ?_) (hp _) hS rfl (fun _ _ _ _ => trivial) ?_ ?_
  rotate_left 1
  · intro w hw; (try rw [hw]); (try go_split_ands); go_simp <;> with_reducible rfl
  try simp only [Act.put, st]
  refine held_step 2 rfl (hp _) (by kernel_rfl) (by kernel_rfl) (fun K hK => ⟨?_, ?_⟩)
  · exact fun _ _ => trivial
  go_simp
  refine (callsIn_wide.2 (V1.out _)).mono ?_
  rintro e w1 ⟨rfl, hb_1⟩
  have hB_1 : Below z.heap.size z w1 := Below.after' hS.1 hb_1
  have hS := HSZ.out _ hB_1
  refine hK _ _ hS ?_
  clear hK K
  try simp only [Act.put, st]
  refine held_step 5 rfl (hp _) (by kernel_rfl) (by kernel_rfl) (fun K hK => ⟨?_, ?_⟩)
  · exact fun _ _ => trivial
  go_simp
  refine (callsIn_wide.2 (V2.out _)).mono ?_
  rintro e w2 ⟨rfl, hb_2⟩
  have hB_2 : Below z.heap.size z w2 := Below.after' hS.1 hb_2
  have hS := HSZ.out _ hB_2
  refine hK _ _ hS ?_
  clear hK K
  try simp only [Act.put, st]
  refine tk 6 (v := ?_) (hp _) hS rfl (fun _ _ _ _ => trivial) ?_ ?_
  rotate_left 1
  · intro w hw; (try rw [hw]); (try go_split_ands); go_simp <;> with_reducible rfl
  try simp only [Act.put, st]
  refine tk 7 (v := ?_) (hp _) hS rfl (fun _ _ _ _ => trivial) ?_ ?_
  rotate_left 1
  · intro w hw; (try rw [hw]); (try go_split_ands); go_simp <;> with_reducible rfl
  try simp only [Act.put, st]
  refine held_end (by kernel_rfl) ?_
  have hb2 : Below W0.heap.size W0 w2 := hbz.trans (hB_2.mono hbz.size)
  have HP2 := Lib.hid (PushV.same HB0.out HO0.out hb2)
  have HA2 := Lib.hid ((hb2.block _ (by omega)).trans HA0.out)
  have HBX2 := Lib.hid ((hb2.block _ (by omega)).trans HBX0.out)
  have hz2 := hb2.size
  clear HSZ hS hb_1 hB_1 hb_2 hB_2 hbz ca0 ca1 cb0 cb1 ch0 ch1 ch2 HA0 HBX0
  have a0 := HA2.out
  have b0 := HBX2.out
  have cw := HP2.out.cell
  have ca0 : w2.cell? ⟨w.heap.size, 0, none⟩ = some (.int .i64 ax) := by simp [World.cell?, a0]
  have ca1 : w2.cell? ⟨w.heap.size, 1, none⟩ = some (.int .i64 ay) := by simp [World.cell?, a0]
  have ck0 : w2.cell? ⟨Bk, 0, none⟩ = some v := by simp [World.cell?, cw]
  clear a0 b0 cw
  have hsz9 : base ≤ (w2.alloc (.cells #[.int .i64 ax, .int .i64 ay] 23)).heap.size := by simp; omega
  have hb3 : Below w2.heap.size w2 (w2.alloc (.cells #[.int .i64 ax, .int .i64 ay] 23)) := (Below.refl _ w2).alloc (Nat.le_refl _) _
  have HOA := Lib.hid (HP2.out.own.later hb3)
  gi_wp2_with (gi_at_builtin; go_must (refine wpListIn_append_pt _ (by rfl) (.tmp 16) (.tmp 18) 39 Tryz.underlying39 (by rfl) base _ xs (by rfl) HOA.out w2.heap.size ⟨ax, ay⟩ (by rfl) (by go_cell) (by go_cell) (by omega) hsz9 ?_))
  intro v7 w7 hown hgr hat
  have hBk2 : Bk < w2.heap.size := by omega
  have h7 : w7.heap[Bk]? = some (.cells #[v] 39 (0, 0)) := by
    refine (hgr.block Bk (by simp; omega) (fun e => hne e.symm)).trans ?_
    exact (hb3.block Bk hBk2).trans HP2.out.cell
  have c7 : w7.cell? ⟨Bk, 0, none⟩ = some v := by simp [World.cell?, h7]
  have f7 : w7.frozen? ⟨Bk, 0, none⟩ = false := by simp [World.frozen?, h7]
  have hpd := pushV_of (w := w2) hb3 hBk2 h7 hown hgr rfl (hat.imp id (fun h => by rw [World.size_alloc]; exact h)) hne
  have hpd2 := HP2.out.trans hpd
  obtain ⟨A7, q7, e7, _⟩ := hown.slice
  generalize hL7 : (xs ++ [(⟨ax, ay⟩ : Pt)]).length = L7 at e7
  subst e7
  have HPD := Lib.hid hpd2
  have HA3 := Lib.hid (hpd.keeps HA2.out (by omega) (fun e => by have := hvl _ e; omega))
  have HBX3 := Lib.hid (hpd.keeps HBX2.out (by omega) (fun e => by have := hvl _ e; omega))
  clear hown hgr hat h7 hpd hpd2 HOA HP2 HA2 HBX2 hb3 hsz9 ck0 ca0 ca1
  gi_wp2
  refine ⟨trivial, (callsIn_wide.2 (V3.out _)).mono ?_⟩
  rintro e w4 ⟨rfl, hb4⟩
  have hpd4 := HPD.out.after hb4
  have HA4 := Lib.hid ((hb4.block _ (Array.getElem?_eq_some_iff.1 HA3.out).1).trans HA3.out)
  have HBX4 := Lib.hid ((hb4.block _ (Array.getElem?_eq_some_iff.1 HBX3.out).1).trans HBX3.out)
  have HPD4 := Lib.hid hpd4
  clear hpd4 HPD HA3 HBX3 hb4
  gi_wp2
  go_end0
  exact ⟨rfl, _, HPD4.out.before hb0⟩
set_option maxRecDepth 100000 in
set_option maxHeartbeats 4000000 in
theorem keep_01 (ax ay bx bY HA HB HC : Int) (Bh Bk base : Nat) (v : Value) (xs : List Pt) (w : World) (s t : Int) (hs : overS ⟨HA, HB, HC⟩ ⟨ax, ay⟩ = s) (ht : overS ⟨HA, HB, HC⟩ ⟨bx, bY⟩ = t) (hh : hfB ⟨HA, HB, HC⟩ = true) (ha : plB ⟨ax, ay⟩ = true) (hb : plB ⟨bx, bY⟩ = true)
    (hc1 : ¬ s ≤ 0) (hc2 : crossesB s t = true) (hs1 : -3000000000000 ≤ s ∧ s ≤ 3000000000000) (ht1 : -3000000000000 ≤ t ∧ t ≤ 3000000000000)
    (hH : w.heap[Bh]? = some (.cells #[.int .i64 HA, .int .i64 HB, .int .i64 HC] 143 (0, 0))) (hB : w.heap[Bk]? = some (.cells #[v] 39 (0, 0))) (hO : Own w base v xs) (hlen : xs.length ≤ 1000000) (hne : v.ownBlock ≠ some Bk) (hneh : v.ownBlock ≠ some Bh) (hbase : base ≤ w.heap.size) :
    Calls Tryz.prog 113 #[.agg #[.int .i64 ax, .int .i64 ay], .agg #[.int .i64 bx, .int .i64 bY], .pointer (some ⟨Bh, 0, none⟩), .pointer (some ⟨Bk, 0, none⟩)] w fun e w' => e = .returned (.tuple #[]) ∧ ∃ v', PushV 39 base Bk v v' (xs ++ frameS ⟨ax, ay⟩ ⟨bx, bY⟩ s t) w w' := by
  have v1 := fun W => over_any ⟨HA, HB, HC⟩ ⟨ax, ay⟩ W hh (nr_of_pl ha)
  have v2 := fun W => over_any ⟨HA, HB, HC⟩ ⟨bx, bY⟩ W hh (nr_of_pl hb)
  rw [hs] at v1
  rw [ht] at v2
  have v3 := fun W => crosses_any s t W
  rw [hc2] at v3
  have V1 := Lib.hid v1
  have V2 := Lib.hid v2
  have V3 := Lib.hid v3
  have V4 := Lib.hid (fun W => frame_any ⟨ax, ay⟩ ⟨bx, bY⟩ s t W hc2 ha hb hs1 ht1)
  have hfl : (frameS ⟨ax, ay⟩ ⟨bx, bY⟩ s t).length = 4 := rfl
  generalize frameS ⟨ax, ay⟩ ⟨bx, bY⟩ s t = fr at *
  have hBlt : Bk < w.heap.size := (Array.getElem?_eq_some_iff.1 hB).1
  have hHlt : Bh < w.heap.size := (Array.getElem?_eq_some_iff.1 hH).1
  have hvl := fun k e => (own_block_lt hO (k := k) e).2
  have hsd : decide (s ≤ 0) = false := by simp; omega
  have hp : ∀ ops, PlainOps Fence.wide ops := fun ops => plainOps_none rfl
  clear v1 v2 v3 hs ht hh ha hb hc2 hs1 ht1

  refine (callsIn_wide (n := 6)).1 ?_
  refine callsIn_of_wp Tryz.func113 rfl trivial ?_ rfl
  simp only [Tryz.ntmps113, List.size_toArray, List.length_cons, List.length_nil, Nat.reduceAdd, Nat.reduceSub, Array.replicate_succ, Array.replicate_zero, List.push_toArray, List.append_toArray, List.nil_append, List.cons_append]
  gi_wp2
  obtain ⟨W0, hW0⟩ : ∃ W0, (w.alloc (.cells #[.int .i64 ax, .int .i64 ay] 23)).alloc (.cells #[.int .i64 bx, .int .i64 bY] 23) = W0 := ⟨_, rfl⟩
  have hb0 : Below w.heap.size w W0 := by rw [← hW0]; go_grown
  have hz0 : W0.heap.size = w.heap.size + 2 := by rw [← hW0]; simp
  have a0 : W0.heap[w.heap.size]? = some (.cells #[.int .i64 ax, .int .i64 ay] 23 (0, 0)) := by rw [← hW0]; exact (Below.heap_alloc _ _ _ (by simp)).trans (World.alloc_heap_new w _)
  have b0 : W0.heap[w.heap.size + 1]? = some (.cells #[.int .i64 bx, .int .i64 bY] 23 (0, 0)) := by rw [← hW0]; have h9 := World.alloc_heap_new (w.alloc (.cells #[.int .i64 ax, .int .i64 ay] 23)) (.cells #[.int .i64 bx, .int .i64 bY] 23); rw [World.size_alloc] at h9; exact h9
  have hB0 := (hb0.block Bk hBlt).trans hB
  have hH0 := (hb0.block Bh hHlt).trans hH
  have hO0 := hO.later hb0
  rw [hW0]
  clear hW0 hB hH hO
  have HB0 := Lib.hid hB0
  have HO0 := Lib.hid hO0
  have HA0 := Lib.hid a0
  have HBX0 := Lib.hid b0
  clear hO0
  have hbz : Below W0.heap.size W0 W0.drew := Below.drew (Below.refl _ _)
  have ca0 : W0.drew.cell? ⟨w.heap.size, 0, none⟩ = some (.int .i64 ax) := by go_simp; simp [World.cell?, a0]
  have ca1 : W0.drew.cell? ⟨w.heap.size, 1, none⟩ = some (.int .i64 ay) := by go_simp; simp [World.cell?, a0]
  have cb0 : W0.drew.cell? ⟨w.heap.size + 1, 0, none⟩ = some (.int .i64 bx) := by go_simp; simp [World.cell?, b0]
  have cb1 : W0.drew.cell? ⟨w.heap.size + 1, 1, none⟩ = some (.int .i64 bY) := by go_simp; simp [World.cell?, b0]
  have ch0 : W0.drew.cell? ⟨Bh, 0, none⟩ = some (.int .i64 HA) := by go_simp; simp [World.cell?, hH0]
  have ch1 : W0.drew.cell? ⟨Bh, 1, none⟩ = some (.int .i64 HB) := by go_simp; simp [World.cell?, hH0]
  have ch2 : W0.drew.cell? ⟨Bh, 2, none⟩ = some (.int .i64 HC) := by go_simp; simp [World.cell?, hH0]
  clear a0 b0 hB0 hH0
  refine held_begin [0, 1, 3, 4, 6, 7] (fun w9 => Below W0.drew.heap.size W0.drew w9 ∧ w9.cell? ⟨w.heap.size, 0, none⟩ = some (.int .i64 ax) ∧ w9.cell? ⟨w.heap.size, 1, none⟩ = some (.int .i64 ay) ∧ w9.cell? ⟨w.heap.size + 1, 0, none⟩ = some (.int .i64 bx) ∧ w9.cell? ⟨w.heap.size + 1, 1, none⟩ = some (.int .i64 bY) ∧ w9.cell? ⟨Bh, 0, none⟩ = some (.int .i64 HA) ∧ w9.cell? ⟨Bh, 1, none⟩ = some (.int .i64 HB) ∧ w9.cell? ⟨Bh, 2, none⟩ = some (.int .i64 HC)) (by kernel_rfl) (⟨Below.refl _ _, ca0, ca1, cb0, cb1, ch0, ch1, ch2⟩) (fun hS => ?_)
  generalize W0.drew = z at *
  have HSZ := Lib.hid (show ∀ w9, Below z.heap.size z w9 → Below z.heap.size z w9 ∧ w9.cell? ⟨w.heap.size, 0, none⟩ = some (.int .i64 ax) ∧ w9.cell? ⟨w.heap.size, 1, none⟩ = some (.int .i64 ay) ∧ w9.cell? ⟨w.heap.size + 1, 0, none⟩ = some (.int .i64 bx) ∧ w9.cell? ⟨w.heap.size + 1, 1, none⟩ = some (.int .i64 bY) ∧ w9.cell? ⟨Bh, 0, none⟩ = some (.int .i64 HA) ∧ w9.cell? ⟨Bh, 1, none⟩ = some (.int .i64 HB) ∧ w9.cell? ⟨Bh, 2, none⟩ = some (.int .i64 HC) from fun w9 h9 => ⟨h9, kp h9 ca0, kp h9 ca1, kp h9 cb0, kp h9 cb1, kp h9 ch0, kp h9 ch1, kp h9 ch2⟩)
  refine tk 0 (v := ?_) (hp _) hS rfl (fun _ _ _ _ => trivial) ?_ ?_
  rotate_left 1
  · intro w hw; (try rw [hw]); (try go_split_ands); go_simp <;> with_reducible rfl
  try simp only [Act.put, st]
  refine tk 1 (v := ?_) (hp _) hS rfl (fun _ _ _ _ => trivial) ?_ ?_
  rotate_left 1
  · intro w hw; (try rw [hw]); (try go_split_ands); go_simp <;> with_reducible rfl
  try simp only [Act.put, st]
  refine tk 3 (v := ?_) (hp _) hS rfl (fun _ _ _ _ => trivial) ?_ ?_
  rotate_left 1
  · intro w hw; (try rw [hw]); (try go_split_ands); go_simp <;> with_reducible rfl
  try simp only [Act.put, st]
  refine tk 4 (v := ?_) (hp _) hS rfl (fun _ _ _ _ => trivial) ?_ ?_
  rotate_left 1
  · intro w hw; (try rw [hw]); (try go_split_ands); go_simp <;> with_reducible rfl
  try simp only [Act.put, st]
  refine held_step 2 rfl (hp _) (by kernel_rfl) (by kernel_rfl) (fun K hK => ⟨?_, ?_⟩)
  · exact fun _ _ => trivial
  go_simp
  refine (callsIn_wide.2 (V1.out _)).mono ?_
  rintro e w1 ⟨rfl, hb_1⟩
  have hB_1 : Below z.heap.size z w1 := Below.after' hS.1 hb_1
  have hS := HSZ.out _ hB_1
  refine hK _ _ hS ?_
  clear hK K
  try simp only [Act.put, st]
  refine held_step 5 rfl (hp _) (by kernel_rfl) (by kernel_rfl) (fun K hK => ⟨?_, ?_⟩)
  · exact fun _ _ => trivial
  go_simp
  refine (callsIn_wide.2 (V2.out _)).mono ?_
  rintro e w2 ⟨rfl, hb_2⟩
  have hB_2 : Below z.heap.size z w2 := Below.after' hS.1 hb_2
  have hS := HSZ.out _ hB_2
  refine hK _ _ hS ?_
  clear hK K
  try simp only [Act.put, st]
  refine tk 6 (v := ?_) (hp _) hS rfl (fun _ _ _ _ => trivial) ?_ ?_
  rotate_left 1
  · intro w hw; (try rw [hw]); (try go_split_ands); go_simp <;> with_reducible rfl
  try simp only [Act.put, st]
  refine tk 7 (v := ?_) (hp _) hS rfl (fun _ _ _ _ => trivial) ?_ ?_
  rotate_left 1
  · intro w hw; (try rw [hw]); (try go_split_ands); go_simp <;> with_reducible rfl
  try simp only [Act.put, st]
  refine held_end (by kernel_rfl) ?_
  have hb2 : Below W0.heap.size W0 w2 := hbz.trans (hB_2.mono hbz.size)
  have HP2 := Lib.hid (PushV.same HB0.out HO0.out hb2)
  have HA2 := Lib.hid ((hb2.block _ (by omega)).trans HA0.out)
  have HBX2 := Lib.hid ((hb2.block _ (by omega)).trans HBX0.out)
  have hz2 := hb2.size
  clear HSZ hS hb_1 hB_1 hb_2 hB_2 hbz ca0 ca1 cb0 cb1 ch0 ch1 ch2 HA0 HBX0
  have a0 := HA2.out
  have b0 := HBX2.out
  have cw := HP2.out.cell
  have ca0 : w2.cell? ⟨w.heap.size, 0, none⟩ = some (.int .i64 ax) := by simp [World.cell?, a0]
  have ca1 : w2.cell? ⟨w.heap.size, 1, none⟩ = some (.int .i64 ay) := by simp [World.cell?, a0]
  have ck0 : w2.cell? ⟨Bk, 0, none⟩ = some v := by simp [World.cell?, cw]
  clear a0 b0 cw
  have HPD := Lib.hid HP2.out
  have HA3 := Lib.hid HA2.out
  have HBX3 := Lib.hid HBX2.out
  clear HP2 HA2 HBX2 ca0 ca1
  gi_wp2
  refine ⟨trivial, (callsIn_wide.2 (V3.out _)).mono ?_⟩
  rintro e w4 ⟨rfl, hb4⟩
  have hpd4 := HPD.out.after hb4
  have HA4 := Lib.hid ((hb4.block _ (Array.getElem?_eq_some_iff.1 HA3.out).1).trans HA3.out)
  have HBX4 := Lib.hid ((hb4.block _ (Array.getElem?_eq_some_iff.1 HBX3.out).1).trans HBX3.out)
  have HPD4 := Lib.hid hpd4
  clear hpd4 HPD HA3 HBX3 hb4
  have cw := HPD4.out.cell
  have a4 := HA4.out
  have b4 := HBX4.out
  have hnb := HPD4.out.ne hne (by omega)
  have ca0 : w4.drew.cell? ⟨w.heap.size, 0, none⟩ = some (.int .i64 ax) := by go_simp; simp [World.cell?, a4]
  have ca1 : w4.drew.cell? ⟨w.heap.size, 1, none⟩ = some (.int .i64 ay) := by go_simp; simp [World.cell?, a4]
  have cb0 : w4.drew.cell? ⟨w.heap.size + 1, 0, none⟩ = some (.int .i64 bx) := by go_simp; simp [World.cell?, b4]
  have cb1 : w4.drew.cell? ⟨w.heap.size + 1, 1, none⟩ = some (.int .i64 bY) := by go_simp; simp [World.cell?, b4]
  have ck0 : w4.drew.cell? ⟨Bk, 0, none⟩ = some v := by go_simp; simp [World.cell?, cw]
  have hbz : Below w4.heap.size w4 w4.drew := Below.drew (Below.refl _ _)
  clear cw a4 b4 HA4 HBX4
  have HPZ := Lib.hid (HPD4.out.after hbz)
  clear HPD4 hbz
  gi_wp2
  refine held_begin [0, 1, 2, 3, 4] (fun w9 => Below w4.drew.heap.size w4.drew w9 ∧ w9.cell? ⟨w.heap.size, 0, none⟩ = some (.int .i64 ax) ∧ w9.cell? ⟨w.heap.size, 1, none⟩ = some (.int .i64 ay) ∧ w9.cell? ⟨w.heap.size + 1, 0, none⟩ = some (.int .i64 bx) ∧ w9.cell? ⟨w.heap.size + 1, 1, none⟩ = some (.int .i64 bY) ∧ w9.cell? ⟨Bk, 0, none⟩ = some (v)) (by kernel_rfl) (⟨Below.refl _ _, ca0, ca1, cb0, cb1, ck0⟩) (fun hS => ?_)
  generalize w4.drew = z at *
  have HSZ := Lib.hid (show ∀ w9, Below z.heap.size z w9 → Below z.heap.size z w9 ∧ w9.cell? ⟨w.heap.size, 0, none⟩ = some (.int .i64 ax) ∧ w9.cell? ⟨w.heap.size, 1, none⟩ = some (.int .i64 ay) ∧ w9.cell? ⟨w.heap.size + 1, 0, none⟩ = some (.int .i64 bx) ∧ w9.cell? ⟨w.heap.size + 1, 1, none⟩ = some (.int .i64 bY) ∧ w9.cell? ⟨Bk, 0, none⟩ = some (v) from fun w9 h9 => ⟨h9, kp h9 ca0, kp h9 ca1, kp h9 cb0, kp h9 cb1, kp h9 ck0⟩)
  refine tk 0 (v := ?_) (hp _) hS rfl (fun _ _ _ _ => trivial) ?_ ?_
  rotate_left 1
  · intro w hw; (try rw [hw]); (try go_split_ands); go_simp <;> with_reducible rfl
  try simp only [Act.put, st]
  refine tk 1 (v := ?_) (hp _) hS rfl (fun _ _ _ _ => trivial) ?_ ?_
  rotate_left 1
  · intro w hw; (try rw [hw]); (try go_split_ands); go_simp <;> with_reducible rfl
  try simp only [Act.put, st]
  refine tk 2 (v := ?_) (hp _) hS rfl (fun _ _ _ _ => trivial) ?_ ?_
  rotate_left 1
  · intro w hw; (try rw [hw]); (try go_split_ands); go_simp <;> with_reducible rfl
  try simp only [Act.put, st]
  refine tk 3 (v := ?_) (hp _) hS rfl (fun _ _ _ _ => trivial) ?_ ?_
  rotate_left 1
  · intro w hw; (try rw [hw]); (try go_split_ands); go_simp <;> with_reducible rfl
  try simp only [Act.put, st]
  refine tk 4 (v := ?_) (hp _) hS rfl (fun _ _ _ _ => trivial) ?_ ?_
  rotate_left 1
  · intro w hw; (try rw [hw]); (try go_split_ands); go_simp <;> with_reducible rfl
  try simp only [Act.put, st]
  refine held_step 5 rfl (hp _) (by kernel_rfl) (by kernel_rfl) (fun K hK => ⟨?_, ?_⟩)
  · exact fun _ _ => trivial
  go_simp
  refine (callsIn_wide.2 (V4.out _)).mono ?_
  rintro e w5 ⟨v5, rfl, ho5, hb_5⟩
  have hB_5 : Below z.heap.size z w5 := Below.after' hS.1 hb_5
  have hS := HSZ.out _ hB_5
  refine hK _ _ hS ?_
  clear hK K
  try simp only [Act.put, st]
  have hpz := HPZ.out.after hB_5
  obtain ⟨g5, c5, rfl, hg5, hg5'⟩ := own_block ho5 (by intro e; rw [e] at hfl; simp at hfl)
  obtain ⟨_, _, e5, _, _, _, hp5⟩ := ho5.slice
  cases e5
  obtain ⟨v7, w7, hrun, hown, hgr, hat⟩ := run_append_pts w5 39 base v (xs) hpz.own (some ⟨g5, 0, none⟩) fr.length c5 fr (by simp) rfl hp5 (by first | omega | (simp; omega)) (by have := hpz.size; omega)
  have HRUN := Lib.hid hrun
  have hBk5 : Bk < w5.heap.size := by have := hpz.size; omega
  have h7 : w7.heap[Bk]? = some (.cells #[v] 39 (0, 0)) := (hgr.block Bk hBk5 (fun e => hnb e.symm)).trans hpz.cell
  have c7 : w7.cell? ⟨Bk, 0, none⟩ = some v := by simp [World.cell?, h7]
  have f7 : w7.frozen? ⟨Bk, 0, none⟩ = false := by simp [World.frozen?, h7]
  have hpd := pushV_of (w := w5) (Below.refl _ _) hBk5 h7 hown hgr rfl hat hnb
  have hpd2 := (hpz.trans hpd).before hb0
  obtain ⟨A9, q9, e9, _⟩ := hown.slice
  generalize hL9 : (xs ++ fr).length = L9 at e9
  subst e9
  have HPD9 := Lib.hid hpd2
  clear hown hgr hat h7 hpd hpd2 hpz hrun ho5 hp5
  refine held_one 6 rfl (hp _) (by kernel_rfl) (by kernel_rfl) (by kernel_rfl) (fun K hK => ⟨?_, ?_⟩)
  · exact fun _ _ => trivial
  rw [run_append_op (s := .tmp 23) (x := .tmp 28) rfl _ _ _ rfl rfl HRUN.out]
  go_simp
  refine hK _ _ ?_
  clear hK K
  try simp only [Act.put, st]
  refine held_one 7 rfl (hp _) (by kernel_rfl) (by kernel_rfl) (by kernel_rfl) (fun K hK => ⟨?_, ?_⟩)
  · exact fun _ _ => trivial
  go_simp
  refine hK _ _ ?_
  clear hK K
  try simp only [Act.put, st]
  refine held_end (by kernel_rfl) ?_
  gi_wp2
  go_end0
  exact ⟨rfl, _, by have h9 := HPD9.out; simpa only [List.append_assoc, List.singleton_append] using h9⟩
set_option maxRecDepth 100000 in
set_option maxHeartbeats 4000000 in
theorem keep_00 (ax ay bx bY HA HB HC : Int) (Bh Bk base : Nat) (v : Value) (xs : List Pt) (w : World) (s t : Int) (hs : overS ⟨HA, HB, HC⟩ ⟨ax, ay⟩ = s) (ht : overS ⟨HA, HB, HC⟩ ⟨bx, bY⟩ = t) (hh : hfB ⟨HA, HB, HC⟩ = true) (ha : plB ⟨ax, ay⟩ = true) (hb : plB ⟨bx, bY⟩ = true)
    (hc1 : ¬ s ≤ 0) (hc2 : crossesB s t = false) (hs1 : -3000000000000 ≤ s ∧ s ≤ 3000000000000) (ht1 : -3000000000000 ≤ t ∧ t ≤ 3000000000000)
    (hH : w.heap[Bh]? = some (.cells #[.int .i64 HA, .int .i64 HB, .int .i64 HC] 143 (0, 0))) (hB : w.heap[Bk]? = some (.cells #[v] 39 (0, 0))) (hO : Own w base v xs) (hlen : xs.length ≤ 1000000) (hne : v.ownBlock ≠ some Bk) (hneh : v.ownBlock ≠ some Bh) (hbase : base ≤ w.heap.size) :
    Calls Tryz.prog 113 #[.agg #[.int .i64 ax, .int .i64 ay], .agg #[.int .i64 bx, .int .i64 bY], .pointer (some ⟨Bh, 0, none⟩), .pointer (some ⟨Bk, 0, none⟩)] w fun e w' => e = .returned (.tuple #[]) ∧ ∃ v', PushV 39 base Bk v v' (xs) w w' := by
  have v1 := fun W => over_any ⟨HA, HB, HC⟩ ⟨ax, ay⟩ W hh (nr_of_pl ha)
  have v2 := fun W => over_any ⟨HA, HB, HC⟩ ⟨bx, bY⟩ W hh (nr_of_pl hb)
  rw [hs] at v1
  rw [ht] at v2
  have v3 := fun W => crosses_any s t W
  rw [hc2] at v3
  have V1 := Lib.hid v1
  have V2 := Lib.hid v2
  have V3 := Lib.hid v3
  have hBlt : Bk < w.heap.size := (Array.getElem?_eq_some_iff.1 hB).1
  have hHlt : Bh < w.heap.size := (Array.getElem?_eq_some_iff.1 hH).1
  have hvl := fun k e => (own_block_lt hO (k := k) e).2
  have hsd : decide (s ≤ 0) = false := by simp; omega
  have hp : ∀ ops, PlainOps Fence.wide ops := fun ops => plainOps_none rfl
  clear v1 v2 v3 hs ht hh ha hb hc2 hs1 ht1

  refine (callsIn_wide (n := 6)).1 ?_
  refine callsIn_of_wp Tryz.func113 rfl trivial ?_ rfl
  simp only [Tryz.ntmps113, List.size_toArray, List.length_cons, List.length_nil, Nat.reduceAdd, Nat.reduceSub, Array.replicate_succ, Array.replicate_zero, List.push_toArray, List.append_toArray, List.nil_append, List.cons_append]
  gi_wp2
  obtain ⟨W0, hW0⟩ : ∃ W0, (w.alloc (.cells #[.int .i64 ax, .int .i64 ay] 23)).alloc (.cells #[.int .i64 bx, .int .i64 bY] 23) = W0 := ⟨_, rfl⟩
  have hb0 : Below w.heap.size w W0 := by rw [← hW0]; go_grown
  have hz0 : W0.heap.size = w.heap.size + 2 := by rw [← hW0]; simp
  have a0 : W0.heap[w.heap.size]? = some (.cells #[.int .i64 ax, .int .i64 ay] 23 (0, 0)) := by rw [← hW0]; exact (Below.heap_alloc _ _ _ (by simp)).trans (World.alloc_heap_new w _)
  have b0 : W0.heap[w.heap.size + 1]? = some (.cells #[.int .i64 bx, .int .i64 bY] 23 (0, 0)) := by rw [← hW0]; have h9 := World.alloc_heap_new (w.alloc (.cells #[.int .i64 ax, .int .i64 ay] 23)) (.cells #[.int .i64 bx, .int .i64 bY] 23); rw [World.size_alloc] at h9; exact h9
  have hB0 := (hb0.block Bk hBlt).trans hB
  have hH0 := (hb0.block Bh hHlt).trans hH
  have hO0 := hO.later hb0
  rw [hW0]
  clear hW0 hB hH hO
  have HB0 := Lib.hid hB0
  have HO0 := Lib.hid hO0
  have HA0 := Lib.hid a0
  have HBX0 := Lib.hid b0
  clear hO0
  have hbz : Below W0.heap.size W0 W0.drew := Below.drew (Below.refl _ _)
  have ca0 : W0.drew.cell? ⟨w.heap.size, 0, none⟩ = some (.int .i64 ax) := by go_simp; simp [World.cell?, a0]
  have ca1 : W0.drew.cell? ⟨w.heap.size, 1, none⟩ = some (.int .i64 ay) := by go_simp; simp [World.cell?, a0]
  have cb0 : W0.drew.cell? ⟨w.heap.size + 1, 0, none⟩ = some (.int .i64 bx) := by go_simp; simp [World.cell?, b0]
  have cb1 : W0.drew.cell? ⟨w.heap.size + 1, 1, none⟩ = some (.int .i64 bY) := by go_simp; simp [World.cell?, b0]
  have ch0 : W0.drew.cell? ⟨Bh, 0, none⟩ = some (.int .i64 HA) := by go_simp; simp [World.cell?, hH0]
  have ch1 : W0.drew.cell? ⟨Bh, 1, none⟩ = some (.int .i64 HB) := by go_simp; simp [World.cell?, hH0]
  have ch2 : W0.drew.cell? ⟨Bh, 2, none⟩ = some (.int .i64 HC) := by go_simp; simp [World.cell?, hH0]
  clear a0 b0 hB0 hH0
  refine held_begin [0, 1, 3, 4, 6, 7] (fun w9 => Below W0.drew.heap.size W0.drew w9 ∧ w9.cell? ⟨w.heap.size, 0, none⟩ = some (.int .i64 ax) ∧ w9.cell? ⟨w.heap.size, 1, none⟩ = some (.int .i64 ay) ∧ w9.cell? ⟨w.heap.size + 1, 0, none⟩ = some (.int .i64 bx) ∧ w9.cell? ⟨w.heap.size + 1, 1, none⟩ = some (.int .i64 bY) ∧ w9.cell? ⟨Bh, 0, none⟩ = some (.int .i64 HA) ∧ w9.cell? ⟨Bh, 1, none⟩ = some (.int .i64 HB) ∧ w9.cell? ⟨Bh, 2, none⟩ = some (.int .i64 HC)) (by kernel_rfl) (⟨Below.refl _ _, ca0, ca1, cb0, cb1, ch0, ch1, ch2⟩) (fun hS => ?_)
  generalize W0.drew = z at *
  have HSZ := Lib.hid (show ∀ w9, Below z.heap.size z w9 → Below z.heap.size z w9 ∧ w9.cell? ⟨w.heap.size, 0, none⟩ = some (.int .i64 ax) ∧ w9.cell? ⟨w.heap.size, 1, none⟩ = some (.int .i64 ay) ∧ w9.cell? ⟨w.heap.size + 1, 0, none⟩ = some (.int .i64 bx) ∧ w9.cell? ⟨w.heap.size + 1, 1, none⟩ = some (.int .i64 bY) ∧ w9.cell? ⟨Bh, 0, none⟩ = some (.int .i64 HA) ∧ w9.cell? ⟨Bh, 1, none⟩ = some (.int .i64 HB) ∧ w9.cell? ⟨Bh, 2, none⟩ = some (.int .i64 HC) from fun w9 h9 => ⟨h9, kp h9 ca0, kp h9 ca1, kp h9 cb0, kp h9 cb1, kp h9 ch0, kp h9 ch1, kp h9 ch2⟩)
  refine tk 0 (v := ?_) (hp _) hS rfl (fun _ _ _ _ => trivial) ?_ ?_
  rotate_left 1
  · intro w hw; (try rw [hw]); (try go_split_ands); go_simp <;> with_reducible rfl
  try simp only [Act.put, st]
  refine tk 1 (v := ?_) (hp _) hS rfl (fun _ _ _ _ => trivial) ?_ ?_
  rotate_left 1
  · intro w hw; (try rw [hw]); (try go_split_ands); go_simp <;> with_reducible rfl
  try simp only [Act.put, st]
  refine tk 3 (v := ?_) (hp _) hS rfl (fun _ _ _ _ => trivial) ?_ ?_
  rotate_left 1
  · intro w hw; (try rw [hw]); (try go_split_ands); go_simp <;> with_reducible rfl
  try simp only [Act.put, st]
  refine tk 4 (v := ?_) (hp _) hS rfl (fun _ _ _ _ => trivial) ?_ ?_
  rotate_left 1
  · intro w hw; (try rw [hw]); (try go_split_ands); go_simp <;> with_reducible rfl
  try simp only [Act.put, st]
  refine held_step 2 rfl (hp _) (by kernel_rfl) (by kernel_rfl) (fun K hK => ⟨?_, ?_⟩)
  · exact fun _ _ => trivial
  go_simp
  refine (callsIn_wide.2 (V1.out _)).mono ?_
  rintro e w1 ⟨rfl, hb_1⟩
  have hB_1 : Below z.heap.size z w1 := Below.after' hS.1 hb_1
  have hS := HSZ.out _ hB_1
  refine hK _ _ hS ?_
  clear hK K
  try simp only [Act.put, st]
  refine held_step 5 rfl (hp _) (by kernel_rfl) (by kernel_rfl) (fun K hK => ⟨?_, ?_⟩)
  · exact fun _ _ => trivial
  go_simp
  refine (callsIn_wide.2 (V2.out _)).mono ?_
  rintro e w2 ⟨rfl, hb_2⟩
  have hB_2 : Below z.heap.size z w2 := Below.after' hS.1 hb_2
  have hS := HSZ.out _ hB_2
  refine hK _ _ hS ?_
  clear hK K
  try simp only [Act.put, st]
  refine tk 6 (v := ?_) (hp _) hS rfl (fun _ _ _ _ => trivial) ?_ ?_
  rotate_left 1
  · intro w hw; (try rw [hw]); (try go_split_ands); go_simp <;> with_reducible rfl
  try simp only [Act.put, st]
  refine tk 7 (v := ?_) (hp _) hS rfl (fun _ _ _ _ => trivial) ?_ ?_
  rotate_left 1
  · intro w hw; (try rw [hw]); (try go_split_ands); go_simp <;> with_reducible rfl
  try simp only [Act.put, st]
  refine held_end (by kernel_rfl) ?_
  have hb2 : Below W0.heap.size W0 w2 := hbz.trans (hB_2.mono hbz.size)
  have HP2 := Lib.hid (PushV.same HB0.out HO0.out hb2)
  have HA2 := Lib.hid ((hb2.block _ (by omega)).trans HA0.out)
  have HBX2 := Lib.hid ((hb2.block _ (by omega)).trans HBX0.out)
  have hz2 := hb2.size
  clear HSZ hS hb_1 hB_1 hb_2 hB_2 hbz ca0 ca1 cb0 cb1 ch0 ch1 ch2 HA0 HBX0
  have a0 := HA2.out
  have b0 := HBX2.out
  have cw := HP2.out.cell
  have ca0 : w2.cell? ⟨w.heap.size, 0, none⟩ = some (.int .i64 ax) := by simp [World.cell?, a0]
  have ca1 : w2.cell? ⟨w.heap.size, 1, none⟩ = some (.int .i64 ay) := by simp [World.cell?, a0]
  have ck0 : w2.cell? ⟨Bk, 0, none⟩ = some v := by simp [World.cell?, cw]
  clear a0 b0 cw
  have HPD := Lib.hid HP2.out
  have HA3 := Lib.hid HA2.out
  have HBX3 := Lib.hid HBX2.out
  clear HP2 HA2 HBX2 ca0 ca1
  gi_wp2
  refine ⟨trivial, (callsIn_wide.2 (V3.out _)).mono ?_⟩
  rintro e w4 ⟨rfl, hb4⟩
  have hpd4 := HPD.out.after hb4
  have HA4 := Lib.hid ((hb4.block _ (Array.getElem?_eq_some_iff.1 HA3.out).1).trans HA3.out)
  have HBX4 := Lib.hid ((hb4.block _ (Array.getElem?_eq_some_iff.1 HBX3.out).1).trans HBX3.out)
  have HPD4 := Lib.hid hpd4
  clear hpd4 HPD HA3 HBX3 hb4
  gi_wp2
  go_end0
  exact ⟨rfl, _, HPD4.out.before hb0⟩
theorem over_bd {h : Hf} {x : Pt} (hh : hfB h = true) (hx : plB x = true) : -3000000000000 ≤ overS h x ∧ overS h x ≤ 3000000000000 := by
  have h1 := (plB_iff x).1 hx
  simp only [hfB, Bool.and_eq_true, decide_eq_true_eq] at hh
  have m1 := mul_bd (a := h.a) (b := x.x) (A := 1000000) (B := 500000) (by omega) (by omega) (by omega) (by omega)
  have m2 := mul_bd (a := h.b) (b := x.y) (A := 1000000) (B := 500000) (by omega) (by omega) (by omega) (by omega)
  unfold overS
  omega
theorem keep_any (a b : Pt) (h : Hf) (Bh Bk base : Nat) (v : Value) (xs : List Pt) (w : World) (hh : hfB h = true) (ha : plB a = true) (hb : plB b = true)
    (hH : w.heap[Bh]? = some (.cells #[.int .i64 h.a, .int .i64 h.b, .int .i64 h.c] 143 (0, 0))) (hB : w.heap[Bk]? = some (.cells #[v] 39 (0, 0))) (hO : Own w base v xs) (hlen : xs.length ≤ 1000000) (hne : v.ownBlock ≠ some Bk) (hneh : v.ownBlock ≠ some Bh) (hbase : base ≤ w.heap.size) :
    Calls Tryz.prog 113 #[a.val, b.val, .pointer (some ⟨Bh, 0, none⟩), .pointer (some ⟨Bk, 0, none⟩)] w fun e w' => e = .returned (.tuple #[]) ∧ ∃ v', PushV 39 base Bk v v' (xs ++ keepS h (a, b)) w w' := by
  obtain ⟨ax, ay⟩ := a
  obtain ⟨bx, bY⟩ := b
  obtain ⟨HA, HB, HC⟩ := h
  have o1 := over_bd hh ha
  have o2 := over_bd hh hb
  have e : ∀ (p q : Bool), (decide (overS ⟨HA, HB, HC⟩ ⟨ax, ay⟩ ≤ 0) = p) → crossesB (overS ⟨HA, HB, HC⟩ ⟨ax, ay⟩) (overS ⟨HA, HB, HC⟩ ⟨bx, bY⟩) = q → xs ++ keepS ⟨HA, HB, HC⟩ (⟨ax, ay⟩, ⟨bx, bY⟩) = xs ++ ((if p then [⟨ax, ay⟩] else []) ++ (if q then frameS ⟨ax, ay⟩ ⟨bx, bY⟩ (overS ⟨HA, HB, HC⟩ ⟨ax, ay⟩) (overS ⟨HA, HB, HC⟩ ⟨bx, bY⟩) else [])) := by
    rintro p q rfl rfl
    simp [keepS]
  by_cases c1 : overS ⟨HA, HB, HC⟩ ⟨ax, ay⟩ ≤ 0
  · cases c2 : crossesB (overS ⟨HA, HB, HC⟩ ⟨ax, ay⟩) (overS ⟨HA, HB, HC⟩ ⟨bx, bY⟩) with
    | true => rw [e true true (by simpa using c1) c2]; simpa using keep_11 ax ay bx bY HA HB HC Bh Bk base v xs w _ _ rfl rfl hh ha hb c1 c2 o1 o2 hH hB hO hlen hne hneh hbase
    | false => rw [e true false (by simpa using c1) c2]; simpa using keep_10 ax ay bx bY HA HB HC Bh Bk base v xs w _ _ rfl rfl hh ha hb c1 c2 o1 o2 hH hB hO hlen hne hneh hbase
  · cases c2 : crossesB (overS ⟨HA, HB, HC⟩ ⟨ax, ay⟩) (overS ⟨HA, HB, HC⟩ ⟨bx, bY⟩) with
    | true => rw [e false true (by simpa using c1) c2]; simpa using keep_01 ax ay bx bY HA HB HC Bh Bk base v xs w _ _ rfl rfl hh ha hb c1 c2 o1 o2 hH hB hO hlen hne hneh hbase
    | false => rw [e false false (by simpa using c1) c2]; simpa using keep_00 ax ay bx bY HA HB HC Bh Bk base v xs w _ _ rfl rfl hh ha hb c1 c2 o1 o2 hH hB hO hlen hne hneh hbase
end Go.Proofs.YtnhdnkeiijiiaaaGreat
namespace Go.Proofs.YtnhdnkeiijiiaaaGreat
open Go.RowKit Go.Shelf
set_option linter.unusedSimpArgs false
set_option linter.unusedVariables false
attribute [local go_sem] Oper.semAt_some
/-- the slice that lies at Bs stays -/
def KpB (n₀ Bs : Nat) (W W' : World) : Prop := Below n₀ W W' ∧ ∀ (cs : Array Value) (z : Nat × Nat), W.heap[Bs]? = some (Obj.cells cs 39 z) → W'.heap[Bs]? = some (Obj.cells cs 39 z)
theorem kpB_t {n₀ Bs : Nat} {A B C : World} (h : KpB n₀ Bs A B) (k : KpB n₀ Bs B C) : KpB n₀ Bs A C := ⟨h.1.trans k.1, fun cs z e => k.2 cs z (h.2 cs z e)⟩
theorem kpB_b {n₀ Bs : Nat} {w : World} (hn : n₀ ≤ w.heap.size) (W : World) (l : Nat) (o o' : Obj) (hl : w.heap.size ≤ l) (h : W.heap[l]? = some o) (hc : o.isCells = false) (hk : o.isWalk = false) : KpB n₀ Bs W (W.putObj l o') :=
  ⟨belowK_b hn W l o o' hl h hc hk, fun cs z e => (grownBy_keeps_cells (grownBy_putObj' W l o') (fun r e => by cases e; exact ⟨_, h, hc⟩) e rfl).trans e⟩
set_option maxRecDepth 100000 in
set_option maxHeartbeats 2000000 in
theorem csides1B_in (F : Fence) (n : Nat) (hf : F.fn 136) (hro : F.round = none) (hn : 1 ≤ n) (l Bs n₀ : Nat) (A : Option Addr) (len cap : Nat) (xs : List Pt) (hxs : xs.length = len) (hreach : len ≤ 1000000) (J Jx : List (Sd xs) → World → Prop)
    (W : World) (hnW : n₀ ≤ W.heap.size) (hJ : AbidesFrom W.heap.size J)
    (hY : ∀ pre x W1, J pre W1 → pre.length < len → YieldAt F (n - 1) Tryz.prog l #[x.1.1.val, x.1.2.val] W1 fun e W' =>
      (e = .returned (.bool true) ∧ J (pre ++ [x]) W' ∧ KpB n₀ Bs W1 W') ∨ (e = .returned (.bool false) ∧ Jx (pre ++ [x]) W'))
    (hB0 : W.heap[Bs]? = some (.cells #[.slice A len cap] 39 (0, 0))) (hc : Pts? n₀ W A xs) (h0 : J [] W) :
    CallsIn F n Tryz.prog 136 #[.func (.yield l) #[] #[], .pointer (some ⟨Bs, 0, none⟩)] W fun e W' => (∃ v, e = .returned v) ∧
      ((∃ ys, ys = (sidesL xs).attach ∧ J ys W') ∨ (∃ pre, pre <+: (sidesL xs).attach ∧ Jx pre W')) := by
  have hBs : W.cell? ⟨Bs, 0, none⟩ = some (.slice A len cap) := by simp [World.cell?, hB0]
  refine callsIn_of_wp Tryz.func136 rfl hf ?_ hro
  simp only [Tryz.ntmps136, List.size_toArray, List.length_cons, List.length_nil, Nat.reduceAdd, Nat.reduceSub, Array.replicate_succ, Array.replicate_zero, List.push_toArray, List.append_toArray, List.nil_append, List.cons_append]
  gi_wp2
  gi_loopw [7] (fun s7 wr => ∃ k : Nat, k ≤ len ∧ s7 = .int .i64 k ∧ J ((sidesL xs).attach.take k) wr ∧ Below n₀ W wr ∧ wr.heap[Bs]? = some (.cells #[.slice A len cap] 39 (0, 0)))
    (fun s7 _ => len - (intOf s7).toNat)
  case atStart => exact ⟨0, Nat.zero_le _, rfl, by simpa using h0, Below.refl _ _, hB0⟩
  case round =>
    obtain ⟨k, hk, rfl, hJs, hnx, hBw⟩ := hrel
    by_cases hlt : k < len
    · obtain ⟨b, off, rfl, hb, hcs⟩ := hc (by omega)
      have hjl : (k + 1) % len < len := Nat.mod_lt _ (by omega)
      have hj : ((k : Int) + 1).tmod (len : Int) = (((k + 1) % len : Nat) : Int) := by
        rw [Int.tmod_eq_emod_of_nonneg (by omega)]; simp
      obtain ⟨p, q, hmem, hkv, hjv, hts⟩ := sides_step hxs hlt
      generalize (k + 1) % len = j at *
      obtain ⟨c0, c1⟩ := (hcs k p hkv).upto hnx hb
      obtain ⟨d0, d1⟩ := (hcs j q hjv).upto hnx hb
      have hlt2 : (k : Int) < (len : Int) := by omega
      have hj2 : (j : Int) < (len : Int) := by omega
      have hj3 : (0 : Int) ≤ (j : Int) := by omega
      have hn0 : ¬ ((len : Int) = 0) := by omega
      have hn2 : ¬ (len = 0) := by omega
      have hn1 : ((len : Int) == 0) = false := by simp; omega
      have hblt := (Array.getElem?_eq_some_iff.1 hBw).1
      have eB : wr.cell? ⟨Bs, 0, none⟩ = some (.slice (some ⟨b, off, none⟩) len cap) := by simp [World.cell?, hBw]
      have hJa : J ((sidesL xs).attach.take k) (wr.alloc (.cells #[.int .i64 p.x, .int .i64 p.y] 23)).drew := hJ _ _ _ none (hJ _ _ _ none hJs (World.grownBy_alloc wr _ none) (fun r e => by cases e)) (grownBy_drew _) (fun r e => by cases e)
      obtain ⟨fn, tmps, assign, body, hy, hR⟩ := hY _ ⟨(p, q), hmem⟩ _ hJa (by rw [List.length_take, List.length_attach, sides_length]; omega)
      dsimp only at hy
      clear hJs hkv hjv hcs
      have HT := Lib.hid hts
      clear hts
      have hR2 := hR.mono (R' := fun e W' => ∃ c : Bool, e = .returned (.bool c) ∧ Aside ((c = true → J ((sidesL xs).attach.take k ++ [⟨(p, q), hmem⟩]) W' ∧ KpB n₀ Bs (wr.alloc (.cells #[.int .i64 p.x, .int .i64 p.y] 23)).drew W') ∧ (c = false → Jx ((sidesL xs).attach.take k ++ [⟨(p, q), hmem⟩]) W'))) (by
        rintro e W' (⟨rfl, h1, h2⟩ | ⟨rfl, h1⟩)
        · exact ⟨true, rfl, fun _ => ⟨h1, h2⟩, fun h => by cases h⟩
        · exact ⟨false, rfl, fun h => (by cases h), fun _ => h1⟩)
      clear hR hJa
      gi_wp2
      have hwr0 : IntKind.i64.wrap ((k : Int) + 1) = (k : Int) + 1 := IntWalk.i64_in _ (by omega)
      have hwr1 : IntKind.i64.wrap (j : Int) = (j : Int) := IntWalk.i64_in _ (by omega)
      have hp : ∀ ops, PlainOps F ops := fun ops => plainOps_none hro
      have eBz : (wr.alloc (.cells #[.int .i64 p.x, .int .i64 p.y] 23)).drew.cell? ⟨Bs, 0, none⟩ = some (.slice (some ⟨b, off, none⟩) len cap) := by go_cell
      have d0z : (wr.alloc (.cells #[.int .i64 p.x, .int .i64 p.y] 23)).drew.cell? ⟨b, off + j * 2, none⟩ = some (.int .i64 q.x) := by go_cell
      have d1z : (wr.alloc (.cells #[.int .i64 p.x, .int .i64 p.y] 23)).drew.cell? ⟨b, off + j * 2 + 1, none⟩ = some (.int .i64 q.y) := by go_cell
      have p0z : (wr.alloc (.cells #[.int .i64 p.x, .int .i64 p.y] 23)).drew.cell? ⟨wr.heap.size, 0, none⟩ = some (.int .i64 p.x) := by go_cell
      have p1z : (wr.alloc (.cells #[.int .i64 p.x, .int .i64 p.y] 23)).drew.cell? ⟨wr.heap.size, 1, none⟩ = some (.int .i64 p.y) := by go_cell
      have hpz : (wr.alloc (.cells #[.int .i64 p.x, .int .i64 p.y] 23)).drew.heap[wr.heap.size]? = some (.cells #[.int .i64 p.x, .int .i64 p.y] 23 (0, 0)) := World.alloc_heap_new wr _
      have hBz : (wr.alloc (.cells #[.int .i64 p.x, .int .i64 p.y] 23)).drew.heap[Bs]? = some (.cells #[.slice (some ⟨b, off, none⟩) len cap] 39 (0, 0)) := by
        rw [← hBw]; exact Below.heap_alloc wr _ Bs hblt
      have hz0 : Below n₀ W (wr.alloc (.cells #[.int .i64 p.x, .int .i64 p.y] 23)).drew := Below.drew (hnx.alloc (Nat.le_trans hnW hnx.size) _)
      refine held_begin [0, 1, 2, 3, 4, 5, 6, 7, 8, 9] (fun w' => w' = (wr.alloc (.cells #[.int .i64 p.x, .int .i64 p.y] 23)).drew) (by kernel_rfl) rfl (fun hS => ?_)
      generalize (wr.alloc (.cells #[.int .i64 p.x, .int .i64 p.y] 23)).drew = z at *
      clear hJ hY h0 hB0 hc hBs hBw c0 c1 d0 d1 eB
      refine held_take 0 (v := ?_) (by decide) (hp _) rfl (by kernel_rfl) (by kernel_rfl) (by kernel_rfl) (fun _ _ _ h => h) (by kernel_rfl) hS ⟨.inl ⟨by rfl, ?_⟩, ?_⟩ ?_
      rotate_left 1
      · intro w hw; rw [hw]; go_simp <;> with_reducible rfl
      · intro w _ f hf; cases hf
      try simp only [Act.put, List.setIfInBounds_toArray, List.set_cons_zero, List.set_cons_succ]
      refine held_take 1 (v := ?_) (by decide) (hp _) rfl (by kernel_rfl) (by kernel_rfl) (by kernel_rfl) (fun _ _ _ h => h) (by kernel_rfl) hS ⟨.inl ⟨by rfl, ?_⟩, ?_⟩ ?_
      rotate_left 1
      · intro w hw; rw [hw]; go_simp <;> with_reducible rfl
      · intro w _ f hf; cases hf
      try simp only [Act.put, List.setIfInBounds_toArray, List.set_cons_zero, List.set_cons_succ]
      refine held_take 2 (v := ?_) (by decide) (hp _) rfl (by kernel_rfl) (by kernel_rfl) (by kernel_rfl) (fun _ _ _ h => h) (by kernel_rfl) hS ⟨.inl ⟨by rfl, ?_⟩, ?_⟩ ?_
      rotate_left 1
      · intro w hw; rw [hw]; go_simp <;> with_reducible rfl
      · intro w _ f hf; cases hf
      try simp only [Act.put, List.setIfInBounds_toArray, List.set_cons_zero, List.set_cons_succ]
      refine held_take 3 (v := ?_) (by decide) (hp _) rfl (by kernel_rfl) (by kernel_rfl) (by kernel_rfl) (fun _ _ _ h => h) (by kernel_rfl) hS ⟨.inl ⟨by rfl, ?_⟩, ?_⟩ ?_
      rotate_left 1
      · intro w hw; rw [hw]; go_simp <;> with_reducible rfl
      · intro w _ f hf; cases hf
      try simp only [Act.put, List.setIfInBounds_toArray, List.set_cons_zero, List.set_cons_succ]
      refine held_take 4 (v := ?_) (by decide) (hp _) rfl (by kernel_rfl) (by kernel_rfl) (by kernel_rfl) (fun _ _ _ h => h) (by kernel_rfl) hS ⟨.inl ⟨by rfl, ?_⟩, ?_⟩ ?_
      rotate_left 1
      · intro w hw; rw [hw]; go_simp <;> with_reducible rfl
      · intro w _ f hf; cases hf
      try simp only [Act.put, List.setIfInBounds_toArray, List.set_cons_zero, List.set_cons_succ]
      refine held_take 5 (v := ?_) (by decide) (hp _) rfl (by kernel_rfl) (by kernel_rfl) (by kernel_rfl) (fun _ _ _ h => h) (by kernel_rfl) hS ⟨.inl ⟨by rfl, ?_⟩, ?_⟩ ?_
      rotate_left 1
      · intro w hw; rw [hw]; go_simp <;> with_reducible rfl
      · intro w _ f hf; cases hf
      try simp only [Act.put, List.setIfInBounds_toArray, List.set_cons_zero, List.set_cons_succ]
      refine held_take 6 (v := ?_) (by decide) (hp _) rfl (by kernel_rfl) (by kernel_rfl) (by kernel_rfl) (fun _ _ _ h => h) (by kernel_rfl) hS ⟨.inl ⟨by rfl, ?_⟩, ?_⟩ ?_
      rotate_left 1
      · intro w hw; rw [hw]; go_simp <;> with_reducible rfl
      · intro w _ f hf; cases hf
      try simp only [Act.put, List.setIfInBounds_toArray, List.set_cons_zero, List.set_cons_succ]
      refine held_take 7 (v := ?_) (by decide) (hp _) rfl (by kernel_rfl) (by kernel_rfl) (by kernel_rfl) (fun _ _ _ h => h) (by kernel_rfl) hS ⟨.inl ⟨by rfl, ?_⟩, ?_⟩ ?_
      rotate_left 1
      · intro w hw; rw [hw]; go_simp <;> with_reducible rfl
      · intro w _ f hf; cases hf
      try simp only [Act.put, List.setIfInBounds_toArray, List.set_cons_zero, List.set_cons_succ]
      refine held_take 8 (v := ?_) (by decide) (hp _) rfl (by kernel_rfl) (by kernel_rfl) (by kernel_rfl) (fun _ _ _ h => h) (by kernel_rfl) hS ⟨.inl ⟨by rfl, ?_⟩, ?_⟩ ?_
      rotate_left 1
      · intro w hw; rw [hw]; go_simp <;> with_reducible rfl
      · intro w _ f hf; cases hf
      try simp only [Act.put, List.setIfInBounds_toArray, List.set_cons_zero, List.set_cons_succ]
      refine held_take 9 (v := ?_) (by decide) (hp _) rfl (by kernel_rfl) (by kernel_rfl) (by kernel_rfl) (fun _ _ _ h => h) (by kernel_rfl) hS ⟨.inl ⟨by rfl, ?_⟩, ?_⟩ ?_
      rotate_left 1
      · intro w hw; rw [hw]; go_simp <;> with_reducible rfl
      · intro w _ f hf; cases hf
      try simp only [Act.put, List.setIfInBounds_toArray, List.set_cons_zero, List.set_cons_succ]
      refine held_one 10 rfl (hp _) (by kernel_rfl) (by kernel_rfl) (by rfl) (fun K hK => ⟨?_, ?_⟩)
      · go_simp
      go_simp
      refine hR2.mono ?_
      rintro e W3 ⟨c, rfl, hA3⟩
      refine hK _ _ ?_
      clear hK K
      try simp only [Act.put, List.setIfInBounds_toArray, List.set_cons_zero, List.set_cons_succ]
      refine held_one 11 rfl (hp _) (by kernel_rfl) (by kernel_rfl) (by rfl) (fun K hK => ⟨?_, ?_⟩)
      · intro f hf; cases hf
      go_simp
      refine hK _ _ ?_
      clear hK K
      try simp only [Act.put, List.setIfInBounds_toArray, List.set_cons_zero, List.set_cons_succ]
      refine held_end (by kernel_rfl) ?_
      cases c with
      | true =>
        obtain ⟨hJ3, hk3⟩ := hA3.1 rfl
        have hB3 : Below n₀ W W3 := hz0.trans hk3.1
        have hw3 : W3.heap[Bs]? = some (.cells #[.slice (some ⟨b, off, none⟩) len cap] 39 (0, 0)) := hk3.2 _ _ hBz
        have hB3' := hw3
        gi_wp2
        go_roundw
        case rel => exact ⟨k + 1, by omega, by simp, by rw [HT.out]; exact hJ3, hB3, hw3⟩
        case measure => simp [intOf]; omega
      | false =>
        have hJx3 := hA3.2 rfl
        gi_wp2
        refine bodyPost_ret (results_none rfl _ _ _) rfl ?_
        exact ⟨⟨_, rfl⟩, .inr ⟨_, by rw [← HT.out]; exact List.take_prefix _ _, hJx3⟩⟩
    · obtain rfl : k = len := by omega
      have hnlt : ¬ ((k : Int) < (k : Int)) := by omega
      gi_wp2
      go_end0
      rw [List.take_of_length_le (by rw [List.length_attach, sides_length]; omega)] at hJs
      refine ⟨⟨_, rfl⟩, .inl ?_⟩
      first | exact hJs | exact ⟨_, rfl, hJs⟩

/-- sides(p) hands back a value that 'SeqStopsK' -/
theorem csidesB_stops (F : Fence) (n : Nat) (hf : F.fn 136) (hro : F.round = none) (hn : 1 ≤ n) (Bs n₀ : Nat) (A : Option Addr) (len cap : Nat) (xs : List Pt) (hxs : xs.length = len) (hreach : len ≤ 1000000) (w : World) (hn₀ : n₀ ≤ w.heap.size)
    (hB : w.heap[Bs]? = some (.cells #[.slice A len cap] 39 (0, 0))) (hc : Pts? n₀ w A xs) :
    SeqStopsK F n Tryz.prog 136 #[.pointer (some ⟨Bs, 0, none⟩)] (fun x : Sd xs => #[x.1.1.val, x.1.2.val]) (KpB n₀ Bs) (fun ys => ys = (sidesL xs).attach) (fun pre => pre <+: (sidesL xs).attach) len w := fun l J Jx W hW hJ _ hY h0 =>
  csides1B_in F n hf hro hn l Bs n₀ A len cap xs hxs hreach J Jx W (Nat.le_trans hn₀ hW.size) hJ hY ((hW.block Bs (Array.getElem?_eq_some_iff.1 hB).1).trans hB) (hc.upto (hW.mono hn₀)) h0
theorem PushV.others {t base B : Nat} {v v' : Value} {xs ys : List Pt} {w w' : World} (h : PushV t base B v v' ys w w') (hB : w.heap[B]? = some (.cells #[v] t (0, 0))) (ho : Own w base v xs) : KeepsOthers w w' :=
  ⟨h.size, fun k o hk hc => by
    refine h.keeps hk (fun e => ?_) (fun e => ?_)
    · subst e; rw [hB] at hk; cases hk; cases hc
    · rcases ho.2 with ⟨rfl, -⟩ | ⟨g, cap, cur, rfl, hb, hh, -⟩
      · cases e
      · cases e; rw [hh] at hk; cases hk; cases hc⟩
theorem PushV.below {t base B n₀ : Nat} {v v' : Value} {ys : List Pt} {w w' : World} (h : PushV t base B v v' ys w w') (hn : n₀ ≤ w.heap.size) (hB : n₀ ≤ B) (hv : ∀ k, v.ownBlock = some k → n₀ ≤ k) : Below n₀ w w' :=
  ⟨h.os, h.tape, h.output, h.size, fun k hk => h.block k (by omega) (by omega) (fun e => by have := hv k e; omega)⟩
/-- while sides are cut: half, kept and the function that keeps, at Bh, b2, b2 + 1; the row of what is kept lies behind b2 + 3 -/
structure CutI (w : World) (h : Hf) (Bh b2 : Nat) (v : Value) (xs : List Pt) (W : World) : Prop where
  below : Below w.heap.size w W
  size : b2 + 3 ≤ W.heap.size
  wsize : w.heap.size ≤ Bh
  hlt : Bh < b2
  half : W.heap[Bh]? = some (.cells #[.int .i64 h.a, .int .i64 h.b, .int .i64 h.c] 143 (0, 0))
  kept : W.heap[b2]? = some (.cells #[v] 39 (0, 0))
  func : W.heap[b2 + 1]? = some (.cells #[.func (.func 113) #[] #[.pointer (some ⟨Bh, 0, none⟩), .pointer (some ⟨b2, 0, none⟩)]] 145 (0, 0))
  own : Own W w.heap.size v xs
  at' : ∀ k, v.ownBlock = some k → b2 + 3 ≤ k
theorem CutI.later {w : World} {h : Hf} {Bh b2 : Nat} {v : Value} {xs : List Pt} {W W' : World} (c : CutI w h Bh b2 v xs W) (hb : Below W.heap.size W W') : CutI w h Bh b2 v xs W' where
  below := c.below.trans (hb.mono c.below.size)
  size := Nat.le_trans c.size hb.size
  wsize := c.wsize
  hlt := c.hlt
  half := (hb.block _ (Array.getElem?_eq_some_iff.1 c.half).1).trans c.half
  kept := (hb.block _ (Array.getElem?_eq_some_iff.1 c.kept).1).trans c.kept
  func := (hb.block _ (Array.getElem?_eq_some_iff.1 c.func).1).trans c.func
  own := c.own.later hb
  at' := c.at'
theorem CutI.push {w : World} {h : Hf} {Bh b2 : Nat} {v v' : Value} {xs ys : List Pt} {W W' : World} (c : CutI w h Bh b2 v xs W) (p : PushV 39 w.heap.size b2 v v' ys W W') : CutI w h Bh b2 v' ys W' := by
  have h1 := c.hlt; have h2 := c.size; have h3 := c.wsize
  refine ⟨c.below.trans (p.below c.below.size (by omega) (fun k e => by have := c.at' k e; omega)), Nat.le_trans c.size p.size, c.wsize, c.hlt, p.keeps c.half (by omega) (fun e => by have := c.at' _ e; omega), p.cell, p.keeps c.func (by omega) (fun e => by have := c.at' _ e; omega), p.own, fun k e => ?_⟩
  rcases p.at' k e with e' | e'
  · exact c.at' k e'
  · omega
theorem CutI.kept' {w : World} {h : Hf} {Bh b2 : Nat} {v : Value} {xs : List Pt} {W W' : World} {row : Option Nat} (c : CutI w h Bh b2 v xs W) (hg : W.grownBy W' row) (hr : ∀ r, row = some r → w.heap.size ≤ r ∧ ∃ o : Obj, W.heap[r]? = some o ∧ o.isCells = false) : CutI w h Bh b2 v xs W' :=
  have hr2 := fun r e => (hr r e).2
  ⟨c.below.grown hg c.below.size (fun k e => (hr k e).1), Nat.le_trans c.size hg.size, c.wsize, c.hlt, (grownBy_keeps_cells hg hr2 c.half rfl).trans c.half, (grownBy_keeps_cells hg hr2 c.kept rfl).trans c.kept, (grownBy_keeps_cells hg hr2 c.func rfl).trans c.func, own_grown c.own hg hr2, c.at'⟩
def keptL (h : Hf) {xs : List Pt} (pre : List (Sd xs)) : List Pt := (pre.map (·.1)).flatMap (keepS h)
theorem keptL_snoc (h : Hf) {xs : List Pt} (pre : List (Sd xs)) (s : Sd xs) : keptL h (pre ++ [s]) = keptL h pre ++ keepS h s.1 := by simp [keptL]
theorem keptL_all (h : Hf) (xs : List Pt) : keptL h (sidesL xs).attach = cutPts xs h := by
  unfold keptL cutPts
  rw [List.attach_map_subtype_val]
theorem keepS_len (h : Hf) (s : Pt × Pt) : (keepS h s).length ≤ 5 := by
  unfold keepS
  rw [List.length_append]
  have h1 : (if overS h s.1 ≤ 0 then [s.1] else []).length ≤ 1 := by split <;> simp
  have h2 : (if crossesB (overS h s.1) (overS h s.2) = true then frameS s.1 s.2 (overS h s.1) (overS h s.2) else []).length ≤ 4 := by split <;> simp [frameS, gridL]
  omega
theorem flatMap_len_le {α β : Type} (f : α → List β) (n : Nat) (h : ∀ a, (f a).length ≤ n) : ∀ l : List α, (l.flatMap f).length ≤ n * l.length
  | [] => by simp
  | a :: l => by
    have := flatMap_len_le f n h l
    have := h a
    simp only [List.flatMap_cons, List.length_append, List.length_cons]
    rw [Nat.mul_add]
    omega
theorem keptL_len (h : Hf) {xs : List Pt} (pre : List (Sd xs)) : (keptL h pre).length ≤ 5 * pre.length := by
  have := flatMap_len_le (keepS h) 5 (keepS_len h) (pre.map (·.1))
  rw [List.length_map] at this
  exact this
theorem cutPts_len (h : Hf) (xs : List Pt) : (cutPts xs h).length ≤ 5 * xs.length := by
  have := flatMap_len_le (keepS h) 5 (keepS_len h) (sidesL xs)
  rw [sides_length] at this
  exact this
set_option maxRecDepth 100000 in
set_option maxHeartbeats 4000000 in
theorem cCut_ok (A : Option Addr) (n c : Nat) (xs : List Pt) (h : Hf) (w : World) (hn : xs.length = n) (hx : Pts? w.heap.size w A xs) (hv : validB xs = true) (hh : hfB h = true) :
    Calls Tryz.prog 87 #[.slice A n c, h.val] w fun e w' => ∃ v, e = .returned (.tuple #[v, .bool (decide (cutPts xs h ≠ [])), .int .i64 0]) ∧ Below w.heap.size w w' ∧ (cutPts xs h = [] → v = .slice none 0 0) ∧ (cutPts xs h ≠ [] → Own w' w.heap.size v (aroundS (cutPts xs h))) := by
  have hI := ok64_of_pl (pl_of_valid hv)
  have hlen := len_of_valid hv
  have hpl := pl_of_valid hv
  have hcp : ∀ p ∈ cutPts xs h, plB p = true := fun p hp => pl_box.2 (cut_box (fun c hc => pl_box.1 (hpl c hc)) hp)
  have hcl := cutPts_len h xs
  have v1 := fun W (hB : Below w.heap.size w W) => hValid_any A n c xs W hn (hx.later hB) hI
  rw [hv] at v1
  have v2 := fun W => hvalid_any h W
  rw [hh] at v2
  have V1 := Lib.hid v1
  have V2 := Lib.hid v2
  have HX := Lib.hid hx
  have HN := Lib.hid hn
  have HPL := Lib.hid hpl
  have HH := Lib.hid hh
  have HCP := Lib.hid hcp
  have hn1000 : n ≤ 1000000 := by omega
  have hn64 : n ≤ 64 := by omega
  clear v1 v2 hx hI hn hv hpl hh hcp hlen
  obtain ⟨HA, HB, HC⟩ := h
  refine (callsIn_wide (n := 6)).1 ?_
  refine callsIn_of_wp_marks Tryz.func87 rfl trivial ?_ rfl
  simp only [Tryz.ntmps87, List.size_toArray, List.length_cons, List.length_nil, Nat.reduceAdd, Nat.reduceSub, Array.replicate_succ, Array.replicate_zero, List.push_toArray, List.append_toArray, List.nil_append, List.cons_append]
  gi_wp2
  refine ⟨trivial, (callsIn_wide.2 (V1.out _ (by go_grown))).mono ?_⟩
  rintro e w1 ⟨rfl, hb1⟩
  have hB1 : Below w.heap.size w w1 := below_after (by go_grown) hb1
  have hz1 := hb1.size
  try simp only [World.size_alloc, World.size_setCell, World.size_drew] at hz1
  have ch0 : w1.heap[w.heap.size + 1]? = some (.cells #[.int .i64 HA, .int .i64 HB, .int .i64 HC] 143 (0, 0)) := by
    refine (hb1.block _ (by simp)).trans ?_
    have h9 := World.alloc_heap_new (w.alloc (.cells #[.int .i64 HA, .int .i64 HB, .int .i64 HC] 94)) (.cells #[.int .i64 HA, .int .i64 HB, .int .i64 HC] 143)
    rw [World.size_alloc] at h9; exact h9
  clear hb1
  have c0 : w1.cell? ⟨w.heap.size + 1, 0, none⟩ = some (.int .i64 HA) := by simp [World.cell?, ch0]
  have c1 : w1.cell? ⟨w.heap.size + 1, 1, none⟩ = some (.int .i64 HB) := by simp [World.cell?, ch0]
  have c2 : w1.cell? ⟨w.heap.size + 1, 2, none⟩ = some (.int .i64 HC) := by simp [World.cell?, ch0]
  gi_wp2
  refine ⟨trivial, (callsIn_wide.2 (V2.out _)).mono ?_⟩
  rintro e w2 ⟨rfl, hb2⟩
  have hB2 : Below w.heap.size w w2 := hB1.trans (hb2.mono hB1.size)
  have hz2 := hb2.size
  have ch2 := (hb2.block _ (Array.getElem?_eq_some_iff.1 ch0).1).trans ch0
  clear hb2 ch0 c0 c1 c2 hB1
  have CH2 := Lib.hid ch2
  clear ch2
  gi_wp2_with (refine ⟨trivial, ?_⟩; gi_at_call 117; refine (csides_in Fence.wide 5 trivial rfl _ _ _ _).mono ?_; rintro e w' ⟨rfl, rfl⟩)
  obtain ⟨W0, hW0⟩ : ∃ W0, ((w2.alloc (.cells #[.slice none 0 0] 39)).alloc (.cells #[.func (.func 113) #[] #[.pointer (some ⟨w.heap.size + 1, 0, none⟩), .pointer (some ⟨w2.heap.size, 0, none⟩)]] 145)).alloc (.cells #[.slice A n c] 39) = W0 := ⟨_, rfl⟩
  have hb0 : Below w2.heap.size w2 W0 := by rw [← hW0]; go_grown
  have hz0 : W0.heap.size = w2.heap.size + 3 := by rw [← hW0]; simp
  have k0 : W0.heap[w2.heap.size]? = some (.cells #[.slice none 0 0] 39 (0, 0)) := by rw [← hW0]; exact (Below.heap_alloc _ _ _ (by simp; omega)).trans ((Below.heap_alloc _ _ _ (by simp)).trans (World.alloc_heap_new w2 _))
  have k1 : W0.heap[w2.heap.size + 1]? = some (.cells #[.func (.func 113) #[] #[.pointer (some ⟨w.heap.size + 1, 0, none⟩), .pointer (some ⟨w2.heap.size, 0, none⟩)]] 145 (0, 0)) := by
    rw [← hW0]
    refine (Below.heap_alloc _ _ _ (by simp)).trans ?_
    have h9 := World.alloc_heap_new (w2.alloc (.cells #[.slice none 0 0] 39)) (.cells #[.func (.func 113) #[] #[.pointer (some ⟨w.heap.size + 1, 0, none⟩), .pointer (some ⟨w2.heap.size, 0, none⟩)]] 145)
    rw [World.size_alloc] at h9; exact h9
  have hBs : W0.heap[w2.heap.size + 1 + 1]? = some (.cells #[.slice A n c] 39 (0, 0)) := by
    rw [← hW0]
    have h9 := World.alloc_heap_new ((w2.alloc (.cells #[.slice none 0 0] 39)).alloc (.cells #[.func (.func 113) #[] #[.pointer (some ⟨w.heap.size + 1, 0, none⟩), .pointer (some ⟨w2.heap.size, 0, none⟩)]] 145)) (.cells #[.slice A n c] 39)
    rw [World.size_alloc, World.size_alloc] at h9; exact h9
  have hB0 : Below w.heap.size w W0 := hB2.trans (hb0.mono hB2.size)
  have hwb : w.heap.size + 1 < w2.heap.size := by omega
  have ci0 : CutI w ⟨HA, HB, HC⟩ (w.heap.size + 1) w2.heap.size (.slice none 0 0) (keptL ⟨HA, HB, HC⟩ ([] : List (Sd xs))) W0 :=
    ⟨hB0, by omega, by omega, hwb, (hb0.block _ hwb).trans CH2.out, k0, k1, own_nil _ _, fun k e => by cases e⟩
  rw [hW0]
  clear hW0 hb0 k0 k1 CH2 hB2
  refine wpIn_rangeFunc_ownH rfl (by omega) (gf := 136) (lb := #[.pointer (some ⟨w2.heap.size + 1 + 1, 0, none⟩)]) rfl trivial (enters_of Tryz.func136 (by kernel_rfl) rfl)
    (csidesB_stops Fence.wide _ trivial rfl (by omega) (w2.heap.size + 1 + 1) w.heap.size A n c xs HN.out hn1000 W0 hB0.size hBs (HX.out.upto hB0)) kpB_t (kpB_b hB0.size) (Below.refl _ _) (fun _ => rfl)
    (fun pre W => ∃ v, CutI w ⟨HA, HB, HC⟩ (w.heap.size + 1) w2.heap.size v (keptL ⟨HA, HB, HC⟩ pre) W)
    (fun cd pre W => False)
    (fun s A B row hs hg hr => hs.imp fun v c => c.kept' hg (fun r e => ⟨by have := (hr r e).1; have := hB0.size; omega, (hr r e).2⟩))
    (fun c s A B row hs hg hr => hs)
    ⟨_, ci0⟩
    (fun y a' W => ∃ Ba Bb, PtAt W Ba 0 y.1.1 ∧ PtAt W Bb 0 y.1.2 ∧ a' = { tmps := #[Value.slice A n c, Hf.val ⟨HA, HB, HC⟩, undef, Value.pointer (some ⟨w.heap.size, 0, none⟩), Value.slice none 0 0, Value.bool false, .int .i64 0, Value.pointer (some ⟨w.heap.size + 1, 0, none⟩), Value.pointer (some ⟨w2.heap.size, 0, none⟩), Value.pointer (some ⟨w2.heap.size + 1, 0, none⟩), .pointer (some ⟨Ba, 0, none⟩), .pointer (some ⟨Bb, 0, none⟩), undef, undef, Value.agg #[.int .i64 HA, .int .i64 HB, .int .i64 HC], Value.agg #[.int .i64 HA, .int .i64 HB, .int .i64 HC], Value.slice A n c, Value.bool true, Value.bool false, Value.bool false, Value.agg #[.int .i64 HA, .int .i64 HB, .int .i64 HC], Value.bool true, Value.bool false, Value.bool false, Value.func (Fn.func 113) #[] #[Value.pointer (some ⟨w.heap.size + 1, 0, none⟩), Value.pointer (some ⟨w2.heap.size, 0, none⟩)], Value.slice A n c, Value.func (Fn.func 136) #[] #[Value.pointer (some ⟨w2.heap.size + 1 + 1, 0, none⟩)], .agg #[.int .i64 y.1.1.x, .int .i64 y.1.1.y], .agg #[.int .i64 y.1.2.x, .int .i64 y.1.2.y], undef, undef, undef, undef, undef, undef, undef, undef, undef, undef, undef], defers := [] })
    (fun y a' _ X Y row hs hg hr => by
      obtain ⟨Ba, Bb, ⟨h3, h4⟩, ⟨h5, h6⟩, h7⟩ := hs
      exact ⟨Ba, Bb, ⟨cell_kept h3 hg (fun r e => (hr r e).2), cell_kept h4 hg (fun r e => (hr r e).2)⟩, ⟨cell_kept h5 hg (fun r e => (hr r e).2), cell_kept h6 hg (fun r e => (hr r e).2)⟩, h7⟩)
    ?assign ?body ?done ?stop
  case assign =>
    rintro l pre y W K ⟨v, hC⟩ hK
    gi_wp2
    have hbn : Below W.heap.size W ((W.alloc (.cells #[.int .i64 y.1.1.x, .int .i64 y.1.1.y] 23)).alloc (.cells #[.int .i64 y.1.2.x, .int .i64 y.1.2.y] 23)) := by go_grown
    exact hK _ _ (keepsFrom_of hbn _) ⟨hbn.mono hC.below.size, fun cs z e => (hbn.block _ (Array.getElem?_eq_some_iff.1 e).1).trans e⟩ ⟨v, hC.later hbn⟩ ⟨W.heap.size, W.heap.size + 1, ⟨by go_cell, by go_cell⟩, ⟨by go_cell, by go_cell⟩, rfl⟩
  case stop =>
    rintro D cd pre W hD hpre hF
    exact hF.elim
  case body =>
    rintro l pre ⟨⟨⟨a1x, a1y⟩, ⟨a2x, a2y⟩⟩, hmem⟩ a' W hl hr ⟨v, hC⟩ ⟨Ba, Bb, ⟨x0, x1⟩, ⟨y0, y1⟩, rfl⟩ hlen
    dsimp only at x0 x1 y0 y1 ⊢
    simp only [Nat.zero_add] at x1 y1
    have hm12 := sides_mem hmem
    have hfc : W.cell? ⟨w2.heap.size + 1, 0, none⟩ = some (.func (.func 113) #[] #[.pointer (some ⟨w.heap.size + 1, 0, none⟩), .pointer (some ⟨w2.heap.size, 0, none⟩)]) := by simp [World.cell?, hC.func]
    have hkl := keptL_len ⟨HA, HB, HC⟩ pre
    have hk := keep_any ⟨a1x, a1y⟩ ⟨a2x, a2y⟩ ⟨HA, HB, HC⟩ (w.heap.size + 1) w2.heap.size w.heap.size v (keptL ⟨HA, HB, HC⟩ pre) W HH.out (HPL.out _ hm12.1) (HPL.out _ hm12.2) hC.half hC.kept hC.own (by omega) (fun e => by have := hC.at' _ e; omega) (fun e => by have := hC.at' _ e; omega) hC.below.size
    have HK := Lib.hid hk
    have HCI := Lib.hid hC
    clear hk hC hkl hm12
    gi_wp2
    refine ⟨trivial, (CallsIn.inRound l (callsIn_wide.2 HK.out)).mono ?_⟩
    rintro e W5 ⟨rfl, v', hp⟩
    have hko := hp.others HCI.out.kept HCI.out.own
    have hc5 := HCI.out.push hp
    have hbe : Below w.heap.size W W5 := hp.below HCI.out.below.size (by have := HCI.out.below.size; omega) (fun k e => by have := HCI.out.at' k e; omega)
    have hks : ∀ (cs : Array Value) (z : Nat × Nat), W.heap[w2.heap.size + 1 + 1]? = some (Obj.cells cs 39 z) → W5.heap[w2.heap.size + 1 + 1]? = some (Obj.cells cs 39 z) := fun cs z e => hp.keeps e (by omega) (fun e' => by have := HCI.out.at' _ e'; omega)
    have HZ := Lib.hid (And.intro hko (And.intro hc5 (And.intro hbe hks)))
    clear hp hko hc5 hbe hks
    gi_wp2
    obtain ⟨hko, hc5, hbe, hks⟩ := HZ.out
    exact ⟨hko.from _, ⟨hbe, hks⟩, ⟨v', by rw [keptL_snoc]; exact hc5⟩⟩
  case done =>
    rintro D ys W hD hys ⟨v, hC⟩ hK
    rw [hys, keptL_all] at hC
    have hDlt : D < W.heap.size := (Array.getElem?_eq_some_iff.1 hK).1
    have hBW := hC.below
    have hkc := hC.kept
    obtain ⟨A9, c9, rfl, hc9, -, -, hp9⟩ := hC.own.slice
    have hw2 : w.heap.size ≤ W0.heap.size := hB0.size
    have ck : W.cell? ⟨w2.heap.size, 0, none⟩ = some (.slice A9 (cutPts xs ⟨HA, HB, HC⟩).length c9) := by simp [World.cell?, hkc]
    clear hC hkc hB0 hBs ci0 hys
    by_cases he : cutPts xs ⟨HA, HB, HC⟩ = []
    · have hcall := caround_nil c9 A9 W
      rw [he] at ck
      have HC9 := Lib.hid hcall
      have HE := Lib.hid he
      clear hcall hp9 he hcl HCP hc9
      simp only [List.length_nil] at ck
      gi_wp2
      refine ⟨trivial, (callsIn_wide.2 HC9.out).mono ?_⟩
      rintro e W5 ⟨rfl, hb5⟩
      have hK' := (hb5.block D hDlt).trans hK
      have hbf := hBW.trans (hb5.mono hBW.size)
      gi_wp2
      refine ⟨by simp, .inl ⟨_, _, rfl, run_takeDeferred hK', ?_⟩⟩
      refine ⟨.tuple #[.slice none 0 0, .bool false, .int .i64 0], ?_, _, by rw [HE.out]; simp, hbf.trans (belowK_b (w := w) (Nat.le_refl _) _ D _ _ (by omega) hK' rfl rfl), fun _ => rfl, fun h => absurd HE.out h⟩
      simp [results, Tryz.f87, go_sem]
    · have hcall := caround_any _ A9 _ c9 (cutPts xs ⟨HA, HB, HC⟩) W rfl (Nat.le_refl _) hc9 hp9 HCP.out he (by have := HN.out; omega)
      have har : aroundF (cutPts xs ⟨HA, HB, HC⟩).length (cutPts xs ⟨HA, HB, HC⟩) = aroundS (cutPts xs ⟨HA, HB, HC⟩) := rfl
      rw [har] at hcall
      have HC9 := Lib.hid hcall
      have HE := Lib.hid he
      clear hcall hp9 har he
      generalize (cutPts xs ⟨HA, HB, HC⟩).length = L at ck HC9
      gi_wp2
      refine ⟨trivial, (callsIn_wide.2 HC9.out).mono ?_⟩
      rintro e W5 ⟨v5, rfl, ho5, hb5⟩
      have hK' := (hb5.block D hDlt).trans hK
      have hbf := hBW.trans (hb5.mono hBW.size)
      have HO5 := Lib.hid (own_mono ho5 hBW.size)
      clear ho5
      gi_wp2
      refine ⟨by simp, .inl ⟨_, _, rfl, run_takeDeferred hK', ?_⟩⟩
      refine ⟨.tuple #[v5, .bool true, .int .i64 0], ?_, v5, by simp [HE.out], hbf.trans (belowK_b (w := w) (Nat.le_refl _) _ D _ _ (by omega) hK' rfl rfl), fun h => absurd h HE.out, fun _ => own_grown HO5.out (grownBy_putObj' _ D (.deferred none)) (fun r e => by cases e; exact ⟨_, hK', rfl⟩)⟩
      simp [results, Tryz.f87, go_sem]
end Go.Proofs.YtnhdnkeiijiiaaaGreat
namespace Go.Proofs.YtnhdnkeiijiiaaaGreat
open Go.RowKit Go.Shelf
set_option linter.unusedSimpArgs false
set_option linter.unusedVariables false
attribute [local go_sem ↓] Go.wp_at_zero Go.wp_at_succ
set_option maxHeartbeats 1600000 in
set_option maxRecDepth 100000 in
theorem corners_any (A B : Option Addr) (n c m d : Nat) (xs ys : List Pt) (w : World) (hn : xs.length = n) (hm : ys.length = m) (hbig : n ≤ 1000000) (hx : Pts? w.heap.size w A xs) (hy : Pts? w.heap.size w B ys) (hp : ∀ p ∈ xs, plB p = true) (hv : validB ys = true) :
    Calls Tryz.prog 118 #[.slice A n c, .slice B m d] w (RetPts w.heap.size w (cornersS xs ys)) := by
  have HX := Lib.hid hx
  have HN := Lib.hid hn
  have hI := ok64_of_pl (pl_of_valid hv)
  have HS := Lib.hid (fun (p : Pt) (W : World) (hp' : plB p = true) (hb' : Below w.heap.size w W) => hHas_ok B m d ys p W hm (hy.later hb') hI hv (by have := (plB_iff p).1 hp'; unfold I64; omega) (by have := (plB_iff p).1 hp'; unfold I64; omega) hp')
  have HP := Lib.hid hp
  clear hx hy hn hp hv hI hm
  go_enter Tryz.func118, Tryz.ntmps118
  go_wp2_with fail
  go_loopg [12, 5] (n + 1) (fun g s12 s5 wr => ∃ k : Nat, k ≤ n ∧ g + k = n + 1 ∧ s12 = .int .i64 k ∧ Own wr w.heap.size s5 (cornersS (xs.take k) ys) ∧ Below w.heap.size w wr)
  case atStart => exact ⟨0, by omega, by omega, rfl, by rw [List.take_zero]; exact own_nil _ _, Below.refl _ _⟩
  case round =>
    obtain ⟨k, hk, hg, rfl, hO, hBr⟩ := hrel
    have HO := Lib.hid hO
    clear hO
    by_cases hlt : k < n
    · obtain ⟨⟨px, py⟩, hp⟩ : ∃ r, xs[k]? = some r := ⟨_, List.getElem?_eq_getElem (by rw [HN.out]; exact hlt)⟩
      obtain ⟨b, off, rfl, hlt0, hc⟩ := HX.out (by rw [HN.out]; omega)
      obtain ⟨c0, c1⟩ := (hc k _ hp).upto hBr hlt0
      have hlt2 : (k : Int) < (n : Int) := by omega
      dsimp only at c0 c1
      have hsn : cornersS (xs.take (k + 1)) ys = cornersS (xs.take k) ys ++ (if insB ys ⟨px, py⟩ then [⟨px, py⟩] else []) := by
        rw [List.take_add_one, hp]
        unfold cornersS
        rw [List.filter_append]
        simp [List.filter]
        cases insB ys ⟨px, py⟩ <;> rfl
      have HSN := Lib.hid hsn
      have hll : (cornersS (xs.take k) ys).length ≤ k := by
        unfold cornersS
        exact Nat.le_trans (List.length_filter_le _ _) (by rw [List.length_take]; omega)
      have HLL := Lib.hid hll
      have hb0 : Below wr.heap.size wr (wr.alloc (.cells #[.int .i64 px, .int .i64 py] 23)) := (Below.refl _ wr).alloc (Nat.le_refl _) _
      have hcall := HS.out ⟨px, py⟩ (wr.alloc (.cells #[.int .i64 px, .int .i64 py] 23)) (HP.out _ (List.mem_of_getElem? hp)) (hBr.trans (hb0.mono hBr.size))
      clear hc hp hsn hll
      generalize insB ys ⟨px, py⟩ = bb at *
      have HC := Lib.hid hcall
      clear hcall
      cases bb with
      | true =>
        go_wp2_with fail
        refine HC.out.mono ?_
        rintro e w1 ⟨rfl, hb1⟩
        have e0 : w1.cell? ⟨wr.heap.size, 0, none⟩ = some (.int .i64 px) := kp hb1 (by go_cell)
        have e1 : w1.cell? ⟨wr.heap.size, 1, none⟩ = some (.int .i64 py) := kp hb1 (by go_cell)
        have hB1 : Below wr.heap.size wr w1 := hb0.trans (hb1.mono hb0.size)
        have HO1 := Lib.hid (HO.out.later hB1)
        have hwz : w.heap.size ≤ w1.heap.size := Nat.le_trans hBr.size hB1.size
        clear hb1 hb0 HO c0 c1
        go_wp2_with (at_builtin; go_must (refine wpList_append_pt _ (by rfl) (.tmp 23) (.tmp 25) (by rfl) w.heap.size _ _ _ _ (by rfl) HO1.out (by rfl) (by have := HLL.out; omega) hwz ?_))
        intro v7 w7 hown7 hB7 hz7 hk7 hn7
        have h9 : cornersS (xs.take (k + 1)) ys = cornersS (xs.take k) ys ++ [⟨px, py⟩] := by rw [HSN.out]; rfl
        rw [← h9] at hown7
        have HO7 := Lib.hid hown7
        have hBw7 : Below w.heap.size w w7 := (hBr.trans (hB1.mono hBr.size)).trans hB7
        clear hown7 hB7 hk7 hn7 HO1 e0 e1 h9
        go_wp2_with fail
        go_roundg (gk - 1)
        case measure => omega
        case rel => exact ⟨k + 1, by omega, by omega, by go_num, HO7.out, hBw7⟩
      | false =>
        go_wp2_with fail
        refine HC.out.mono ?_
        rintro e w1 ⟨rfl, hb1⟩
        have hB1 : Below wr.heap.size wr w1 := hb0.trans (hb1.mono hb0.size)
        have HO1 := Lib.hid (HO.out.later hB1)
        have h9 : cornersS (xs.take (k + 1)) ys = cornersS (xs.take k) ys := by rw [HSN.out]; simp
        have H9 := Lib.hid h9
        have hBw7 : Below w.heap.size w w1 := hBr.trans (hB1.mono hBr.size)
        clear hb1 hb0 HO c0 c1 h9 hB1
        go_wp2_with fail
        go_roundg (gk - 1)
        case measure => omega
        case rel => exact ⟨k + 1, by omega, by omega, by go_num, by rw [H9.out]; exact HO1.out, hBw7⟩
    · obtain rfl : k = n := by omega
      have hnlt : ¬ ((k : Int) < (k : Int)) := by omega
      have hO9 := HO.out
      rw [List.take_of_length_le (by rw [HN.out]; omega)] at hO9
      have HO9 := Lib.hid hO9
      clear hO9 HO
      go_wp2_with fail
      go_ret
      exact ⟨_, rfl, HO9.out, hBr⟩
set_option maxHeartbeats 1600000 in
set_option maxRecDepth 100000 in
/-- cut.In at the origin, for isHalf -/
theorem cIn_ok (h : Hf) (w : World) (hb : hfB h = true) :
    Calls Tryz.prog 111 #[h.val, Pt.val ⟨0, 0⟩] w fun e w' => ∃ b : Bool, e = .returned (.tuple #[.bool b, .int .i64 0]) ∧ Below w.heap.size w w' := by
  have v1 := fun W => hvalid_any h W
  have v2 := fun W => cisPlace_any ⟨0, 0⟩ W
  have v3 := fun W (hh : hfB h = true) => over_any h ⟨0, 0⟩ W hh (nr_of_pl (by decide))
  have hp0 : plB ⟨0, 0⟩ = true := by decide
  rw [hp0] at v2
  generalize overS h ⟨0, 0⟩ = T at *
  obtain ⟨HA, HB, HC⟩ := h
  rw [hb] at v1
  have V1 := Lib.hid v1
  have V2 := Lib.hid v2
  have V3 := Lib.hid (fun W => v3 W hb)
  clear v1 v2 v3 hb
  go_enter Tryz.func111, Tryz.ntmps111
  go_wp2_with fail
  refine (V1.out _).mono ?_
  rintro e w1 ⟨rfl, hb1⟩
  have hB1 : Below w.heap.size w w1 := below_after (by go_grown) hb1
  have c0 : w1.cell? ⟨w.heap.size + 1, 0, none⟩ = some (.int .i64 0) := kp hb1 (by go_cell)
  have c1 : w1.cell? ⟨w.heap.size + 1, 1, none⟩ = some (.int .i64 0) := kp hb1 (by go_cell)
  have d0 : w1.cell? ⟨w.heap.size + 1 + 1, 0, none⟩ = some (.int .i64 HA) := kp hb1 (by go_cell)
  have d1 : w1.cell? ⟨w.heap.size + 1 + 1, 1, none⟩ = some (.int .i64 HB) := kp hb1 (by go_cell)
  have d2 : w1.cell? ⟨w.heap.size + 1 + 1, 2, none⟩ = some (.int .i64 HC) := kp hb1 (by go_cell)
  clear hb1
  go_wp2_with fail
  refine (V2.out _).mono ?_
  rintro e w2 ⟨rfl, hb2⟩
  have hB2 : Below w.heap.size w w2 := hB1.trans (hb2.mono hB1.size)
  replace c0 := kp hb2 c0
  replace c1 := kp hb2 c1
  replace d0 := kp hb2 d0
  replace d1 := kp hb2 d1
  replace d2 := kp hb2 d2
  clear hb2 hB1
  go_wp2_with fail
  refine (V3.out _).mono ?_
  rintro e w3 ⟨rfl, hb3⟩
  have hB3 : Below w.heap.size w w3 := hB2.trans (hb3.mono hB2.size)
  clear hb3 hB2
  go_wp2_with fail
  go_ret2
  exact ⟨decide (T ≤ 0), rfl, hB3⟩
set_option maxHeartbeats 1600000 in
set_option maxRecDepth 100000 in
theorem cIn_bad (h : Hf) (w : World) (hb : hfB h = false) :
    Calls Tryz.prog 111 #[h.val, Pt.val ⟨0, 0⟩] w fun e w' => e = .returned (.tuple #[.bool false, .int .i64 1]) ∧ Below w.heap.size w w' := by
  have v1 := fun W => hvalid_any h W
  have v2 := fun W => cisPlace_any ⟨0, 0⟩ W
  have v3 := fun W (hh : hfB h = true) => over_any h ⟨0, 0⟩ W hh (nr_of_pl (by decide))
  have hp0 : plB ⟨0, 0⟩ = true := by decide
  rw [hp0] at v2
  generalize overS h ⟨0, 0⟩ = T at *
  obtain ⟨HA, HB, HC⟩ := h
  rw [hb] at v1
  have V1 := Lib.hid v1
  clear v1 v2 v3 hb
  go_enter Tryz.func111, Tryz.ntmps111
  go_wp2_with fail
  refine (V1.out _).mono ?_
  rintro e w1 ⟨rfl, hb1⟩
  have hB1 : Below w.heap.size w w1 := below_after (by go_grown) hb1
  clear hb1
  go_wp2_with fail
  go_ret2
  exact ⟨rfl, hB1⟩
set_option maxHeartbeats 1600000 in
set_option maxRecDepth 100000 in
theorem isHalf_any (h : Hf) (w : World) :
    Calls Tryz.prog 86 #[h.val] w fun e w' => e = .returned (.bool (hfB h)) ∧ Below w.heap.size w w' := by
  cases hb : hfB h with
  | true =>
    have v := fun W => cIn_ok h W hb
    have V := Lib.hid v
    clear v hb
    go_enter Tryz.func86, Tryz.ntmps86
    go_wp2_with fail
    refine (V.out _).mono ?_
    rintro e w1 ⟨b, rfl, hb1⟩
    have hB1 : Below w.heap.size w w1 := below_after (by go_grown) hb1
    clear hb1
    go_wp2_with fail
    go_ret
    exact ⟨rfl, hB1⟩
  | false =>
    have v := fun W => cIn_bad h W hb
    have V := Lib.hid v
    clear v hb
    go_enter Tryz.func86, Tryz.ntmps86
    go_wp2_with fail
    refine (V.out _).mono ?_
    rintro e w1 ⟨rfl, hb1⟩
    have hB1 : Below w.heap.size w w1 := below_after (by go_grown) hb1
    clear hb1
    go_wp2_with fail
    go_ret
    exact ⟨rfl, hB1⟩
set_option maxHeartbeats 1600000 in
set_option maxRecDepth 100000 in
theorem Within_any (A B : Option Addr) (n c m d : Nat) (xs ys : List Pt) (w : World) (hn : xs.length = n) (hm : ys.length = m) (hx : Pts? w.heap.size w A xs) (hy : Pts? w.heap.size w B ys) (hv1 : validB xs = true) (hv2 : validB ys = true) :
    Calls Tryz.prog 120 #[.slice A n c, .slice B m d] w fun e w' => e = .returned (.tuple #[.bool (withinS xs ys), .int .i64 0]) ∧ Below w.heap.size w w' := by
  have hl1 := len_of_valid hv1
  have v1 := fun W (hB : Below w.heap.size w W) => hValid_any A n c xs W hn (hx.later hB) (ok64_of_pl (pl_of_valid hv1))
  have v2 := fun W (hB : Below w.heap.size w W) => hValid_any B m d ys W hm (hy.later hB) (ok64_of_pl (pl_of_valid hv2))
  have v3 := fun W (hB : Below w.heap.size w W) => corners_any A B n c m d xs ys W hn hm (by omega) (hx.later hB) (hy.later hB) (pl_of_valid hv1) hv2
  rw [hv1] at v1
  rw [hv2] at v2
  have hw : withinS xs ys = decide (((cornersS xs ys).length : Int) = (n : Int)) := by
    unfold withinS cornersS
    rw [← hn, Bool.eq_iff_iff, decide_eq_true_eq, List.all_eq_true]
    constructor
    · intro h
      rw [List.filter_eq_self.2 h]
    · intro h
      have := List.length_filter_eq_length_iff.1 (show (xs.filter (insB ys)).length = xs.length by omega)
      exact this
  have hc1 : (cornersS xs ys).length ≤ n := by unfold cornersS; rw [← hn]; exact List.length_filter_le _ _
  rw [hw]
  have V1 := Lib.hid v1
  have V2 := Lib.hid v2
  have V3 := Lib.hid v3
  clear v1 v2 v3 hx hy hv1 hv2 hw hn hm
  go_enter Tryz.func120, Tryz.ntmps120
  go_wp2_with fail
  refine (V1.out _ (Below.refl _ _)).mono ?_
  rintro e w1 ⟨rfl, hb1⟩
  go_wp2_with fail
  refine (V2.out _ hb1).mono ?_
  rintro e w2 ⟨rfl, hb2⟩
  have hB2 : Below w.heap.size w w2 := hb1.trans (hb2.mono hb1.size)
  clear hb2 hb1
  go_wp2_with fail
  refine (V3.out _ hB2).mono ?_
  rintro e w3 ⟨v3, rfl, ho3, hb3⟩
  obtain ⟨A3, c3, rfl, -⟩ := ho3.slice
  have hB3 : Below w.heap.size w w3 := hB2.trans (hb3.mono hB2.size)
  clear ho3 hb3 hB2
  go_wp2_with fail
  go_ret2
  refine ⟨?_, hB3⟩
  have e : (((cornersS xs ys).length : Int) == (n : Int)) = decide (((cornersS xs ys).length : Int) = (n : Int)) := by rw [Bool.eq_iff_iff]; simp
  rw [← e]
  rfl
end Go.Proofs.YtnhdnkeiijiiaaaGreat
