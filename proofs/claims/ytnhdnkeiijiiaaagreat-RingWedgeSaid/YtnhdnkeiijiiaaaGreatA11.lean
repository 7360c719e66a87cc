import Derived.Test.YtnhdnkeiijiiaaaGreatA10
import Derived.RangeFuncNested
import Derived.RangeFuncBound
import Derived.RangeFuncCalls
import Derived.RangeFuncLeaves
import Derived.RangeFuncBox
import Derived.Shelf.Abstract
import Derived.Shelf.RegionOpen
import Derived.WalkKit
import Derived.OwnWalkIn
import Derived.TacticsInMore
import Derived.LoopNIn
import Derived.LoopIn
import Derived.RegionIn
import Derived.Maps.AppendAt
import Derived.Stop.RegionWithIn
import Derived.Sort.CutIn
namespace Go.Proofs.YtnhdnkeiijiiaaaGreat
open Go.RowKit Go.Shelf
set_option linter.unusedSimpArgs false
set_option linter.unusedVariables false
attribute [local go_sem ↓] Go.wp_at_zero Go.wp_at_succ
theorem regB_iff {rs : List (List Pt)} : regB rs = true ↔ rs.length ≤ 32 ∧ ∀ r ∈ rs, validB r = true := by simp [regB]
/-- seen from below the box -/
theorem PushR.below {t base B : Nat} {v' : Value} {ys : List (List Pt)} {n₀ : Nat} {w w' : World} (h : PushR t base B (.slice none 0 0) v' ys w w') (h1 : n₀ ≤ B) (h2 : n₀ ≤ w.heap.size) : Below n₀ w w' where
  size := h.size
  os := h.os
  tape := h.tape
  output := h.output
  block := fun k hk => h.block k (by omega) (by omega) (by simp [Value.ownBlock])
theorem PushR.cellAt {t base B : Nat} {v' : Value} {ys : List (List Pt)} {w w' : World} (h : PushR t base B (.slice none 0 0) v' ys w w') {k i : Nat} {x : Value} (hc : w.cell? ⟨k, i, none⟩ = some x) (h1 : k ≠ B) : w'.cell? ⟨k, i, none⟩ = some x := by
  have hk := World.block_lt_of_cell? _ _ hc
  have := h.block k hk h1 (by simp [Value.ownBlock])
  unfold World.cell? at hc ⊢
  rw [this]; exact hc
set_option maxHeartbeats 3200000 in
set_option maxRecDepth 100000 in
theorem Cut_ok (A : Option Addr) (n c : Nat) (rs : List (List Pt)) (h : Hf) (w : World) (hn : rs.length = n) (hx : Reg? w.heap.size w A rs) (hv : regB rs = true) (hh : hfB h = true) :
    Calls Tryz.prog 62 #[.slice A n c, h.val] w (RetRegOk w.heap.size w (regCutS rs h)) := by
  obtain ⟨h32, hvv⟩ := regB_iff.1 hv
  have hI : Oks64 rs := fun r hr => ok64_of_pl (pl_of_valid (hvv r hr))
  have hn32 : n ≤ 32 := by omega
  have v1 := fun W (hB : Below w.heap.size w W) => rValid_any A n c rs W hn (by omega) (hx.later hB) hI
  have v2 := fun W => isHalf_any h W
  have v3 := fun (Ai : Option Addr) (ni ci : Nat) (xs : List Pt) W => cCut_ok Ai ni ci xs h W
  rw [hv] at v1
  rw [hh] at v2
  have HCL := Lib.hid (fun k => cutPolys_len (rs.take k) h)
  have HV := Lib.hid hvv
  have HX := Lib.hid hx
  have HN := Lib.hid hn
  have HCT := Lib.hid (fun (k : Nat) (r : List Pt) (e : rs[k]? = some r) => cutPolys_take e h)
  have HCV := Lib.hid (cutPolys_valid hvv h)
  have hrw : regCutS rs h = tidiedS (cutPolys rs h) := rfl
  rw [hrw]
  obtain ⟨HA, HB, HC⟩ := h
  have V1 := Lib.hid v1
  have V2 := Lib.hid v2
  have V3 := Lib.hid (fun Ai ni ci xs W hl hp hvx => v3 Ai ni ci xs W hl hp hvx hh)
  clear v1 v2 v3 hx hv hh hvv hI hn hrw
  go_enter Tryz.func62, Tryz.ntmps62
  go_wp2_with fail
  refine (V1.out _ (by go_grown)).mono ?_
  rintro e w1 ⟨rfl, hb1⟩
  have hB1 : Below w.heap.size w w1 := below_after (by go_grown) hb1
  have d0 : w1.cell? ⟨w.heap.size, 0, none⟩ = some (.int .i64 HA) := kp hb1 (by go_cell)
  have d1 : w1.cell? ⟨w.heap.size, 1, none⟩ = some (.int .i64 HB) := kp hb1 (by go_cell)
  have d2 : w1.cell? ⟨w.heap.size, 2, none⟩ = some (.int .i64 HC) := kp hb1 (by go_cell)
  have hs1 : w.heap.size + 1 ≤ w1.heap.size := by have := hb1.size; simpa using this
  clear hb1
  go_wp2_with fail
  refine (V2.out _).mono ?_
  rintro e w2 ⟨rfl, hb2⟩
  have hB2 : Below w.heap.size w w2 := hB1.trans (hb2.mono hB1.size)
  replace d0 := kp hb2 d0
  replace d1 := kp hb2 d1
  replace d2 := kp hb2 d2
  have hs2 : w.heap.size + 1 ≤ w2.heap.size := Nat.le_trans hs1 hb2.size
  clear hb2 hB1
  go_wp2_with fail
  have hBz : Below w.heap.size w (w2.alloc (.cells #[.slice none 0 0] 100)) := hB2.alloc hB2.size _
  have hzz : (w2.alloc (.cells #[.slice none 0 0] 100)).heap.size = w2.heap.size + 1 := by simp
  have hzB : (w2.alloc (.cells #[.slice none 0 0] 100)).heap[w2.heap.size]? = some (.cells #[.slice none 0 0] 100 (0, 0)) := World.alloc_heap_new w2 _
  have e0 : (w2.alloc (.cells #[.slice none 0 0] 100)).cell? ⟨w.heap.size, 0, none⟩ = some (.int .i64 HA) := by go_cell
  have e1 : (w2.alloc (.cells #[.slice none 0 0] 100)).cell? ⟨w.heap.size, 1, none⟩ = some (.int .i64 HB) := by go_cell
  have e2 : (w2.alloc (.cells #[.slice none 0 0] 100)).cell? ⟨w.heap.size, 2, none⟩ = some (.int .i64 HC) := by go_cell
  clear d0 d1 d2
  generalize w2.alloc (.cells #[.slice none 0 0] 100) = z at *
  go_loopg [19, 8] (n + 1) (fun g s19 s8 wr => ∃ k : Nat, k ≤ n ∧ g + k = n + 1 ∧ s19 = .int .i64 k ∧ ∃ v, PushR 100 w.heap.size w2.heap.size (.slice none 0 0) v (cutPolys (rs.take k) ⟨HA, HB, HC⟩) z wr)
  case atStart => exact ⟨0, by omega, by omega, rfl, _, PushR.same hzB (by rw [List.take_zero]; exact ownR_nil _ _) (Below.refl _ _)⟩
  case round =>
    obtain ⟨k, hk, hg, rfl, v, hP⟩ := hrel
    have HP := Lib.hid hP
    have hBr : Below w.heap.size w wr := hBz.trans (hP.below (by omega) hBz.size)
    clear hP
    by_cases hlt : k < n
    · obtain ⟨b, off, rfl, hb, Ak, ck, hck, hpk⟩ := HX.out.at (i := k) (by rw [HN.out]; exact hlt)
      replace hck := (hBr.cell (p := ⟨b, off + k, none⟩) hb).trans hck
      have hlt2 : (k : Int) < (n : Int) := by omega
      have hgk : rs[k]? = some (rs.getD k []) := by rw [List.getD_eq_getElem?_getD, List.getElem?_eq_getElem (by rw [HN.out]; exact hlt)]; rfl
      have hct := HCT.out k _ hgk
      have hvk := HV.out _ (List.mem_of_getElem? hgk)
      have hcall := V3.out Ak _ ck (rs.getD k []) wr rfl ((hpk.upto hBr).mono hBr.size) hvk
      have hcl : (cutPolys (rs.take k) ⟨HA, HB, HC⟩).length ≤ 1000000 := by have := HCL.out k; rw [List.length_take] at this; omega
      generalize rs.getD k [] = R at *
      generalize R.length = lR at *
      generalize cutPts R ⟨HA, HB, HC⟩ = P at *
      have HCALL := Lib.hid hcall
      have HCK := Lib.hid hct
      have f0 := HP.out.cellAt e0 (by omega)
      have f1 := HP.out.cellAt e1 (by omega)
      have f2 := HP.out.cellAt e2 (by omega)
      clear hcall hct hpk hgk
      go_wp2_with fail
      refine HCALL.out.mono ?_
      rintro e w4 ⟨v4, rfl, hb4, hnil, hsome⟩
      have hP4 := HP.out.after hb4
      have HP4 := Lib.hid hP4
      have hBr4 : Below w.heap.size w w4 := hBr.trans (hb4.mono hBr.size)
      by_cases hPn : P = []
      · obtain rfl := hnil hPn
        have hd : decide (P ≠ []) = false := by simp [hPn]
        rw [hd]
        have hrel : cutPolys (rs.take (k + 1)) ⟨HA, HB, HC⟩ = cutPolys (rs.take k) ⟨HA, HB, HC⟩ := by rw [HCK.out]; simp [polyIf, hPn]
        rw [← hrel] at HP4
        clear hnil hsome hd hP4 hrel hb4
        go_wp2_with fail
        refine (add_no w2.heap.size (.slice none 0 0) 0 _).mono ?_
        rintro e w5 ⟨rfl, rfl⟩
        go_wp2_with fail
        go_roundg (gk - 1)
        case measure => omega
        case rel => exact ⟨k + 1, by omega, by omega, by go_num, _, HP4.out⟩
      · have ho4 := hsome hPn
        have hd : decide (P ≠ []) = true := by simp [hPn]
        rw [hd]
        have hrel : cutPolys (rs.take (k + 1)) ⟨HA, HB, HC⟩ = cutPolys (rs.take k) ⟨HA, HB, HC⟩ ++ [aroundS P] := by rw [HCK.out]; simp [polyIf, hPn]
        have hadd := add_ok w.heap.size w2.heap.size v v4 (cutPolys (rs.take k) ⟨HA, HB, HC⟩) (aroundS P) w4 hP4.cell hP4.own (own_mono ho4 hBr.size) hcl hBr4.size
        rw [← hrel] at hadd
        have HADD := Lib.hid hadd
        clear hnil hsome hd hP4 hrel hb4 ho4 hadd
        go_wp2_with fail
        refine HADD.out.mono ?_
        rintro e w5 ⟨rfl, v5, hP5⟩
        have HP5 := Lib.hid (HP4.out.trans hP5)
        clear hP5
        go_wp2_with fail
        go_roundg (gk - 1)
        case measure => omega
        case rel => exact ⟨k + 1, by omega, by omega, by go_num, _, HP5.out⟩
    · obtain rfl : k = n := by omega
      have hnlt : ¬ ((k : Int) < (k : Int)) := by omega
      have hP' := HP.out
      rw [List.take_of_length_le (by rw [HN.out]; omega)] at hP'
      have hcl := HCL.out k
      rw [List.take_of_length_le (by rw [HN.out]; omega)] at hcl
      obtain ⟨Ac, cc, rfl, hcc, -, -, hrc⟩ := hP'.own.slice
      have hct : wr.cell? ⟨w2.heap.size, 0, none⟩ = some (.slice Ac (cutPolys rs ⟨HA, HB, HC⟩).length cc) := by simp [World.cell?, hP'.cell]
      have htd := tidied_any w2.heap.size Ac _ cc (cutPolys rs ⟨HA, HB, HC⟩) wr rfl (by omega) hct hrc HCV.out
      have HTD := Lib.hid htd
      clear hrc hcc hcl htd hP' HP
      go_wp2_with fail
      refine HTD.out.mono ?_
      rintro e w6 ⟨v6, rfl, ho6, hb6⟩
      have hB6 : Below w.heap.size w w6 := hBr.trans (hb6.mono hBr.size)
      have HO6 := Lib.hid (ownR_mono ho6 hBr.size)
      clear ho6 hb6
      go_wp2_with fail
      go_ret2
      exact ⟨_, rfl, HO6.out, hB6⟩
set_option maxHeartbeats 1600000 in
set_option maxRecDepth 100000 in
theorem Cut_bad (A : Option Addr) (n c : Nat) (rs : List (List Pt)) (h : Hf) (w : World) (hn : rs.length = n) (hbig : n ≤ 9223372036854775807) (hx : Reg? w.heap.size w A rs) (hI : Oks64 rs) (hv : (regB rs && hfB h) = false) :
    Calls Tryz.prog 62 #[.slice A n c, h.val] w (RetRegErr w 1) := by
  have v1 := fun W (hB : Below w.heap.size w W) => rValid_any A n c rs W hn hbig (hx.later hB) hI
  have v2 := fun W => isHalf_any h W
  obtain ⟨HA, HB, HC⟩ := h
  cases hr : regB rs with
  | false =>
    rw [hr] at v1
    have V1 := Lib.hid v1
    clear v1 v2 hx hI hv hr hn
    go_enter Tryz.func62, Tryz.ntmps62
    go_wp2_with fail
    refine (V1.out _ (by go_grown)).mono ?_
    rintro e w1 ⟨rfl, hb1⟩
    have hB1 : Below w.heap.size w w1 := below_after (by go_grown) hb1
    clear hb1
    go_wp2_with fail
    go_ret2
    exact ⟨rfl, hB1⟩
  | true =>
    have hh : hfB ⟨HA, HB, HC⟩ = false := by rw [hr] at hv; simpa using hv
    rw [hr] at v1
    rw [hh] at v2
    have V1 := Lib.hid v1
    have V2 := Lib.hid v2
    clear v1 v2 hx hI hv hr hn hh
    go_enter Tryz.func62, Tryz.ntmps62
    go_wp2_with fail
    refine (V1.out _ (by go_grown)).mono ?_
    rintro e w1 ⟨rfl, hb1⟩
    have hB1 : Below w.heap.size w w1 := below_after (by go_grown) hb1
    have d0 : w1.cell? ⟨w.heap.size, 0, none⟩ = some (.int .i64 HA) := kp hb1 (by go_cell)
    have d1 : w1.cell? ⟨w.heap.size, 1, none⟩ = some (.int .i64 HB) := kp hb1 (by go_cell)
    have d2 : w1.cell? ⟨w.heap.size, 2, none⟩ = some (.int .i64 HC) := kp hb1 (by go_cell)
    clear hb1
    go_wp2_with fail
    refine (V2.out _).mono ?_
    rintro e w2 ⟨rfl, hb2⟩
    have hB2 : Below w.heap.size w w2 := hB1.trans (hb2.mono hB1.size)
    clear hb2
    go_wp2_with fail
    go_ret2
    exact ⟨rfl, hB2⟩
end Go.Proofs.YtnhdnkeiijiiaaaGreat
namespace Go.Proofs.YtnhdnkeiijiiaaaGreat
open Go.RowKit Go.Shelf
set_option linter.unusedSimpArgs false
set_option linter.unusedVariables false
attribute [local go_sem] Oper.semAt_some
/-- two numbers below two others -/
abbrev Ix (n m : Nat) := {p : Nat × Nat // p.1 < n ∧ p.2 < m}
def pairsTo (m i j : Nat) : List (Nat × Nat) := ((List.range i).flatMap fun a => (List.range m).map fun b => (a, b)) ++ (List.range j).map fun b => (i, b)
theorem pairs_zero (m : Nat) : pairsTo m 0 0 = [] := rfl
theorem pairs_succ (m i j : Nat) : pairsTo m i (j + 1) = pairsTo m i j ++ [(i, j)] := by simp [pairsTo, List.range_succ]
theorem pairs_row (m i : Nat) : pairsTo m (i + 1) 0 = pairsTo m i m := by simp [pairsTo, List.range_succ]
theorem pairs_len (m i j : Nat) : (pairsTo m i j).length = m * i + j := by
  induction i with
  | zero => simp [pairsTo]
  | succ i ih =>
    simp only [pairsTo, List.length_append, List.length_map, List.length_range, List.range_succ, List.flatMap_append, List.flatMap_singleton] at ih ⊢
    rw [Nat.mul_add]; omega
/-- the slices that lie in the cells of a region -/
def Vals (n₀ : Nat) (w : World) (A : Option Addr) (n : Nat) (f : Nat → Value) : Prop := ∀ i, i < n → ∃ b off, A = some ⟨b, off, none⟩ ∧ b < n₀ ∧ w.cell? ⟨b, off + i, none⟩ = some (f i)
theorem Vals.upto {n₀ : Nat} {w w' : World} {A : Option Addr} {n : Nat} {f : Nat → Value} (h : Vals n₀ w A n f) (hb : Below n₀ w w') : Vals n₀ w' A n f := fun i hi => by
  obtain ⟨b, off, e, hlt, hc⟩ := h i hi
  exact ⟨b, off, e, hlt, (hb.cell (p := ⟨b, off + i, none⟩) hlt).trans hc⟩
theorem Reg?.vals {n₀ : Nat} {w : World} {A : Option Addr} {rs : List (List Pt)} (h : Reg? n₀ w A rs) : ∃ f, Vals n₀ w A rs.length f ∧ ∀ i r, rs[i]? = some r → ∃ Ai ci, f i = .slice Ai r.length ci ∧ Pts? n₀ w Ai r := by
  refine ⟨fun i => match A with | some a => (w.cell? ⟨a.block, a.off + i, none⟩).getD undef | none => undef, fun i hi => ?_, fun i r hr => ?_⟩
  · obtain ⟨b, off, rfl, hb, Ai, ci, hc, -⟩ := h.at hi
    exact ⟨b, off, rfl, hb, by simp [hc]⟩
  · have hi : i < rs.length := (List.getElem?_eq_some_iff.1 hr).1
    obtain ⟨b, off, rfl, hb, Ai, ci, hc, hp⟩ := h.at hi
    have e : rs.getD i [] = r := by rw [List.getD_eq_getElem?_getD, hr]; rfl
    rw [e] at hc hp
    exact ⟨Ai, ci, by simp [hc], hp⟩
/-- the boxes of two regions stay -/
def KpP (n₀ B1 B2 : Nat) (W W' : World) : Prop := Below n₀ W W' ∧ (∀ (cs : Array Value) (z : Nat × Nat), W.heap[B1]? = some (Obj.cells cs 27 z) → W'.heap[B1]? = some (Obj.cells cs 27 z)) ∧ (∀ (cs : Array Value) (z : Nat × Nat), W.heap[B2]? = some (Obj.cells cs 27 z) → W'.heap[B2]? = some (Obj.cells cs 27 z))
theorem kpP_t {n₀ B1 B2 : Nat} {A B C : World} (h : KpP n₀ B1 B2 A B) (k : KpP n₀ B1 B2 B C) : KpP n₀ B1 B2 A C := ⟨h.1.trans k.1, fun cs z e => k.2.1 cs z (h.2.1 cs z e), fun cs z e => k.2.2 cs z (h.2.2 cs z e)⟩
theorem kpP_b {n₀ B1 B2 : Nat} {w : World} (hn : n₀ ≤ w.heap.size) (W : World) (l : Nat) (o o' : Obj) (hl : w.heap.size ≤ l) (h : W.heap[l]? = some o) (hc : o.isCells = false) (hk : o.isWalk = false) : KpP n₀ B1 B2 W (W.putObj l o') :=
  ⟨belowK_b hn W l o o' hl h hc hk, fun cs z e => (grownBy_keeps_cells (grownBy_putObj' W l o') (fun r e => by cases e; exact ⟨_, h, hc⟩) e rfl).trans e, fun cs z e => (grownBy_keeps_cells (grownBy_putObj' W l o') (fun r e => by cases e; exact ⟨_, h, hc⟩) e rfl).trans e⟩
set_option maxRecDepth 100000 in
set_option maxHeartbeats 4000000 in
theorem pairs1_in (N l B1 B2 n₀ : Nat) (hN : 1 ≤ N) (A B : Option Addr) (n m c d : Nat) (f g : Nat → Value) (hn : n ≤ 1000) (hm : m ≤ 1000) (J Jx : List (Ix n m) → World → Prop)
    (W : World) (hnW : n₀ ≤ W.heap.size)
    (hY : ∀ (pre : List (Ix n m)) (x : Ix n m) (W1 : World), J pre W1 → pre.length < m * n → YieldAt Fence.wide (N - 1) Tryz.prog l #[f x.1.1, g x.1.2] W1 fun e W' =>
      (e = .returned (.bool true) ∧ J (pre ++ [x]) W' ∧ KpP n₀ B1 B2 W1 W') ∨ (e = .returned (.bool false) ∧ Jx (pre ++ [x]) W'))
    (hB1 : W.heap[B1]? = some (.cells #[.slice A n c] 27 (0, 0))) (hB2 : W.heap[B2]? = some (.cells #[.slice B m d] 27 (0, 0))) (hx : Vals n₀ W A n f) (hy : Vals n₀ W B m g) (h0 : J [] W) :
    CallsIn Fence.wide N Tryz.prog 90 #[.func (.yield l) #[] #[], .pointer (some ⟨B1, 0, none⟩), .pointer (some ⟨B2, 0, none⟩)] W fun e W' => (∃ v, e = .returned v) ∧
      ((∃ ys, ys.map (·.1) = pairsTo m n 0 ∧ J ys W') ∨ (∃ pre, True ∧ Jx pre W')) := by
  have e1 : W.cell? ⟨B1, 0, none⟩ = some (.slice A n c) := by simp [World.cell?, hB1]
  have HX := Lib.hid hx
  have HY := Lib.hid hy
  clear hx hy
  refine callsIn_of_wp Tryz.func90 rfl trivial ?_ rfl
  simp only [Tryz.ntmps90, List.size_toArray, List.length_cons, List.length_nil, Nat.reduceAdd, Nat.reduceSub, Array.replicate_succ, Array.replicate_zero, List.push_toArray, List.append_toArray, List.nil_append, List.cons_append]
  gi_wp2
  gi_loopw [10, 5, 7] (fun s10 s5 s7 wr => ∃ k : Nat, k ≤ n ∧ s10 = .int .i64 k ∧ (∃ pre : List (Ix n m), pre.map (·.1) = pairsTo m k 0 ∧ J pre wr) ∧ Below n₀ W wr ∧ wr.heap[B1]? = some (.cells #[.slice A n c] 27 (0, 0)) ∧ wr.heap[B2]? = some (.cells #[.slice B m d] 27 (0, 0)))
    (fun s10 _ _ _ => n - (intOf s10).toNat)
  case atStart => exact ⟨0, Nat.zero_le _, rfl, ⟨[], rfl, h0⟩, Below.refl _ _, hB1, hB2⟩
  case round =>
    obtain ⟨k, hk, rfl, ⟨pre, hpre, hJs⟩, hnx, hb1, hb2⟩ := hrel
    have c2 : wr.cell? ⟨B2, 0, none⟩ = some (.slice B m d) := by simp [World.cell?, hb2]
    by_cases hlt : k < n
    · obtain ⟨b, off, rfl, hb, hcf⟩ := HX.out k hlt
      replace hcf := (hnx.cell (p := ⟨b, off + k, none⟩) hb).trans hcf
      have hlt2 : (k : Int) < (n : Int) := by omega
      have HPre := Lib.hid hpre
      have HJs := Lib.hid hJs
      clear hpre hJs
      gi_wp2
      obtain ⟨wo, rfl⟩ : ∃ x, x = wr := ⟨_, rfl⟩
      gi_loopw [16, 7] (fun s16 s7 w2 => ∃ j : Nat, j ≤ m ∧ s16 = .int .i64 j ∧ (∃ pre : List (Ix n m), pre.map (·.1) = pairsTo m k j ∧ J pre w2) ∧ Below n₀ W w2 ∧ w2.heap[B1]? = some (.cells #[.slice (some ⟨b, off, none⟩) n c] 27 (0, 0)) ∧ w2.heap[B2]? = some (.cells #[.slice B m d] 27 (0, 0)))
        (fun s16 _ _ => m - (intOf s16).toNat)
      case atStart => exact ⟨0, Nat.zero_le _, rfl, ⟨pre, HPre.out, HJs.out⟩, hnx, hb1, hb2⟩
      case round =>
        clear hnx hb1 hb2 c2 hcf HPre HJs
        obtain ⟨j, hj, rfl, ⟨pre, hpre, hJs⟩, hnx, hb1, hb2⟩ := hrel
        by_cases hlt' : j < m
        · obtain ⟨b', off', rfl, hb', hcg⟩ := HY.out j hlt'
          replace hcg := (hnx.cell (p := ⟨b', off' + j, none⟩) hb').trans hcg
          have hlt3 : (j : Int) < (m : Int) := by omega
          have hnext : (pre ++ [(⟨(k, j), hlt, hlt'⟩ : Ix n m)]).map (·.1) = pairsTo m k (j + 1) := by rw [pairs_succ, List.map_append, hpre]; rfl
          have hlen : pre.length < m * n := by
            have h1 := congrArg List.length hpre
            rw [List.length_map, pairs_len] at h1
            have h2 : m * (k + 1) ≤ m * n := Nat.mul_le_mul_left m (by omega)
            rw [Nat.mul_add] at h2
            omega
          obtain ⟨fn, tmps, assign, body, hy, hR⟩ := hY pre ⟨(k, j), hlt, hlt'⟩ _ hJs hlen
          dsimp only at hy
          have HN := Lib.hid hnext
          clear hnext hlen hpre hJs
          gi_wp2
          refine hR.mono ?_
          rintro e W3 (⟨rfl, hJ3, hk3⟩ | ⟨rfl, hJx3⟩)
          · have hB3 : Below n₀ W W3 := hnx.trans hk3.1
            have w1 := hk3.2.1 _ _ hb1
            have w2 := hk3.2.2 _ _ hb2
            gi_wp2
            go_roundw
            case rel => exact ⟨j + 1, by omega, by go_num, ⟨_, HN.out, hJ3⟩, hB3, w1, w2⟩
            case measure => simp [intOf]; omega
          · gi_wp2
            refine bodyPost_ret (results_none rfl _ _ _) rfl ?_
            exact ⟨⟨_, rfl⟩, .inr ⟨_, trivial, hJx3⟩⟩
        · obtain rfl : j = m := by omega
          have hnlt : ¬ ((j : Int) < (j : Int)) := by omega
          have HPJ := Lib.hid (And.intro hpre hJs)
          clear hpre hJs
          gi_wp2
          go_roundw
          case rel => exact ⟨k + 1, by omega, by go_num, ⟨pre, by rw [pairs_row]; exact HPJ.out.1, HPJ.out.2⟩, hnx, hb1, hb2⟩
          case measure => simp [intOf]; omega
    · obtain rfl : k = n := by omega
      have hnlt : ¬ ((k : Int) < (k : Int)) := by omega
      have HPJ := Lib.hid (And.intro hpre hJs)
      clear hpre hJs
      gi_wp2
      go_end0
      exact ⟨⟨_, rfl⟩, .inl ⟨pre, HPJ.out.1, HPJ.out.2⟩⟩
theorem pairs_stops (N B1 B2 n₀ : Nat) (hN : 1 ≤ N) (A B : Option Addr) (n m c d : Nat) (f g : Nat → Value) (hn : n ≤ 1000) (hm : m ≤ 1000) (w : World) (hn₀ : n₀ ≤ w.heap.size)
    (hB1 : w.heap[B1]? = some (.cells #[.slice A n c] 27 (0, 0))) (hB2 : w.heap[B2]? = some (.cells #[.slice B m d] 27 (0, 0))) (hx : Vals n₀ w A n f) (hy : Vals n₀ w B m g) :
    SeqStopsK Fence.wide N Tryz.prog 90 #[.pointer (some ⟨B1, 0, none⟩), .pointer (some ⟨B2, 0, none⟩)] (fun x : Ix n m => #[f x.1.1, g x.1.2]) (KpP n₀ B1 B2) (fun ys => ys.map (·.1) = pairsTo m n 0) (fun pre => True) (m * n) w := fun l J Jx W hW hJ _ hY h0 =>
  pairs1_in N l B1 B2 n₀ hN A B n m c d f g hn hm J Jx W (Nat.le_trans hn₀ hW.size) hY ((hW.block B1 (Array.getElem?_eq_some_iff.1 hB1).1).trans hB1) ((hW.block B2 (Array.getElem?_eq_some_iff.1 hB2).1).trans hB2) (hx.upto (hW.mono hn₀)) (hy.upto (hW.mono hn₀)) h0
set_option maxHeartbeats 1000000 in
theorem pairs_in (N : Nat) (A B : Option Addr) (n m c d : Nat) (w : World) :
    CallsIn Fence.wide N Tryz.prog 68 #[.slice A n c, .slice B m d] w fun e w' => e = .returned (.func (.func 90) #[] #[.pointer (some ⟨w.heap.size, 0, none⟩), .pointer (some ⟨w.heap.size + 1, 0, none⟩)]) ∧ w' = (w.alloc (.cells #[.slice A n c] 27)).alloc (.cells #[.slice B m d] 27) := by
  refine callsIn_of_wp Tryz.func68 rfl trivial ?_ rfl
  simp only [Tryz.ntmps68, List.size_toArray, List.length_cons, List.length_nil, Nat.reduceAdd, Nat.reduceSub, Array.replicate_succ, Array.replicate_zero, List.push_toArray, List.append_toArray, List.nil_append, List.cons_append]
  gi_wp2
  go_ret
  exact ⟨rfl, rfl⟩
end Go.Proofs.YtnhdnkeiijiiaaaGreat
namespace Go.Proofs.YtnhdnkeiijiiaaaGreat
open Go.RowKit Go.Shelf
set_option linter.unusedSimpArgs false
set_option linter.unusedVariables false
attribute [local go_sem] Oper.semAt_some
theorem PushR.grown {t base B : Nat} {v v' : Value} {ys : List (List Pt)} {w w0 w' : World} {row : Option Nat} (h : PushR t base B v v' ys w w0) (hg : w0.grownBy w' row) (hr : ∀ r, row = some r → w.heap.size ≤ r ∧ ∃ o : Obj, w0.heap[r]? = some o ∧ o.isCells = false) : PushR t base B v v' ys w w' where
  cell := (grownBy_keeps_cells hg (fun r e => (hr r e).2) h.cell rfl).trans h.cell
  own := ownR_grown h.own hg (fun r e => (hr r e).2)
  at' := h.at'
  os := hg.os.trans h.os
  tape := hg.tape.trans h.tape
  output := hg.output.trans h.output
  size := Nat.le_trans h.size hg.size
  block := fun k hk h1 h2 => (hg.block k (Nat.lt_of_lt_of_le hk h.size) (fun e => by have := (hr k e.symm).1; omega)).trans (h.block k hk h1 h2)
theorem PushR.others {t base B : Nat} {v v' : Value} {xs ys : List (List Pt)} {w w' : World} (h : PushR t base B v v' ys w w') (hB : w.heap[B]? = some (.cells #[v] t (0, 0))) (ho : OwnR w base v xs) : KeepsOthers w w' :=
  ⟨h.size, fun k o hk hc => by
    refine h.keeps hk (fun e => ?_) (fun e => ?_)
    · subst e; rw [hB] at hk; cases hk; cases hc
    · obtain ⟨-, -, cs, hh⟩ := ownR_block39 ho e
      rw [hh] at hk; cases hk; cases hc⟩
def meetL (xs ys : List (List Pt)) (l : List (Nat × Nat)) : List (List Pt) := l.flatMap fun p => polyIf (sharedS (xs.getD p.1 []) (ys.getD p.2 []))
theorem meetL_snoc (xs ys : List (List Pt)) (l : List (Nat × Nat)) (p : Nat × Nat) : meetL xs ys (l ++ [p]) = meetL xs ys l ++ polyIf (sharedS (xs.getD p.1 []) (ys.getD p.2 [])) := by simp [meetL]
theorem map_range_getD (l : List (List Pt)) : (List.range l.length).map (fun i => l.getD i []) = l := by
  apply List.ext_getElem
  · simp
  · intro i h1 h2
    simp [List.getD_eq_getElem?_getD, List.getElem?_eq_getElem h2]
theorem meetL_all (xs ys : List (List Pt)) : meetL xs ys (pairsTo ys.length xs.length 0) = meetPolys xs ys := by
  have h1 : ∀ r, (List.range ys.length).flatMap (fun j => polyIf (sharedS r (ys.getD j []))) = meetRow r ys := fun r => by
    conv => rhs; unfold meetRow; rw [← map_range_getD ys]
    rw [List.flatMap_map]
  have h2 : (List.range xs.length).flatMap (fun i => meetRow (xs.getD i []) ys) = meetPolys xs ys := by
    conv => rhs; unfold meetPolys; rw [← map_range_getD xs]
    rw [List.flatMap_map]
  rw [← h2]
  simp only [← h1]
  simp [meetL, pairsTo, List.flatMap_assoc, List.flatMap_map]
theorem meetL_len (xs ys : List (List Pt)) (l : List (Nat × Nat)) : (meetL xs ys l).length ≤ l.length := by
  have := flat_len2 (fun p : Nat × Nat => polyIf (sharedS (xs.getD p.1 []) (ys.getD p.2 []))) 1 (fun r => polyIf_len _) l
  unfold meetL; omega
set_option maxRecDepth 100000 in
set_option maxHeartbeats 4000000 in
theorem Meet_ok (A B : Option Addr) (n c m d : Nat) (xs ys : List (List Pt)) (w : World) (hn : xs.length = n) (hm : ys.length = m) (hx : Reg? w.heap.size w A xs) (hy : Reg? w.heap.size w B ys) (hv1 : regB xs = true) (hv2 : regB ys = true) :
    Calls Tryz.prog 42 #[.slice A n c, .slice B m d] w (RetRegOk w.heap.size w (regMeetS xs ys)) := by
  obtain ⟨hn32, hvx⟩ := regB_iff.1 hv1
  obtain ⟨hm32, hvy⟩ := regB_iff.1 hv2
  have v1 := fun W (hB : Below w.heap.size w W) => rValid_any A n c xs W hn (by omega) (hx.later hB) (fun r hr => ok64_of_pl (pl_of_valid (hvx r hr)))
  have v2 := fun W (hB : Below w.heap.size w W) => rValid_any B m d ys W hm (by omega) (hy.later hB) (fun r hr => ok64_of_pl (pl_of_valid (hvy r hr)))
  rw [hv1] at v1
  rw [hv2] at v2
  obtain ⟨f, hvf, hvf2⟩ := hx.vals
  obtain ⟨g, hvg, hvg2⟩ := hy.vals
  rw [hn] at hvf hn32
  rw [hm] at hvg hm32
  have hcall : ∀ (i j : Nat), i < n → j < m → ∀ W, Below w.heap.size w W → Calls Tryz.prog 70 #[f i, g j] W fun e w' => ∃ v, e = .returned (.tuple #[v, .bool (decide (sharedS (xs.getD i []) (ys.getD j []) ≠ [])), .int .i64 0]) ∧ Below W.heap.size W w' ∧ (sharedS (xs.getD i []) (ys.getD j []) = [] → v = .slice none 0 0) ∧ (sharedS (xs.getD i []) (ys.getD j []) ≠ [] → Own w' W.heap.size v (aroundS (sharedS (xs.getD i []) (ys.getD j [])))) := fun i j hi hj W hB => by
    have gi : xs[i]? = some (xs.getD i []) := by rw [List.getD_eq_getElem?_getD, List.getElem?_eq_getElem (by omega)]; rfl
    have gj : ys[j]? = some (ys.getD j []) := by rw [List.getD_eq_getElem?_getD, List.getElem?_eq_getElem (by omega)]; rfl
    obtain ⟨Ai, ci, ei, pi⟩ := hvf2 i _ gi
    obtain ⟨Aj, cj, ej, pj⟩ := hvg2 j _ gj
    rw [ei, ej]
    exact cMeet_ok Ai Aj _ ci _ cj _ _ W rfl rfl (pi.later hB) (pj.later hB) (hvx _ (List.mem_of_getElem? gi)) (hvy _ (List.mem_of_getElem? gj))
  have hmv := meetPolys_valid (ys := ys) hvx
  have hml := meetPolys_len xs ys
  rw [hn, hm] at hml
  have hmm : m * n ≤ 32 * 32 := Nat.mul_le_mul hm32 hn32
  have hall : meetL xs ys (pairsTo m n 0) = meetPolys xs ys := by rw [← hn, ← hm]; exact meetL_all xs ys
  have hrw : regMeetS xs ys = tidiedS (meetPolys xs ys) := rfl
  rw [hrw]
  have V1 := Lib.hid v1
  have V2 := Lib.hid v2
  have HVF := Lib.hid hvf
  have HVG := Lib.hid hvg
  have HC := Lib.hid hcall
  have HMV := Lib.hid hmv
  have HALL := Lib.hid hall
  clear v1 v2 hx hy hv1 hv2 hvx hvy hn hm hvf hvg hvf2 hvg2 hcall hmv hall hrw
  refine (callsIn_wide (n := 6)).1 ?_
  refine callsIn_of_wp_marks Tryz.func42 rfl trivial ?_ rfl
  simp only [Tryz.ntmps42, List.size_toArray, List.length_cons, List.length_nil, Nat.reduceAdd, Nat.reduceSub, Array.replicate_succ, Array.replicate_zero, List.push_toArray, List.append_toArray, List.nil_append, List.cons_append]
  gi_wp2
  refine ⟨trivial, (callsIn_wide.2 (V1.out _ (by go_grown))).mono ?_⟩
  rintro e w1 ⟨rfl, hb1⟩
  gi_wp2
  refine ⟨trivial, (callsIn_wide.2 (V2.out _ hb1)).mono ?_⟩
  rintro e w2 ⟨rfl, hb2⟩
  have hB2 : Below w.heap.size w w2 := hb1.trans (hb2.mono hb1.size)
  clear hb1 hb2
  gi_wp2_with (refine ⟨trivial, ?_⟩; gi_at_call 68; refine (pairs_in _ _ _ _ _ _ _ _).mono ?_; rintro e w' ⟨rfl, rfl⟩)
  obtain ⟨W0, hW0⟩ : ∃ W0, ((w2.alloc (.cells #[.slice none 0 0] 100)).alloc (.cells #[.slice A n c] 27)).alloc (.cells #[.slice B m d] 27) = W0 := ⟨_, rfl⟩
  have hb0 : Below w2.heap.size w2 W0 := by rw [← hW0]; go_grown
  have hz0 : W0.heap.size = w2.heap.size + 3 := by rw [← hW0]; simp
  have k0 : W0.heap[w2.heap.size]? = some (.cells #[.slice none 0 0] 100 (0, 0)) := by rw [← hW0]; exact (Below.heap_alloc _ _ _ (by simp; omega)).trans ((Below.heap_alloc _ _ _ (by simp)).trans (World.alloc_heap_new w2 _))
  have k1 : W0.heap[w2.heap.size + 1]? = some (.cells #[.slice A n c] 27 (0, 0)) := by
    rw [← hW0]
    refine (Below.heap_alloc _ _ _ (by simp)).trans ?_
    have h9 := World.alloc_heap_new (w2.alloc (.cells #[.slice none 0 0] 100)) (.cells #[.slice A n c] 27)
    rw [World.size_alloc] at h9; exact h9
  have k2 : W0.heap[w2.heap.size + 1 + 1]? = some (.cells #[.slice B m d] 27 (0, 0)) := by
    rw [← hW0]
    have h9 := World.alloc_heap_new ((w2.alloc (.cells #[.slice none 0 0] 100)).alloc (.cells #[.slice A n c] 27)) (.cells #[.slice B m d] 27)
    rw [World.size_alloc, World.size_alloc] at h9; exact h9
  have hB0 : Below w.heap.size w W0 := hB2.trans (hb0.mono hB2.size)
  have hws := hB2.size
  rw [hW0]
  clear hW0 hb0 hB2
  refine wpIn_rangeFunc_ownH rfl (by omega) (gf := 90) (lb := #[.pointer (some ⟨w2.heap.size + 1, 0, none⟩), .pointer (some ⟨w2.heap.size + 1 + 1, 0, none⟩)]) rfl trivial (enters_of Tryz.func90 (by kernel_rfl) rfl)
    (pairs_stops _ (w2.heap.size + 1) (w2.heap.size + 1 + 1) w.heap.size (by omega) A B n m c d f g (by omega) (by omega) W0 hB0.size k1 k2 (HVF.out.upto hB0) (HVG.out.upto hB0)) kpP_t (kpP_b hB0.size) (Below.refl _ _) (fun _ => rfl)
    (fun pre W => ∃ v, PushR 100 w.heap.size w2.heap.size (.slice none 0 0) v (meetL xs ys (pre.map (·.1))) W0 W)
    (fun cd pre W => False)
    (fun s A B row hs hg hr => hs.imp fun v c => c.grown hg (fun r e => ⟨(hr r e).1, (hr r e).2⟩))
    (fun c s A B row hs hg hr => hs)
    ⟨_, PushR.same k0 (ownR_nil _ _) (Below.refl _ _)⟩
    (fun y a' W => a' = { tmps := #[Value.slice A n c, Value.slice B m d, undef, undef, Value.slice none 0 0, .int .i64 0, Value.pointer (some ⟨w2.heap.size, 0, none⟩), f y.1.1, g y.1.2, Value.slice A n c, Value.bool true, Value.bool false, Value.bool false, Value.slice B m d, Value.bool true, Value.bool false, Value.bool false, Value.slice A n c, Value.slice B m d, Value.func (Fn.func 90) #[] #[Value.pointer (some ⟨w2.heap.size + 1, 0, none⟩), Value.pointer (some ⟨w2.heap.size + 1 + 1, 0, none⟩)], f y.1.1, g y.1.2, undef, undef, undef, undef, undef, undef, undef, undef, undef], defers := [] })
    (fun y a' _ X Y row hs hg hr => hs)
    ?assign ?body ?done ?stop
  case assign =>
    rintro l pre y W K ⟨v, hC⟩ hK
    gi_wp2
    exact hK _ _ (KeepsFrom.refl _ _) ⟨Below.refl _ _, fun cs z e => e, fun cs z e => e⟩ ⟨v, hC⟩ rfl
  case stop =>
    rintro D cd pre W hD hpre hF
    exact hF.elim
  case body =>
    rintro l pre ⟨⟨i, j⟩, hi, hj⟩ a' W hl hr ⟨v, hC⟩ rfl hlen
    dsimp only at hi hj ⊢
    have hbe : Below w.heap.size w W := hB0.trans (hC.below hws hB0.size)
    have hk := HC.out i j hi hj W hbe
    have hln := meetL_len xs ys (pre.map (·.1))
    rw [List.length_map] at hln
    have hsn : meetL xs ys ((pre ++ [(⟨(i, j), hi, hj⟩ : Ix n m)]).map (·.1)) = meetL xs ys (pre.map (·.1)) ++ polyIf (sharedS (xs.getD i []) (ys.getD j [])) := by rw [List.map_append]; exact meetL_snoc _ _ _ _
    generalize sharedS (xs.getD i []) (ys.getD j []) = P at *
    have HK := Lib.hid hk
    have HCI := Lib.hid hC
    have HSN := Lib.hid hsn
    clear hk hC hsn
    gi_wp2
    refine ⟨trivial, (CallsIn.inRound l (callsIn_wide.2 HK.out)).mono ?_⟩
    rintro e W4 ⟨v4, rfl, hb4, hnil, hsome⟩
    have hP4 := HCI.out.after hb4
    have hbe4 : Below w.heap.size w W4 := hbe.trans (hb4.mono hbe.size)
    by_cases hPn : P = []
    · obtain rfl := hnil hPn
      have hd : decide (P ≠ []) = false := by simp [hPn]
      rw [hd]
      have hz : Below w.heap.size W W4 := hb4.mono hbe.size
      have HZ := Lib.hid (And.intro hb4 (And.intro hP4 hz))
      clear hnil hsome hd hP4 hb4 hz
      gi_wp2
      refine ⟨trivial, (CallsIn.inRound l (callsIn_wide.2 (add_no w2.heap.size (.slice none 0 0) 0 _))).mono ?_⟩
      rintro e W5 ⟨rfl, rfl⟩
      gi_wp2
      obtain ⟨hb4, hP4, hz⟩ := HZ.out
      refine ⟨keepsFrom_of hb4 _, ⟨hz, fun cs z e => (hb4.block _ (Array.getElem?_eq_some_iff.1 e).1).trans e, fun cs z e => (hb4.block _ (Array.getElem?_eq_some_iff.1 e).1).trans e⟩, ⟨v, ?_⟩⟩
      rw [HSN.out]
      simpa [polyIf, hPn] using hP4
    · have ho4 := hsome hPn
      have hd : decide (P ≠ []) = true := by simp [hPn]
      rw [hd]
      have hadd := add_ok w.heap.size w2.heap.size v v4 (meetL xs ys (pre.map (·.1))) (aroundS P) W4 hP4.cell hP4.own (own_mono ho4 hbe.size) (by have : m * n ≤ 1024 := hmm; omega) hbe4.size
      have HADD := Lib.hid hadd
      have HZ := Lib.hid (And.intro hb4 hP4)
      clear hnil hsome hd hP4 hb4 ho4 hadd
      gi_wp2
      refine ⟨trivial, (CallsIn.inRound l (callsIn_wide.2 HADD.out)).mono ?_⟩
      rintro e W5 ⟨rfl, v5, hP5⟩
      have hko := hP5.others HZ.out.2.cell HZ.out.2.own
      have h5 := HZ.out.2.trans hP5
      have HY := Lib.hid (And.intro hko (And.intro h5 hP5))
      clear hko h5 hP5
      gi_wp2
      obtain ⟨hko, h5, hP5⟩ := HY.out
      obtain ⟨hb4, hP4⟩ := HZ.out
      have hv4 : ∀ k, v.ownBlock = some k → W0.heap.size ≤ k := fun k e => by
        rcases HCI.out.at' k e with h | h
        · simp [Value.ownBlock] at h
        · exact h
      refine ⟨(keepsFrom_of hb4 _).trans (hko.from _), ⟨?_, fun cs z e => ?_, fun cs z e => ?_⟩, ⟨v5, ?_⟩⟩
      · exact (hb4.mono hbe.size).trans ⟨hP5.os, hP5.tape, hP5.output, hP5.size, fun k hk => hP5.block k (by have := hbe4.size; omega) (by omega) (fun e => by have := hv4 k e; have := hB0.size; omega)⟩
      · exact hP5.keeps ((hb4.block _ (Array.getElem?_eq_some_iff.1 e).1).trans e) (by omega) (fun e' => by have := hv4 _ e'; omega)
      · exact hP5.keeps ((hb4.block _ (Array.getElem?_eq_some_iff.1 e).1).trans e) (by omega) (fun e' => by have := hv4 _ e'; omega)
      · rw [HSN.out]
        simpa [polyIf, hPn] using h5
  case done =>
    rintro D zs W hD hzs ⟨v, hC⟩ hK
    rw [hzs, HALL.out] at hC
    have hDlt : D < W.heap.size := (Array.getElem?_eq_some_iff.1 hK).1
    have hBW : Below w.heap.size w W := hB0.trans (hC.below hws hB0.size)
    obtain ⟨A9, c9, rfl, hc9, -, -, hp9⟩ := hC.own.slice
    have hw2 : w.heap.size ≤ W0.heap.size := hB0.size
    have ck : W.cell? ⟨w2.heap.size, 0, none⟩ = some (.slice A9 (meetPolys xs ys).length c9) := by simp [World.cell?, hC.cell]
    have htd := tidied_any w2.heap.size A9 _ c9 (meetPolys xs ys) W rfl (by omega) ck hp9 HMV.out
    have HTD := Lib.hid htd
    clear hC hp9 ck htd hzs k0 k1 k2
    gi_wp2
    refine ⟨trivial, (callsIn_wide.2 HTD.out).mono ?_⟩
    rintro e W5 ⟨v5, rfl, ho5, hb5⟩
    have hK' := (hb5.block D hDlt).trans hK
    have hbf := hBW.trans (hb5.mono hBW.size)
    have HO5 := Lib.hid (ownR_mono ho5 hBW.size)
    clear ho5
    gi_wp2
    refine ⟨by simp, .inl ⟨_, _, rfl, run_takeDeferred hK', ?_⟩⟩
    refine ⟨.tuple #[v5, .int .i64 0], ?_, v5, rfl, ownR_grown HO5.out (grownBy_putObj' _ D (.deferred none)) (fun r e => by cases e; exact ⟨_, hK', rfl⟩), hbf.trans (belowK_b (w := w) (Nat.le_refl _) _ D _ _ (by omega) hK' rfl rfl)⟩
    simp [results, Tryz.f42, go_sem]
attribute [local go_sem ↓] Go.wp_at_zero Go.wp_at_succ
set_option maxHeartbeats 1600000 in
set_option maxRecDepth 100000 in
theorem Meet_bad (A B : Option Addr) (n c m d : Nat) (xs ys : List (List Pt)) (w : World) (hn : xs.length = n) (hm : ys.length = m) (hbig : n ≤ 9223372036854775807) (hbig2 : m ≤ 9223372036854775807) (hx : Reg? w.heap.size w A xs) (hy : Reg? w.heap.size w B ys) (hI : Oks64 xs) (hI2 : Oks64 ys) (hv : (regB xs && regB ys) = false) :
    Calls Tryz.prog 42 #[.slice A n c, .slice B m d] w (RetRegErr w 1) := by
  have v1 := fun W (hB : Below w.heap.size w W) => rValid_any A n c xs W hn hbig (hx.later hB) hI
  have v2 := fun W (hB : Below w.heap.size w W) => rValid_any B m d ys W hm hbig2 (hy.later hB) hI2
  cases hr : regB xs with
  | false =>
    rw [hr] at v1
    have V1 := Lib.hid v1
    clear v1 v2 hx hy hI hI2 hv hr hn hm
    go_enter Tryz.func42, Tryz.ntmps42
    go_wp2_with fail
    refine (V1.out _ (by go_grown)).mono ?_
    rintro e w1 ⟨rfl, hb1⟩
    go_wp2_with fail
    go_ret2
    exact ⟨rfl, hb1⟩
  | true =>
    have hh : regB ys = false := by rw [hr] at hv; simpa using hv
    rw [hr] at v1
    rw [hh] at v2
    have V1 := Lib.hid v1
    have V2 := Lib.hid v2
    clear v1 v2 hx hy hI hI2 hv hr hn hm hh
    go_enter Tryz.func42, Tryz.ntmps42
    go_wp2_with fail
    refine (V1.out _ (by go_grown)).mono ?_
    rintro e w1 ⟨rfl, hb1⟩
    go_wp2_with fail
    refine (V2.out _ hb1).mono ?_
    rintro e w2 ⟨rfl, hb2⟩
    have hB2 : Below w.heap.size w w2 := hb1.trans (hb2.mono hb1.size)
    go_wp2_with fail
    go_ret2
    exact ⟨rfl, hB2⟩
end Go.Proofs.YtnhdnkeiijiiaaaGreat
namespace Go.Proofs.YtnhdnkeiijiiaaaGreat
open Go.RowKit Go.Shelf
set_option linter.unusedSimpArgs false
set_option linter.unusedVariables false
attribute [local go_sem] Oper.semAt_some
/-- an iterator that tells the round, at each element, a fact on it and on the world: what it has made itself -/
def Tells {α : Type} (g : Nat) (lb : Array Value) (encs : α → Array Value) (Kp : World → World → Prop) (G : List α → α → World → Prop) (S : List α → Prop) (w : World) : Prop :=
  ∀ (l : Nat) (J Jx : List α → World → Prop) (W : World), Below w.heap.size w W → AbidesFrom W.heap.size J → AbidesFrom W.heap.size Jx →
    (∀ pre x W1, J pre W1 → G pre x W1 → YieldAt Fence.wide 4 Tryz.prog l (encs x) W1 fun e W' => (e = .returned (.bool true) ∧ J (pre ++ [x]) W' ∧ Kp W1 W') ∨ (e = .returned (.bool false) ∧ Jx (pre ++ [x]) W')) →
    J [] W → CallsIn Fence.wide 5 Tryz.prog g (#[.func (.yield l) #[] #[]] ++ lb) W fun e W' => (∃ v, e = .returned v) ∧ ((∃ xs, S xs ∧ J xs W') ∨ ∃ pre, Jx pre W')
/-- how a round is left: it goes on, or the function returns -/
def Leaves {α : Type} (B : Nat) (Kp : World → World → Prop) (I Ix : List α → World → Prop) (xs : List α) (W : World) : Exit → Act → World → Prop
  | .normal, _, W' => KeepsFrom B W W' ∧ Kp W W' ∧ I xs W'
  | .ret, _, W' => KeepsFrom B W W' ∧ Ix xs W'
  | _, _, _ => False
set_option maxRecDepth 100000 in
set_option maxHeartbeats 4000000 in
theorem range_told {α : Type} {g : Operand} {ps : Array Tmp} {assign body : Code} {Q : Exit → Act → World → Prop} {a : Act} {w : World} {gf : Nat} {lb : Array Value} (hg : a.eval g = .func (.func gf) #[] lb)
    (eg : ∀ args w, (callFunc gf args).run Tryz.prog w = .ok (.enter gf args) w) {encs : α → Array Value} {Kp : World → World → Prop} {G : List α → α → World → Prop} {S : List α → Prop} (hseq : Tells gf lb encs Kp G S w)
    (hKt : ∀ {A B C : World}, Kp A B → Kp B C → Kp A C) (hKb : ∀ (W : World) (l : Nat) (o o' : Obj), w.heap.size ≤ l → W.heap[l]? = some o → o.isCells = false → o.isWalk = false → Kp W (W.putObj l o')) (hps : ∀ x, (encs x).size = ps.size)
    (I Ix : List α → World → Prop) (hI : OwnFrom w.heap.size I) (hIx : OwnFrom w.heap.size Ix) (hG : ∀ pre x, OwnFrom w.heap.size (fun (_ : Unit) W => G pre x W)) (h0 : I [] w) (Ax : α → Act → Prop)
    (hassign : ∀ (l : Nat) (x : α) (W : World) (K : Act → World → Prop), (∀ a', Ax x a' → K a' W) → assign.wpIn (Fence.wide.inRound l) 4 Tryz.prog (Exit.then K (fun _ _ _ => False)) { tmps := (ps.zip (encs x)).foldl (fun t (p, v) => t.setIfInBounds p v) a.tmps, defers := [] } W)
    (hbody : ∀ (l : Nat) (pre : List α) (x : α) (a' : Act) (W : World), I pre W → G pre x W → Ax x a' → body.wpIn (Fence.wide.inRound l) 4 Tryz.prog (Leaves w.heap.size Kp I Ix (pre ++ [x]) W) a' W)
    (hdone : ∀ (D : Nat) (xs : List α) (W : World), w.heap.size ≤ D → S xs → I xs W → W.heap[D]? = some (.deferred (some [])) → Q .normal { a with defers := { target := .collected D, args := #[] } :: a.defers } W)
    (hstop : ∀ (D : Nat) (pre : List α) (W : World), w.heap.size ≤ D → Ix pre W → W.heap[D]? = some (.deferred (some [])) → Code.ret.wpIn Fence.wide 6 Tryz.prog Q { a with defers := { target := .collected D, args := #[] } :: a.defers } W) :
    (Code.rangeFunc g ps assign body).wpIn Fence.wide 6 Tryz.prog Q a w := by
  refine wpIn_rangeFunc fun fn hfn => ?_
  -- the two blocks that the loop lays: the mark's and its record
  obtain ⟨b, hb⟩ : ∃ b, b = w.heap.size := ⟨_, rfl⟩
  obtain ⟨rec, hrec⟩ : ∃ rec : LoopState → Option Code → Loop, rec = fun st pe => { state := st, pending := pe, fn, tmps := a.tmps, params := ps, assign, body, defers := w.heap.size } := ⟨_, rfl⟩
  have hen : (Instr.enterLoop fn a.tmps ps assign body Fence.wide.round).run Tryz.prog w = .ok (w.heap.size + 1, [{ target := .collected w.heap.size, args := #[] }]) ((w.alloc (.deferred (some []))).alloc (.loop (rec .ready none))) := by
    rw [hrec]; exact run_enterLoop_outer _ _ _ _ _
  obtain ⟨Y, hY⟩ : ∃ Y, (w.alloc (.deferred (some []))).alloc (.loop (rec .ready none)) = Y := ⟨_, rfl⟩
  rw [hY] at hen
  have hbY : Below w.heap.size w Y := by rw [← hY]; exact ((Below.refl _ w).alloc (Nat.le_refl _) _).alloc (by simp) _
  have hzY : Y.heap.size = w.heap.size + 2 := by rw [← hY]; simp
  have y1 : Y.heap[w.heap.size + 1]? = some (.loop (rec .ready none)) := by
    rw [← hY]; have h9 := World.alloc_heap_new (w.alloc (.deferred (some []))) (.loop (rec .ready none)); rwa [World.size_alloc] at h9
  have y0 : Y.heap[w.heap.size]? = some (.deferred (some [])) := by rw [← hY]; exact (Below.heap_alloc _ _ _ (by simp)).trans (World.alloc_heap_new w _)
  have hIY : I [] Y := by rw [← hY]; exact hI.alloc _ (hI.alloc _ h0)
  clear hY
  -- a record and a mark that lie as they lay
  have turn : ∀ {A : World} {row : Option Nat}, (∀ r, row = some r → Y.heap.size ≤ r ∧ ∃ o : Obj, A.heap[r]? = some o ∧ o.isWalk = true) → ∀ r, row = some r → w.heap.size ≤ r ∧ ∃ o : Obj, A.heap[r]? = some o ∧ o.isCells = false :=
    fun hr r e => by
      obtain ⟨h1, o, h2, h3⟩ := hr r e
      exact ⟨by omega, o, h2, Obj.not_cells_of_walk h3⟩
  have stay : ∀ {A B : World} {row : Option Nat} {k : Nat} {o : Obj}, (∀ r, row = some r → Y.heap.size ≤ r ∧ ∃ o : Obj, A.heap[r]? = some o ∧ o.isWalk = true) → A.grownBy B row → A.heap[k]? = some o → o.isWalk = false → B.heap[k]? = some o :=
    fun hr hg hk ho => (grownBy_keeps hg (fun r e => (hr r e).2) hk ho).trans hk
  refine ⟨_, _, Y, { target := .fn (.func gf) lb, args := #[.func (.yield (w.heap.size + 1)) #[] #[]] }, Y, gf, #[.func (.yield (w.heap.size + 1)) #[] #[]] ++ lb, Y, hen, by simp only [resolve, hg]; simp [go_sem], fun f' _ => trivial, by simp [invoke, go_sem, eg], fun _ => by omega, ?_⟩
  refine (hseq (w.heap.size + 1) (fun pre W => I pre W ∧ W.heap[w.heap.size + 1]? = some (.loop (rec .ready none)) ∧ W.heap[w.heap.size]? = some (.deferred (some [])))
    (fun pre W => Ix pre W ∧ W.heap[w.heap.size + 1]? = some (.loop (rec .done (some .ret))) ∧ W.heap[w.heap.size]? = some (.deferred (some []))) Y hbY
    (fun s A B row hs hg' hr => ⟨hI s A B row hs.1 hg' (turn hr), stay hr hg' hs.2.1 rfl, stay hr hg' hs.2.2 rfl⟩)
    (fun s A B row hs hg' hr => ⟨hIx s A B row hs.1 hg' (turn hr), stay hr hg' hs.2.1 rfl, stay hr hg' hs.2.2 rfl⟩) ?_ ⟨hIY, y1, y0⟩).mono ?_
  · rintro pre x W ⟨hi, hl, hk⟩ hx
    have hy := run_yield (P := Tryz.prog) (args := encs x) hl (by rw [hrec]; exact hps x)
    rw [hrec] at hy
    refine ⟨fn, _, assign, body, hy, roundIn_of_wpIn hfn (hassign _ x W _ fun a' hax => ?_)⟩
    refine ⟨_, run_beginRound hl (by rw [hrec]), ?_⟩
    have hlt := (Array.getElem?_eq_some_iff.1 hl).1
    have hl2 : (W.putObj (w.heap.size + 1) (.loop { rec .ready none with state := .busy })).heap[w.heap.size + 1]? = some (.loop { rec .ready none with state := .busy }) := World.putObj_heap_same hlt
    have hk2 : (W.putObj (w.heap.size + 1) (.loop { rec .ready none with state := .busy })).heap[w.heap.size]? = some (.deferred (some [])) := (World.putObj_heap_other (by omega)).trans hk
    have hkp : Kp W (W.putObj (w.heap.size + 1) (.loop { rec .ready none with state := .busy })) := hKb _ _ _ _ (by omega) hl rfl rfl
    refine wpIn_mono (hbody _ pre x a' _ (hI.putObj _ hi (by omega) hl rfl) ((hG pre x).putObj (s := ()) _ hx (by omega) hl rfl) hax) ?_
    -- the round's end
    have fin : ∀ (j : Option Code) (Z : World), KeepsFrom w.heap.size (W.putObj (w.heap.size + 1) (.loop { rec .ready none with state := .busy })) Z → Z.heap[w.heap.size + 1]? = some (.loop { rec .ready none with state := .busy }) ∧
        (Instr.endRound (w.heap.size + 1) j).run Tryz.prog Z = .ok (.bool j.isNone) (Z.putObj (w.heap.size + 1) (.loop (rec (if j.isNone then .ready else .done) j))) ∧
        (Z.putObj (w.heap.size + 1) (.loop (rec (if j.isNone then .ready else .done) j))).heap[w.heap.size + 1]? = some (.loop (rec (if j.isNone then .ready else .done) j)) ∧
        (Z.putObj (w.heap.size + 1) (.loop (rec (if j.isNone then .ready else .done) j))).heap[w.heap.size]? = some (.deferred (some [])) := fun j Z hZ => by
      have z1 := hZ.same _ _ (by omega) hl2 rfl
      have h9 := run_endRound (P := Tryz.prog) j z1
      rw [hrec] at h9 ⊢
      exact ⟨by rw [hrec] at z1; exact z1, h9, World.putObj_heap_same (Array.getElem?_eq_some_iff.1 z1).1, (World.putObj_heap_other (by omega)).trans (hZ.same _ _ (Nat.le_refl _) hk2 rfl)⟩
    intro e a3 Z hp
    match e, hp with
    | .normal, hp =>
      obtain ⟨hkf, hkp3, hi3⟩ := hp
      obtain ⟨z1, z2, z3, z4⟩ := fin none Z hkf
      exact ⟨_, _, z2, .inl ⟨rfl, ⟨hI.putObj _ hi3 (by omega) z1 rfl, z3, z4⟩, hKt (hKt hkp hkp3) (hKb _ _ _ _ (by omega) z1 rfl rfl)⟩⟩
    | .ret, hp =>
      obtain ⟨hkf, hi3⟩ := hp
      obtain ⟨z1, z2, z3, z4⟩ := fin (some .ret) Z hkf
      exact ⟨_, _, z2, .inr ⟨rfl, hIx.putObj _ hi3 (by omega) z1 rfl, z3, z4⟩⟩
    | .exit _, hp => exact hp.elim
    | .goto _, hp => exact hp.elim
    | .panic _, hp => exact hp.elim
    | .outgrown, hp => exact hp.elim
  · rintro e Z ⟨⟨v, rfl⟩, ⟨xs, hS, hi, hl, hk⟩ | ⟨pre, hi, hl, hk⟩⟩
    · have h9 := run_endLoop (P := Tryz.prog) hl (by rw [hrec]; simp)
      rw [hrec] at h9
      exact ⟨none, _, h9, hdone _ xs _ (Nat.le_refl _) hS (hI.putObj _ hi (by omega) hl rfl) ((World.putObj_heap_other (by omega)).trans hk)⟩
    · have h9 := run_endLoop (P := Tryz.prog) hl (by rw [hrec]; simp)
      rw [hrec] at h9
      exact ⟨some .ret, _, h9, hstop _ pre _ (Nat.le_refl _) (hIx.putObj _ hi (by omega) hl rfl) ((World.putObj_heap_other (by omega)).trans hk)⟩
end Go.Proofs.YtnhdnkeiijiiaaaGreat
