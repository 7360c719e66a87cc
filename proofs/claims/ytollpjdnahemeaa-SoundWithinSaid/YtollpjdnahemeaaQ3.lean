import Derived.Test.YtollpjdnahemeaaQ2
import Derived.Deep.LoopGhost
import Derived.RangeFuncNested
import Derived.RangeFuncBound
import Derived.RangeFuncCalls
import Derived.RangeFuncLeaves
import Derived.Shelf.Abstract
import Derived.Shelf.RegionOpen
import Derived.WalkKit
import Derived.OwnWalkIn
import Derived.TacticsInMore
import Derived.LoopNIn
import Derived.LoopIn
import Derived.Maps.AppendAt
namespace Go.Proofs.Ytollpjdnahemeaa
open Go.RowKit Go.Shelf
set_option linter.unusedSimpArgs false
set_option linter.unusedVariables false

theorem sp1_snoc {l : List (Int × Int)} {s : Int × Int} (hn : l ≠ []) (hl : ∀ t ∈ l, SpOk t) (hs : SpOk s) : sp1 (l ++ [s]) = (min (sp1 l).1 s.1, max (sp1 l).2 s.2) := by
  have h := (sp1_box hn hl).ok hl
  rw [← stepS_ok h hs]
  simp [sp1]
theorem joinS_ok {o s : Int × Int} (ho : SpOk o) (hs : SpOk s) : joinS o.1 o.2 s.1 s.2 = (min o.1 s.1, max o.2 s.2, 0) := by
  unfold SpOk at *
  unfold joinS
  rw [if_pos]
  simp [vld]; omega
theorem take_snoc {l : List (Int × Int)} {k : Nat} {s : Int × Int} (h : l[k]? = some s) : l.take (k + 1) = l.take k ++ [s] := by rw [List.take_add_one, h]; rfl

theorem Join_ok (al ah bl bh : Int) (w : World) (ho : SpOk (al, ah)) (hs : SpOk (bl, bh)) :
    Calls Try.prog 39 #[.agg #[.int .i64 al, .int .i64 ah], .agg #[.int .i64 bl, .int .i64 bh]] w fun e w' => e = .returned (.tuple #[.agg #[.int .i64 (min al bl), .int .i64 (max ah bh)], .int .i64 0]) ∧ Below w.heap.size w w' := by
  have h := Join_any al ah bl bh w
  have e : joinS al ah bl bh = (min al bl, max ah bh, 0) := joinS_ok ho hs
  rw [e] at h
  exact h
set_option maxHeartbeats 800000 in
set_option maxRecDepth 100000 in
theorem joined_more (b off q c : Nat) (l : List (Int × Int)) (w : World) (hl : l.length = q + 1) (hbig : q + 1 ≤ 1000000) (hnc : q + 1 ≤ c) (hc1 : ¬ c = 1) (hok : ∀ s ∈ l, SpOk s) (hc : ∀ i s, l[i]? = some s → w.cell? ⟨b, off + i * 2, none⟩ = some (.int .i64 s.1) ∧ w.cell? ⟨b, off + i * 2 + 1, none⟩ = some (.int .i64 s.2)) :
    Calls Try.prog 88 #[.slice (some ⟨b, off, none⟩) (q + 1) c] w fun e w' => e = .returned (.agg #[.int .i64 (sp1 l).1, .int .i64 (sp1 l).2]) ∧ Below w.heap.size w w' := by
  have HL := Lib.hid hl
  have HC := Lib.hid hc
  have HOK := Lib.hid hok
  obtain ⟨s0, hs0⟩ : ∃ s, l[0]? = some s := ⟨_, List.getElem?_eq_getElem (by omega)⟩
  have hb : b < w.heap.size := World.block_lt_of_cell? _ _ (hc 0 s0 hs0).1
  have a0 : w.cell? ⟨b, off, none⟩ = some (.int .i64 s0.1) := by simpa using (hc 0 s0 hs0).1
  have a1 : w.cell? ⟨b, off + 1, none⟩ = some (.int .i64 s0.2) := by simpa using (hc 0 s0 hs0).2
  have hf : sp1 (l.take 1) = s0 := by rw [take_snoc hs0]; simp [sp1, stepS]
  have HF := Lib.hid hf
  have i0 : (1 : Int) ≤ (q : Int) + 1 := by omega
  have i2 : (0 : Int) < (q : Int) + 1 := by omega
  have i3 : ((1 : Int)).toNat = 1 := rfl
  clear hl hc hok hf hs0
  go_enter Try.func88, Try.ntmps88
  go_wp2_with fail
  go_loopg [12] (q + 1) (fun g s12 wr => ∃ (k : Nat) (o1 o2 : Int), k ≤ q ∧ g + k = q + 1 ∧ s12 = .int .i64 k ∧ Aside (sp1 (l.take (k + 1)) = (o1, o2)) ∧ Below w.heap.size w wr ∧ wr.cell? ⟨w.heap.size + 1, 0, none⟩ = some (.int .i64 o1) ∧ wr.cell? ⟨w.heap.size + 1, 1, none⟩ = some (.int .i64 o2) ∧ wr.frozen? ⟨w.heap.size + 1, 0, none⟩ = false ∧ wr.frozen? ⟨w.heap.size + 1, 1, none⟩ = false ∧ wr.cell? ⟨w.heap.size, 0, none⟩ = some (.int .i64 0) ∧ wr.cell? ⟨w.heap.size, 1, none⟩ = some (.int .i64 0) ∧ wr.frozen? ⟨w.heap.size, 0, none⟩ = false ∧ wr.frozen? ⟨w.heap.size, 1, none⟩ = false)
  case atStart =>
    refine ⟨0, s0.1, s0.2, by omega, by omega, rfl, HF.out, by go_grown, ?_, ?_, ?_, ?_, ?_, ?_, ?_, ?_⟩ <;> first | go_cell | (go_simp; done)
  case round =>
    obtain ⟨k, o1, o2, hk, hg, rfl, HA, hB, v0, v1, vf, vg, r0, r1, rf, rg⟩ := hrel
    by_cases hlt : k < q
    · obtain ⟨x, hx⟩ : ∃ x, l[k + 1]? = some x := ⟨_, List.getElem?_eq_getElem (by rw [HL.out]; omega)⟩
      have hxm := List.mem_of_getElem? hx
      have hne : l.take (k + 1) ≠ [] := by
        intro e
        have h9 := congrArg List.length e
        rw [List.length_take, HL.out] at h9
        simp at h9
      have hsn := sp1_snoc hne (fun t ht => HOK.out t (List.mem_of_mem_take ht)) (HOK.out x hxm)
      rw [← take_snoc hx, HA.out] at hsn
      have ho : SpOk (o1, o2) := by
        have h9 := (sp1_box hne (fun t ht => HOK.out t (List.mem_of_mem_take ht))).ok (fun t ht => HOK.out t (List.mem_of_mem_take ht))
        rwa [HA.out] at h9
      have hJ := fun W => Join_ok o1 o2 x.1 x.2 W ho (HOK.out x hxm)
      obtain ⟨c0, c1⟩ := HC.out (k + 1) x hx
      have c0 := (hB.cell (p := ⟨b, off + (k + 1) * 2, none⟩) hb).trans c0
      have c1 := (hB.cell (p := ⟨b, off + (k + 1) * 2 + 1, none⟩) hb).trans c1
      rw [show off + (k + 1) * 2 = off + 2 + k * 2 by omega] at c0 c1
      have HJ := Lib.hid hJ
      have HS := Lib.hid hsn
      have hlt2 : (k : Int) < (q : Int) := by omega
      have hsz := World.block_lt_of_cell? _ _ v0
      clear hx hxm hne hsn ho hJ HA
      go_wp2_with fail
      refine (HJ.out _).mono ?_
      rintro e w1 ⟨rfl, hb1⟩
      have hB1 : Below w.heap.size w w1 := below_after (by go_grown) hb1
      have x0 : w1.cell? ⟨w.heap.size + 1, 0, none⟩ = some (.int .i64 o1) := kp hb1 (by go_cell)
      have x1 : w1.cell? ⟨w.heap.size + 1, 1, none⟩ = some (.int .i64 o2) := kp hb1 (by go_cell)
      have y0 : w1.cell? ⟨w.heap.size, 0, none⟩ = some (.int .i64 0) := kp hb1 (by go_cell)
      have y1 : w1.cell? ⟨w.heap.size, 1, none⟩ = some (.int .i64 0) := kp hb1 (by go_cell)
      have xf : w1.frozen? ⟨w.heap.size + 1, 0, none⟩ = false := (hb1.frozen (p := ⟨w.heap.size + 1, 0, none⟩) (by simp; omega)).trans (by go_simp)
      have xg : w1.frozen? ⟨w.heap.size + 1, 1, none⟩ = false := (hb1.frozen (p := ⟨w.heap.size + 1, 1, none⟩) (by simp; omega)).trans (by go_simp)
      have yf : w1.frozen? ⟨w.heap.size, 0, none⟩ = false := (hb1.frozen (p := ⟨w.heap.size, 0, none⟩) (by simp; omega)).trans (by go_simp)
      have yg : w1.frozen? ⟨w.heap.size, 1, none⟩ = false := (hb1.frozen (p := ⟨w.heap.size, 1, none⟩) (by simp; omega)).trans (by go_simp)
      clear hb1 v0 v1 vf vg r0 r1 rf rg c0 c1
      go_wp2_with fail
      go_roundg (gk - 1)
      case measure => omega
      case rel =>
        refine ⟨k + 1, min o1 x.1, max o2 x.2, by omega, by omega, by go_num, HS.out, by go_grown, ?_, ?_, ?_, ?_, ?_, ?_, ?_, ?_⟩ <;> first | go_cell | (go_simp; done)
    · obtain rfl : k = q := by omega
      have hnlt : ¬ ((k : Int) < (k : Int)) := by omega
      have ha := HA.out
      rw [List.take_of_length_le (by rw [HL.out]; omega)] at ha
      have HE := Lib.hid ha
      clear ha HA
      go_wp2_with fail
      refine ret_span1 rfl rfl rfl ⟨by go_cell, by go_cell⟩ ⟨?_, by go_grown⟩
      rw [HE.out]
set_option maxHeartbeats 800000 in
set_option maxRecDepth 100000 in
theorem joined_one (b off : Nat) (l : List (Int × Int)) (w : World) (hl : l.length = 1)  (hok : ∀ s ∈ l, SpOk s) (hc : ∀ i s, l[i]? = some s → w.cell? ⟨b, off + i * 2, none⟩ = some (.int .i64 s.1) ∧ w.cell? ⟨b, off + i * 2 + 1, none⟩ = some (.int .i64 s.2)) :
    Calls Try.prog 88 #[.slice (some ⟨b, off, none⟩) 1 1] w fun e w' => e = .returned (.agg #[.int .i64 (sp1 l).1, .int .i64 (sp1 l).2]) ∧ Below w.heap.size w w' := by
  have HL := Lib.hid hl
  have HC := Lib.hid hc
  have HOK := Lib.hid hok
  obtain ⟨s0, hs0⟩ : ∃ s, l[0]? = some s := ⟨_, List.getElem?_eq_getElem (by omega)⟩
  have hb : b < w.heap.size := World.block_lt_of_cell? _ _ (hc 0 s0 hs0).1
  have a0 : w.cell? ⟨b, off, none⟩ = some (.int .i64 s0.1) := by simpa using (hc 0 s0 hs0).1
  have a1 : w.cell? ⟨b, off + 1, none⟩ = some (.int .i64 s0.2) := by simpa using (hc 0 s0 hs0).2
  have hf : sp1 (l.take 1) = s0 := by rw [take_snoc hs0]; simp [sp1, stepS]
  have HF := Lib.hid hf
  have i0 : (1 : Int) ≤ (1 : Int) := by omega
  have i2 : (0 : Int) < (1 : Int) := by omega
  have i3 : ((1 : Int)).toNat = 1 := rfl
  clear hl hc hok hf hs0
  go_enter Try.func88, Try.ntmps88
  go_wp2_with fail
  go_loopg [12] 1 (fun g s12 wr => s12 = .int .i64 0 ∧ Below w.heap.size w wr ∧ wr.cell? ⟨w.heap.size + 1, 0, none⟩ = some (.int .i64 s0.1) ∧ wr.cell? ⟨w.heap.size + 1, 1, none⟩ = some (.int .i64 s0.2) ∧ wr.cell? ⟨w.heap.size, 0, none⟩ = some (.int .i64 0) ∧ wr.cell? ⟨w.heap.size, 1, none⟩ = some (.int .i64 0) ∧ wr.frozen? ⟨w.heap.size, 0, none⟩ = false ∧ wr.frozen? ⟨w.heap.size, 1, none⟩ = false)
  case atStart =>
    refine ⟨rfl, by go_grown, ?_, ?_, ?_, ?_, ?_, ?_⟩ <;> first | go_cell | (go_simp; done)
  case round =>
    obtain ⟨rfl, hB, v0, v1, r0, r1, rf, rg⟩ := hrel
    have ha := HF.out
    rw [List.take_of_length_le (by rw [HL.out]; omega)] at ha
    have HE := Lib.hid ha
    clear ha HF
    go_wp2_with fail
    refine ret_span1 rfl rfl rfl ⟨by go_cell, by go_cell⟩ ⟨?_, by go_grown⟩
    rw [HE.out]
theorem joined_any (b off n c : Nat) (l : List (Int × Int)) (w : World) (hl : l.length = n) (hbig : n ≤ 1000000) (h0 : 0 < n) (hnc : n ≤ c) (hok : ∀ s ∈ l, SpOk s) (hc : ∀ i s, l[i]? = some s → w.cell? ⟨b, off + i * 2, none⟩ = some (.int .i64 s.1) ∧ w.cell? ⟨b, off + i * 2 + 1, none⟩ = some (.int .i64 s.2)) :
    Calls Try.prog 88 #[.slice (some ⟨b, off, none⟩) n c] w fun e w' => e = .returned (.agg #[.int .i64 (sp1 l).1, .int .i64 (sp1 l).2]) ∧ Below w.heap.size w w' := by
  obtain ⟨q, rfl⟩ : ∃ q, n = q + 1 := ⟨n - 1, by omega⟩
  by_cases hc1 : c = 1
  · subst hc1
    obtain rfl : q = 0 := by omega
    exact joined_one b off l w hl hok hc
  · exact joined_more b off q c l w hl hbig hnc hc1 hok hc
end Go.Proofs.Ytollpjdnahemeaa
