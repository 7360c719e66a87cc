import Derived.Test.YthkjejikhlcmfaaT9
import Derived.BigRegion
namespace Go.Proofs.Ythkjejikhlcmfaa
open Go.RowKit
set_option linter.unusedSimpArgs false
set_option linter.unusedVariables false
attribute [local go_sem ↓] Go.wp_at_zero Go.wp_at_succ

theorem Rows?.grown {w w' : World} {b : Nat} {row : Option Nat} {xs : List Rw} (h : Rows? w (some ⟨b, 0, none⟩) xs) (hg : w.grownBy w' row) (hb : b < w.heap.size) (hne : some b ≠ row) : Rows? w' (some ⟨b, 0, none⟩) xs := fun hn => by
  obtain ⟨b', off, e, hc⟩ := h hn
  cases e
  refine ⟨_, _, rfl, fun i r hr => rowAt_iff.2 fun k hk => ?_⟩
  exact (hg.cell_far ⟨b, _, none⟩ hb hne).trans (rowAt_iff.1 (hc i r hr) k hk)
theorem div_valid {pre suf : List Rw} {r x y : Rw} (h : validB (pre ++ r :: suf) = true) (hl : pre.length + (suf.length + 1) < 50) (hx : x.ok = true) (hy : y.ok = true) : validB (pre ++ x :: y :: suf) = true := by
  simp only [validB, Bool.and_eq_true, decide_eq_true_eq, List.all_eq_true, List.length_append, List.length_cons, List.mem_append, List.mem_cons] at h ⊢
  refine ⟨by omega, fun z hz => ?_⟩
  rcases hz with h1 | rfl | rfl | h1
  · exact h.2 z (.inl h1)
  · exact hx
  · exact hy
  · exact h.2 z (.inr (.inr h1))
theorem for_iff {a b c : Bool} (h : a = true ↔ (b = true ∨ c = true)) : a = (b || c) := by
  cases a <;> cases b <;> cases c <;> simp at h ⊢
theorem div_findS (temp a s : Int) (pre suf : List Rw) (r x y : Rw) (h1 : validB (pre ++ r :: suf) = true) (h2 : validB (pre ++ x :: y :: suf) = true) (hf : r.isFor temp a s = (x.isFor temp a s || y.isFor temp a s))
    (px : x.part = r.part) (tx : x.turn = r.turn) (py : y.part = r.part) (ty : y.turn = r.turn) : findS (pre ++ r :: suf) temp a s = findS (pre ++ x :: y :: suf) temp a s := by
  unfold findS
  rw [h1, h2, List.find?_append, List.find?_append]
  split
  · cases pre.find? (Rw.isFor temp a s) with
    | some q => rfl
    | none =>
      simp only [Option.none_or, List.find?_cons, hf]
      cases x.isFor temp a s <;> cases y.isFor temp a s <;> simp [px, tx, py, ty]
  · rfl
theorem below_base {w z w' : World} (h : Below w.heap.size w z) (k : Below z.heap.size z w') : Below w.heap.size w w' := below_after h k
set_option maxHeartbeats 1600000 in
set_option maxRecDepth 100000 in
theorem divided_same (temp a s q t : Int) (b off n c j : Nat) (xs pre suf : List Rw) (w : World) (hn : xs.length = n) (hnc : n ≤ c) (hx : Rows? w (some ⟨b, off, none⟩) xs) (hq0 : 0 ≤ q) (hq1 : q ≤ 255) (ht0 : 0 ≤ t) (ht1 : t ≤ 65535)
    (hj : q % (n : Int) = (j : Int)) (hj2 : j < n) (hn50 : n < 50) (h : (validB xs && useB temp a s) = true) (r : Rw) (ex : xs = pre ++ r :: suf) (hp : pre.length = j) (hok : -1000 ≤ r.lo ∧ r.lo ≤ r.hi ∧ -1000 ≤ r.hi ∧ r.hi ≤ 1000 ∧ 0 ≤ r.age ∧ r.age ≤ 10000 ∧ 0 ≤ r.since ∧ r.since ≤ 1000000000 ∧ 0 ≤ r.part ∧ r.part ≤ 500 ∧ 0 ≤ r.turn ∧ r.turn ≤ 8) (hs : r.lo = r.hi) :
    Calls Try.prog 7 #[.slice (some ⟨b, off, none⟩) n c, .int .u8 q, .int .u16 t, .int .i64 temp, .int .i64 a, .int .i64 s] w fun e w' => e = .returned (.bool true) ∧ Below w.heap.size w w' := by
  have hr1 : -1000 ≤ r.lo := by omega
  have hr2 : r.lo ≤ r.hi := by omega
  have hr3 : r.hi ≤ 1000 := by omega
  have e2 : xs[j]? = some r := by subst ex; rw [List.getElem?_append_right (by omega), hp]; simp
  have u := fun W h => usable_any temp a s (some ⟨b, off, none⟩) n c xs W hn (by omega) h
  rw [h] at u
  have hs2 : (r.lo == r.hi) = true := by simp [hs]
  clear hs
  have HU := Lib.hid u
  have HX := Lib.hid hx
  have HN := Lib.hid hn
  have HE2 := Lib.hid e2
  have HEX := Lib.hid ex
  have HP := Lib.hid hp
  have hn2 : (n : Int) ≠ 0 := by omega
  have hn3 : ((n : Int) == 0) = false := by simp; omega
  have hn4 : (n : Int) < 50 := by omega
  clear u hx hn h e2 ex hp
  go_enter Try.func7, Try.ntmps7
  go_wp2_with fail
  refine (head_any _).mono ?_
  rintro e w1 ⟨rfl, hb1⟩
  have hz1 := hb1.size
  have HX1 := Lib.hid (HX.out.below hb1)
  go_wp2_with fail
  refine (HU.out _ HX1.out).mono ?_
  rintro e w2 ⟨rfl, hb2⟩
  have hB2 : Below w.heap.size w w2 := below_after hb1 hb2
  have hz2 := hB2.size
  clear hb1 hb2
  have hx2 := HX.out.below hB2
  obtain ⟨b', off', hbo, hc⟩ := hx2 (by rw [HN.out]; omega)
  cases hbo
  obtain ⟨t0, t1, t2, t3, t4, t5⟩ := hc j r HE2.out
  clear hc hx2
  have i3 : (0 : Int) ≤ (j : Int) := by omega
  have i4 : (j : Int) < (n : Int) := by omega
  have i5 : (j : Int) ≤ (c : Int) := by omega
  go_upto_region 5 with fail
  go_cut [14, 15, 16] (fun s14 s15 s16 wx => ∃ g1 g2 : Nat, s14 = .int .i64 (j : Int) ∧ s15 = .pointer (some ⟨g1, 0, none⟩) ∧ s16 = .pointer (some ⟨g2, 0, none⟩) ∧ g1 ≠ g2 ∧ w.heap.size ≤ g1 ∧ w.heap.size ≤ g2 ∧ Below w.heap.size w wx ∧ RowAt wx g1 0 r ∧ RowAt wx g2 0 r ∧ wx.frozen? ⟨g1, 1, none⟩ = false ∧ wx.frozen? ⟨g2, 0, none⟩ = false)
  case first =>
    go_region
    all_goals (go_wp2_with fail)
    all_goals go_meet
    all_goals (refine ⟨_, _, by rw [hj], rfl, rfl, ?_, ?_, ?_, by go_grown, ⟨?_, ?_, ?_, ?_, ?_, ?_⟩, ⟨?_, ?_, ?_, ?_, ?_, ?_⟩, ?_, ?_⟩ <;> first | go_cell | (go_simp; done) | omega | (go_simp; omega))
  case rest =>
    obtain ⟨g1, g2, rfl, rfl, rfl, hne, hg1, hg2, hBc, hxx, hyy, f1, f2⟩ := hcut
    obtain ⟨c0, c1, c2, c3, c4, c5⟩ := hxx
    obtain ⟨d0, d1, d2, d3, d4, d5⟩ := hyy
    have hzc := hBc.size
    clear t0 t1 t2 t3 t4 t5
    go_wp2_with fail
    go_ret
    exact ⟨rfl, by assumption⟩

set_option maxHeartbeats 1600000 in
set_option maxRecDepth 100000 in
theorem divided_yes (temp a s q t : Int) (b off n c j : Nat) (xs pre suf : List Rw) (w : World) (hn : xs.length = n) (hnc : n ≤ c) (hx : Rows? w (some ⟨b, off, none⟩) xs) (hq0 : 0 ≤ q) (hq1 : q ≤ 255) (ht0 : 0 ≤ t) (ht1 : t ≤ 65535)
    (hj : q % (n : Int) = (j : Int)) (hj2 : j < n) (hn50 : n < 50) (h : (validB xs && useB temp a s) = true) (r : Rw) (ex : xs = pre ++ r :: suf) (hp : pre.length = j) (hok : -1000 ≤ r.lo ∧ r.lo ≤ r.hi ∧ -1000 ≤ r.hi ∧ r.hi ≤ 1000 ∧ 0 ≤ r.age ∧ r.age ≤ 10000 ∧ 0 ≤ r.since ∧ r.since ≤ 1000000000 ∧ 0 ≤ r.part ∧ r.part ≤ 500 ∧ 0 ≤ r.turn ∧ r.turn ≤ 8) (hs : r.lo < r.hi) (m : Int) (hm : t % (r.hi - r.lo) = m) (hm1 : 0 ≤ m) (hm2 : m < r.hi - r.lo) :
    Calls Try.prog 7 #[.slice (some ⟨b, off, none⟩) n c, .int .u8 q, .int .u16 t, .int .i64 temp, .int .i64 a, .int .i64 s] w fun e w' => e = .returned (.bool true) ∧ Below w.heap.size w w' := by
  have hr1 : -1000 ≤ r.lo := by omega
  have hr2 : r.lo ≤ r.hi := by omega
  have hr3 : r.hi ≤ 1000 := by omega
  have e2 : xs[j]? = some r := by subst ex; rw [List.getElem?_append_right (by omega), hp]; simp
  have u := fun W h => usable_any temp a s (some ⟨b, off, none⟩) n c xs W hn (by omega) h
  rw [h] at u
  have hs2 : (r.lo == r.hi) = false := by simp; omega
  have hxp : ∀ W, Below w.heap.size w W → Rows? W (some ⟨b, off, none⟩) pre := fun W hW => by
    have := (hx.below hW).take j
    rwa [ex, List.take_left' hp] at this
  have HXP := Lib.hid hxp
  have hsl : suf.length = n - (j + 1) := by rw [← hn, ex, List.length_append, hp, List.length_cons]; omega
  have hxs : ∀ W, Below w.heap.size w W → Rows? W (if c = j + 1 then some ⟨b, off, none⟩ else some ⟨b, off + (j + 1) * 6, none⟩) suf := fun W hW => by
    split
    · intro hpos; omega
    · have := (hx.below hW).drop (j + 1)
      rwa [show xs.drop (j + 1) = suf by rw [ex, show pre ++ r :: suf = (pre ++ [r]) ++ suf by simp]; exact List.drop_left' (by simp [hp])] at this
  have HXS := Lib.hid hxs
  have HSL := Lib.hid hsl
  have dv : validB (pre ++ (⟨r.lo, r.lo + m, r.age, r.since, r.part, r.turn⟩ : Rw) :: ⟨r.lo + m + 1, r.hi, r.age, r.since, r.part, r.turn⟩ :: suf) = true ∧ validB (pre ++ (⟨r.lo + m + 1, r.hi, r.age, r.since, r.part, r.turn⟩ : Rw) :: ⟨r.lo, r.lo + m, r.age, r.since, r.part, r.turn⟩ :: suf) = true := by
    have hv := and_left h
    rw [ex] at hv
    have hl : pre.length + (suf.length + 1) < 50 := by rw [ex, List.length_append, List.length_cons] at hn; omega
    exact ⟨div_valid hv hl (by simp only [Rw.ok, rowB, limB, Bool.and_eq_true, decide_eq_true_eq]; omega) (by simp only [Rw.ok, rowB, limB, Bool.and_eq_true, decide_eq_true_eq]; omega), div_valid hv hl (by simp only [Rw.ok, rowB, limB, Bool.and_eq_true, decide_eq_true_eq]; omega) (by simp only [Rw.ok, rowB, limB, Bool.and_eq_true, decide_eq_true_eq]; omega)⟩
  have sm1 := fun C k W h1 h2 => same_any temp a s (some ⟨b, off, none⟩) n c xs C (n + 1) k (pre ++ (⟨r.lo, r.lo + m, r.age, r.since, r.part, r.turn⟩ : Rw) :: ⟨r.lo + m + 1, r.hi, r.age, r.since, r.part, r.turn⟩ :: suf) W hn (by omega) h1 (by simp [hp, hsl]; omega) (by omega) h2 (by
    have hv := and_left h
    rw [ex] at hv ⊢
    exact div_findS temp a s pre suf r _ _ hv dv.1 (for_iff (by simp only [isFor_iff]; omega)) rfl rfl rfl rfl) (and_left h) (and_right h)
  have sm2 := fun C k W h1 h2 => same_any temp a s (some ⟨b, off, none⟩) n c xs C (n + 1) k (pre ++ (⟨r.lo + m + 1, r.hi, r.age, r.since, r.part, r.turn⟩ : Rw) :: ⟨r.lo, r.lo + m, r.age, r.since, r.part, r.turn⟩ :: suf) W hn (by omega) h1 (by simp [hp, hsl]; omega) (by omega) h2 (by
    have hv := and_left h
    rw [ex] at hv ⊢
    exact div_findS temp a s pre suf r _ _ hv dv.2 (for_iff (by simp only [isFor_iff]; omega)) rfl rfl rfl rfl) (and_left h) (and_right h)
  have HS1 := Lib.hid sm1
  have HS2 := Lib.hid sm2
  clear hxp hxs hsl sm1 sm2 dv hok
  have HU := Lib.hid u
  have HX := Lib.hid hx
  have HN := Lib.hid hn
  have HE2 := Lib.hid e2
  have HEX := Lib.hid ex
  have HP := Lib.hid hp
  have hn2 : (n : Int) ≠ 0 := by omega
  have hn3 : ((n : Int) == 0) = false := by simp; omega
  have hn4 : (n : Int) < 50 := by omega
  clear u hx hn h e2 ex hp
  go_enter Try.func7, Try.ntmps7
  go_wp2_with fail
  refine (head_any _).mono ?_
  rintro e w1 ⟨rfl, hb1⟩
  have hz1 := hb1.size
  have HX1 := Lib.hid (HX.out.below hb1)
  go_wp2_with fail
  refine (HU.out _ HX1.out).mono ?_
  rintro e w2 ⟨rfl, hb2⟩
  have hB2 : Below w.heap.size w w2 := below_after hb1 hb2
  have hz2 := hB2.size
  clear hb1 hb2
  have hx2 := HX.out.below hB2
  obtain ⟨b', off', hbo, hc⟩ := hx2 (by rw [HN.out]; omega)
  cases hbo
  obtain ⟨t0, t1, t2, t3, t4, t5⟩ := hc j r HE2.out
  clear hc hx2
  have i3 : (0 : Int) ≤ (j : Int) := by omega
  have i4 : (j : Int) < (n : Int) := by omega
  have i5 : (j : Int) ≤ (c : Int) := by omega
  go_upto_region 5 with fail
  go_cut [14, 15, 16] (fun s14 s15 s16 wx => ∃ g1 g2 : Nat, s14 = .int .i64 (j : Int) ∧ s15 = .pointer (some ⟨g1, 0, none⟩) ∧ s16 = .pointer (some ⟨g2, 0, none⟩) ∧ g1 ≠ g2 ∧ w.heap.size ≤ g1 ∧ w.heap.size ≤ g2 ∧ Below w.heap.size w wx ∧ RowAt wx g1 0 r ∧ RowAt wx g2 0 r ∧ wx.frozen? ⟨g1, 1, none⟩ = false ∧ wx.frozen? ⟨g2, 0, none⟩ = false)
  case first =>
    go_region
    all_goals (go_wp2_with fail)
    all_goals go_meet
    all_goals (refine ⟨_, _, by rw [hj], rfl, rfl, ?_, ?_, ?_, by go_grown, ⟨?_, ?_, ?_, ?_, ?_, ?_⟩, ⟨?_, ?_, ?_, ?_, ?_, ?_⟩, ?_, ?_⟩ <;> first | go_cell | (go_simp; done) | omega | (go_simp; omega))
  case rest =>
    obtain ⟨g1, g2, rfl, rfl, rfl, hne, hg1, hg2, hBc, hxx, hyy, f1, f2⟩ := hcut
    obtain ⟨c0, c1, c2, c3, c4, c5⟩ := hxx
    obtain ⟨d0, d1, d2, d3, d4, d5⟩ := hyy
    have hzc := hBc.size
    clear t0 t1 t2 t3 t4 t5
    go_wp2_with fail
    have wr1 : IntKind.i64.wrap (r.hi - r.lo) = r.hi - r.lo := IntWalk.i64_in _ (by omega)
    have wr2 : t.tmod (r.hi - r.lo) = m := by rw [Int.tmod_eq_emod_of_nonneg ht0]; exact hm
    have wr3 : IntKind.i64.wrap m = m := IntWalk.i64_in _ (by omega)
    have wr4 : IntKind.i64.wrap (r.lo + m) = r.lo + m := IntWalk.i64_in _ (by omega)
    have wr5 : ¬ (r.hi - r.lo = 0) := by omega
    have wr6 : ((r.hi - r.lo) == 0) = false := by simp; omega
    go_region
    clear wr1 wr2 wr3 wr4 wr5 wr6 hm
    go_upto_region 10 with fail
    have hBz : Below w.heap.size w ((wc.setCell ⟨g1, 1, none⟩ (.int .i64 (r.lo + m))).setCell ⟨g2, 0, none⟩ (.int .i64 (r.lo + m + 1))).drew := by go_grown
    have hne2 := Ne.symm hne
    have x0 : (((wc.setCell ⟨g1, 1, none⟩ (.int .i64 (r.lo + m))).setCell ⟨g2, 0, none⟩ (.int .i64 (r.lo + m + 1))).drew).cell? ⟨g1, 0, none⟩ = some (.int .i64 r.lo) := by go_cell
    have x1 : (((wc.setCell ⟨g1, 1, none⟩ (.int .i64 (r.lo + m))).setCell ⟨g2, 0, none⟩ (.int .i64 (r.lo + m + 1))).drew).cell? ⟨g1, 1, none⟩ = some (.int .i64 (r.lo + m)) := by go_cell
    have x2 : (((wc.setCell ⟨g1, 1, none⟩ (.int .i64 (r.lo + m))).setCell ⟨g2, 0, none⟩ (.int .i64 (r.lo + m + 1))).drew).cell? ⟨g1, 2, none⟩ = some (.int .i64 r.age) := by go_cell
    have x3 : (((wc.setCell ⟨g1, 1, none⟩ (.int .i64 (r.lo + m))).setCell ⟨g2, 0, none⟩ (.int .i64 (r.lo + m + 1))).drew).cell? ⟨g1, 3, none⟩ = some (.int .i64 r.since) := by go_cell
    have x4 : (((wc.setCell ⟨g1, 1, none⟩ (.int .i64 (r.lo + m))).setCell ⟨g2, 0, none⟩ (.int .i64 (r.lo + m + 1))).drew).cell? ⟨g1, 4, none⟩ = some (.int .i64 r.part) := by go_cell
    have x5 : (((wc.setCell ⟨g1, 1, none⟩ (.int .i64 (r.lo + m))).setCell ⟨g2, 0, none⟩ (.int .i64 (r.lo + m + 1))).drew).cell? ⟨g1, 5, none⟩ = some (.int .i64 r.turn) := by go_cell
    have y0 : (((wc.setCell ⟨g1, 1, none⟩ (.int .i64 (r.lo + m))).setCell ⟨g2, 0, none⟩ (.int .i64 (r.lo + m + 1))).drew).cell? ⟨g2, 0, none⟩ = some (.int .i64 (r.lo + m + 1)) := by go_cell
    have y1 : (((wc.setCell ⟨g1, 1, none⟩ (.int .i64 (r.lo + m))).setCell ⟨g2, 0, none⟩ (.int .i64 (r.lo + m + 1))).drew).cell? ⟨g2, 1, none⟩ = some (.int .i64 r.hi) := by go_cell
    have y2 : (((wc.setCell ⟨g1, 1, none⟩ (.int .i64 (r.lo + m))).setCell ⟨g2, 0, none⟩ (.int .i64 (r.lo + m + 1))).drew).cell? ⟨g2, 2, none⟩ = some (.int .i64 r.age) := by go_cell
    have y3 : (((wc.setCell ⟨g1, 1, none⟩ (.int .i64 (r.lo + m))).setCell ⟨g2, 0, none⟩ (.int .i64 (r.lo + m + 1))).drew).cell? ⟨g2, 3, none⟩ = some (.int .i64 r.since) := by go_cell
    have y4 : (((wc.setCell ⟨g1, 1, none⟩ (.int .i64 (r.lo + m))).setCell ⟨g2, 0, none⟩ (.int .i64 (r.lo + m + 1))).drew).cell? ⟨g2, 4, none⟩ = some (.int .i64 r.part) := by go_cell
    have y5 : (((wc.setCell ⟨g1, 1, none⟩ (.int .i64 (r.lo + m))).setCell ⟨g2, 0, none⟩ (.int .i64 (r.lo + m + 1))).drew).cell? ⟨g2, 5, none⟩ = some (.int .i64 r.turn) := by go_cell
    clear c0 c1 c2 c3 c4 c5 d0 d1 d2 d3 d4 d5 f1 f2
    generalize ((wc.setCell ⟨g1, 1, none⟩ (.int .i64 (r.lo + m))).setCell ⟨g2, 0, none⟩ (.int .i64 (r.lo + m + 1))).drew = z at *
    clear hBc hzc
    clear wc
    have hzz := hBz.size
    have lg1 := World.block_lt_of_cell? _ _ x0
    have lg2 := World.block_lt_of_cell? _ _ y0
    simp only at lg1 lg2
    have k1 : (0 : Int) ≤ (j : Int) + 1 := by omega
    have k2 : (j : Int) + 1 ≤ (n : Int) := by omega
    have k3 : (n : Int) ≤ (c : Int) := by omega
    have k4 : ((j : Int) + 1).toNat = j + 1 := by omega
    have k5 : IntKind.i64.wrap ((j : Int) + 1) = (j : Int) + 1 := IntWalk.i64_in _ (by omega)
    have HSZ := Lib.hid (show ∀ w', Below z.heap.size z w' → Below z.heap.size z w' ∧ w'.cell? ⟨g1, 0, none⟩ = some (.int .i64 r.lo) ∧ w'.cell? ⟨g1, 1, none⟩ = some (.int .i64 (r.lo + m)) ∧ w'.cell? ⟨g1, 2, none⟩ = some (.int .i64 r.age) ∧ w'.cell? ⟨g1, 3, none⟩ = some (.int .i64 r.since) ∧ w'.cell? ⟨g1, 4, none⟩ = some (.int .i64 r.part) ∧ w'.cell? ⟨g1, 5, none⟩ = some (.int .i64 r.turn) ∧ w'.cell? ⟨g2, 0, none⟩ = some (.int .i64 (r.lo + m + 1)) ∧ w'.cell? ⟨g2, 1, none⟩ = some (.int .i64 r.hi) ∧ w'.cell? ⟨g2, 2, none⟩ = some (.int .i64 r.age) ∧ w'.cell? ⟨g2, 3, none⟩ = some (.int .i64 r.since) ∧ w'.cell? ⟨g2, 4, none⟩ = some (.int .i64 r.part) ∧ w'.cell? ⟨g2, 5, none⟩ = some (.int .i64 r.turn) from fun w' h9 => ⟨h9, (h9.cell lg1).trans x0, (h9.cell lg1).trans x1, (h9.cell lg1).trans x2, (h9.cell lg1).trans x3, (h9.cell lg1).trans x4, (h9.cell lg1).trans x5, (h9.cell lg2).trans y0, (h9.cell lg2).trans y1, (h9.cell lg2).trans y2, (h9.cell lg2).trans y3, (h9.cell lg2).trans y4, (h9.cell lg2).trans y5⟩)
    have HOA := Lib.hid (show ((z.alloc (.cells #[] 32)).drew).ownsRow z.heap.size 32 6 (.slice (some ⟨z.heap.size, 0, none⟩) 0 0) 0 (flat []) from own_empty z z.heap.size (Nat.le_refl _))
    have HOA2 := Lib.hid (show (((z.alloc (.cells #[] 32)).alloc (.cells #[.int .i64 r.lo, .int .i64 (r.lo + m), .int .i64 r.age, .int .i64 r.since, .int .i64 r.part, .int .i64 r.turn, .int .i64 (r.lo + m + 1), .int .i64 r.hi, .int .i64 r.age, .int .i64 r.since, .int .i64 r.part, .int .i64 r.turn] 32)).drew).ownsRow z.heap.size 32 6 (.slice (some ⟨z.heap.size, 0, none⟩) 0 0) 0 (flat []) from (own_empty z z.heap.size (Nat.le_refl _)).alloc _)
    have HOB := Lib.hid (show (((z.alloc (.cells #[.int .i64 r.lo, .int .i64 (r.lo + m), .int .i64 r.age, .int .i64 r.since, .int .i64 r.part, .int .i64 r.turn, .int .i64 (r.lo + m + 1), .int .i64 r.hi, .int .i64 r.age, .int .i64 r.since, .int .i64 r.part, .int .i64 r.turn] 32)).alloc (.cells #[] 32)).drew).ownsRow z.heap.size 32 6 (.slice (some ⟨z.heap.size + 1, 0, none⟩) 0 0) 0 (flat []) from by
      have h9 := own_empty (z.alloc (.cells #[.int .i64 r.lo, .int .i64 (r.lo + m), .int .i64 r.age, .int .i64 r.since, .int .i64 r.part, .int .i64 r.turn, .int .i64 (r.lo + m + 1), .int .i64 r.hi, .int .i64 r.age, .int .i64 r.since, .int .i64 r.part, .int .i64 r.turn] 32)) z.heap.size (by simp)
      simp only [World.size_alloc] at h9
      exact h9)
    go_upto_region 10 with fail
    go_cut [17] (fun so W9 => ∃ (C : Option Addr) (k : Nat), so = .slice C (n + 1) k ∧ Below z.heap.size z W9 ∧ Rows? W9 C (pre ++ (⟨r.lo, r.lo + m, r.age, r.since, r.part, r.turn⟩ : Rw) :: (⟨r.lo + m + 1, r.hi, r.age, r.since, r.part, r.turn⟩ : Rw) :: suf))
    case first =>
      go_region_held3 (fun w' => Below z.heap.size z w' ∧ w'.cell? ⟨g1, 0, none⟩ = some (.int .i64 r.lo) ∧ w'.cell? ⟨g1, 1, none⟩ = some (.int .i64 (r.lo + m)) ∧ w'.cell? ⟨g1, 2, none⟩ = some (.int .i64 r.age) ∧ w'.cell? ⟨g1, 3, none⟩ = some (.int .i64 r.since) ∧ w'.cell? ⟨g1, 4, none⟩ = some (.int .i64 r.part) ∧ w'.cell? ⟨g1, 5, none⟩ = some (.int .i64 r.turn) ∧ w'.cell? ⟨g2, 0, none⟩ = some (.int .i64 (r.lo + m + 1)) ∧ w'.cell? ⟨g2, 1, none⟩ = some (.int .i64 r.hi) ∧ w'.cell? ⟨g2, 2, none⟩ = some (.int .i64 r.age) ∧ w'.cell? ⟨g2, 3, none⟩ = some (.int .i64 r.since) ∧ w'.cell? ⟨g2, 4, none⟩ = some (.int .i64 r.part) ∧ w'.cell? ⟨g2, 5, none⟩ = some (.int .i64 r.turn))
        ((refine HSZ.out _ ?_; (first | (with_reducible assumption) | (go_grown; done) | (exact Below.drew (by go_grown)))))
        (first | ((go_split_ands; refine step_append_rows _ (by rfl) (.tmp 80) (.tmp 83) (by rfl) z.heap.size (.slice (some ⟨z.heap.size, 0, none⟩) 0 0) 0 [] (by rfl) (by with_reducible exact HOA.out) ⟨b, off, none⟩ j c pre (by rfl) HP.out (HXP.out _ (below_base hBz (by assumption))) (by omega) (by first | (simp; done) | (simp; omega)) ?_; intro v1 w3 hown1 hgr hat1; have hB9 : Below z.heap.size z w3 := Below.grown (by assumption) hgr (by first | (simp; done) | (simp; omega)) (by intro k hk; simp only [Value.ownBlock, Option.some.injEq] at hk; omega); have hz9 := hB9.size; have HO1 := Lib.hid (show w3.ownsRow z.heap.size 32 6 v1 j (flat pre) from by simpa using hown1); have hob1 := fun k hk => (hown1.lt k hk).1; clear hown1)) | ((go_split_ands; refine step_append_rows _ (by rfl) (.tmp 80) (.tmp 83) (by rfl) z.heap.size (.slice (some ⟨z.heap.size, 0, none⟩) 0 0) 0 [] (by rfl) (by with_reducible exact HOA2.out) ⟨b, off, none⟩ j c pre (by rfl) HP.out (HXP.out _ (below_base hBz (by assumption))) (by omega) (by first | (simp; done) | (simp; omega)) ?_; intro v1 w3 hown1 hgr hat1; have hB9 : Below z.heap.size z w3 := Below.grown (by assumption) hgr (by first | (simp; done) | (simp; omega)) (by intro k hk; simp only [Value.ownBlock, Option.some.injEq] at hk; omega); have hz9 := hB9.size; have HO1 := Lib.hid (show w3.ownsRow z.heap.size 32 6 v1 j (flat pre) from by simpa using hown1); have hob1 := fun k hk => (hown1.lt k hk).1; clear hown1; have nB : Rows? w3 (some ⟨(z.heap.size + 1), 0, none⟩) [(⟨r.lo, r.lo + m, r.age, r.since, r.part, r.turn⟩ : Rw), (⟨r.lo + m + 1, r.hi, r.age, r.since, r.part, r.turn⟩ : Rw)] := Rows?.grown (rows2 ⟨by go_cell, by go_cell, by go_cell, by go_cell, by go_cell, by go_cell⟩ ⟨by go_cell, by go_cell, by go_cell, by go_cell, by go_cell, by go_cell⟩) hgr (by first | (simp; done) | (simp; omega)) (by simp [Value.ownBlock]))) | ((go_split_ands; refine step_append_rows _ (by rfl) (.tmp 80) (.tmp 83) (by rfl) z.heap.size (.slice (some ⟨(z.heap.size + 1), 0, none⟩) 0 0) 0 [] (by rfl) (by with_reducible exact HOB.out) ⟨b, off, none⟩ j c pre (by rfl) HP.out (HXP.out _ (below_base hBz (by assumption))) (by omega) (by first | (simp; done) | (simp; omega)) ?_; intro v1 w3 hown1 hgr hat1; have hB9 : Below z.heap.size z w3 := Below.grown (by assumption) hgr (by first | (simp; done) | (simp; omega)) (by intro k hk; simp only [Value.ownBlock, Option.some.injEq] at hk; omega); have hz9 := hB9.size; have HO1 := Lib.hid (show w3.ownsRow z.heap.size 32 6 v1 j (flat pre) from by simpa using hown1); have hob1 := fun k hk => (hown1.lt k hk).1; clear hown1; have nB : Rows? w3 (some ⟨z.heap.size, 0, none⟩) [(⟨r.lo, r.lo + m, r.age, r.since, r.part, r.turn⟩ : Rw), (⟨r.lo + m + 1, r.hi, r.age, r.since, r.part, r.turn⟩ : Rw)] := Rows?.grown (rows2 ⟨by go_cell, by go_cell, by go_cell, by go_cell, by go_cell, by go_cell⟩ ⟨by go_cell, by go_cell, by go_cell, by go_cell, by go_cell, by go_cell⟩) hgr (by first | (simp; done) | (simp; omega)) (by simp [Value.ownBlock]))) | ((go_split_ands; refine step_append_rows _ (by rfl) (.tmp 84) (.tmp 87) (by rfl) z.heap.size v1 j pre (by rfl) (by with_reducible exact HO1.out.alloc _) ⟨w3.heap.size, 0, none⟩ 2 2 [(⟨r.lo, r.lo + m, r.age, r.since, r.part, r.turn⟩ : Rw), (⟨r.lo + m + 1, r.hi, r.age, r.since, r.part, r.turn⟩ : Rw)] (by rfl) rfl (rows2 ⟨by go_cell, by go_cell, by go_cell, by go_cell, by go_cell, by go_cell⟩ ⟨by go_cell, by go_cell, by go_cell, by go_cell, by go_cell, by go_cell⟩) (by omega) (by first | assumption | (simp; omega)) ?_; intro v2 w4 hown2 hgr2 hat2; have hB10 : Below z.heap.size z w4 := Below.grown (by assumption) hgr2 (by first | assumption | (simp; omega)) (fun k hk => hob1 k hk); have hz10 := hB10.size; have hob3 := fun k hk => (hown2.lt k hk).1; have HO2 := Lib.hid (show w4.ownsRow z.heap.size 32 6 v2 (j + 2) (flat (pre ++ [(⟨r.lo, r.lo + m, r.age, r.since, r.part, r.turn⟩ : Rw), (⟨r.lo + m + 1, r.hi, r.age, r.since, r.part, r.turn⟩ : Rw)])) from hown2); clear hown2)) | ((go_split_ands; refine step_append_rows _ (by rfl) (.tmp 84) (.tmp 87) (by rfl) z.heap.size v1 j pre (by rfl) (by with_reducible exact HO1.out) ⟨(z.heap.size + 1), 0, none⟩ 2 2 [(⟨r.lo, r.lo + m, r.age, r.since, r.part, r.turn⟩ : Rw), (⟨r.lo + m + 1, r.hi, r.age, r.since, r.part, r.turn⟩ : Rw)] (by rfl) rfl nB (by omega) (by first | assumption | (simp; omega)) ?_; intro v2 w4 hown2 hgr2 hat2; have hB10 : Below z.heap.size z w4 := Below.grown (by assumption) hgr2 (by first | assumption | (simp; omega)) (fun k hk => hob1 k hk); have hz10 := hB10.size; have hob3 := fun k hk => (hown2.lt k hk).1; have HO2 := Lib.hid (show w4.ownsRow z.heap.size 32 6 v2 (j + 2) (flat (pre ++ [(⟨r.lo, r.lo + m, r.age, r.since, r.part, r.turn⟩ : Rw), (⟨r.lo + m + 1, r.hi, r.age, r.since, r.part, r.turn⟩ : Rw)])) from hown2); clear hown2)) | ((go_split_ands; refine step_append_rows _ (by rfl) (.tmp 84) (.tmp 87) (by rfl) z.heap.size v1 j pre (by rfl) (by with_reducible exact HO1.out) ⟨z.heap.size, 0, none⟩ 2 2 [(⟨r.lo, r.lo + m, r.age, r.since, r.part, r.turn⟩ : Rw), (⟨r.lo + m + 1, r.hi, r.age, r.since, r.part, r.turn⟩ : Rw)] (by rfl) rfl nB (by omega) (by first | assumption | (simp; omega)) ?_; intro v2 w4 hown2 hgr2 hat2; have hB10 : Below z.heap.size z w4 := Below.grown (by assumption) hgr2 (by first | assumption | (simp; omega)) (fun k hk => hob1 k hk); have hz10 := hB10.size; have hob3 := fun k hk => (hown2.lt k hk).1; have HO2 := Lib.hid (show w4.ownsRow z.heap.size 32 6 v2 (j + 2) (flat (pre ++ [(⟨r.lo, r.lo + m, r.age, r.since, r.part, r.turn⟩ : Rw), (⟨r.lo + m + 1, r.hi, r.age, r.since, r.part, r.turn⟩ : Rw)])) from hown2); clear hown2)) | ((go_split_ands; refine step_append_rows2 _ (by rfl) (.tmp 88) (.tmp 92) (by rfl) z.heap.size v2 (j + 2) (pre ++ [(⟨r.lo, r.lo + m, r.age, r.since, r.part, r.turn⟩ : Rw), (⟨r.lo + m + 1, r.hi, r.age, r.since, r.part, r.turn⟩ : Rw)]) (by rfl) (by with_reducible exact HO2.out) (if c = j + 1 then some ⟨b, off, none⟩ else some ⟨b, off + (j + 1) * 6, none⟩) (by split <;> simp) (n - (j + 1)) (c - (j + 1)) suf (by rfl) HSL.out (HXS.out _ (below_base hBz (by assumption))) (by omega) hz10 ?_; intro v3 w5 hown3 hgr3 hat3; have hB11 : Below z.heap.size z w5 := Below.grown (by assumption) hgr3 hz10 (fun k hk => hob3 k hk))))
      all_goals (obtain ⟨C9, k9, rfl, hlen9, hnk9, hr9⟩ := Rows?.of_own hown3)
      all_goals (generalize (if c = j + 1 then (some ⟨b, off, none⟩ : Option Addr) else some ⟨b, off + (j + 1) * 6, none⟩) = AD9)
      all_goals (go_wp2_with fail)
      all_goals go_meet
      all_goals (refine ⟨C9, k9, ?_, hB11, by simpa using hr9⟩ <;> first | (with_reducible assumption) | (congr 1; omega))
    case rest =>
      obtain ⟨C10, k10, rfl, hBBwc, hr10⟩ := hcut
      have hBwc : Below w.heap.size w wc := below_base hBz hBBwc
      have hzwc := hBwc.size
      have hzzwc := hBBwc.size
      clear HOA HOA2 HOB HSZ
      have x0 : wc.cell? ⟨g1, 0, none⟩ = some (.int .i64 r.lo) := (hBBwc.cell lg1).trans x0
      have x1 : wc.cell? ⟨g1, 1, none⟩ = some (.int .i64 (r.lo + m)) := (hBBwc.cell lg1).trans x1
      have x2 : wc.cell? ⟨g1, 2, none⟩ = some (.int .i64 r.age) := (hBBwc.cell lg1).trans x2
      have x3 : wc.cell? ⟨g1, 3, none⟩ = some (.int .i64 r.since) := (hBBwc.cell lg1).trans x3
      have x4 : wc.cell? ⟨g1, 4, none⟩ = some (.int .i64 r.part) := (hBBwc.cell lg1).trans x4
      have x5 : wc.cell? ⟨g1, 5, none⟩ = some (.int .i64 r.turn) := (hBBwc.cell lg1).trans x5
      have y0 : wc.cell? ⟨g2, 0, none⟩ = some (.int .i64 (r.lo + m + 1)) := (hBBwc.cell lg2).trans y0
      have y1 : wc.cell? ⟨g2, 1, none⟩ = some (.int .i64 r.hi) := (hBBwc.cell lg2).trans y1
      have y2 : wc.cell? ⟨g2, 2, none⟩ = some (.int .i64 r.age) := (hBBwc.cell lg2).trans y2
      have y3 : wc.cell? ⟨g2, 3, none⟩ = some (.int .i64 r.since) := (hBBwc.cell lg2).trans y3
      have y4 : wc.cell? ⟨g2, 4, none⟩ = some (.int .i64 r.part) := (hBBwc.cell lg2).trans y4
      have y5 : wc.cell? ⟨g2, 5, none⟩ = some (.int .i64 r.turn) := (hBBwc.cell lg2).trans y5
      have lg1 : g1 < wc.heap.size := by omega
      have lg2 : g2 < wc.heap.size := by omega
      have HSZ := Lib.hid (show ∀ w', Below wc.heap.size wc w' → Below wc.heap.size wc w' ∧ w'.cell? ⟨g1, 0, none⟩ = some (.int .i64 r.lo) ∧ w'.cell? ⟨g1, 1, none⟩ = some (.int .i64 (r.lo + m)) ∧ w'.cell? ⟨g1, 2, none⟩ = some (.int .i64 r.age) ∧ w'.cell? ⟨g1, 3, none⟩ = some (.int .i64 r.since) ∧ w'.cell? ⟨g1, 4, none⟩ = some (.int .i64 r.part) ∧ w'.cell? ⟨g1, 5, none⟩ = some (.int .i64 r.turn) ∧ w'.cell? ⟨g2, 0, none⟩ = some (.int .i64 (r.lo + m + 1)) ∧ w'.cell? ⟨g2, 1, none⟩ = some (.int .i64 r.hi) ∧ w'.cell? ⟨g2, 2, none⟩ = some (.int .i64 r.age) ∧ w'.cell? ⟨g2, 3, none⟩ = some (.int .i64 r.since) ∧ w'.cell? ⟨g2, 4, none⟩ = some (.int .i64 r.part) ∧ w'.cell? ⟨g2, 5, none⟩ = some (.int .i64 r.turn) from fun w' h9 => ⟨h9, (h9.cell lg1).trans x0, (h9.cell lg1).trans x1, (h9.cell lg1).trans x2, (h9.cell lg1).trans x3, (h9.cell lg1).trans x4, (h9.cell lg1).trans x5, (h9.cell lg2).trans y0, (h9.cell lg2).trans y1, (h9.cell lg2).trans y2, (h9.cell lg2).trans y3, (h9.cell lg2).trans y4, (h9.cell lg2).trans y5⟩)
      have HOA := Lib.hid (show ((wc.alloc (.cells #[] 32)).drew).ownsRow wc.heap.size 32 6 (.slice (some ⟨wc.heap.size, 0, none⟩) 0 0) 0 (flat []) from own_empty wc wc.heap.size (Nat.le_refl _))
      have HOA2 := Lib.hid (show (((wc.alloc (.cells #[] 32)).alloc (.cells #[.int .i64 (r.lo + m + 1), .int .i64 r.hi, .int .i64 r.age, .int .i64 r.since, .int .i64 r.part, .int .i64 r.turn, .int .i64 r.lo, .int .i64 (r.lo + m), .int .i64 r.age, .int .i64 r.since, .int .i64 r.part, .int .i64 r.turn] 32)).drew).ownsRow wc.heap.size 32 6 (.slice (some ⟨wc.heap.size, 0, none⟩) 0 0) 0 (flat []) from (own_empty wc wc.heap.size (Nat.le_refl _)).alloc _)
      have HOB := Lib.hid (show (((wc.alloc (.cells #[.int .i64 (r.lo + m + 1), .int .i64 r.hi, .int .i64 r.age, .int .i64 r.since, .int .i64 r.part, .int .i64 r.turn, .int .i64 r.lo, .int .i64 (r.lo + m), .int .i64 r.age, .int .i64 r.since, .int .i64 r.part, .int .i64 r.turn] 32)).alloc (.cells #[] 32)).drew).ownsRow wc.heap.size 32 6 (.slice (some ⟨wc.heap.size + 1, 0, none⟩) 0 0) 0 (flat []) from by
        have h9 := own_empty (wc.alloc (.cells #[.int .i64 (r.lo + m + 1), .int .i64 r.hi, .int .i64 r.age, .int .i64 r.since, .int .i64 r.part, .int .i64 r.turn, .int .i64 r.lo, .int .i64 (r.lo + m), .int .i64 r.age, .int .i64 r.since, .int .i64 r.part, .int .i64 r.turn] 32)) wc.heap.size (by simp)
        simp only [World.size_alloc] at h9
        exact h9)
      go_upto_region 11 with fail
      go_cut [18] (fun so W9 => ∃ (C : Option Addr) (k : Nat), so = .slice C (n + 1) k ∧ Below wc.heap.size wc W9 ∧ Rows? W9 C (pre ++ (⟨r.lo + m + 1, r.hi, r.age, r.since, r.part, r.turn⟩ : Rw) :: (⟨r.lo, r.lo + m, r.age, r.since, r.part, r.turn⟩ : Rw) :: suf))
      case first =>
        go_region_held3 (fun w' => Below wc.heap.size wc w' ∧ w'.cell? ⟨g1, 0, none⟩ = some (.int .i64 r.lo) ∧ w'.cell? ⟨g1, 1, none⟩ = some (.int .i64 (r.lo + m)) ∧ w'.cell? ⟨g1, 2, none⟩ = some (.int .i64 r.age) ∧ w'.cell? ⟨g1, 3, none⟩ = some (.int .i64 r.since) ∧ w'.cell? ⟨g1, 4, none⟩ = some (.int .i64 r.part) ∧ w'.cell? ⟨g1, 5, none⟩ = some (.int .i64 r.turn) ∧ w'.cell? ⟨g2, 0, none⟩ = some (.int .i64 (r.lo + m + 1)) ∧ w'.cell? ⟨g2, 1, none⟩ = some (.int .i64 r.hi) ∧ w'.cell? ⟨g2, 2, none⟩ = some (.int .i64 r.age) ∧ w'.cell? ⟨g2, 3, none⟩ = some (.int .i64 r.since) ∧ w'.cell? ⟨g2, 4, none⟩ = some (.int .i64 r.part) ∧ w'.cell? ⟨g2, 5, none⟩ = some (.int .i64 r.turn))
          ((refine HSZ.out _ ?_; (first | (with_reducible assumption) | (go_grown; done) | (exact Below.drew (by go_grown)))))
          (first | ((go_split_ands; refine step_append_rows _ (by rfl) (.tmp 94) (.tmp 97) (by rfl) wc.heap.size (.slice (some ⟨wc.heap.size, 0, none⟩) 0 0) 0 [] (by rfl) (by with_reducible exact HOA.out) ⟨b, off, none⟩ j c pre (by rfl) HP.out (HXP.out _ (below_base hBwc (by assumption))) (by omega) (by first | (simp; done) | (simp; omega)) ?_; intro v1 w3 hown1 hgr hat1; have hB9 : Below wc.heap.size wc w3 := Below.grown (by assumption) hgr (by first | (simp; done) | (simp; omega)) (by intro k hk; simp only [Value.ownBlock, Option.some.injEq] at hk; omega); have hz9 := hB9.size; have HO1 := Lib.hid (show w3.ownsRow wc.heap.size 32 6 v1 j (flat pre) from by simpa using hown1); have hob1 := fun k hk => (hown1.lt k hk).1; clear hown1)) | ((go_split_ands; refine step_append_rows _ (by rfl) (.tmp 94) (.tmp 97) (by rfl) wc.heap.size (.slice (some ⟨wc.heap.size, 0, none⟩) 0 0) 0 [] (by rfl) (by with_reducible exact HOA2.out) ⟨b, off, none⟩ j c pre (by rfl) HP.out (HXP.out _ (below_base hBwc (by assumption))) (by omega) (by first | (simp; done) | (simp; omega)) ?_; intro v1 w3 hown1 hgr hat1; have hB9 : Below wc.heap.size wc w3 := Below.grown (by assumption) hgr (by first | (simp; done) | (simp; omega)) (by intro k hk; simp only [Value.ownBlock, Option.some.injEq] at hk; omega); have hz9 := hB9.size; have HO1 := Lib.hid (show w3.ownsRow wc.heap.size 32 6 v1 j (flat pre) from by simpa using hown1); have hob1 := fun k hk => (hown1.lt k hk).1; clear hown1; have nB : Rows? w3 (some ⟨(wc.heap.size + 1), 0, none⟩) [(⟨r.lo + m + 1, r.hi, r.age, r.since, r.part, r.turn⟩ : Rw), (⟨r.lo, r.lo + m, r.age, r.since, r.part, r.turn⟩ : Rw)] := Rows?.grown (rows2 ⟨by go_cell, by go_cell, by go_cell, by go_cell, by go_cell, by go_cell⟩ ⟨by go_cell, by go_cell, by go_cell, by go_cell, by go_cell, by go_cell⟩) hgr (by first | (simp; done) | (simp; omega)) (by simp [Value.ownBlock]))) | ((go_split_ands; refine step_append_rows _ (by rfl) (.tmp 94) (.tmp 97) (by rfl) wc.heap.size (.slice (some ⟨(wc.heap.size + 1), 0, none⟩) 0 0) 0 [] (by rfl) (by with_reducible exact HOB.out) ⟨b, off, none⟩ j c pre (by rfl) HP.out (HXP.out _ (below_base hBwc (by assumption))) (by omega) (by first | (simp; done) | (simp; omega)) ?_; intro v1 w3 hown1 hgr hat1; have hB9 : Below wc.heap.size wc w3 := Below.grown (by assumption) hgr (by first | (simp; done) | (simp; omega)) (by intro k hk; simp only [Value.ownBlock, Option.some.injEq] at hk; omega); have hz9 := hB9.size; have HO1 := Lib.hid (show w3.ownsRow wc.heap.size 32 6 v1 j (flat pre) from by simpa using hown1); have hob1 := fun k hk => (hown1.lt k hk).1; clear hown1; have nB : Rows? w3 (some ⟨wc.heap.size, 0, none⟩) [(⟨r.lo + m + 1, r.hi, r.age, r.since, r.part, r.turn⟩ : Rw), (⟨r.lo, r.lo + m, r.age, r.since, r.part, r.turn⟩ : Rw)] := Rows?.grown (rows2 ⟨by go_cell, by go_cell, by go_cell, by go_cell, by go_cell, by go_cell⟩ ⟨by go_cell, by go_cell, by go_cell, by go_cell, by go_cell, by go_cell⟩) hgr (by first | (simp; done) | (simp; omega)) (by simp [Value.ownBlock]))) | ((go_split_ands; refine step_append_rows _ (by rfl) (.tmp 98) (.tmp 101) (by rfl) wc.heap.size v1 j pre (by rfl) (by with_reducible exact HO1.out.alloc _) ⟨w3.heap.size, 0, none⟩ 2 2 [(⟨r.lo + m + 1, r.hi, r.age, r.since, r.part, r.turn⟩ : Rw), (⟨r.lo, r.lo + m, r.age, r.since, r.part, r.turn⟩ : Rw)] (by rfl) rfl (rows2 ⟨by go_cell, by go_cell, by go_cell, by go_cell, by go_cell, by go_cell⟩ ⟨by go_cell, by go_cell, by go_cell, by go_cell, by go_cell, by go_cell⟩) (by omega) (by first | assumption | (simp; omega)) ?_; intro v2 w4 hown2 hgr2 hat2; have hB10 : Below wc.heap.size wc w4 := Below.grown (by assumption) hgr2 (by first | assumption | (simp; omega)) (fun k hk => hob1 k hk); have hz10 := hB10.size; have hob3 := fun k hk => (hown2.lt k hk).1; have HO2 := Lib.hid (show w4.ownsRow wc.heap.size 32 6 v2 (j + 2) (flat (pre ++ [(⟨r.lo + m + 1, r.hi, r.age, r.since, r.part, r.turn⟩ : Rw), (⟨r.lo, r.lo + m, r.age, r.since, r.part, r.turn⟩ : Rw)])) from hown2); clear hown2)) | ((go_split_ands; refine step_append_rows _ (by rfl) (.tmp 98) (.tmp 101) (by rfl) wc.heap.size v1 j pre (by rfl) (by with_reducible exact HO1.out) ⟨(wc.heap.size + 1), 0, none⟩ 2 2 [(⟨r.lo + m + 1, r.hi, r.age, r.since, r.part, r.turn⟩ : Rw), (⟨r.lo, r.lo + m, r.age, r.since, r.part, r.turn⟩ : Rw)] (by rfl) rfl nB (by omega) (by first | assumption | (simp; omega)) ?_; intro v2 w4 hown2 hgr2 hat2; have hB10 : Below wc.heap.size wc w4 := Below.grown (by assumption) hgr2 (by first | assumption | (simp; omega)) (fun k hk => hob1 k hk); have hz10 := hB10.size; have hob3 := fun k hk => (hown2.lt k hk).1; have HO2 := Lib.hid (show w4.ownsRow wc.heap.size 32 6 v2 (j + 2) (flat (pre ++ [(⟨r.lo + m + 1, r.hi, r.age, r.since, r.part, r.turn⟩ : Rw), (⟨r.lo, r.lo + m, r.age, r.since, r.part, r.turn⟩ : Rw)])) from hown2); clear hown2)) | ((go_split_ands; refine step_append_rows _ (by rfl) (.tmp 98) (.tmp 101) (by rfl) wc.heap.size v1 j pre (by rfl) (by with_reducible exact HO1.out) ⟨wc.heap.size, 0, none⟩ 2 2 [(⟨r.lo + m + 1, r.hi, r.age, r.since, r.part, r.turn⟩ : Rw), (⟨r.lo, r.lo + m, r.age, r.since, r.part, r.turn⟩ : Rw)] (by rfl) rfl nB (by omega) (by first | assumption | (simp; omega)) ?_; intro v2 w4 hown2 hgr2 hat2; have hB10 : Below wc.heap.size wc w4 := Below.grown (by assumption) hgr2 (by first | assumption | (simp; omega)) (fun k hk => hob1 k hk); have hz10 := hB10.size; have hob3 := fun k hk => (hown2.lt k hk).1; have HO2 := Lib.hid (show w4.ownsRow wc.heap.size 32 6 v2 (j + 2) (flat (pre ++ [(⟨r.lo + m + 1, r.hi, r.age, r.since, r.part, r.turn⟩ : Rw), (⟨r.lo, r.lo + m, r.age, r.since, r.part, r.turn⟩ : Rw)])) from hown2); clear hown2)) | ((go_split_ands; refine step_append_rows2 _ (by rfl) (.tmp 102) (.tmp 106) (by rfl) wc.heap.size v2 (j + 2) (pre ++ [(⟨r.lo + m + 1, r.hi, r.age, r.since, r.part, r.turn⟩ : Rw), (⟨r.lo, r.lo + m, r.age, r.since, r.part, r.turn⟩ : Rw)]) (by rfl) (by with_reducible exact HO2.out) (if c = j + 1 then some ⟨b, off, none⟩ else some ⟨b, off + (j + 1) * 6, none⟩) (by split <;> simp) (n - (j + 1)) (c - (j + 1)) suf (by rfl) HSL.out (HXS.out _ (below_base hBwc (by assumption))) (by omega) hz10 ?_; intro v3 w5 hown3 hgr3 hat3; have hB11 : Below wc.heap.size wc w5 := Below.grown (by assumption) hgr3 hz10 (fun k hk => hob3 k hk))))
        all_goals (obtain ⟨C9, k9, rfl, hlen9, hnk9, hr9⟩ := Rows?.of_own hown3)
        all_goals (generalize (if c = j + 1 then (some ⟨b, off, none⟩ : Option Addr) else some ⟨b, off + (j + 1) * 6, none⟩) = AD9)
        all_goals (go_wp2_with fail)
        all_goals go_meet
        all_goals (refine ⟨C9, k9, ?_, hB11, by simpa using hr9⟩ <;> first | (with_reducible assumption) | (congr 1; omega))
      case rest =>
        obtain ⟨C11, k11, rfl, hBBwc, hr11⟩ := hcut
        have hBwc : Below w.heap.size w wc := below_base hBwc hBBwc
        have hzwc := hBwc.size
        have hzzwc := hBBwc.size
        clear HOA HOA2 HOB HSZ
        have hr10 := hr10.below hBBwc
        clear x0 x1 x2 x3 x4 x5 y0 y1 y2 y3 y4 y5
        go_wp2_with fail
        refine (HS1.out C10 k10 _ (HX.out.below hBwc) hr10).mono ?_
        rintro e w8 ⟨rfl, hb8⟩
        have hr11 := hr11.below hb8
        have hB8 : Below w.heap.size w w8 := below_after hBwc hb8
        clear hb8 hr10
        go_wp2_with fail
        refine (HS2.out C11 k11 _ (HX.out.below hB8) hr11).mono ?_
        rintro e w9 ⟨rfl, hb9⟩
        have hB9 : Below w.heap.size w w9 := below_after hB8 hb9
        clear hb9 hr11 hB8
        go_wp2_with fail
        go_ret
        exact ⟨rfl, by assumption⟩
  
  

set_option maxHeartbeats 1600000 in
set_option maxRecDepth 100000 in
theorem divided_un (temp a s q t : Int) (A : Option Addr) (n c : Nat) (xs : List Rw) (w : World) (hn : xs.length = n) (hbig : n ≤ 9223372036854775807) (hx : Rows? w A xs) (B : Bool) (hB : (validB xs && useB temp a s) = B) (hs : B = false ∨ n = 0 ∨ 50 ≤ n) :
    Calls Try.prog 7 #[.slice A n c, .int .u8 q, .int .u16 t, .int .i64 temp, .int .i64 a, .int .i64 s] w fun e w' => e = .returned (.bool true) ∧ Below w.heap.size w w' := by
  have u := fun W h => usable_any temp a s A n c xs W hn hbig h
  rw [hB] at u
  have HU := Lib.hid u
  have HX := Lib.hid hx
  clear u hx hn hB
  cases B
  · clear hs
    go_enter Try.func7, Try.ntmps7
    go_wp2_with fail
    refine (head_any _).mono ?_
    rintro e w1 ⟨rfl, hb1⟩
    have HX1 := Lib.hid (HX.out.below hb1)
    go_wp2_with fail
    refine (HU.out _ HX1.out).mono ?_
    rintro e w2 ⟨rfl, hb2⟩
    have hB2 : Below w.heap.size w w2 := below_after hb1 hb2
    clear hb1 hb2
    go_wp2_with fail
    go_ret
    exact ⟨rfl, by assumption⟩
  · rcases hs with hs | rfl | hs
    · exact Bool.noConfusion hs
    · go_enter Try.func7, Try.ntmps7
      go_wp2_with fail
      refine (head_any _).mono ?_
      rintro e w1 ⟨rfl, hb1⟩
      have HX1 := Lib.hid (HX.out.below hb1)
      go_wp2_with fail
      refine (HU.out _ HX1.out).mono ?_
      rintro e w2 ⟨rfl, hb2⟩
      have hB2 : Below w.heap.size w w2 := below_after hb1 hb2
      clear hb1 hb2
      go_wp2_with fail
      go_ret
      exact ⟨rfl, by assumption⟩
    · have hn3 : ((n : Int) == 0) = false := by simp; omega
      have hn4 : ¬ ((n : Int) < 50) := by omega
      have hn5 : (50 : Int) ≤ (n : Int) := by omega
      go_enter Try.func7, Try.ntmps7
      go_wp2_with fail
      refine (head_any _).mono ?_
      rintro e w1 ⟨rfl, hb1⟩
      have HX1 := Lib.hid (HX.out.below hb1)
      go_wp2_with fail
      refine (HU.out _ HX1.out).mono ?_
      rintro e w2 ⟨rfl, hb2⟩
      have hB2 : Below w.heap.size w w2 := below_after hb1 hb2
      clear hb1 hb2
      go_wp2_with fail
      go_ret
      exact ⟨rfl, by assumption⟩

theorem divided_walk (temp a s q t : Int) (A : Option Addr) (n c : Nat) (xs : List Rw) (w : World) (hn : xs.length = n) (hbig : n ≤ 9223372036854775807) (hnc : n ≤ c) (hx : Rows? w A xs) (hq0 : 0 ≤ q) (hq1 : q ≤ 255) (ht0 : 0 ≤ t) (ht1 : t ≤ 65535) :
    Calls Try.prog 7 #[.slice A n c, .int .u8 q, .int .u16 t, .int .i64 temp, .int .i64 a, .int .i64 s] w fun e w' => e = .returned (.bool true) ∧ Below w.heap.size w w' := by
  cases h : (validB xs && useB temp a s)
  · exact divided_un temp a s q t A n c xs w hn hbig hx _ h (.inl rfl)
  · by_cases h0 : n = 0
    · exact divided_un temp a s q t A n c xs w hn hbig hx _ h (.inr (.inl h0))
    · by_cases h5 : 50 ≤ n
      · exact divided_un temp a s q t A n c xs w hn hbig hx _ h (.inr (.inr h5))
      · have hv := and_left h
        have m1 : 0 ≤ q % (n : Int) := Int.emod_nonneg _ (by omega)
        have m2 : q % (n : Int) < (n : Int) := Int.emod_lt_of_pos _ (by omega)
        have hj : q % (n : Int) = ((q % (n : Int)).toNat : Int) := (Int.toNat_of_nonneg m1).symm
        generalize (q % (n : Int)).toNat = j at hj
        obtain ⟨pre, r, suf, ex, hp⟩ := split1 xs j (by omega)
        obtain ⟨b, off, rfl, _⟩ := hx (by omega)
        have hr : r.ok = true := by
          simp only [validB, Bool.and_eq_true, List.all_eq_true] at hv
          exact hv.2 r (by rw [ex]; simp)
        have hok : -1000 ≤ r.lo ∧ r.lo ≤ r.hi ∧ -1000 ≤ r.hi ∧ r.hi ≤ 1000 ∧ 0 ≤ r.age ∧ r.age ≤ 10000 ∧ 0 ≤ r.since ∧ r.since ≤ 1000000000 ∧ 0 ≤ r.part ∧ r.part ≤ 500 ∧ 0 ≤ r.turn ∧ r.turn ≤ 8 := by
          simp only [Rw.ok, rowB, limB, Bool.and_eq_true, decide_eq_true_eq] at hr; omega
        by_cases hs : r.lo = r.hi
        · exact divided_same temp a s q t b off n c j xs pre suf w hn hnc hx hq0 hq1 ht0 ht1 hj (by omega) (by omega) h r ex hp hok hs
        · have hs2 : r.lo < r.hi := by omega
          exact divided_yes temp a s q t b off n c j xs pre suf w hn hnc hx hq0 hq1 ht0 ht1 hj (by omega) (by omega) h r ex hp hok hs2 (t % (r.hi - r.lo)) rfl (Int.emod_nonneg _ (by omega)) (Int.emod_lt_of_pos _ (by omega))
end Go.Proofs.Ythkjejikhlcmfaa
