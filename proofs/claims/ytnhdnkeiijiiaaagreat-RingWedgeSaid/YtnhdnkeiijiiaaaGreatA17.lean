import Derived.Test.YtnhdnkeiijiiaaaGreatA16
namespace Go.Proofs.YtnhdnkeiijiiaaaGreat
open Go.RowKit Go.Shelf
set_option linter.unusedSimpArgs false
set_option linter.unusedVariables false
attribute [local go_sem ↓] Go.wp_at_zero Go.wp_at_succ
theorem shift_cov {q : Pt} {xs : List Pt} {z : Pt} : Cov (shiftL q xs) (⟨z.x + q.x, z.y + q.y⟩ : Pt).q ↔ Cov xs z.q := by
  constructor
  · intro h A B C hC
    have h1 := h A B (C + (A * q.x + B * q.y)) fun p hpm => by
      obtain ⟨p0, h0, rfl⟩ := List.mem_map.1 hpm
      have := hC p0 h0
      simp only [hp] at this ⊢; grind
    rw [hq_q] at h1 ⊢
    simp only [Pt.q, hp] at h1 ⊢; grind
  · intro h A B C hC
    have h1 := h A B (C - (A * q.x + B * q.y)) fun p hpm => by
      have := hC ⟨p.x + q.x, p.y + q.y⟩ (List.mem_map.2 ⟨p, hpm, rfl⟩)
      simp only [hp] at this ⊢; grind
    rw [hq_q] at h1 ⊢
    simp only [Pt.q, hp] at h1 ⊢; grind
theorem ringErr_good {q : Pt} {lo hi : Int} (h : ringErr q lo hi = 0) : distB lo hi = true ∧ plB q = true := by
  unfold ringErr at h
  split at h
  · rename_i h1; simpa [Bool.and_eq_true] using h1
  · omega
theorem sec_ne (a : Nat) (lo hi : Int) : secL a 2 lo hi ≠ [] := by intro e; have := secL_len a 2 lo hi; rw [e] at this; simp at this
theorem secS_cov {a : Nat} {lo hi : Int} (hd : distB lo hi = true) {z : Qp} : Cov (secS a lo hi) z ↔ Cov (secL a 2 lo hi) z := by
  obtain ⟨d1, d2, d3⟩ := distB_iff.1 hd
  have h2 := hullS_len (secL a 2 lo hi)
  rw [secL_len] at h2
  have hg := hull_gd (sec_ne a lo hi) (secL_pl a 2 lo hi d1 d2 d3) (by omega)
  exact ⟨fun h => h.mono fun p hp => hullS_sub hp, fun h => hg.covers h⟩
/-- each place at the distances is in the ring -/
theorem ring_has {q y : Pt} {lo hi : Int} (h : ringErr q lo hi = 0) (h1 : lo * lo ≤ sqS q y) (h2 : sqS q y ≤ hi * hi) : Has (tidiedS (ringL q lo hi)) y.q := by
  obtain ⟨hd, hq⟩ := ringErr_good h
  obtain ⟨d1, d2, d3⟩ := distB_iff.1 hd
  have e : sqS q y = (y.x - q.x) * (y.x - q.x) + (y.y - q.y) * (y.y - q.y) := by unfold sqS; grind
  obtain ⟨j, hj, hc⟩ := sectors_cov (y := ⟨y.x - q.x, y.y - q.y⟩) d1 d2 (by rw [← e]; exact h1) (by rw [← e]; exact h2)
  refine tidied_Has (ringL_valid h) ⟨shiftL q (secS (2 * j) lo hi), List.mem_map.2 ⟨j, List.mem_range.2 hj, rfl⟩, ?_⟩
  have := (shift_cov (q := q)).2 ((secS_cov hd).2 hc)
  simpa using this
theorem has_any {rs : List (List Pt)} {y : Pt} (hv : ∀ r ∈ rs, validB r = true) : (rs.any fun r => insB r y) = true ↔ Has rs y.q := by
  rw [List.any_eq_true]
  exact ⟨fun ⟨r, hr, h⟩ => ⟨r, hr, (insB_cov (hv r hr) y).1 h⟩, fun ⟨r, hr, h⟩ => ⟨r, hr, (insB_cov (hv r hr) y).2 h⟩⟩
theorem kept_len (l : List (List Pt)) : (keptS l).length ≤ l.length := by
  unfold keptS
  rw [List.length_map]
  have := List.length_filter_le (fun i => !coveredS l i) (List.range l.length)
  simpa using this
theorem tidied_sub {l : List (List Pt)} (h : l.length ≤ 32) {p : List Pt} (hp : p ∈ tidiedS l) : p ∈ l := by
  unfold tidiedS at hp
  rw [if_pos (Nat.le_trans (kept_len l) h)] at hp
  exact kept_sub hp
/-- what is in the ring is in a sector -/
theorem ring_sec {q y : Pt} {lo hi : Int} (h : ringErr q lo hi = 0) (hy : Has (tidiedS (ringL q lo hi)) y.q) : ∃ j, j < 32 ∧ Cov (secL (2 * j) 2 lo hi) (⟨y.x - q.x, y.y - q.y⟩ : Pt).q := by
  obtain ⟨hd, hq⟩ := ringErr_good h
  obtain ⟨r, hr, hc⟩ := hy
  have hm := tidied_sub (by rw [ringL_len]; omega) hr
  obtain ⟨j, hj, rfl⟩ := List.mem_map.1 hm
  refine ⟨j, List.mem_range.1 hj, (secS_cov hd).1 ((shift_cov (q := q)).1 ?_)⟩
  simpa using hc
theorem ring_far {q y : Pt} {lo hi : Int} (h : ringErr q lo hi = 0) (hy : Has (tidiedS (ringL q lo hi)) y.q) :
    max (y.x - q.x) (-(y.x - q.x)) ≤ hi * 1003 / 1000 + 2 ∧ max (y.y - q.y) (-(y.y - q.y)) ≤ hi * 1003 / 1000 + 2 := by
  obtain ⟨hd, hq⟩ := ringErr_good h
  obtain ⟨d1, d2, d3⟩ := distB_iff.1 hd
  obtain ⟨j, hj, hc⟩ := ring_sec h hy
  have hb := cov_box hc (-(hi * 1003 / 1000 + 2)) (hi * 1003 / 1000 + 2) (-(hi * 1003 / 1000 + 2)) (hi * 1003 / 1000 + 2) fun p hp => sec_far d1 d2 hp
  simp only [Pt.q] at hb
  omega
theorem ring_near {q y : Pt} {lo hi : Int} (h : ringErr q lo hi = 0) (hy : Has (tidiedS (ringL q lo hi)) y.q) (hn : 0 < 99 * lo - 300) : (99 * lo - 300) * (99 * lo - 300) ≤ 10000 * sqS q y := by
  obtain ⟨hd, hq⟩ := ringErr_good h
  obtain ⟨d1, d2, d3⟩ := distB_iff.1 hd
  obtain ⟨j, hj, hc⟩ := ring_sec h hy
  have e : sqS q y = (y.x - q.x) * (y.x - q.x) + (y.y - q.y) * (y.y - q.y) := by unfold sqS; grind
  rw [e]
  exact near_of (by omega) d1 d2 hc hn
theorem ringErr_vals (q : Pt) (lo hi : Int) : ringErr q lo hi = 0 ∨ ringErr q lo hi = 1 ∨ ringErr q lo hi = 3 := by
  unfold ringErr; split
  · split <;> omega
  · omega
set_option maxHeartbeats 3200000 in
set_option maxRecDepth 100000 in
theorem ringHas_walk (xx xy lo hi bx bY : Int) (w : World) (hx : I64 xx ∧ I64 xy) :
    Calls Tryz.prog 3 #[.agg #[.int .i64 xx, .int .i64 xy], .agg #[.int .i64 lo, .int .i64 hi], .agg #[.int .i64 bx, .int .i64 bY]] w fun e w' => e = .returned (.bool true) ∧ Below w.heap.size w w' := by
  have v1 := fun W => head_any W
  have v2 : ∀ W, Calls Tryz.prog 8 #[.agg #[.int .i64 xx, .int .i64 xy], .agg #[.int .i64 lo, .int .i64 hi]] W _ := fun W => Ring_any ⟨xx, xy⟩ lo hi W hx
  have key : ringErr ⟨xx, xy⟩ lo hi = 0 → ∀ y : Pt, plB y = true → (decide (lo * lo ≤ sqS ⟨xx, xy⟩ y) && decide (sqS ⟨xx, xy⟩ y ≤ hi * hi)) = true → ((tidiedS (ringL ⟨xx, xy⟩ lo hi)).any fun r => insB r y) = true := fun h y hy hw => by
    simp only [Bool.and_eq_true, decide_eq_true_eq] at hw
    exact (has_any (tidied_valid (ringL_valid h))).2 (ring_has h hw.1 hw.2)
  have hreg : ringErr ⟨xx, xy⟩ lo hi = 0 → regB (tidiedS (ringL ⟨xx, xy⟩ lo hi)) = true := ring_regB
  have hgood : ringErr ⟨xx, xy⟩ lo hi = 0 → distB lo hi = true ∧ plB ⟨xx, xy⟩ = true := ringErr_good
  have hE := ringErr_vals ⟨xx, xy⟩ lo hi
  generalize ringErr ⟨xx, xy⟩ lo hi = E at *
  generalize tidiedS (ringL ⟨xx, xy⟩ lo hi) = T at *
  have V1 := Lib.hid v1
  have V2 := Lib.hid v2
  have KEY := Lib.hid (And.intro key (And.intro hreg hgood))
  have HE := Lib.hid hE
  clear v1 v2 key hreg hgood hE hx
  go_enter Tryz.func3, Tryz.ntmps3
  go_wp2_with fail
  refine (V1.out _).mono ?_
  rintro e w1 ⟨rfl, hb1⟩
  have hB1 : Below w.heap.size w w1 := below_after (by go_grown) hb1
  have c0 : w1.cell? ⟨w.heap.size, 0, none⟩ = some (.int .i64 xx) := kp hb1 (by go_cell)
  have c1 : w1.cell? ⟨w.heap.size, 1, none⟩ = some (.int .i64 xy) := kp hb1 (by go_cell)
  have c2 : w1.cell? ⟨w.heap.size + 1, 0, none⟩ = some (.int .i64 lo) := kp hb1 (by go_cell)
  have c3 : w1.cell? ⟨w.heap.size + 1, 1, none⟩ = some (.int .i64 hi) := kp hb1 (by go_cell)
  have c4 : w1.cell? ⟨w.heap.size + 1 + 1, 0, none⟩ = some (.int .i64 bx) := kp hb1 (by go_cell)
  have c5 : w1.cell? ⟨w.heap.size + 1 + 1, 1, none⟩ = some (.int .i64 bY) := kp hb1 (by go_cell)
  clear hb1
  go_wp2_with fail
  refine (V2.out _).mono ?_
  rintro e w2 (⟨h0, v2, rfl, ho2, hb2⟩ | ⟨h0, rfl, hb2⟩)
  rotate_left 1
  · have hB2 : Below w.heap.size w w2 := hB1.trans (hb2.mono hB1.size)
    rcases HE.out with rfl | rfl | rfl
    · exact absurd rfl h0
    all_goals
      clear hb2 c0 c1 c2 c3 c4 c5
      go_wp2_with fail
      go_ret
      exact ⟨rfl, hB2⟩
  · subst h0
    have hB2 : Below w.heap.size w w2 := hB1.trans (hb2.mono hB1.size)
    replace c0 := kp hb2 c0
    replace c1 := kp hb2 c1
    replace c2 := kp hb2 c2
    replace c3 := kp hb2 c3
    replace c4 := kp hb2 c4
    replace c5 := kp hb2 c5
    obtain ⟨A2, k2, rfl, -⟩ := ho2.slice
    have HO := Lib.hid ho2
    obtain ⟨L, hL⟩ : ∃ L, T.length = L := ⟨_, rfl⟩
    rw [hL] at HO ⊢
    have HL := Lib.hid hL
    obtain ⟨yx, ex⟩ : ∃ y, IntKind.i64.wrap (xx + bx) = y := ⟨_, rfl⟩
    obtain ⟨yy, ey⟩ : ∃ y, IntKind.i64.wrap (xy + bY) = y := ⟨_, rfl⟩
    clear ho2 hb2 hB1 hL
    go_wp2_with fail
    refine (at_any yx yy _).mono ?_
    rintro e w3 ⟨rfl, hb3⟩
    have hB3 : Below w.heap.size w w3 := hB2.trans (hb3.mono hB2.size)
    replace c0 := kp hb3 c0
    replace c1 := kp hb3 c1
    replace c2 := kp hb3 c2
    replace c3 := kp hb3 c3
    replace HO := Lib.hid (HO.out.later hb3)
    clear hb3 c4 c5 hB2
    go_wp2_with fail
    have hbA : Below w3.heap.size w3 (w3.alloc (.cells #[.int .i64 yx, .int .i64 yy] 23)) := (Below.refl _ _).alloc (Nat.le_refl _) _
    obtain ⟨a0, a1⟩ := alloc_cell2 (W := w3) (x := yx) (y := yy) (t := 23)
    have hBA := hB3.trans (hbA.mono hB3.size)
    replace c0 := kp hbA c0
    replace c1 := kp hbA c1
    replace c2 := kp hbA c2
    replace c3 := kp hbA c3
    replace HO := Lib.hid (HO.out.later hbA)
    clear hbA hB3
    generalize w3.alloc (.cells #[.int .i64 yx, .int .i64 yy] 23) = Z at *
    generalize w3.heap.size = B10 at *
    have vP : ∀ W, Calls Tryz.prog 10 #[.agg #[.int .i64 yx, .int .i64 yy]] W _ := fun W => RPlace_any ⟨yx, yy⟩ W
    obtain ⟨hreg, hgood⟩ := KEY.out.2
    have hr := hreg (by first | rfl | trivial)
    have hrI : Oks64 T := fun r h => ok64_of_pl (pl_of_valid ((regB_iff.1 hr).2 r h))
    have hn32 := (regB_iff.1 hr).1
    have vV : ∀ A n c W, T.length = n → Reg? W.heap.size W A T → Calls Tryz.prog 12 #[.slice A n c] W fun e w' => e = .returned (.bool true) ∧ Below W.heap.size W w' := fun A n c W hn hg => by
      have h := rValid_any A n c T W hn (by omega) hg hrI
      rw [hr] at h; exact h
    have vH : ∀ A n c W, T.length = n → Reg? W.heap.size W A T → Calls Tryz.prog 13 #[.slice A n c, .agg #[.int .i64 yx, .int .i64 yy]] W _ := fun A n c W hn hg => rHas_told A n c T ⟨yx, yy⟩ W hn (by omega) hg hrI
    cases hp : plB ⟨yx, yy⟩ with
    | false =>
      rw [hp] at vP
      have VP := Lib.hid vP
      have VV := Lib.hid vV
      clear vP vV vH hr hrI hn32 hreg hgood hp
      refine (VP.out _).mono ?_
      rintro e w4 ⟨rfl, hb4⟩
      have hB4 : Below w.heap.size w w4 := hBA.trans (hb4.mono hBA.size)
      replace HO := Lib.hid (HO.out.later hb4)
      clear hb4 hBA c0 c1 c2 c3 a0 a1
      obtain ⟨Ax, cx, exx, -, -, -, hreg⟩ := HO.out.slice
      rw [HL.out] at exx
      cases exx
      have HC := Lib.hid (VV.out _ _ k2 _ HL.out hreg)
      clear hreg
      go_wp2_with fail
      refine HC.out.mono ?_
      rintro e w5 ⟨rfl, hb5⟩
      have hB5 : Below w.heap.size w w5 := hB4.trans (hb5.mono hB4.size)
      go_wp2_with fail
      go_ret
      exact ⟨rfl, hB5⟩
    | true =>
      rw [hp] at vP
      obtain ⟨d1, hq9⟩ := hgood (by first | rfl | trivial)
      obtain ⟨dd1, dd2, dd3⟩ := distB_iff.1 d1
      have vW : ∀ W, Calls Tryz.prog 11 #[.agg #[.int .i64 xx, .int .i64 xy], .agg #[.int .i64 yx, .int .i64 yy], .agg #[.int .i64 lo, .int .i64 hi]] W _ := fun W => RWithin_any ⟨xx, xy⟩ ⟨yx, yy⟩ lo hi W (nr_of_pl hq9) (nr_of_pl hp) dd1 (by omega) (by omega) dd3
      have hkey := KEY.out.1 (by first | rfl | trivial) ⟨yx, yy⟩ hp
      rw [hr, hp] at vH
      simp only [Bool.and_self, Bool.true_and, if_true] at vH
      generalize (decide (lo * lo ≤ sqS ⟨xx, xy⟩ ⟨yx, yy⟩) && decide (sqS ⟨xx, xy⟩ ⟨yx, yy⟩ ≤ hi * hi)) = wi at *
      have VP := Lib.hid vP
      have VV := Lib.hid vV
      have VW := Lib.hid vW
      cases wi with
      | false =>
        clear vP vV vH vW hr hrI hn32 hreg hgood hp d1 hq9 dd1 dd2 dd3 hkey
        refine (VP.out _).mono ?_
        rintro e w4 ⟨rfl, hb4⟩
        have hB4 : Below w.heap.size w w4 := hBA.trans (hb4.mono hBA.size)
        replace HO := Lib.hid (HO.out.later hb4)
        replace c0 := kp hb4 c0
        replace c1 := kp hb4 c1
        replace c2 := kp hb4 c2
        replace c3 := kp hb4 c3
        replace a0 := kp hb4 a0
        replace a1 := kp hb4 a1
        clear hb4 hBA
        go_wp2_with fail
        refine (VW.out _).mono ?_
        rintro e w5 ⟨rfl, hb5⟩
        have hB5 : Below w.heap.size w w5 := hB4.trans (hb5.mono hB4.size)
        replace HO := Lib.hid (HO.out.later hb5)
        clear hb5 hB4 c0 c1 c2 c3 a0 a1
        obtain ⟨Ax, cx, exx, -, -, -, hreg⟩ := HO.out.slice
        rw [HL.out] at exx
        cases exx
        have HC := Lib.hid (VV.out _ _ k2 _ HL.out hreg)
        clear hreg
        go_wp2_with fail
        refine HC.out.mono ?_
        rintro e w6 ⟨rfl, hb6⟩
        have hB6 : Below w.heap.size w w6 := hB5.trans (hb6.mono hB5.size)
        go_wp2_with fail
        go_ret
        exact ⟨rfl, hB6⟩
      | true =>
        rw [hkey (by first | rfl | trivial)] at vH
        have VH := Lib.hid vH
        clear vP vV vH vW hr hrI hn32 hreg hgood hp d1 hq9 dd1 dd2 dd3 hkey
        refine (VP.out _).mono ?_
        rintro e w4 ⟨rfl, hb4⟩
        have hB4 : Below w.heap.size w w4 := hBA.trans (hb4.mono hBA.size)
        replace HO := Lib.hid (HO.out.later hb4)
        replace c0 := kp hb4 c0
        replace c1 := kp hb4 c1
        replace c2 := kp hb4 c2
        replace c3 := kp hb4 c3
        replace a0 := kp hb4 a0
        replace a1 := kp hb4 a1
        clear hb4 hBA
        go_wp2_with fail
        refine (VW.out _).mono ?_
        rintro e w5 ⟨rfl, hb5⟩
        have hB5 : Below w.heap.size w w5 := hB4.trans (hb5.mono hB4.size)
        replace HO := Lib.hid (HO.out.later hb5)
        replace a0 := kp hb5 a0
        replace a1 := kp hb5 a1
        clear hb5 hB4 c0 c1 c2 c3
        obtain ⟨Ax, cx, exx, -, -, -, hreg⟩ := HO.out.slice
        rw [HL.out] at exx
        cases exx
        have HC := Lib.hid (VH.out _ _ k2 _ HL.out hreg)
        clear hreg
        go_wp2_with fail
        refine HC.out.mono ?_
        rintro e w6 ⟨rfl, hb6⟩
        have hB6 : Below w.heap.size w w6 := hB5.trans (hb6.mono hB5.size)
        clear hb6 a0 a1
        go_wp2_with fail
        go_ret
        exact ⟨rfl, hB6⟩
end Go.Proofs.YtnhdnkeiijiiaaaGreat
