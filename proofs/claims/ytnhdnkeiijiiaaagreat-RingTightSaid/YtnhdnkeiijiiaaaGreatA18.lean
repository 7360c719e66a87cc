import Derived.Test.YtnhdnkeiijiiaaaGreatA17
namespace Go.Proofs.YtnhdnkeiijiiaaaGreat
open Go.RowKit Go.Shelf
set_option linter.unusedSimpArgs false
set_option linter.unusedVariables false
attribute [local go_sem ↓] Go.wp_at_zero Go.wp_at_succ
theorem wrap_place {q b y : Int} (h : IntKind.i64.wrap (q + b) = y) (h1 : -500000 ≤ q ∧ q ≤ 500000) (h2 : -500000 ≤ y ∧ y ≤ 500000) (hb : -9223372036854775808 ≤ b ∧ b ≤ 9223372036854775807) : b = y - q := by
  rw [IntKind.wrap_i64] at h; omega
set_option maxHeartbeats 3200000 in
set_option maxRecDepth 100000 in
theorem ringTight_walk (xx xy lo hi bx bY : Int) (w : World) (hx : I64 xx ∧ I64 xy) (hbb : I64 bx ∧ I64 bY) :
    Calls Tryz.prog 4 #[.agg #[.int .i64 xx, .int .i64 xy], .agg #[.int .i64 lo, .int .i64 hi], .agg #[.int .i64 bx, .int .i64 bY]] w fun e w' => e = .returned (.bool true) ∧ Below w.heap.size w w' := by
  have v1 := fun W => head_any W
  have v2 : ∀ W, Calls Tryz.prog 8 #[.agg #[.int .i64 xx, .int .i64 xy], .agg #[.int .i64 lo, .int .i64 hi]] W _ := fun W => Ring_any ⟨xx, xy⟩ lo hi W hx
  have key : ringErr ⟨xx, xy⟩ lo hi = 0 → ∀ y : Pt, ((tidiedS (ringL ⟨xx, xy⟩ lo hi)).any fun r => insB r y) = true → (max (y.x - xx) (-(y.x - xx)) ≤ hi * 1003 / 1000 + 2 ∧ max (y.y - xy) (-(y.y - xy)) ≤ hi * 1003 / 1000 + 2) ∧ (0 < 99 * lo - 300 → (99 * lo - 300) * (99 * lo - 300) ≤ 10000 * sqS ⟨xx, xy⟩ y) := fun h y hy => by
    have hh := (has_any (tidied_valid (ringL_valid h))).1 hy
    exact ⟨ring_far h hh, ring_near h hh⟩
  have hreg : ringErr ⟨xx, xy⟩ lo hi = 0 → regB (tidiedS (ringL ⟨xx, xy⟩ lo hi)) = true := ring_regB
  have hgood : ringErr ⟨xx, xy⟩ lo hi = 0 → distB lo hi = true ∧ plB ⟨xx, xy⟩ = true := ringErr_good
  have hE := ringErr_vals ⟨xx, xy⟩ lo hi
  generalize ringErr ⟨xx, xy⟩ lo hi = E at *
  generalize tidiedS (ringL ⟨xx, xy⟩ lo hi) = T at *
  have V1 := Lib.hid v1
  have V2 := Lib.hid v2
  have KEY := Lib.hid (And.intro key (And.intro hreg hgood))
  have HE := Lib.hid hE
  have HBB := Lib.hid hbb
  clear v1 v2 key hreg hgood hE hx hbb
  go_enter Tryz.func4, Tryz.ntmps4
  go_wp2_with fail
  refine (V1.out _).mono ?_
  rintro e w1 ⟨rfl, hb1⟩
  have hB1 : Below w.heap.size w w1 := below_after (by go_grown) hb1
  have c0 : w1.cell? ⟨w.heap.size, 0, none⟩ = some (.int .i64 xx) := kp hb1 (by go_cell)
  have c1 : w1.cell? ⟨w.heap.size, 1, none⟩ = some (.int .i64 xy) := kp hb1 (by go_cell)
  have c2 : w1.cell? ⟨w.heap.size + 1, 0, none⟩ = some (.int .i64 lo) := kp hb1 (by go_cell)
  have c3 : w1.cell? ⟨w.heap.size + 1, 1, none⟩ = some (.int .i64 hi) := kp hb1 (by go_cell)
  have c4 : w1.cell? ⟨w.heap.size + 1 + 1, 0, none⟩ = some (.int .i64 bx) := kp hb1 (by go_cell)
  have c5 : w1.cell? ⟨w.heap.size + 1 + 1, 1, none⟩ = some (.int .i64 bY) := kp hb1 (by go_cell)
  clear hb1
  go_wp2_with fail
  refine (V2.out _).mono ?_
  rintro e w2 (⟨h0, v2, rfl, ho2, hb2⟩ | ⟨h0, rfl, hb2⟩)
  rotate_left 1
  · have hB2 : Below w.heap.size w w2 := hB1.trans (hb2.mono hB1.size)
    rcases HE.out with rfl | rfl | rfl
    · exact absurd rfl h0
    all_goals
      clear hb2 c0 c1 c2 c3 c4 c5
      go_wp2_with fail
      go_ret
      exact ⟨rfl, hB2⟩
  · subst h0
    have hB2 : Below w.heap.size w w2 := hB1.trans (hb2.mono hB1.size)
    replace c0 := kp hb2 c0
    replace c1 := kp hb2 c1
    replace c2 := kp hb2 c2
    replace c3 := kp hb2 c3
    replace c4 := kp hb2 c4
    replace c5 := kp hb2 c5
    obtain ⟨A2, k2, rfl, -⟩ := ho2.slice
    have HO := Lib.hid ho2
    obtain ⟨L, hL⟩ : ∃ L, T.length = L := ⟨_, rfl⟩
    rw [hL] at HO ⊢
    have HL := Lib.hid hL
    obtain ⟨yx, ex⟩ : ∃ y, IntKind.i64.wrap (xx + bx) = y := ⟨_, rfl⟩
    obtain ⟨yy, ey⟩ : ∃ y, IntKind.i64.wrap (xy + bY) = y := ⟨_, rfl⟩
    have HEX := Lib.hid (And.intro ex ey)
    clear ho2 hb2 hB1 hL
    go_wp2_with fail
    refine (at_any yx yy _).mono ?_
    rintro e w3 ⟨rfl, hb3⟩
    have hB3 : Below w.heap.size w w3 := hB2.trans (hb3.mono hB2.size)
    replace c0 := kp hb3 c0
    replace c1 := kp hb3 c1
    replace c2 := kp hb3 c2
    replace c3 := kp hb3 c3
    replace c4 := kp hb3 c4
    replace c5 := kp hb3 c5
    replace HO := Lib.hid (HO.out.later hb3)
    clear hb3 hB2 ex ey
    go_wp2_with fail
    have hbA : Below w3.heap.size w3 (w3.alloc (.cells #[.int .i64 yx, .int .i64 yy] 23)) := (Below.refl _ _).alloc (Nat.le_refl _) _
    obtain ⟨a0, a1⟩ := alloc_cell2 (W := w3) (x := yx) (y := yy) (t := 23)
    have hBA := hB3.trans (hbA.mono hB3.size)
    replace c0 := kp hbA c0
    replace c1 := kp hbA c1
    replace c2 := kp hbA c2
    replace c3 := kp hbA c3
    replace c4 := kp hbA c4
    replace c5 := kp hbA c5
    replace HO := Lib.hid (HO.out.later hbA)
    clear hbA hB3
    generalize w3.alloc (.cells #[.int .i64 yx, .int .i64 yy] 23) = Z at *
    generalize w3.heap.size = B10 at *
    have vP : ∀ W, Calls Tryz.prog 10 #[.agg #[.int .i64 yx, .int .i64 yy]] W _ := fun W => RPlace_any ⟨yx, yy⟩ W
    obtain ⟨hreg, hgood⟩ := KEY.out.2
    have hr := hreg (by first | rfl | trivial)
    have hrI : Oks64 T := fun r h => ok64_of_pl (pl_of_valid ((regB_iff.1 hr).2 r h))
    have hn32 := (regB_iff.1 hr).1
    have vH : ∀ A n c W, T.length = n → Reg? W.heap.size W A T → Calls Tryz.prog 13 #[.slice A n c, .agg #[.int .i64 yx, .int .i64 yy]] W _ := fun A n c W hn hg => rHas_told A n c T ⟨yx, yy⟩ W hn (by omega) hg hrI
    cases hp : plB ⟨yx, yy⟩ with
    | false =>
      rw [hp] at vP
      have VP := Lib.hid vP
      clear vP vH hr hrI hn32 hreg hgood hp
      refine (VP.out _).mono ?_
      rintro e w4 ⟨rfl, hb4⟩
      have hB4 : Below w.heap.size w w4 := hBA.trans (hb4.mono hBA.size)
      clear hb4 hBA c0 c1 c2 c3 c4 c5 a0 a1
      go_wp2_with fail
      go_ret
      exact ⟨rfl, hB4⟩
    | true =>
      rw [hp] at vP
      rw [hr, hp] at vH
      simp only [Bool.and_self, Bool.true_and, if_true] at vH
      have hkey := KEY.out.1 (by first | rfl | trivial) ⟨yx, yy⟩
      obtain ⟨d1, hq9⟩ := hgood (by first | rfl | trivial)
      have hq10 := (plB_iff _).1 hq9
      have hp10 := (plB_iff _).1 hp
      obtain ⟨dd1, dd2, dd3⟩ := distB_iff.1 d1
      dsimp only at hq10 hp10 hkey
      have ebx := wrap_place HEX.out.1 (by omega) (by omega) (by have := HBB.out.1; unfold I64 at this; omega)
      have eby := wrap_place HEX.out.2 (by omega) (by omega) (by have := HBB.out.2; unfold I64 at this; omega)
      have vS : ∀ W, Calls Tryz.prog 14 #[.agg #[.int .i64 xx, .int .i64 xy], .agg #[.int .i64 yx, .int .i64 yy]] W _ := fun W => RSquare_any ⟨xx, xy⟩ ⟨yx, yy⟩ W (nr_of_pl hq9) (nr_of_pl hp)
      have hsq : 0 ≤ sqS ⟨xx, xy⟩ ⟨yx, yy⟩ ∧ sqS ⟨xx, xy⟩ ⟨yx, yy⟩ ≤ 4000000000000 := by
        unfold sqS
        have m1 := mul_bd (a := xx - yx) (b := xx - yx) (A := 1000000) (B := 1000000) (by omega) (by omega) (by omega) (by omega)
        have m2 := mul_bd (a := xy - yy) (b := xy - yy) (A := 1000000) (B := 1000000) (by omega) (by omega) (by omega) (by omega)
        have s1 : 0 ≤ (xx - yx) * (xx - yx) := by
          rcases Int.le_total 0 (xx - yx) with h | h
          · exact Int.mul_nonneg h h
          · have := Int.mul_nonneg (show 0 ≤ -(xx - yx) by omega) (show 0 ≤ -(xx - yx) by omega); rwa [Int.neg_mul_neg] at this
        have s2 : 0 ≤ (xy - yy) * (xy - yy) := by
          rcases Int.le_total 0 (xy - yy) with h | h
          · exact Int.mul_nonneg h h
          · have := Int.mul_nonneg (show 0 ≤ -(xy - yy) by omega) (show 0 ≤ -(xy - yy) by omega); rwa [Int.neg_mul_neg] at this
        dsimp only
        omega
      generalize sqS ⟨xx, xy⟩ ⟨yx, yy⟩ = SQ at *
      generalize (T.any fun r => insB r ⟨yx, yy⟩) = has at *
      have VP := Lib.hid vP
      have VH := Lib.hid vH
      have VS := Lib.hid vS
      cases has with
      | false =>
        clear vP vH vS hr hrI hn32 hreg hgood hp d1 hq9 dd1 dd2 dd3 hkey hq10 hp10 ebx eby hsq
        refine (VP.out _).mono ?_
        rintro e w4 ⟨rfl, hb4⟩
        have hB4 : Below w.heap.size w w4 := hBA.trans (hb4.mono hBA.size)
        replace HO := Lib.hid (HO.out.later hb4)
        replace a0 := kp hb4 a0
        replace a1 := kp hb4 a1
        clear hb4 hBA c0 c1 c2 c3 c4 c5
        obtain ⟨Ax, cx, exx, -, -, -, hreg⟩ := HO.out.slice
        rw [HL.out] at exx
        cases exx
        have HC := Lib.hid (VH.out _ _ k2 _ HL.out hreg)
        clear hreg
        go_wp2_with fail
        refine HC.out.mono ?_
        rintro e w6 ⟨rfl, hb6⟩
        have hB6 : Below w.heap.size w w6 := hB4.trans (hb6.mono hB4.size)
        clear hb6 a0 a1
        go_wp2_with fail
        go_ret
        exact ⟨rfl, hB6⟩
      | true =>
        obtain ⟨⟨f1, f2⟩, f3⟩ := hkey rfl
        have n0 : IntKind.i64.wrap (-bx) = -bx := IntWalk.i64_in _ (by omega)
        have n1 : IntKind.i64.wrap (-bY) = -bY := IntWalk.i64_in _ (by omega)
        have p1 : IntKind.i64.wrap (hi * 1003) = hi * 1003 := IntWalk.i64_in _ (by omega)
        have p2 : (hi * 1003).tdiv 1000 = hi * 1003 / 1000 := Int.tdiv_eq_ediv_of_nonneg (by omega)
        have hm0 : 0 ≤ hi * 1003 / 1000 ∧ hi * 1003 / 1000 ≤ 200000 := by omega
        have p3 : IntKind.i64.wrap (hi * 1003 / 1000) = hi * 1003 / 1000 := IntWalk.i64_in _ (by omega)
        have p4 : IntKind.i64.wrap (hi * 1003 / 1000 + 2) = hi * 1003 / 1000 + 2 := IntWalk.i64_in _ (by omega)
        have p5 : IntKind.i64.wrap (99 * lo) = 99 * lo := IntWalk.i64_in _ (by omega)
        have p6 : IntKind.i64.wrap (99 * lo - 300) = 99 * lo - 300 := IntWalk.i64_in _ (by omega)
        rw [← ebx] at f1
        rw [← eby] at f2
        have g1 : decide (max bx (-bx) ≤ hi * 1003 / 1000 + 2) = true := decide_eq_true f1
        have g2 : decide (max bY (-bY) ≤ hi * 1003 / 1000 + 2) = true := decide_eq_true f2
        have k1 : bx ≤ hi * 1003 / 1000 + 2 := by omega
        have k3 : -bx ≤ hi * 1003 / 1000 + 2 := by omega
        have k4 : bY ≤ hi * 1003 / 1000 + 2 := by omega
        have k5 : -bY ≤ hi * 1003 / 1000 + 2 := by omega
        have g3 : decide (bx ≤ hi * 1003 / 1000 + 2) = true := decide_eq_true k1
        have g4 : decide (-bx ≤ hi * 1003 / 1000 + 2) = true := decide_eq_true k3
        have g5 : decide (bY ≤ hi * 1003 / 1000 + 2) = true := decide_eq_true k4
        have g6 : decide (-bY ≤ hi * 1003 / 1000 + 2) = true := decide_eq_true k5
        have hnb : 99 * lo - 300 ≤ 10000000 := by omega
        have p7 : IntKind.i64.wrap (10000 * SQ) = 10000 * SQ := IntWalk.i64_in _ (by omega)
        have hgq : 0 < 99 * lo - 300 → IntKind.i64.wrap ((99 * lo - 300) * (99 * lo - 300)) = (99 * lo - 300) * (99 * lo - 300) := fun h => by
          have := mul_bd (a := 99 * lo - 300) (b := 99 * lo - 300) (A := 10000000) (B := 10000000) (by omega) (by omega) (by omega) (by omega)
          exact IntWalk.i64_in _ (by omega)
        generalize e1 : hi * 1003 = M1 at *
        generalize e2 : M1 / 1000 = M0 at *
        generalize e3 : M0 + 2 = M at *
        generalize e4 : 99 * lo = N0 at *
        generalize e5 : N0 - 300 = NN at *
        clear e2
        clear vP vH vS hr hrI hn32 hreg hgood hp d1 hq9 dd1 dd2 dd3 hkey hq10 hp10 ebx eby hsq hm0 f1 f2
        refine (VP.out _).mono ?_
        rintro e w4 ⟨rfl, hb4⟩
        have hB4 : Below w.heap.size w w4 := hBA.trans (hb4.mono hBA.size)
        replace HO := Lib.hid (HO.out.later hb4)
        replace c0 := kp hb4 c0
        replace c1 := kp hb4 c1
        replace c2 := kp hb4 c2
        replace c3 := kp hb4 c3
        replace c4 := kp hb4 c4
        replace c5 := kp hb4 c5
        replace a0 := kp hb4 a0
        replace a1 := kp hb4 a1
        clear hb4 hBA
        obtain ⟨Ax, cx, exx, -, -, -, hreg⟩ := HO.out.slice
        rw [HL.out] at exx
        cases exx
        have HC := Lib.hid (VH.out _ _ k2 _ HL.out hreg)
        clear hreg
        by_cases hN : NN ≤ 0
        · have dN : decide (NN ≤ 0) = true := decide_eq_true hN
          clear f3 hgq
          go_wp2_with fail
          refine HC.out.mono ?_
          rintro e w6 ⟨rfl, hb6⟩
          have hB6 : Below w.heap.size w w6 := hB4.trans (hb6.mono hB4.size)
          replace c2 := kp hb6 c2
          replace c3 := kp hb6 c3
          replace c4 := kp hb6 c4
          replace c5 := kp hb6 c5
          clear hb6 a0 a1
          go_wp2_with fail
          all_goals (go_ret; exact ⟨rfl, hB6⟩)
        · have dN : decide (NN ≤ 0) = false := decide_eq_false hN
          have f3' := f3 (by omega)
          have q9 := hgq (by omega)
          generalize e6 : NN * NN = QQ at *
          generalize e7 : 10000 * SQ = SS at *
          have d9 : decide (QQ ≤ SS) = true := decide_eq_true f3'
          clear f3 hgq f3'
          go_wp2_with fail
          refine HC.out.mono ?_
          rintro e w6 ⟨rfl, hb6⟩
          have hB6 : Below w.heap.size w w6 := hB4.trans (hb6.mono hB4.size)
          replace c0 := kp hb6 c0
          replace c1 := kp hb6 c1
          replace c2 := kp hb6 c2
          replace c3 := kp hb6 c3
          replace c4 := kp hb6 c4
          replace c5 := kp hb6 c5
          replace a0 := kp hb6 a0
          replace a1 := kp hb6 a1
          clear hb6
          go_wp2_with fail
          all_goals
            refine (VS.out _).mono ?_
            rintro e w7 ⟨rfl, hb7⟩
            have hB7 : Below w.heap.size w w7 := hB6.trans (hb7.mono hB6.size)
            clear hb7
            go_wp2_with fail
            go_ret
            exact ⟨rfl, hB7⟩
end Go.Proofs.YtnhdnkeiijiiaaaGreat
