import Derived.Test.YtnhdnkeiijiiaaaGreatA15
namespace Go.Proofs.YtnhdnkeiijiiaaaGreat
open Go.RowKit Go.Shelf
set_option linter.unusedSimpArgs false
set_option linter.unusedVariables false
attribute [local go_sem ↓] Go.wp_at_zero Go.wp_at_succ
/-- the head's example regions -/
def exS : List (List Pt) := [[⟨0, 0⟩], [⟨0, 90⟩], [⟨200, 200⟩]]
def exD : List (List Pt) := [[⟨0, 0⟩], [⟨1, 1⟩]]
set_option maxRecDepth 100000
theorem ex_e1 : ringErr ⟨30, 40⟩ 50 50 = 0 := by decide +kernel
theorem ex_e2 : ringErr ⟨30, 40⟩ 60 70 = 0 := by decide +kernel
theorem ex_e3 : wedgeErr exS ⟨100, 100⟩ 7 2 = 0 := by decide +kernel
theorem ex_e4 : nearErr exD ⟨30, 40⟩ 50 60 = 0 := by decide +kernel
theorem ex_e4r : ringErr ⟨30, 40⟩ 50 60 = 0 := by decide +kernel
theorem ex_e5 : ringErr ⟨499990, 0⟩ 0 20 = 3 := by decide +kernel
theorem ex_e6 : ringErr ⟨0, 0⟩ 3 2 = 1 := by decide +kernel
theorem ex_r1 : ((tidiedS (ringL ⟨30, 40⟩ 50 50)).any fun r => insB r ⟨0, 0⟩) = true := by decide +kernel
theorem ex_r2 : ((tidiedS (ringL ⟨30, 40⟩ 60 70)).any fun r => insB r ⟨0, 0⟩) = false := by decide +kernel
theorem ex_r3 : wedgeS exS ⟨100, 100⟩ 7 2 = [[⟨0, 0⟩]] := by decide +kernel
theorem ex_r4 : ((regMeetS exD (tidiedS (ringL ⟨30, 40⟩ 50 60))).any fun r => insB r ⟨0, 0⟩) = true := by decide +kernel
theorem ex_vD : ∀ r ∈ exD, validB r = true := by decide +kernel
theorem i64_lit {a b : Int} (h : -1000000 ≤ a ∧ a ≤ 1000000 ∧ -1000000 ≤ b ∧ b ≤ 1000000) : I64 a ∧ I64 b := by unfold I64; omega
theorem ring_lit (x y lo hi : Int) (T : List (List Pt)) (hx : -1000000 ≤ x ∧ x ≤ 1000000 ∧ -1000000 ≤ y ∧ y ≤ 1000000) (he : ringErr ⟨x, y⟩ lo hi = 0) (hT : tidiedS (ringL ⟨x, y⟩ lo hi) = T) (W : World) :
    Calls Tryz.prog 8 #[.agg #[.int .i64 x, .int .i64 y], .agg #[.int .i64 lo, .int .i64 hi]] W (RetRegOk W.heap.size W T) := by
  refine (Ring_any ⟨x, y⟩ lo hi W (i64_lit hx)).mono ?_
  rintro e w' (⟨-, h⟩ | ⟨h, -⟩)
  · rw [← hT]; exact h
  · exact absurd he h
theorem ring_err (x y lo hi E : Int) (hx : -1000000 ≤ x ∧ x ≤ 1000000 ∧ -1000000 ≤ y ∧ y ≤ 1000000) (he : ringErr ⟨x, y⟩ lo hi = E) (h0 : E ≠ 0) (W : World) :
    Calls Tryz.prog 8 #[.agg #[.int .i64 x, .int .i64 y], .agg #[.int .i64 lo, .int .i64 hi]] W (RetRegErr W E) := by
  refine (Ring_any ⟨x, y⟩ lo hi W (i64_lit hx)).mono ?_
  rintro e w' (⟨h, -⟩ | ⟨-, h⟩)
  · rw [h] at he; exact absurd he.symm h0
  · rw [← he]; exact h
theorem pts_lit {W : World} {b : Nat} {xs : List Pt} {cs : Array Value} (hk : W.heap[b]? = some (.cells cs 23 (0, 0))) (h : ∀ i p, xs[i]? = some p → cs[i * 2]? = some (.int .i64 p.x) ∧ cs[i * 2 + 1]? = some (.int .i64 p.y)) : Pts? W.heap.size W (some ⟨b, 0, none⟩) xs := fun _ =>
  ⟨b, 0, rfl, (Array.getElem?_eq_some_iff.1 hk).1, fun i p hp => by
    obtain ⟨h1, h2⟩ := h i p hp
    constructor
    · rw [Nat.zero_add, cell_of_row _ _ _ _ _ _ hk]; exact h1
    · rw [Nat.zero_add, cell_of_row _ _ _ _ _ _ hk]; exact h2⟩
set_option maxRecDepth 100000 in
set_option maxHeartbeats 4000000 in
theorem head_any (w0 : World) : Calls Tryz.prog 7 #[] w0 fun e w' => e = .returned (.bool true) ∧ Below w0.heap.size w0 w' := by
  obtain ⟨T1, hT1⟩ : ∃ T, tidiedS (ringL ⟨30, 40⟩ 50 50) = T := ⟨_, rfl⟩
  obtain ⟨T2, hT2⟩ : ∃ T, tidiedS (ringL ⟨30, 40⟩ 60 70) = T := ⟨_, rfl⟩
  obtain ⟨T4, hT4⟩ : ∃ T, regMeetS exD (tidiedS (ringL ⟨30, 40⟩ 50 60)) = T := ⟨_, rfl⟩
  have v1 := fun W => ring_lit 30 40 50 50 T1 (by decide) ex_e1 hT1 W
  have v2 := fun W => ring_lit 30 40 60 70 T2 (by decide) ex_e2 hT2 W
  have v5 := fun W => ring_err 499990 0 0 20 3 (by decide) ex_e5 (by decide) W
  have v6 := fun W => ring_err 0 0 3 2 1 (by decide) ex_e6 (by decide) W
  have r1 := ex_r1
  have r2 := ex_r2
  have r4 := ex_r4
  have g1 := regB_iff.1 (ring_regB ex_e1)
  have g2 := regB_iff.1 (ring_regB ex_e2)
  have g4 : regB T4 = true := by rw [← hT4]; exact regB_iff.2 ⟨tidied_len _, regMeet_valid ex_vD⟩
  rw [hT1] at r1 g1
  rw [hT2] at r2 g2
  rw [hT4] at r4
  have v3 : ∀ A n c W, exS.length = n → Reg? W.heap.size W A exS → Calls Tryz.prog 16 #[.slice A n c, .agg #[.int .i64 100, .int .i64 100], .int .i64 7, .int .i64 2] W (RetRegOk W.heap.size W [[⟨0, 0⟩]]) := fun A n c W hn hr => by
    refine (Wedge_any A n c exS ⟨100, 100⟩ 7 2 W hn (by rw [← hn]; decide) hr (fun r hr => ok64_of_pl ((show ∀ r ∈ exS, ∀ p ∈ r, plB p = true by decide) r hr))).mono ?_
    rintro e w' (⟨-, h⟩ | ⟨h, -⟩)
    · rw [ex_r3] at h; exact h
    · exact absurd ex_e3 h
  have v4 : ∀ A n c W, exD.length = n → Reg? W.heap.size W A exD → Calls Tryz.prog 20 #[.slice A n c, .agg #[.int .i64 30, .int .i64 40], .agg #[.int .i64 50, .int .i64 60]] W (RetRegOk W.heap.size W T4) := fun A n c W hn hr => by
    refine (Near_any A n c exD ⟨30, 40⟩ 50 60 W hn (by rw [← hn]; decide) hr (fun r hr => ok64_of_pl ((show ∀ r ∈ exD, ∀ p ∈ r, plB p = true by decide) r hr)) (i64_lit (by decide))).mono ?_
    rintro e w' (⟨-, h⟩ | ⟨h, -⟩)
    · rw [hT4] at h; exact h
    · exact absurd ex_e4 h
  have q1 : ∀ A n c W, T1.length = n → Reg? W.heap.size W A T1 → Calls Tryz.prog 19 #[.slice A n c, .agg #[.int .i64 0, .int .i64 0]] W fun e w' => e = .returned (.bool true) ∧ Below W.heap.size W w' := fun A n c W hn hr => by
    have h := RIn_any A n c T1 ⟨0, 0⟩ W hn (by have := g1.1; omega) hr (regB_iff.1 (regB_iff.2 g1)).2 (by unfold Nr; decide)
    rw [r1] at h; exact h
  have q2 : ∀ A n c W, T2.length = n → Reg? W.heap.size W A T2 → Calls Tryz.prog 19 #[.slice A n c, .agg #[.int .i64 0, .int .i64 0]] W fun e w' => e = .returned (.bool false) ∧ Below W.heap.size W w' := fun A n c W hn hr => by
    have h := RIn_any A n c T2 ⟨0, 0⟩ W hn (by have := g2.1; omega) hr g2.2 (by unfold Nr; decide)
    rw [r2] at h; exact h
  have q4 : ∀ A n c W, T4.length = n → Reg? W.heap.size W A T4 → Calls Tryz.prog 19 #[.slice A n c, .agg #[.int .i64 0, .int .i64 0]] W fun e w' => e = .returned (.bool true) ∧ Below W.heap.size W w' := fun A n c W hn hr => by
    have h := RIn_any A n c T4 ⟨0, 0⟩ W hn (by have := (regB_iff.1 g4).1; omega) hr (regB_iff.1 g4).2 (by unfold Nr; decide)
    rw [r4] at h; exact h
  have q3 : ∀ A B n m c d W, [[(⟨0, 0⟩ : Pt)]].length = n → [[(⟨0, 0⟩ : Pt)]].length = m → Reg? W.heap.size W A [[⟨0, 0⟩]] → Reg? W.heap.size W B [[⟨0, 0⟩]] → Calls Tryz.prog 22 #[.slice A n c, .slice B m d] W fun e w' => e = .returned (.bool true) ∧ Below W.heap.size W w' := fun A B n m c d W hn hm hr hs => by
    have h := RRSame_any A B n m c d [[⟨0, 0⟩]] [[⟨0, 0⟩]] W hn hm (by rw [← hn]; decide) (by rw [← hm]; decide) (by decide) (by decide) hr hs
    simpa using h
  have V1 := Lib.hid v1
  have V2 := Lib.hid v2
  have V3 := Lib.hid v3
  have V4 := Lib.hid v4
  have V5 := Lib.hid v5
  have V6 := Lib.hid v6
  have Q1 := Lib.hid q1
  have Q2 := Lib.hid q2
  have Q3 := Lib.hid q3
  have Q4 := Lib.hid q4
  have hB0 : Below w0.heap.size w0 w0 := Below.refl _ _
  clear v1 v2 v3 v4 v5 v6 q1 q2 q3 q4 r1 r2 r4 g1 g2 g4 hT1 hT2 hT4
  go_enter Tryz.func7, Tryz.ntmps7
  go_wp2_with fail
  refine (at_any 30 40 _).mono ?_
  rintro e w1 ⟨rfl, hb⟩
  have hB1 : Below w0.heap.size w0 w1 := hB0.trans (hb.mono hB0.size)
  clear hb hB0
  go_wp2_with fail
  refine (V1.out _).mono ?_
  rintro e w2 ⟨v, rfl, ho, hb⟩
  have hB2 : Below w0.heap.size w0 w2 := hB1.trans (hb.mono hB1.size)
  obtain ⟨A1, c1, rfl, -⟩ := ho.slice
  have O1 := Lib.hid (ownR_mono ho (Nat.zero_le _))
  obtain ⟨L1, hL1⟩ : ∃ L, T1.length = L := ⟨_, rfl⟩
  rw [hL1] at O1 ⊢
  have HL1 := Lib.hid hL1
  clear hL1
  clear ho hb hB1
  go_wp2_with fail
  refine (at_any 30 40 _).mono ?_
  rintro e w3 ⟨rfl, hb⟩
  have hB3 : Below w0.heap.size w0 w3 := hB2.trans (hb.mono hB2.size)
  replace O1 := Lib.hid (O1.out.later hb)
  clear hb hB2
  go_wp2_with fail
  refine (V2.out _).mono ?_
  rintro e w4 ⟨v, rfl, ho, hb⟩
  have hB4 : Below w0.heap.size w0 w4 := hB3.trans (hb.mono hB3.size)
  replace O1 := Lib.hid (O1.out.later hb)
  obtain ⟨A2, c2, rfl, -⟩ := ho.slice
  have O2 := Lib.hid (ownR_mono ho (Nat.zero_le _))
  obtain ⟨L2, hL2⟩ : ∃ L, T2.length = L := ⟨_, rfl⟩
  rw [hL2] at O2 ⊢
  have HL2 := Lib.hid hL2
  clear hL2
  clear ho hb hB3
  go_wp2_with fail
  refine (at_any 0 0 _).mono ?_
  rintro e w5 ⟨rfl, hb⟩
  have hB5 : Below w0.heap.size w0 w5 := hB4.trans (hb.mono hB4.size)
  replace O1 := Lib.hid (O1.out.later hb)
  replace O2 := Lib.hid (O2.out.later hb)
  clear hb hB4
  go_wp2_with fail
  refine (at_any 0 90 _).mono ?_
  rintro e w6 ⟨rfl, hb⟩
  have hB6 : Below w0.heap.size w0 w6 := hB5.trans (hb.mono hB5.size)
  replace O1 := Lib.hid (O1.out.later hb)
  replace O2 := Lib.hid (O2.out.later hb)
  clear hb hB5
  go_wp2_with fail
  refine (at_any 200 200 _).mono ?_
  rintro e w7 ⟨rfl, hb⟩
  have hB7 : Below w0.heap.size w0 w7 := hB6.trans (hb.mono hB6.size)
  replace O1 := Lib.hid (O1.out.later hb)
  replace O2 := Lib.hid (O2.out.later hb)
  clear hb hB6
  go_wp2_with fail
  have hbA : Below w7.heap.size w7 (w7.alloc (.cells #[.int .i64 0, .int .i64 0, .int .i64 0, .int .i64 90, .int .i64 200, .int .i64 200] 23)) := (Below.refl _ _).alloc (Nat.le_refl _) _
  have hk : (w7.alloc (.cells #[.int .i64 0, .int .i64 0, .int .i64 0, .int .i64 90, .int .i64 200, .int .i64 200] 23)).heap[w7.heap.size]? = some (.cells #[.int .i64 0, .int .i64 0, .int .i64 0, .int .i64 90, .int .i64 200, .int .i64 200] 23 (0, 0)) := World.alloc_heap_new w7 _
  replace O1 := Lib.hid (O1.out.later hbA)
  replace O2 := Lib.hid (O2.out.later hbA)
  have hBA : Below w0.heap.size w0 (w7.alloc (.cells #[.int .i64 0, .int .i64 0, .int .i64 0, .int .i64 90, .int .i64 200, .int .i64 200] 23)) := hB7.trans (hbA.mono hB7.size)
  generalize w7.alloc (.cells #[.int .i64 0, .int .i64 0, .int .i64 0, .int .i64 90, .int .i64 200, .int .i64 200] 23) = Z at *
  have hcall := single_any (some ⟨w7.heap.size, 0, none⟩) 3 3 [⟨0, 0⟩, ⟨0, 90⟩, ⟨200, 200⟩] Z rfl (by decide) (pts_lit hk (fun i p hp => by
    match i, hp with
    | 0, hp => cases hp; exact ⟨rfl, rfl⟩
    | 1, hp => cases hp; exact ⟨rfl, rfl⟩
    | 2, hp => cases hp; exact ⟨rfl, rfl⟩
    | i + 3, hp => simp at hp))
  clear hk
  refine hcall.mono ?_
  rintro e w8 ⟨v, rfl, ho, hb⟩
  have hB8 : Below w0.heap.size w0 w8 := hBA.trans (hb.mono hBA.size)
  replace O1 := Lib.hid (O1.out.later hb)
  replace O2 := Lib.hid (O2.out.later hb)
  simp only [List.map_cons, List.map_nil] at ho
  obtain ⟨As, cs, rfl, -⟩ := ho.slice
  have Os := Lib.hid (ownR_mono ho (Nat.zero_le _))
  clear ho hb hbA hBA hcall hB7
  go_wp2_with fail
  refine (at_any 100 100 _).mono ?_
  rintro e w9 ⟨rfl, hb⟩
  have hB9 : Below w0.heap.size w0 w9 := hB8.trans (hb.mono hB8.size)
  replace O1 := Lib.hid (O1.out.later hb)
  replace O2 := Lib.hid (O2.out.later hb)
  replace Os := Lib.hid (Os.out.later hb)
  clear hb hB8
  go_wp2_with fail
  obtain ⟨Ax, cx, ex, -, -, -, hreg⟩ := Os.out.slice
  cases ex
  refine (V3.out _ _ _ _ rfl hreg).mono ?_
  rintro e w10 ⟨v, rfl, ho, hb⟩
  have hB10 : Below w0.heap.size w0 w10 := hB9.trans (hb.mono hB9.size)
  clear hreg
  replace O1 := Lib.hid (O1.out.later hb)
  replace O2 := Lib.hid (O2.out.later hb)
  replace Os := Lib.hid (Os.out.later hb)
  clear Os
  obtain ⟨A3, c3, rfl, -⟩ := ho.slice
  have O3 := Lib.hid (ownR_mono ho (Nat.zero_le _))
  clear ho hb hB9
  go_wp2_with fail
  refine (at_any 0 0 _).mono ?_
  rintro e w11 ⟨rfl, hb⟩
  have hB11 : Below w0.heap.size w0 w11 := hB10.trans (hb.mono hB10.size)
  replace O1 := Lib.hid (O1.out.later hb)
  replace O2 := Lib.hid (O2.out.later hb)
  replace O3 := Lib.hid (O3.out.later hb)
  clear hb hB10
  go_wp2_with fail
  refine (at_any 1 1 _).mono ?_
  rintro e w12 ⟨rfl, hb⟩
  have hB12 : Below w0.heap.size w0 w12 := hB11.trans (hb.mono hB11.size)
  replace O1 := Lib.hid (O1.out.later hb)
  replace O2 := Lib.hid (O2.out.later hb)
  replace O3 := Lib.hid (O3.out.later hb)
  clear hb hB11
  go_wp2_with fail
  have hbA : Below w12.heap.size w12 (w12.alloc (.cells #[.int .i64 0, .int .i64 0, .int .i64 1, .int .i64 1] 23)) := (Below.refl _ _).alloc (Nat.le_refl _) _
  have hk : (w12.alloc (.cells #[.int .i64 0, .int .i64 0, .int .i64 1, .int .i64 1] 23)).heap[w12.heap.size]? = some (.cells #[.int .i64 0, .int .i64 0, .int .i64 1, .int .i64 1] 23 (0, 0)) := World.alloc_heap_new w12 _
  replace O1 := Lib.hid (O1.out.later hbA)
  replace O2 := Lib.hid (O2.out.later hbA)
  replace O3 := Lib.hid (O3.out.later hbA)
  have hBA : Below w0.heap.size w0 (w12.alloc (.cells #[.int .i64 0, .int .i64 0, .int .i64 1, .int .i64 1] 23)) := hB12.trans (hbA.mono hB12.size)
  generalize w12.alloc (.cells #[.int .i64 0, .int .i64 0, .int .i64 1, .int .i64 1] 23) = Z at *
  have hcall := single_any (some ⟨w12.heap.size, 0, none⟩) 2 2 [⟨0, 0⟩, ⟨1, 1⟩] Z rfl (by decide) (pts_lit hk (fun i p hp => by
    match i, hp with
    | 0, hp => cases hp; exact ⟨rfl, rfl⟩
    | 1, hp => cases hp; exact ⟨rfl, rfl⟩
    | i + 2, hp => simp at hp))
  clear hk
  refine hcall.mono ?_
  rintro e w13 ⟨v, rfl, ho, hb⟩
  have hB13 : Below w0.heap.size w0 w13 := hBA.trans (hb.mono hBA.size)
  replace O1 := Lib.hid (O1.out.later hb)
  replace O2 := Lib.hid (O2.out.later hb)
  replace O3 := Lib.hid (O3.out.later hb)
  simp only [List.map_cons, List.map_nil] at ho
  obtain ⟨As, cs, rfl, -⟩ := ho.slice
  have Os := Lib.hid (ownR_mono ho (Nat.zero_le _))
  clear ho hb hbA hBA hcall hB12
  go_wp2_with fail
  refine (at_any 30 40 _).mono ?_
  rintro e w14 ⟨rfl, hb⟩
  have hB14 : Below w0.heap.size w0 w14 := hB13.trans (hb.mono hB13.size)
  replace O1 := Lib.hid (O1.out.later hb)
  replace O2 := Lib.hid (O2.out.later hb)
  replace O3 := Lib.hid (O3.out.later hb)
  replace Os := Lib.hid (Os.out.later hb)
  clear hb hB13
  go_wp2_with fail
  obtain ⟨Ax, cx, ex, -, -, -, hreg⟩ := Os.out.slice
  cases ex
  refine (V4.out _ _ _ _ rfl hreg).mono ?_
  rintro e w15 ⟨v, rfl, ho, hb⟩
  have hB15 : Below w0.heap.size w0 w15 := hB14.trans (hb.mono hB14.size)
  clear hreg
  replace O1 := Lib.hid (O1.out.later hb)
  replace O2 := Lib.hid (O2.out.later hb)
  replace O3 := Lib.hid (O3.out.later hb)
  replace Os := Lib.hid (Os.out.later hb)
  clear Os
  obtain ⟨A4, c4, rfl, -⟩ := ho.slice
  have O4 := Lib.hid (ownR_mono ho (Nat.zero_le _))
  obtain ⟨L4, hL4⟩ : ∃ L, T4.length = L := ⟨_, rfl⟩
  rw [hL4] at O4 ⊢
  have HL4 := Lib.hid hL4
  clear hL4
  clear ho hb hB14
  go_wp2_with fail
  refine (at_any 499990 0 _).mono ?_
  rintro e w16 ⟨rfl, hb⟩
  have hB16 : Below w0.heap.size w0 w16 := hB15.trans (hb.mono hB15.size)
  replace O1 := Lib.hid (O1.out.later hb)
  replace O2 := Lib.hid (O2.out.later hb)
  replace O3 := Lib.hid (O3.out.later hb)
  replace O4 := Lib.hid (O4.out.later hb)
  clear hb hB15
  go_wp2_with fail
  refine (V5.out _).mono ?_
  rintro e w17 ⟨rfl, hb⟩
  have hB17 : Below w0.heap.size w0 w17 := hB16.trans (hb.mono hB16.size)
  replace O1 := Lib.hid (O1.out.later hb)
  replace O2 := Lib.hid (O2.out.later hb)
  replace O3 := Lib.hid (O3.out.later hb)
  replace O4 := Lib.hid (O4.out.later hb)
  clear hb hB16
  go_wp2_with fail
  refine (at_any 0 0 _).mono ?_
  rintro e w18 ⟨rfl, hb⟩
  have hB18 : Below w0.heap.size w0 w18 := hB17.trans (hb.mono hB17.size)
  replace O1 := Lib.hid (O1.out.later hb)
  replace O2 := Lib.hid (O2.out.later hb)
  replace O3 := Lib.hid (O3.out.later hb)
  replace O4 := Lib.hid (O4.out.later hb)
  clear hb hB17
  go_wp2_with fail
  refine (V6.out _).mono ?_
  rintro e w19 ⟨rfl, hb⟩
  have hB19 : Below w0.heap.size w0 w19 := hB18.trans (hb.mono hB18.size)
  replace O1 := Lib.hid (O1.out.later hb)
  replace O2 := Lib.hid (O2.out.later hb)
  replace O3 := Lib.hid (O3.out.later hb)
  replace O4 := Lib.hid (O4.out.later hb)
  clear hb hB18
  go_wp2_with fail
  refine (at_any 0 0 _).mono ?_
  rintro e w20 ⟨rfl, hb⟩
  have hB20 : Below w0.heap.size w0 w20 := hB19.trans (hb.mono hB19.size)
  replace O1 := Lib.hid (O1.out.later hb)
  replace O2 := Lib.hid (O2.out.later hb)
  replace O3 := Lib.hid (O3.out.later hb)
  replace O4 := Lib.hid (O4.out.later hb)
  clear hb hB19
  go_wp2_with fail
  obtain ⟨Ax, cx, ex, -, -, -, hreg⟩ := O1.out.slice
  rw [HL1.out] at ex
  cases ex
  refine (Q1.out _ _ _ _ HL1.out hreg).mono ?_
  rintro e w21 ⟨rfl, hb⟩
  have hB21 : Below w0.heap.size w0 w21 := hB20.trans (hb.mono hB20.size)
  clear hreg
  replace O1 := Lib.hid (O1.out.later hb)
  replace O2 := Lib.hid (O2.out.later hb)
  replace O3 := Lib.hid (O3.out.later hb)
  replace O4 := Lib.hid (O4.out.later hb)
  clear hb hB20
  go_wp2_with fail
  refine (at_any 0 0 _).mono ?_
  rintro e w22 ⟨rfl, hb⟩
  have hB22 : Below w0.heap.size w0 w22 := hB21.trans (hb.mono hB21.size)
  replace O1 := Lib.hid (O1.out.later hb)
  replace O2 := Lib.hid (O2.out.later hb)
  replace O3 := Lib.hid (O3.out.later hb)
  replace O4 := Lib.hid (O4.out.later hb)
  clear hb hB21
  go_wp2_with fail
  obtain ⟨Ax, cx, ex, -, -, -, hreg⟩ := O2.out.slice
  rw [HL2.out] at ex
  cases ex
  refine (Q2.out _ _ _ _ HL2.out hreg).mono ?_
  rintro e w23 ⟨rfl, hb⟩
  have hB23 : Below w0.heap.size w0 w23 := hB22.trans (hb.mono hB22.size)
  clear hreg
  replace O1 := Lib.hid (O1.out.later hb)
  replace O2 := Lib.hid (O2.out.later hb)
  replace O3 := Lib.hid (O3.out.later hb)
  replace O4 := Lib.hid (O4.out.later hb)
  clear hb hB22
  go_wp2_with fail
  refine (at_any 0 0 _).mono ?_
  rintro e w24 ⟨rfl, hb⟩
  have hB24 : Below w0.heap.size w0 w24 := hB23.trans (hb.mono hB23.size)
  replace O1 := Lib.hid (O1.out.later hb)
  replace O2 := Lib.hid (O2.out.later hb)
  replace O3 := Lib.hid (O3.out.later hb)
  replace O4 := Lib.hid (O4.out.later hb)
  clear hb hB23
  go_wp2_with fail
  have hbA : Below w24.heap.size w24 (w24.alloc (.cells #[.int .i64 0, .int .i64 0] 23)) := (Below.refl _ _).alloc (Nat.le_refl _) _
  have hk : (w24.alloc (.cells #[.int .i64 0, .int .i64 0] 23)).heap[w24.heap.size]? = some (.cells #[.int .i64 0, .int .i64 0] 23 (0, 0)) := World.alloc_heap_new w24 _
  replace O1 := Lib.hid (O1.out.later hbA)
  replace O2 := Lib.hid (O2.out.later hbA)
  replace O3 := Lib.hid (O3.out.later hbA)
  replace O4 := Lib.hid (O4.out.later hbA)
  have hBA : Below w0.heap.size w0 (w24.alloc (.cells #[.int .i64 0, .int .i64 0] 23)) := hB24.trans (hbA.mono hB24.size)
  generalize w24.alloc (.cells #[.int .i64 0, .int .i64 0] 23) = Z at *
  have hcall := single_any (some ⟨w24.heap.size, 0, none⟩) 1 1 [⟨0, 0⟩] Z rfl (by decide) (pts_lit hk (fun i p hp => by
    match i, hp with
    | 0, hp => cases hp; exact ⟨rfl, rfl⟩
    | i + 1, hp => simp at hp))
  clear hk
  refine hcall.mono ?_
  rintro e w25 ⟨v, rfl, ho, hb⟩
  have hB25 : Below w0.heap.size w0 w25 := hBA.trans (hb.mono hBA.size)
  replace O1 := Lib.hid (O1.out.later hb)
  replace O2 := Lib.hid (O2.out.later hb)
  replace O3 := Lib.hid (O3.out.later hb)
  replace O4 := Lib.hid (O4.out.later hb)
  simp only [List.map_cons, List.map_nil] at ho
  obtain ⟨As, cs, rfl, -⟩ := ho.slice
  have Os := Lib.hid (ownR_mono ho (Nat.zero_le _))
  clear ho hb hbA hBA hcall hB24
  go_wp2_with fail
  obtain ⟨Ax, cx, ex, -, -, -, hreg⟩ := O3.out.slice
  cases ex
  obtain ⟨Ay, cy, ey, -, -, -, hreg2⟩ := Os.out.slice
  cases ey
  refine (Q3.out _ _ _ _ _ _ _ rfl rfl hreg hreg2).mono ?_
  rintro e w26 ⟨rfl, hb⟩
  have hB26 : Below w0.heap.size w0 w26 := hB25.trans (hb.mono hB25.size)
  clear hreg hreg2
  replace O1 := Lib.hid (O1.out.later hb)
  replace O2 := Lib.hid (O2.out.later hb)
  replace O3 := Lib.hid (O3.out.later hb)
  replace O4 := Lib.hid (O4.out.later hb)
  replace Os := Lib.hid (Os.out.later hb)
  clear hb hB25
  go_wp2_with fail
  refine (at_any 0 0 _).mono ?_
  rintro e w27 ⟨rfl, hb⟩
  have hB27 : Below w0.heap.size w0 w27 := hB26.trans (hb.mono hB26.size)
  replace O1 := Lib.hid (O1.out.later hb)
  replace O2 := Lib.hid (O2.out.later hb)
  replace O3 := Lib.hid (O3.out.later hb)
  replace O4 := Lib.hid (O4.out.later hb)
  replace Os := Lib.hid (Os.out.later hb)
  clear hb hB26
  go_wp2_with fail
  obtain ⟨Ax, cx, ex, -, -, -, hreg⟩ := O4.out.slice
  rw [HL4.out] at ex
  cases ex
  refine (Q4.out _ _ _ _ HL4.out hreg).mono ?_
  rintro e w28 ⟨rfl, hb⟩
  have hB28 : Below w0.heap.size w0 w28 := hB27.trans (hb.mono hB27.size)
  clear hreg
  replace O1 := Lib.hid (O1.out.later hb)
  replace O2 := Lib.hid (O2.out.later hb)
  replace O3 := Lib.hid (O3.out.later hb)
  replace O4 := Lib.hid (O4.out.later hb)
  replace Os := Lib.hid (Os.out.later hb)
  clear hb hB27
  go_wp2_with fail
  go_ret
  exact ⟨rfl, hB28⟩
end Go.Proofs.YtnhdnkeiijiiaaaGreat
