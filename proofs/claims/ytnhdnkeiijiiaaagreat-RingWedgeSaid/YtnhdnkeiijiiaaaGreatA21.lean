import Derived.Test.YtnhdnkeiijiiaaaGreatA19
import Derived.BigQuiet
import Derived.BigRegion
namespace Go.Proofs.YtnhdnkeiijiiaaaGreat
open Go.RowKit Go.Shelf
set_option linter.unusedSimpArgs false
set_option linter.unusedVariables false
/-- the polygons of single places -/
def singS (l : List Pt) : List (List Pt) := l.map fun p => [p]
theorem mul_nn {a b : Int} (ha : 0 ≤ a) (hb : 0 ≤ b) : 0 ≤ a * b := Int.mul_nonneg ha hb
theorem sq_nn (a : Int) : 0 ≤ a * a := by
  rcases Int.le_total 0 a with h | h
  · exact Int.mul_nonneg h h
  · have := Int.mul_nonneg (show 0 ≤ -a by omega) (show 0 ≤ -a by omega); rwa [Int.neg_mul_neg] at this
theorem sq_pos {a : Int} (h : a ≠ 0) : 0 < a * a := by
  have h1 := sq_nn a
  have h2 : a * a ≠ 0 := Int.mul_ne_zero h h
  omega
theorem atS_wrap (a n : Nat) : atS ((a + n) % 64) = atS (a + n) := by
  unfold atS
  rw [show (a + n) % 64 % 16 = (a + n) % 16 by omega, show (a + n) % 64 / 16 % 4 = (a + n) / 16 % 4 by omega]
theorem rays_turn : ∀ a, a < 64 → ∀ n, n < 32 → 0 ≤ crS (atS a) (atS ((a + n) % 64)) := by decide +kernel
/-- over a wedge's half-planes -/
theorem over_left (b s t y : Pt) : overQ (wedgeH b s t 0) y.q = -crS s (vecS y b) := by simp only [overQ, wedgeH, Pt.q, crS, vecS]; grind
theorem over_right (b s t y : Pt) : overQ (wedgeH b s t 1) y.q = -crS (vecS y b) t := by simp only [overQ, wedgeH, Pt.q, crS, vecS]; grind
theorem over_ahead (b s t y : Pt) : overQ (wedgeH b s t 2) y.q = -(s.x * (vecS y b).x + s.y * (vecS y b).y) := by simp only [overQ, wedgeH, Pt.q, vecS]; grind
theorem over_pt (h : Hf) (y : Pt) : overQ h y.q = overS h y := by simp only [overQ, overS, Pt.q]; grind
/-- in the wedge between two rays: three products' signs -/
theorem sees_iff {y b : Pt} {a n : Nat} (ha : a < 64) (hn : n < 32) : seesB y b a n = true ↔ 0 ≤ crS (atS a) (vecS y b) ∧ 0 ≤ crS (vecS y b) (atS ((a + n) % 64)) ∧ (n = 0 → 0 ≤ (atS a).x * (vecS y b).x + (atS a).y * (vecS y b).y) := by
  have hr := rays_turn a ha n hn
  have hs := (rayB_at ha).2.2
  have hw := atS_wrap a n
  rw [hw] at hr ⊢
  have h0 : n = 0 → atS (a + n) = atS a := fun h => by rw [h]; rfl
  unfold seesB liesB onB
  generalize vecS y b = v at *
  generalize atS a = s at *
  generalize atS (a + n) = t at *
  obtain ⟨vx, vy⟩ := v
  obtain ⟨sx, sy⟩ := s
  obtain ⟨tx, ty⟩ := t
  have hsp : ∀ c : Bool, ∀ x z : Bool, ((if c = true then x else z) = true) ↔ ((c = true ∧ x = true) ∨ (c = false ∧ z = true)) := by intro c x z; cases c <;> simp
  rw [Bool.or_eq_true, hsp]
  simp only [Bool.or_eq_true, Bool.or_eq_false_iff, Bool.and_eq_true, decide_eq_true_eq, decide_eq_false_iff_not, Bool.and_eq_false_iff]
  simp only [crS, Pt.mk.injEq] at *
  have hss : 0 < sx * sx + sy * sy := by
    rcases hs with h | h
    · have := sq_pos h; have := sq_nn sy; omega
    · have := sq_pos h; have := sq_nn sx; omega
  have id1 : (sx * sx + sy * sy) * (vx * ty - vy * tx) = (sx * vx + sy * vy) * (sx * ty - sy * tx) + (sx * vy - sy * vx) * (-sy * ty - sx * tx) := by grind
  have id2 : (sx * sx + sy * sy) * (vx * vx + vy * vy) = (sx * vx + sy * vy) * (sx * vx + sy * vy) + (sx * vy - sy * vx) * (sx * vy - sy * vx) := by grind
  constructor
  · rintro (⟨rfl, rfl⟩ | h)
    · simp
    · rcases h with ⟨-, h⟩ | ⟨hc, h⟩
      · obtain ⟨h1, h2⟩ := h
        have e : 0 ≤ (sx * sx + sy * sy) * (vx * ty - vy * tx) := by
          rw [id1, h1]; have := mul_nn (Int.le_of_lt h2) hr; omega
        exact ⟨by omega, Int.nonneg_of_mul_nonneg_right e hss, fun _ => Int.le_of_lt h2⟩
      · obtain ⟨h1, h2⟩ := h
        exact ⟨h1, h2, fun e => absurd (show (n : Int) = 0 by omega) hc.1⟩
  · rintro ⟨h1, h2, h3⟩
    by_cases hv : vx = 0 ∧ vy = 0
    · exact .inl hv
    · refine .inr ?_
      by_cases h : n = 0
      · obtain ⟨e8, e9⟩ := h0 h
        rw [e8, e9] at h2
        have e0 : sx * vy - sy * vx = 0 := by
          have : vx * sy - vy * sx = -(sx * vy - sy * vx) := by grind
          omega
        have e1 := h3 h
        have e2 : sx * vx + sy * vy ≠ 0 := fun k => by
          rw [k, e0] at id2
          have : 0 < vx * vx + vy * vy := by
            by_cases hx : vx = 0
            · have := sq_pos (fun k => hv ⟨hx, k⟩ : vy ≠ 0); have := sq_nn vx; omega
            · have := sq_pos hx; have := sq_nn vy; omega
          have := Int.mul_pos hss this
          omega
        exact .inl ⟨.inl (by omega), e0, by omega⟩
      · by_cases hc : sx * vy - sy * vx = 0 ∧ 0 < sx * vx + sy * vy
        · exact .inl ⟨.inr hc, hc⟩
        · have h' : ¬ ((n : Int) = 0) := by omega
          exact .inr ⟨⟨h', by omega⟩, h1, h2⟩
/-- what sees stays -/
theorem wedge_keeps {rs : List (List Pt)} {q y : Pt} {a n : Nat} (ha : a < 64) (hn : n < 32) (hv : ∀ r ∈ rs, validB r = true) (h : Has rs y.q) (hs : seesB y q a n = true) : Has (wedgeS rs q a n) y.q := by
  obtain ⟨h1, h2, h3⟩ := (sees_iff ha hn).1 hs
  have g1 := regCut_Has hv (h := wedgeH q (atS a) (atS ((a + n) % 64)) 0) (by simp [Pt.q]) h (by rw [over_left]; omega)
  have v1 := regCut_valid hv (wedgeH q (atS a) (atS ((a + n) % 64)) 0)
  have g2 := regCut_Has v1 (h := wedgeH q (atS a) (atS ((a + n) % 64)) 1) (by simp [Pt.q]) g1 (by rw [over_right]; omega)
  have v2 := regCut_valid v1 (wedgeH q (atS a) (atS ((a + n) % 64)) 1)
  unfold wedgeS
  rw [show ((a : Int) + (n : Int)).toNat % 64 = (a + n) % 64 by omega, show (a : Int).toNat = a by omega]
  by_cases h0 : n = 0
  · rw [if_pos (by omega)]
    exact regCut_Has v2 (h := wedgeH q (atS a) (atS ((a + n) % 64)) 2) (by simp [Pt.q]) g2 (by rw [over_ahead]; have := h3 h0; omega)
  · rw [if_neg (by omega)]
    exact g2
theorem cut_single (p : Pt) (h : Hf) : cutPts [p] h = if overS h p ≤ 0 then [p] else [] := by
  have hx : crossesB (overS h p) (overS h p) = false := by
    unfold crossesB; simp only [Bool.or_eq_false_iff, Bool.and_eq_false_iff, decide_eq_false_iff_not]; omega
  have hs : sidesL [p] = [(p, p)] := by simp [sidesL, List.range_succ]
  simp [cutPts, hs, keepS, hx]
theorem around_single (p : Pt) : aroundS [p] = [p] := by
  have hh : hullS [p] = [p] := rfl
  simp [aroundS, aroundF, hh]
/-- what cuts leave of single places -/
theorem cuts_single {l : List Pt} (hl : l.length ≤ 32) {q s t : Pt} : ∀ k, (wedgeR (singS l) q s t k).length ≤ 32 ∧ ∀ r ∈ wedgeR (singS l) q s t k, ∃ p, r = [p] ∧ ∀ j, j < k → overS (wedgeH q s t j) p ≤ 0
  | 0 => ⟨by simpa [wedgeR, singS] using hl, fun r hr => by
    obtain ⟨p, -, rfl⟩ := List.mem_map.1 hr
    exact ⟨p, rfl, fun j hj => absurd hj (by omega)⟩⟩
  | k + 1 => by
    obtain ⟨ih1, ih2⟩ := cuts_single hl (q := q) (s := s) (t := t) k
    refine ⟨tidied_len _, fun r hr => ?_⟩
    have hlen : (cutPolys (wedgeR (singS l) q s t k) (wedgeH q s t k)).length ≤ 32 := by
      refine Nat.le_trans ?_ ih1
      unfold cutPolys
      generalize wedgeR (singS l) q s t k = rs
      clear ih1 ih2 hr
      induction rs with
      | nil => simp
      | cons a rs ih => simp only [List.flatMap_cons, List.length_append, List.length_cons]; have := polyIf_len (cutPts a (wedgeH q s t k)); omega
    have hr2 := tidied_sub hlen hr
    obtain ⟨r0, hr0, hm⟩ := List.mem_flatMap.1 hr2
    obtain ⟨p, rfl, hp⟩ := ih2 r0 hr0
    rw [cut_single] at hm
    by_cases ho : overS (wedgeH q s t k) p ≤ 0
    · rw [if_pos ho] at hm
      have : r = [p] := by simpa [polyIf, around_single] using hm
      refine ⟨p, this, fun j hj => ?_⟩
      rcases Nat.lt_succ_iff_lt_or_eq.1 hj with h | rfl
      · exact hp j h
      · exact ho
    · rw [if_neg ho] at hm
      simp [polyIf] at hm
theorem cov_single {p y : Pt} (h : Cov [p] y.q) : y = p := by
  have f : ∀ A B, A * y.x + B * y.y ≤ A * p.x + B * p.y := fun A B => by
    have := h A B (hp A B p) (by simp)
    simpa [hq, hp, Pt.q] using this
  have a1 := f 1 0
  have a2 := f (-1) 0
  have a3 := f 0 1
  have a4 := f 0 (-1)
  obtain ⟨x, z⟩ := y
  obtain ⟨x', z'⟩ := p
  simp only [Pt.mk.injEq] at *
  omega
/-- of single places those stay that see -/
theorem wedge_single {l : List Pt} (hl : l.length ≤ 32) {q y : Pt} {a n : Nat} (ha : a < 64) (hn : n < 32) (hv : ∀ r ∈ singS l, validB r = true) (hy : y ∈ l) : Has (wedgeS (singS l) q a n) y.q ↔ seesB y q a n = true := by
  constructor
  · intro h
    unfold wedgeS at h
    rw [show ((a : Int) + (n : Int)).toNat % 64 = (a + n) % 64 by omega, show (a : Int).toNat = a by omega] at h
    obtain ⟨r, hr, hc⟩ := h
    obtain ⟨p, rfl, hp⟩ := (cuts_single hl _).2 r hr
    obtain rfl := cov_single hc
    have h1 := hp 0 (by split <;> omega)
    have h2 := hp 1 (by split <;> omega)
    rw [← over_pt, over_left] at h1
    rw [← over_pt, over_right] at h2
    refine (sees_iff ha hn).2 ⟨by omega, by omega, fun h0 => ?_⟩
    have h3 := hp 2 (by rw [if_pos (by omega)]; omega)
    rw [← over_pt, over_ahead] at h3
    omega
  · exact wedge_keeps ha hn hv ⟨[y], List.mem_map.2 ⟨y, hy, rfl⟩, Cov.of_mem (List.mem_singleton.2 rfl)⟩
theorem wedgeS_valid {rs : List (List Pt)} {q : Pt} {a n : Int} (h : regB rs = true) : regB (wedgeS rs q a n) = true := wedge_regB h _
end Go.Proofs.YtnhdnkeiijiiaaaGreat
namespace Go.Proofs.YtnhdnkeiijiiaaaGreat
open Go.RowKit Go.Shelf
set_option linter.unusedSimpArgs false
set_option linter.unusedVariables false
attribute [local go_sem ↓] Go.wp_at_zero Go.wp_at_succ
theorem retIf_one {base : Nat} {w w' : World} {E : Int} {rs : List (List Pt)} {e : Ending} (h : RetRegIf base w E rs e w') : ∃ v, e = .returned (.tuple #[v, .int .i64 E]) ∧ (E = 0 → OwnR w' base v rs) ∧ Below w.heap.size w w' := by
  rcases h with ⟨h0, v, rfl, ho, hb⟩ | ⟨h0, rfl, hb⟩
  · subst h0; exact ⟨v, rfl, fun _ => ho, hb⟩
  · exact ⟨_, rfl, fun h => absurd h h0, hb⟩
set_option maxHeartbeats 3200000 in
set_option maxRecDepth 100000 in
theorem ringWedge_walk (A B : Option Addr) (n c m d : Nat) (rs : List (List Pt)) (l : List Pt) (xx xy a k : Int) (w : World) (hn : rs.length = n) (hbig : n ≤ 9223372036854775807) (hx : Reg? w.heap.size w A rs) (hI : Oks64 rs) (hL : Short rs) (hm : l.length = m) (hbm : m ≤ 9223372036854775807) (hl : Pts? w.heap.size w B l) (hlI : Ok64 l) (hq : I64 xx ∧ I64 xy) :
    Calls Tryz.prog 5 #[.slice A n c, .agg #[.int .i64 xx, .int .i64 xy], .int .i64 a, .int .i64 k, .slice B m d] w fun e w' => e = .returned (.bool true) ∧ Below w.heap.size w w' := by
  have hp : ∀ ops, PlainOps Fence.wide ops := fun ops => plainOps_none rfl
  have v1 := fun W => head_any W
  have V1 := Lib.hid v1
  by_cases h20 : 20 < m
  · have d20 : decide ((20 : Int) < (m : Int)) = true := decide_eq_true (by omega)
    clear v1 hx hl
    refine (callsIn_wide (n := 6)).1 ?_
    refine callsIn_of_wp Tryz.func5 rfl trivial ?_ rfl
    simp only [Tryz.ntmps5, List.size_toArray, List.length_cons, List.length_nil, Nat.reduceAdd, Nat.reduceSub, Array.replicate_succ, Array.replicate_zero, List.push_toArray, List.append_toArray, List.nil_append, List.cons_append]
    gi_wp2
    refine ⟨trivial, (callsIn_wide.2 (V1.out _)).mono ?_⟩
    rintro e w1 ⟨rfl, hb1⟩
    have hB1 : Below w.heap.size w w1 := below_after (by go_grown) hb1
    clear hb1
    gi_wp2
    refine ⟨trivial, ?_⟩
    gi_wp2
    refine bodyPost_ret (v := .bool true) (by simp [results, Tryz.f5, go_sem]) rfl ?_
    exact ⟨rfl, hB1⟩
  have d20 : decide ((20 : Int) < (m : Int)) = false := decide_eq_false (by omega)
  have vU : ∀ W, Below w.heap.size w W → Calls Tryz.prog 15 #[.slice A n c, .agg #[.int .i64 xx, .int .i64 xy], .agg #[.int .i64 0, .int .i64 0]] W (RetB (n ≤ 4 ∧ regB rs = true ∧ plB ⟨xx, xy⟩ = true ∧ distB 0 0 = true) W) := fun W hB => usable_any A n c rs ⟨xx, xy⟩ 0 0 W hn (hx.later hB) hL
  have vN : ∀ W, Below w.heap.size w W → Calls Tryz.prog 16 #[.slice A n c, .agg #[.int .i64 xx, .int .i64 xy], .int .i64 a, .int .i64 k] W (RetRegIf W.heap.size W (wedgeErr rs ⟨xx, xy⟩ a k) (wedgeS rs ⟨xx, xy⟩ a k)) := fun W hB => Wedge_any A n c rs ⟨xx, xy⟩ a k W hn hbig (hx.later hB) hI
  have VU := Lib.hid vU
  have VN := Lib.hid vN
  have HX := Lib.hid (And.intro hn hx)
  have HL := Lib.hid (And.intro hm (And.intro hl hlI))
  clear v1 vU vN hx hI hL hq hn hm hl hlI
  refine (callsIn_wide (n := 6)).1 ?_
  refine callsIn_of_wp Tryz.func5 rfl trivial ?_ rfl
  simp only [Tryz.ntmps5, List.size_toArray, List.length_cons, List.length_nil, Nat.reduceAdd, Nat.reduceSub, Array.replicate_succ, Array.replicate_zero, List.push_toArray, List.append_toArray, List.nil_append, List.cons_append]
  gi_wp2
  refine ⟨trivial, (callsIn_wide.2 (V1.out _)).mono ?_⟩
  rintro e w1 ⟨rfl, hb1⟩
  have hB1 : Below w.heap.size w w1 := below_after (by go_grown) hb1
  have c0 : w1.cell? ⟨w.heap.size, 0, none⟩ = some (.int .i64 xx) := kp hb1 (by go_cell)
  have c1 : w1.cell? ⟨w.heap.size, 1, none⟩ = some (.int .i64 xy) := kp hb1 (by go_cell)
  clear hb1
  gi_wp2
  refine ⟨trivial, (callsIn_wide.2 (VU.out _ hB1)).mono ?_⟩
  rintro e w2 ⟨bu, rfl, hu, hb2⟩
  have hB2 : Below w.heap.size w w2 := hB1.trans (hb2.mono hB1.size)
  replace c0 := kp hb2 c0
  replace c1 := kp hb2 c1
  have HU := Lib.hid hu
  clear hb2 hB1 hu VU
  cases bu with
  | false =>
    gi_wp2
    refine bodyPost_ret (v := .bool true) (by simp [results, Tryz.f5, go_sem]) rfl ?_
    exact ⟨rfl, hB2⟩
  | true =>
    obtain ⟨h4, hreg, hpl, -⟩ := HU.out rfl
    have hvv := (regB_iff.1 hreg).2
    cases hra : raysB a k with
    | false =>
      have hE : wedgeErr rs ⟨xx, xy⟩ a k = 1 := by simp [wedgeErr, hra]
      rw [hE] at VN
      gi_wp2
      refine ⟨trivial, (callsIn_wide.2 (VN.out _ hB2)).mono ?_⟩
      rintro e w3 h3
      obtain ⟨v3, rfl, -, hb3⟩ := retIf_one h3
      have hB3 : Below w.heap.size w w3 := hB2.trans (hb3.mono hB2.size)
      clear hb3 h3
      gi_wp2
      refine bodyPost_ret (v := .bool true) (by simp [results, Tryz.f5, go_sem]) rfl ?_
      exact ⟨rfl, hB3⟩
    | true =>
      have hE : wedgeErr rs ⟨xx, xy⟩ a k = 0 := by simp [wedgeErr, hra, hreg, hpl]
      obtain ⟨a', k', rfl, rfl, ha', hk'⟩ : ∃ a' k' : Nat, a = (a' : Int) ∧ k = (k' : Int) ∧ a' < 64 ∧ k' < 32 := by
        simp only [raysB, Bool.and_eq_true, decide_eq_true_eq] at hra
        exact ⟨a.toNat, k.toNat, by omega, by omega, by omega, by omega⟩
      rw [hE] at VN
      have hn := HX.out.1
      have hx := HX.out.2
      obtain ⟨hm, hl, hlI⟩ := HL.out
      have hsl : (singS l).length = m := by rw [← hm]; simp [singS]
      have hsI : Oks64 (singS l) := fun r hr => by
        obtain ⟨p, hp, rfl⟩ := List.mem_map.1 hr
        intro p' hp'
        rw [List.mem_singleton.1 hp']; exact hlI p hp
      have hsv : regB (singS l) = true → ∀ y ∈ l, plB y = true := fun h y hy => pl_of_valid ((regB_iff.1 h).2 [y] (List.mem_map.2 ⟨y, hy, rfl⟩)) y (List.mem_singleton.2 rfl)
      have key : regB (singS l) = true → ∀ y ∈ l, ((wedgeS (singS l) ⟨xx, xy⟩ a' k').any fun r => insB r y) = seesB y ⟨xx, xy⟩ a' k' ∧ (seesB y ⟨xx, xy⟩ a' k' = true → (rs.any fun r => insB r y) = true → ((wedgeS rs ⟨xx, xy⟩ a' k').any fun r => insB r y) = true) := fun h y hy => by
        have hT := (regB_iff.1 (wedgeS_valid (q := ⟨xx, xy⟩) (a := a') (n := k') h)).2
        have hS := (regB_iff.1 (wedgeS_valid (q := ⟨xx, xy⟩) (a := a') (n := k') hreg)).2
        refine ⟨?_, fun h1 h2 => (has_any hS).2 (wedge_keeps ha' hk' hvv ((has_any hvv).1 h2) h1)⟩
        have h1 := has_any (y := y) hT
        rw [wedge_single (by omega) ha' hk' (regB_iff.1 h).2 hy] at h1
        exact Bool.eq_iff_iff.2 h1
      have hE2 : wedgeErr (singS l) ⟨xx, xy⟩ a' k' = if regB (singS l) = true then 0 else 1 := by simp [wedgeErr, hra, hpl]
      have hT2 : regB (singS l) = true → regB (wedgeS (singS l) ⟨xx, xy⟩ a' k') = true := fun h => wedgeS_valid h
      have hS2 : regB (wedgeS rs ⟨xx, xy⟩ a' k') = true := wedgeS_valid hreg
      have vT : ∀ A n c W, (singS l).length = n → Reg? W.heap.size W A (singS l) → Calls Tryz.prog 16 #[.slice A n c, .agg #[.int .i64 xx, .int .i64 xy], .int .i64 a', .int .i64 k'] W (RetRegIf W.heap.size W (wedgeErr (singS l) ⟨xx, xy⟩ a' k') (wedgeS (singS l) ⟨xx, xy⟩ a' k')) := fun A n c W hn hg => Wedge_any A n c (singS l) ⟨xx, xy⟩ a' k' W hn (by omega) hg hsI
      have vSI : ∀ W, Below w.heap.size w W → Calls Tryz.prog 17 #[.slice B m d] W (RetReg W.heap.size W (singS l)) := fun W hB => single_any B m d l W hm (by omega) ((hl.upto hB).mono hB.size)
      have vV : ∀ A n c W, (singS l).length = n → Reg? W.heap.size W A (singS l) → Calls Tryz.prog 12 #[.slice A n c] W _ := fun A n c W hn hg => rValid_any A n c (singS l) W hn (by omega) hg hsI
      have vHS : ∀ A n c (y : Pt) W, (wedgeS rs ⟨xx, xy⟩ a' k').length = n → Reg? W.heap.size W A (wedgeS rs ⟨xx, xy⟩ a' k') → Calls Tryz.prog 13 #[.slice A n c, y.val] W _ := fun A n c y W hn hg => rHas_told A n c (wedgeS rs ⟨xx, xy⟩ a' k') y W hn (by have := (regB_iff.1 hS2).1; omega) hg (fun r h => ok64_of_pl (pl_of_valid ((regB_iff.1 hS2).2 r h)))
      have vHT : regB (singS l) = true → ∀ A n c (y : Pt) W, (wedgeS (singS l) ⟨xx, xy⟩ a' k').length = n → Reg? W.heap.size W A (wedgeS (singS l) ⟨xx, xy⟩ a' k') → Calls Tryz.prog 13 #[.slice A n c, y.val] W _ := fun h A n c y W hn hg => rHas_told A n c (wedgeS (singS l) ⟨xx, xy⟩ a' k') y W hn (by have := (regB_iff.1 (hT2 h)).1; omega) hg (fun r h' => ok64_of_pl (pl_of_valid ((regB_iff.1 (hT2 h)).2 r h')))
      have vRS : ∀ (y : Pt) W, plB y = true → Calls Tryz.prog 18 #[y.val, .agg #[.int .i64 xx, .int .i64 xy], .int .i64 a', .int .i64 k'] W _ := fun y W hy => RSees_any y ⟨xx, xy⟩ a' k' W (by omega) (by omega) hy hpl
      have vRI : ∀ (y : Pt) W, Below w.heap.size w W → plB y = true → Calls Tryz.prog 19 #[.slice A n c, y.val] W _ := fun y W hB hy => RIn_any A n c rs y W hn (by omega) (hx.later hB) hvv (nr_of_pl hy)
      obtain ⟨E2, hEE⟩ : ∃ E2 : Int, (if regB (singS l) = true then (0 : Int) else 1) = E2 := ⟨_, rfl⟩
      rw [hE2, hEE] at vT
      rw [hS2] at vHS
      simp only [Bool.true_and] at vHS
      have hm20 : m ≤ 20 := by omega
      have hlen : (singS l).length ≤ 20 := by omega
      generalize regB (singS l) = R2 at *
      generalize wedgeS rs ⟨xx, xy⟩ a' k' = SS at *
      generalize wedgeS (singS l) ⟨xx, xy⟩ a' k' = TT at *
      generalize singS l = SL at *
      have VSI := Lib.hid vSI
      have VT := Lib.hid vT
      have VV := Lib.hid vV
      have VHS := Lib.hid vHS
      have VHT := Lib.hid (And.intro hT2 vHT)
      have VRS := Lib.hid vRS
      have VRI := Lib.hid vRI
      have KEY := Lib.hid (And.intro hsv key)
      have HM := Lib.hid (And.intro hm20 hlen)
      clear vSI vT vV vHS vHT vRS vRI hsv key hm20 hlen hE2 hT2 hS2 hsl hsI hra hE HU hpl hreg hvv h4 hn hx hm hl hlI d20 h20
      gi_wp2
      refine ⟨trivial, (callsIn_wide.2 (VN.out _ hB2)).mono ?_⟩
      rintro e w3 h3
      obtain ⟨v3, rfl, ho3, hb3⟩ := retIf_one h3
      replace ho3 := ho3 rfl
      obtain ⟨A3, k3, rfl, -, -, -, hr3⟩ := ho3.slice
      have hB3 : Below w.heap.size w w3 := hB2.trans (hb3.mono hB2.size)
      replace c0 := kp hb3 c0
      replace c1 := kp hb3 c1
      have HR3 := Lib.hid hr3
      clear hb3 h3 hB2 ho3 hr3
      gi_wp2
      have hbz : Below w3.heap.size w3 w3.drew := Below.drew (Below.refl _ _)
      have HSZ := Lib.hid (show ∀ w9, Below w3.drew.heap.size w3.drew w9 → (fun w9 => Below w3.drew.heap.size w3.drew w9 ∧ w9.cell? ⟨w.heap.size, 0, none⟩ = some (.int .i64 xx) ∧ w9.cell? ⟨w.heap.size, 1, none⟩ = some (.int .i64 xy)) w9 from fun w9 h9 => ⟨h9, kp h9 (kp hbz c0), kp h9 (kp hbz c1)⟩)
      refine held_begin [0, 2, 3, 4, 6, 7, 8, 9, 10] (fun w9 => Below w3.drew.heap.size w3.drew w9 ∧ w9.cell? ⟨w.heap.size, 0, none⟩ = some (.int .i64 xx) ∧ w9.cell? ⟨w.heap.size, 1, none⟩ = some (.int .i64 xy)) (by kernel_rfl) (HSZ.out _ (Below.refl _ _)) (fun hS => ?_)
      generalize w3.drew = z at *
      refine tk 0 (v := ?_) (hp _) hS rfl (fun _ _ _ _ => trivial) ?_ ?_
      rotate_left 1
      · intro w hw; (try rw [hw]); (try go_split_ands); go_simp <;> with_reducible rfl
      try simp only [Act.put, st]
      refine tk 2 (v := ?_) (hp _) hS rfl (fun _ _ _ _ => trivial) ?_ ?_
      rotate_left 1
      · intro w hw; (try rw [hw]); (try go_split_ands); go_simp <;> with_reducible rfl
      try simp only [Act.put, st]
      refine tk 3 (v := ?_) (hp _) hS rfl (fun _ _ _ _ => trivial) ?_ ?_
      rotate_left 1
      · intro w hw; (try rw [hw]); (try go_split_ands); go_simp <;> with_reducible rfl
      try simp only [Act.put, st]
      refine tk 4 (v := ?_) (hp _) hS rfl (fun _ _ _ _ => trivial) ?_ ?_
      rotate_left 1
      · intro w hw; (try rw [hw]); (try go_split_ands); go_simp <;> with_reducible rfl
      try simp only [Act.put, st]
      refine held_step 1 rfl (hp _) (by kernel_rfl) (by kernel_rfl) (fun K hK => ⟨?_, ?_⟩)
      · exact fun _ _ => trivial
      go_simp
      refine (callsIn_wide.2 (VSI.out _ (hB3.trans ((hbz.trans (hS.1.mono hbz.size)).mono hB3.size)))).mono ?_
      rintro e w4 ⟨v4, rfl, ho4, hb4⟩
      have hB_4 : Below z.heap.size z w4 := below_after hS.1 hb4
      obtain ⟨A4, k4, rfl, -, -, -, hr4⟩ := ho4.slice
      have HR4 := Lib.hid hr4
      clear hb4 ho4 hr4
      have hS := HSZ.out _ hB_4
      refine hK _ _ hS ?_
      clear hK K
      try simp only [Act.put, st]
      refine held_step 5 rfl (hp _) (by kernel_rfl) (by kernel_rfl) (fun K hK => ⟨?_, ?_⟩)
      · exact fun _ _ => trivial
      go_simp
      refine (callsIn_wide.2 (VT.out A4 _ k4 _ rfl HR4.out)).mono ?_
      rintro e w5 h5
      obtain ⟨v5, rfl, ho5, hb5⟩ := retIf_one h5
      have hB_5 : Below z.heap.size z w5 := below_after hB_4 hb5
      have HO5 := Lib.hid ho5
      clear h5 hb5 ho5 HR4 hB_4
      have hS := HSZ.out _ hB_5
      refine hK _ _ hS ?_
      clear hK K
      try simp only [Act.put, st]
      refine tk 6 (v := ?_) (hp _) hS rfl (fun _ _ _ _ => trivial) ?_ ?_
      rotate_left 1
      · intro w hw; (try rw [hw]); (try go_split_ands); go_simp <;> with_reducible rfl
      try simp only [Act.put, st]
      refine tk 7 (v := ?_) (hp _) hS rfl (fun _ _ _ _ => trivial) ?_ ?_
      rotate_left 1
      · intro w hw; (try rw [hw]); (try go_split_ands); go_simp <;> with_reducible rfl
      try simp only [Act.put, st]
      refine tk 8 (v := ?_) (hp _) hS rfl (fun _ _ _ _ => trivial) ?_ ?_
      rotate_left 1
      · intro w hw; (try rw [hw]); (try go_split_ands); go_simp <;> with_reducible rfl
      try simp only [Act.put, st]
      refine tk 9 (v := ?_) (hp _) hS rfl (fun _ _ _ _ => trivial) ?_ ?_
      rotate_left 1
      · intro w hw; (try rw [hw]); (try go_split_ands); go_simp <;> with_reducible rfl
      try simp only [Act.put, st]
      refine tk 10 (v := ?_) (hp _) hS rfl (fun _ _ _ _ => trivial) ?_ ?_
      rotate_left 1
      · intro w hw; (try rw [hw]); (try go_split_ands); go_simp <;> with_reducible rfl
      try simp only [Act.put, st]
      refine held_end (by kernel_rfl) ?_
      have hE5 : Below w3.heap.size w3 w5 := hbz.trans (hB_5.mono hbz.size)
      have hB5 : Below w.heap.size w w5 := hB3.trans (hE5.mono hB3.size)
      replace c0 := kp hE5 c0
      replace c1 := kp hE5 c1
      replace HR3 := Lib.hid (HR3.out.later hE5)
      clear hS HSZ hbz hB_5 hE5 hB3
      cases R2 with
      | false =>
        obtain rfl : E2 = 1 := by simpa using hEE.symm
        clear c0 c1 HR3
        gi_wp2
        refine ⟨trivial, (callsIn_wide.2 (VSI.out _ hB5)).mono ?_⟩
        rintro e w6 ⟨v6, rfl, ho6, hb6⟩
        have hB6 : Below w.heap.size w w6 := hB5.trans (hb6.mono hB5.size)
        obtain ⟨A6, k6, rfl, -, -, -, hr6⟩ := ho6.slice
        have HR6 := Lib.hid hr6
        clear hb6 ho6 hr6 hB5
        gi_wp2
        refine ⟨trivial, (callsIn_wide.2 (VV.out A6 _ k6 _ rfl HR6.out)).mono ?_⟩
        rintro e w7 ⟨rfl, hb7⟩
        have hB7 : Below w.heap.size w w7 := hB6.trans (hb7.mono hB6.size)
        clear hb7 hB6
        gi_wp2
        refine bodyPost_ret (v := .bool true) (by simp [results, Tryz.f5, go_sem]) rfl ?_
        exact ⟨rfl, hB7⟩
      | true =>
        obtain rfl : E2 = 0 := by simpa using hEE.symm
        have ho5 := HO5.out (by first | rfl | trivial)
        obtain ⟨A5, k5, rfl, -, -, -, hr5⟩ := ho5.slice
        have HR5 := Lib.hid hr5
        clear HO5 ho5 hr5
        gi_wp2
        gi_loopw [74, 11] (fun s74 s11 wr => ∃ j : Nat, j ≤ m ∧ s74 = .int .i64 j ∧ s11 = .bool true ∧ Below w.heap.size w wr ∧ Below w5.heap.size w5 wr) (fun s74 _ _ => m - (intOf s74).toNat)
        case atStart => exact ⟨0, Nat.zero_le _, rfl, rfl, hB5, Below.refl _ _⟩
        case round =>
          obtain ⟨j, hj, rfl, rfl, hBr, hZr⟩ := hrel
          by_cases hlt : j < m
          · obtain ⟨hm, hl, hlI⟩ := HL.out
            have hp1 := at_some (d := default) (xs := l) (i := j) (by rw [hm]; exact hlt)
            obtain ⟨b, off, rfl, hlt0, hc⟩ := hl (by rw [hm]; omega)
            obtain ⟨e0, e1⟩ := (hc j _ hp1).upto hBr hlt0
            have hy := List.mem_of_getElem? hp1
            generalize l.getD j default = y at *
            obtain ⟨yx, yy⟩ := y
            dsimp only at e0 e1
            have hyp := KEY.out.1 (by first | rfl | trivial) _ hy
            obtain ⟨k1, k2⟩ := KEY.out.2 (by first | rfl | trivial) _ hy
            have q0 := kp hZr c0
            have q1 := kp hZr c1
            have hRS : ∀ W, Calls Tryz.prog 18 #[.agg #[.int .i64 yx, .int .i64 yy], .agg #[.int .i64 xx, .int .i64 xy], .int .i64 a', .int .i64 k'] W _ := fun W => VRS.out ⟨yx, yy⟩ W hyp
            have hRI : ∀ W, Below w.heap.size w W → Calls Tryz.prog 19 #[.slice A n c, .agg #[.int .i64 yx, .int .i64 yy]] W _ := fun W hB => VRI.out ⟨yx, yy⟩ W hB hyp
            have hHS : ∀ A n c W, SS.length = n → Reg? W.heap.size W A SS → Calls Tryz.prog 13 #[.slice A n c, .agg #[.int .i64 yx, .int .i64 yy]] W _ := fun A n c W h1 h2 => VHS.out A n c ⟨yx, yy⟩ W h1 h2
            have hHT : ∀ A n c W, TT.length = n → Reg? W.heap.size W A TT → Calls Tryz.prog 13 #[.slice A n c, .agg #[.int .i64 yx, .int .i64 yy]] W _ := fun A n c W h1 h2 => VHT.out.2 (by first | rfl | trivial) A n c ⟨yx, yy⟩ W h1 h2
            have hT2 := VHT.out.1 (by first | rfl | trivial)
            rw [hyp] at hHS
            rw [hT2, hyp, k1] at hHT
            simp only [Bool.and_self, Bool.true_and, if_true] at hHS hHT
            have hjlt : (j : Int) < (m : Int) := by omega
            have hj0 : (0 : Int) ≤ (j : Int) := by omega
            have hmI : (m : Int) ≤ 20 := by have := HM.out.1; omega
            generalize (SS.any fun r => insB r ⟨yx, yy⟩) = IS at *
            generalize (rs.any fun r => insB r ⟨yx, yy⟩) = IR at *
            generalize seesB ⟨yx, yy⟩ ⟨xx, xy⟩ a' k' = SE at *
            have KRS := Lib.hid hRS
            have KRI := Lib.hid hRI
            have KHS := Lib.hid hHS
            have KHT := Lib.hid hHT
            have K2 := Lib.hid k2
            clear hm hl hlI hp1 hc hy k1 k2 hyp hRS hRI hHS hHT hT2
            gi_wp2
            have hbA : Below wr.heap.size wr (wr.alloc (.cells #[.int .i64 yx, .int .i64 yy] 23)) := (Below.refl _ _).alloc (Nat.le_refl _) _
            obtain ⟨a0, a1⟩ := alloc_cell2 (W := wr) (x := yx) (y := yy) (t := 23)
            have hBA := hBr.trans (hbA.mono hBr.size)
            have hZA := hZr.trans (hbA.mono hZr.size)
            replace q0 := kp hbA q0
            replace q1 := kp hbA q1
            clear hbA e0 e1
            generalize wr.alloc (.cells #[.int .i64 yx, .int .i64 yy] 23) = Y at *
            generalize wr.heap.size = By at *
            refine ⟨trivial, (callsIn_wide.2 (KHS.out A3 _ k3 _ rfl (HR3.out.later hZA))).mono ?_⟩
            rintro e w6 ⟨rfl, hb6⟩
            have hB6 : Below w.heap.size w w6 := hBA.trans (hb6.mono hBA.size)
            have hZ6 : Below w5.heap.size w5 w6 := hZA.trans (hb6.mono hZA.size)
            replace q0 := kp hb6 q0
            replace q1 := kp hb6 q1
            replace a0 := kp hb6 a0
            replace a1 := kp hb6 a1
            clear hb6 hBA hZA
            gi_wp2
            refine ⟨trivial, (callsIn_wide.2 (KHT.out A5 _ k5 _ rfl (HR5.out.later hZ6))).mono ?_⟩
            rintro e w7 ⟨rfl, hb7⟩
            have hB7 : Below w.heap.size w w7 := hB6.trans (hb7.mono hB6.size)
            have hZ7 : Below w5.heap.size w5 w7 := hZ6.trans (hb7.mono hZ6.size)
            replace q0 := kp hb7 q0
            replace q1 := kp hb7 q1
            replace a0 := kp hb7 a0
            replace a1 := kp hb7 a1
            clear hb7 hB6 hZ6
            gi_wp2
            refine ⟨trivial, (callsIn_wide.2 (KRS.out _)).mono ?_⟩
            rintro e w8 ⟨rfl, hb8⟩
            have hB8 : Below w.heap.size w w8 := hB7.trans (hb8.mono hB7.size)
            have hZ8 : Below w5.heap.size w5 w8 := hZ7.trans (hb8.mono hZ7.size)
            replace a0 := kp hb8 a0
            replace a1 := kp hb8 a1
            clear hb8 hB7 hZ7 q0 q1
            cases SE with
            | false =>
              gi_wp2
              refine ⟨trivial, ?_⟩
              gi_wp2
              go_roundw
              case rel => exact ⟨j + 1, by omega, by go_num, rfl, hB8, hZ8⟩
              case measure => simp [intOf]; omega
            | true =>
              gi_wp2
              refine ⟨trivial, (callsIn_wide.2 (KRI.out _ hB8)).mono ?_⟩
              rintro e w9 ⟨rfl, hb9⟩
              have hB9 : Below w.heap.size w w9 := hB8.trans (hb9.mono hB8.size)
              have hZ9 : Below w5.heap.size w5 w9 := hZ8.trans (hb9.mono hZ8.size)
              clear hb9 hB8 hZ8 a0 a1
              have hk2 := K2.out (by first | rfl | trivial)
              cases IR with
              | false =>
                gi_wp2
                go_roundw
                case rel => exact ⟨j + 1, by omega, by go_num, rfl, hB9, hZ9⟩
                case measure => simp [intOf]; omega
              | true =>
                obtain rfl := hk2 rfl
                gi_wp2
                go_roundw
                case rel => exact ⟨j + 1, by omega, by go_num, rfl, hB9, hZ9⟩
                case measure => simp [intOf]; omega
          · obtain rfl : j = m := by omega
            have hnlt : ¬ ((j : Int) < (j : Int)) := by omega
            gi_wp2
            refine bodyPost_ret (v := .bool true) (by simp [results, Tryz.f5, go_sem]) rfl ?_
            exact ⟨rfl, hBr⟩
end Go.Proofs.YtnhdnkeiijiiaaaGreat
