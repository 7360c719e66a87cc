import Derived.Test.YtnhdnkeiijiiaaaGreatA6
namespace Go.Proofs.YtnhdnkeiijiiaaaGreat
set_option linter.unusedSimpArgs false
set_option linter.unusedVariables false
/-- a point with a common denominator -/
structure Qp where
  X : Int
  Y : Int
  W : Int
def Pt.q (p : Pt) : Qp := ⟨p.x, p.y, 1⟩
def hp (A B : Int) (p : Pt) : Int := A * p.x + B * p.y
def hq (A B : Int) (z : Qp) : Int := A * z.X + B * z.Y
/-- a point is in each half-plane that has some points -/
def Cov (xs : List Pt) (z : Qp) : Prop := ∀ A B C : Int, (∀ p ∈ xs, hp A B p ≤ C) → hq A B z ≤ C * z.W
theorem hq_q (A B : Int) (p : Pt) : hq A B p.q = hp A B p := rfl
theorem Cov.of_mem {xs : List Pt} {p : Pt} (h : p ∈ xs) : Cov xs p.q := fun A B C k => by rw [hq_q]; have := k p h; simp [Pt.q]; exact this
theorem Cov.mono {xs ys : List Pt} {z : Qp} (h : Cov xs z) (hs : ∀ p ∈ xs, p ∈ ys) : Cov ys z := fun A B C k => h A B C fun p hp => k p (hs p hp)
theorem Cov.trans {xs ys : List Pt} {z : Qp} (h : Cov xs z) (hs : ∀ p ∈ xs, Cov ys p.q) : Cov ys z := fun A B C k => h A B C fun p hp' => by
  have := hs p hp' A B C k
  rw [hq_q] at this
  simpa [Pt.q] using this
def turnQ (a b : Pt) (z : Qp) : Int := (b.x - a.x) * (z.Y - a.y * z.W) - (b.y - a.y) * (z.X - a.x * z.W)
theorem turnQ_q (a b c : Pt) : turnQ a b c.q = turnS a b c := by simp [turnQ, turnS, Pt.q]
theorem cov_turn {xs : List Pt} {z : Qp} (h : Cov xs z) (a b : Pt) (hs : ∀ p ∈ xs, 0 ≤ turnS a b p) : 0 ≤ turnQ a b z := by
  have h1 := h (b.y - a.y) (a.x - b.x) ((b.y - a.y) * a.x + (a.x - b.x) * a.y) fun p hp' => by
    have := hs p hp'
    simp only [turnS, hp] at *; grind
  simp only [turnQ, hq] at *; grind
theorem bary1 (u v w : Pt) (z : Qp) : turnQ v w z + turnQ w u z + turnQ u v z = turnS u v w * z.W := by
  simp only [turnQ, turnS]; grind
theorem bary2 (A B : Int) (u v w : Pt) (z : Qp) : turnS u v w * hq A B z = turnQ v w z * hp A B u + turnQ w u z * hp A B v + turnQ u v z * hp A B w := by
  simp only [turnQ, turnS, hp, hq]; grind
/-- what lies between two sides at a corner reaches no farther than the corner, if neither neighbour does -/
theorem cone {A B : Int} {u v w : Pt} {z : Qp} (hT : 0 < turnS u v w) (h1 : 0 ≤ turnQ u v z) (h2 : 0 ≤ turnQ v w z) (hu : hp A B u ≤ hp A B v) (hw : hp A B w ≤ hp A B v) : hq A B z ≤ hp A B v * z.W := by
  have e1 := bary1 u v w z
  have e2 := bary2 A B u v w z
  have m1 := Int.mul_nonneg h2 (show 0 ≤ hp A B v - hp A B u by omega)
  have m2 := Int.mul_nonneg h1 (show 0 ≤ hp A B v - hp A B w by omega)
  have e3 : turnS u v w * (hp A B v * z.W - hq A B z) = turnQ v w z * (hp A B v - hp A B u) + turnQ u v z * (hp A B v - hp A B w) := by
    have : turnS u v w * (hp A B v * z.W) = (turnQ v w z + turnQ w u z + turnQ u v z) * hp A B v := by rw [e1]; grind
    grind
  have h4 : 0 ≤ turnS u v w * (hp A B v * z.W - hq A B z) := by omega
  have := Int.nonneg_of_mul_nonneg_right h4 hT
  omega

theorem exists_max {α : Type} (f : α → Int) : ∀ xs : List α, xs ≠ [] → ∃ p ∈ xs, ∀ q ∈ xs, f q ≤ f p
  | [], h => absurd rfl h
  | [a], _ => ⟨a, by simp, by simp⟩
  | a :: b :: l, _ => by
    obtain ⟨p, hp, hm⟩ := exists_max f (b :: l) (by simp)
    by_cases h : f a ≤ f p
    · refine ⟨p, List.mem_cons_of_mem _ hp, fun q hq => ?_⟩
      rcases List.mem_cons.1 hq with rfl | hq
      · exact h
      · exact hm q hq
    · refine ⟨a, by simp, fun q hq => ?_⟩
      rcases List.mem_cons.1 hq with rfl | hq
      · exact Int.le_refl _
      · have := hm q hq; omega
theorem first_less {xs : List Pt} (hv : validB xs = true) {i : Nat} (h0 : 0 < i) (hi : i < xs.length) : cmpS (xs.getD 0 default) (xs.getD i default) < 0 := by
  simp only [validB, Bool.and_eq_true] at hv
  have h1 := hv.1.2
  unfold firstB at h1
  have h2 := List.all_eq_true.1 h1 i (List.mem_range.2 hi)
  simp only [okAt, Bool.and_eq_true, Bool.or_eq_true, beq_iff_eq, decide_eq_true_eq] at h2
  rcases h2.2 with h | h
  · omega
  · exact h
theorem cmpS_self (p : Pt) : cmpS p p = 0 := by simp [cmpS, cmpI]
theorem side_pos {xs : List Pt} (hv : validB xs = true) (h3 : 3 ≤ xs.length) {a b x : Pt} (hs : (a, b) ∈ sidesL xs) (hx : x ∈ xs) : x = a ∨ x = b ∨ 0 < turnS a b x := by
  simp only [validB, Bool.and_eq_true, Bool.or_eq_true, decide_eq_true_eq] at hv
  rcases hv.2 with h | h
  · omega
  · have h1 := List.all_eq_true.1 h (a, b) hs
    have h2 := List.all_eq_true.1 h1 x hx
    simp only [Bool.or_eq_true, decide_eq_true_eq, or_assoc] at h2
    exact h2
theorem turn_aa (a x : Pt) : turnS a a x = 0 := by simp [turnS]
theorem turn_aba (a b : Pt) : turnS a b a = 0 := by simp [turnS]
theorem turn_abb (a b : Pt) : turnS a b b = 0 := by simp only [turnS]; grind
theorem turn_swap (a b x : Pt) : turnS b a x = -turnS a b x := by simp only [turnS]; grind
theorem turn_rot (a b x : Pt) : turnS b x a = turnS a b x := by simp only [turnS]; grind
theorem side_ge {xs : List Pt} (hv : validB xs = true) (h3 : 3 ≤ xs.length) {a b x : Pt} (hs : (a, b) ∈ sidesL xs) (hx : x ∈ xs) : 0 ≤ turnS a b x := by
  rcases side_pos hv h3 hs hx with rfl | rfl | h
  · rw [turn_aba]; exact Int.le_refl _
  · rw [turn_abb]; exact Int.le_refl _
  · omega
theorem at_mem {xs : List Pt} {i : Nat} (hi : i < xs.length) : xs.getD i default ∈ xs := by
  rw [List.getD_eq_getElem?_getD, List.getElem?_eq_getElem hi]; exact List.getElem_mem _
theorem at_of_mem {xs : List Pt} {p : Pt} (h : p ∈ xs) : ∃ i, i < xs.length ∧ xs.getD i default = p := by
  obtain ⟨i, hi, rfl⟩ := List.mem_iff_getElem.1 h
  exact ⟨i, hi, by rw [List.getD_eq_getElem?_getD, List.getElem?_eq_getElem hi]; rfl⟩
theorem side_at {xs : List Pt} {i : Nat} (hi : i < xs.length) : (xs.getD i default, xs.getD ((i + 1) % xs.length) default) ∈ sidesL xs := List.mem_map.2 ⟨i, List.mem_range.2 hi, rfl⟩
theorem side_ne {xs : List Pt} (hv : validB xs = true) (h2 : 2 ≤ xs.length) {a b : Pt} (hs : (a, b) ∈ sidesL xs) : a ≠ b := by
  rintro rfl
  have h01 := first_less hv (i := 1) (by omega) (by omega)
  by_cases h3 : 3 ≤ xs.length
  · have h : ∀ x ∈ xs, x = a := fun x hx => by
      rcases side_pos hv h3 hs hx with h | h | h
      · exact h
      · exact h
      · rw [turn_aa] at h; omega
    rw [h _ (at_mem (i := 0) (by omega)), h _ (at_mem (i := 1) (by omega)), cmpS_self] at h01
    omega
  · match xs, h2, h3 with
    | [p, q], _, _ =>
      simp [sidesL, List.range, List.range.loop] at hs h01
      rcases hs with ⟨rfl, rfl⟩ | ⟨rfl, rfl⟩ <;> (rw [cmpS_self] at h01; omega)
    | _ :: _ :: _ :: _, _, h => simp at h
/-- the neighbours of a corner -/
theorem nbrs {xs : List Pt} (hv : validB xs = true) (h3 : 3 ≤ xs.length) {v : Pt} (h : v ∈ xs) : ∃ u w, (u, v) ∈ sidesL xs ∧ (v, w) ∈ sidesL xs ∧ u ∈ xs ∧ w ∈ xs ∧ 0 < turnS u v w := by
  obtain ⟨i, hi, rfl⟩ := at_of_mem h
  have hs2 := side_at hi
  have hj : (i + xs.length - 1) % xs.length < xs.length := Nat.mod_lt _ (by omega)
  have hs1 := side_at hj
  have hji : ((i + xs.length - 1) % xs.length + 1) % xs.length = i := by
    by_cases h0 : i = 0
    · subst h0
      rw [Nat.mod_eq_of_lt (a := 0 + xs.length - 1) (by omega)]
      rw [show 0 + xs.length - 1 + 1 = xs.length by omega, Nat.mod_self]
    · rw [show i + xs.length - 1 = (i - 1) + xs.length by omega, Nat.add_mod_right, Nat.mod_eq_of_lt (a := i - 1) (by omega)]
      rw [show i - 1 + 1 = i by omega, Nat.mod_eq_of_lt hi]
  rw [hji] at hs1
  have hm1 := (sides_mem hs1).1
  have hm2 := (sides_mem hs2).2
  refine ⟨_, _, hs1, hs2, hm1, hm2, ?_⟩
  generalize xs.getD ((i + xs.length - 1) % xs.length) default = u at *
  generalize xs.getD ((i + 1) % xs.length) default = w at *
  generalize xs.getD i default = v at *
  have hvw := side_ne hv (by omega) hs2
  rcases side_pos hv h3 hs1 (show w ∈ xs from hm2) with rfl | rfl | h9
  · exfalso
    have hall : ∀ x ∈ xs, x = w ∨ x = v := fun x hx => by
      rcases side_pos hv h3 hs1 hx with h | h | h
      · exact .inl h
      · exact .inr h
      · rcases side_pos hv h3 hs2 hx with h' | h' | h'
        · exact .inr h'
        · exact .inl h'
        · rw [turn_swap] at h'; omega
    have h01 := side_ne hv (by omega) (side_at (xs := xs) (i := 0) (by omega))
    have h12 := side_ne hv (by omega) (side_at (xs := xs) (i := 1) (by omega))
    rw [Nat.mod_eq_of_lt (by omega)] at h01 h12
    have h02 := first_less hv (i := 2) (by omega) (by omega)
    simp only [Nat.zero_add, Nat.reduceAdd] at h01 h12
    have h02' : xs.getD 0 default ≠ xs.getD 2 default := by
      intro e; rw [e, cmpS_self] at h02; omega
    have a0 := hall _ (at_mem (i := 0) (by omega))
    have a1 := hall _ (at_mem (i := 1) (by omega))
    have a2 := hall _ (at_mem (i := 2) (by omega))
    generalize xs.getD 0 default = p0 at *
    generalize xs.getD 1 default = p1 at *
    generalize xs.getD 2 default = p2 at *
    rcases a0 with rfl | rfl <;> rcases a1 with rfl | rfl <;> rcases a2 with rfl | rfl <;> simp_all
  · exact absurd rfl hvw
  · exact h9
/-- a point is in a polygon; with a common denominator -/
def insQ (xs : List Pt) (z : Qp) : Prop :=
  if xs.length < 3 then turnQ (xs.getD 0 default) (xs.getD (xs.length - 1) default) z = 0 ∧ minL Pt.x xs * z.W ≤ z.X ∧ z.X ≤ maxL Pt.x xs * z.W ∧ minL Pt.y xs * z.W ≤ z.Y ∧ z.Y ≤ maxL Pt.y xs * z.W
  else ∀ s ∈ sidesL xs, 0 ≤ turnQ s.1 s.2 z
theorem insB_q (xs : List Pt) (p : Pt) : insB xs p = true ↔ insQ xs p.q := by
  unfold insB insQ
  split
  · simp only [turnQ_q, Bool.and_eq_true, decide_eq_true_eq, and_assoc]
    simp [Pt.q]
  · simp only [turnQ_q, List.all_eq_true, decide_eq_true_eq]
theorem mul_le_of {a b c : Int} (h : a ≤ b) (hc : 0 < c) : a * c ≤ b * c := Int.mul_le_mul_of_nonneg_right h (by omega)
/-- a segment: what is on its line and in its box is reached with its ends -/
theorem seg_cov {p q : Pt} {z : Qp} (hz : 0 < z.W) (hne : cmpS p q < 0) (h0 : turnQ p q z = 0) (h1 : min p.x q.x * z.W ≤ z.X) (h2 : z.X ≤ max p.x q.x * z.W) (h3 : min p.y q.y * z.W ≤ z.Y) (h4 : z.Y ≤ max p.y q.y * z.W) : Cov [p, q] z := by
  intro A B C hC
  have hCp := hC p (by simp)
  have hCq := hC q (by simp)
  have kp := mul_le_of hCp hz
  have kq := mul_le_of hCq hz
  obtain ⟨px, py⟩ := p
  obtain ⟨qx, qy⟩ := q
  obtain ⟨X, Y, W⟩ := z
  simp only [turnQ, hp, hq, cmpS, cmpI] at *
  have hlt : px < qx ∨ px = qx ∧ py < qy := by
    revert hne; repeat' split
    all_goals omega
  rcases hlt with hlt | ⟨rfl, hlt⟩
  · have e1 : min px qx = px := by omega
    have e2 : max px qx = qx := by omega
    rw [e1] at h1
    rw [e2] at h2
    -- (qx - px) * (A X + B Y) = (qx W - X) * (A px + B py) + (X - px W) * (A qx + B qy)
    have m1 := Int.mul_nonneg (show 0 ≤ qx * W - X by omega) (show 0 ≤ C - (A * px + B * py) by omega)
    have m2 := Int.mul_nonneg (show 0 ≤ X - px * W by omega) (show 0 ≤ C - (A * qx + B * qy) by omega)
    have e : (qx - px) * (C * W - (A * X + B * Y)) = (qx * W - X) * (C - (A * px + B * py)) + (X - px * W) * (C - (A * qx + B * qy)) := by grind
    have h9 : 0 ≤ (qx - px) * (C * W - (A * X + B * Y)) := by omega
    have := Int.nonneg_of_mul_nonneg_right h9 (show 0 < qx - px by omega)
    omega
  · have e1 : min py qy = py := by omega
    have e2 : max py qy = qy := by omega
    rw [e1] at h3
    rw [e2] at h4
    have m1 := Int.mul_nonneg (show 0 ≤ qy * W - Y by omega) (show 0 ≤ C - (A * px + B * py) by omega)
    have m2 := Int.mul_nonneg (show 0 ≤ Y - py * W by omega) (show 0 ≤ C - (A * px + B * qy) by omega)
    have e : (qy - py) * (C * W - (A * X + B * Y)) = (qy * W - Y) * (C - (A * px + B * py)) + (Y - py * W) * (C - (A * px + B * qy)) := by
      have : (qy - py) * (X - px * W) = 0 := by grind
      grind
    have h9 : 0 ≤ (qy - py) * (C * W - (A * X + B * Y)) := by omega
    have := Int.nonneg_of_mul_nonneg_right h9 (show 0 < qy - py by omega)
    omega
theorem cov_box {xs : List Pt} {z : Qp} (h : Cov xs z) (lo hi lo' hi' : Int) (hs : ∀ p ∈ xs, lo ≤ p.x ∧ p.x ≤ hi ∧ lo' ≤ p.y ∧ p.y ≤ hi') : lo * z.W ≤ z.X ∧ z.X ≤ hi * z.W ∧ lo' * z.W ≤ z.Y ∧ z.Y ≤ hi' * z.W := by
  have a1 := h (-1) 0 (-lo) fun p hp' => by have := hs p hp'; simp only [hp]; omega
  have a2 := h 1 0 hi fun p hp' => by have := hs p hp'; simp only [hp]; omega
  have a3 := h 0 (-1) (-lo') fun p hp' => by have := hs p hp'; simp only [hp]; omega
  have a4 := h 0 1 hi' fun p hp' => by have := hs p hp'; simp only [hp]; omega
  simp only [hq] at a1 a2 a3 a4
  rw [Int.neg_mul] at a1 a3
  rw [Int.neg_mul] at a1 a3
  omega
theorem valid_pair {p q : Pt} (hv : validB [p, q] = true) : cmpS p q < 0 := first_less hv (i := 1) (by omega) (by simp)
theorem ins_cov {xs : List Pt} (hv : validB xs = true) {z : Qp} (hz : 0 < z.W) : insQ xs z ↔ Cov xs z := by
  have hl := len_of_valid hv
  constructor
  · intro h
    by_cases h3 : xs.length < 3
    · unfold insQ at h
      rw [if_pos h3] at h
      match xs, hl, h3 with
      | [p], _, _ =>
        simp only [minL, maxL, List.foldl, List.getD_cons_zero] at h
        intro A B C hC
        have hCp := mul_le_of (hC p (by simp)) hz
        have e1 : min p.x p.x = p.x := by omega
        have e2 : max p.x p.x = p.x := by omega
        have e3 : min p.y p.y = p.y := by omega
        have e4 : max p.y p.y = p.y := by omega
        rw [e1, e2, e3, e4] at h
        have ex : z.X = p.x * z.W := by omega
        have ey : z.Y = p.y * z.W := by omega
        simp only [hp, hq] at *
        rw [ex, ey]
        have : A * (p.x * z.W) + B * (p.y * z.W) = (A * p.x + B * p.y) * z.W := by grind
        omega
      | [p, q], _, _ =>
        simp only [minL, maxL, List.foldl, List.getD_cons_zero, List.length_cons, List.length_nil, Nat.reduceAdd, Nat.reduceSub, List.getD_cons_succ] at h
        have e1 : min (min p.x p.x) q.x = min p.x q.x := by omega
        have e2 : max (max p.x p.x) q.x = max p.x q.x := by omega
        have e3 : min (min p.y p.y) q.y = min p.y q.y := by omega
        have e4 : max (max p.y p.y) q.y = max p.y q.y := by omega
        rw [e1, e2, e3, e4] at h
        exact seg_cov hz (valid_pair hv) h.1 h.2.1 h.2.2.1 h.2.2.2.1 h.2.2.2.2
      | _ :: _ :: _ :: _, _, h => simp at h; omega
    · unfold insQ at h
      rw [if_neg h3] at h
      intro A B C hC
      obtain ⟨v, hvm, hmax⟩ := exists_max (hp A B) xs (by intro e; rw [e] at h3; simp at h3)
      obtain ⟨u, w, hs1, hs2, hu, hw, hT⟩ := nbrs hv (by omega) hvm
      have h1 := cone hT (h _ hs1) (h _ hs2) (hmax u hu) (hmax w hw)
      have h2 := mul_le_of (hC v hvm) hz
      omega
  · intro h
    unfold insQ
    split
    · rename_i h3
      match xs, hl, h3 with
      | [p], _, _ =>
        have := cov_box h p.x p.x p.y p.y (by simp)
        refine ⟨by simp [turnQ], ?_⟩
        simp only [minL, maxL, List.foldl, List.getD_cons_zero]
        have e1 : min p.x p.x = p.x := by omega
        have e2 : max p.x p.x = p.x := by omega
        have e3 : min p.y p.y = p.y := by omega
        have e4 : max p.y p.y = p.y := by omega
        rw [e1, e2, e3, e4]
        exact this
      | [p, q], _, _ =>
        simp only [minL, maxL, List.foldl, List.getD_cons_zero, List.length_cons, List.length_nil, Nat.reduceAdd, Nat.reduceSub, List.getD_cons_succ]
        have t1 := cov_turn h p q (by simp [turn_aba, turn_abb])
        have t2 := cov_turn h q p (by simp [turn_aba, turn_abb])
        have t3 : turnQ q p z = -turnQ p q z := by simp only [turnQ]; grind
        refine ⟨by omega, ?_⟩
        refine cov_box h _ _ _ _ ?_
        intro r hr
        rcases List.mem_cons.1 hr with rfl | hr
        · omega
        · obtain rfl := List.mem_singleton.1 hr
          omega
      | _ :: _ :: _ :: _, _, h => simp at h; omega
    · rename_i h3
      intro s hs
      exact cov_turn h s.1 s.2 fun p hp' => side_ge hv (by omega) hs hp'
theorem insB_cov {xs : List Pt} (hv : validB xs = true) (p : Pt) : insB xs p = true ↔ Cov xs p.q := (insB_q xs p).trans (ins_cov hv (by simp [Pt.q]))
end Go.Proofs.YtnhdnkeiijiiaaaGreat
namespace Go.Proofs.YtnhdnkeiijiiaaaGreat
set_option linter.unusedSimpArgs false
set_option linter.unusedVariables false
/-- a vector to the right, or straight up -/
def Lx (a b : Int) : Prop := 0 < a ∨ a = 0 ∧ 0 < b
def cr2 (a b c d : Int) : Int := a * d - b * c
theorem lx_comb {a b c d α β : Int} (h1 : Lx a b) (h2 : Lx c d) (ha : 0 ≤ α) (hb : 0 ≤ β) (h : 0 < α ∨ 0 < β) : Lx (α * a + β * c) (α * b + β * d) := by
  have n1 : 0 ≤ a := by rcases h1 with h | h <;> omega
  have n2 : 0 ≤ c := by rcases h2 with h | h <;> omega
  have m1 := Int.mul_nonneg ha n1
  have m2 := Int.mul_nonneg hb n2
  by_cases h0 : 0 < α * a + β * c
  · exact .inl h0
  · refine .inr ⟨by omega, ?_⟩
    have e1 : α * a = 0 := by omega
    have e2 : β * c = 0 := by omega
    have k1 : 0 ≤ α * b ∧ (0 < α → 0 < α * b) := by
      rcases Int.mul_eq_zero.1 e1 with h' | h'
      · subst h'; simp
      · have hb' : 0 < b := by rcases h1 with h | h <;> omega
        exact ⟨Int.mul_nonneg ha (by omega), fun h => Int.mul_pos h hb'⟩
    have k2 : 0 ≤ β * d ∧ (0 < β → 0 < β * d) := by
      rcases Int.mul_eq_zero.1 e2 with h' | h'
      · subst h'; simp
      · have hb' : 0 < d := by rcases h2 with h | h <;> omega
        exact ⟨Int.mul_nonneg hb (by omega), fun h => Int.mul_pos h hb'⟩
    rcases h with h | h
    · have := k1.2 h; omega
    · have := k2.2 h; omega
theorem lx_pos {a b c : Int} (h : Lx a b) (k : Lx (c * a) (c * b)) : 0 < c := by
  rcases Int.lt_or_le 0 c with h0 | h0
  · exact h0
  · exfalso
    have n1 : 0 ≤ a := by rcases h with h | h <;> omega
    have m1 := Int.mul_nonneg (show 0 ≤ -c by omega) n1
    rw [Int.neg_mul] at m1
    rcases k with k | ⟨k1, k2⟩
    · omega
    · rcases h with h | ⟨h1, h2⟩
      · rcases Int.mul_eq_zero.1 k1 with e | e
        · subst e; simp at k2
        · omega
      · have m2 := Int.mul_nonneg (show 0 ≤ -c by omega) (show 0 ≤ b by omega)
        rw [Int.neg_mul] at m2
        omega
/-- the order of directions in a half-plane -/
theorem cr_trans {a b c d e f : Int} (h1 : Lx a b) (h2 : Lx c d) (h3 : Lx e f) (k1 : 0 ≤ cr2 a b c d) (k2 : 0 ≤ cr2 c d e f) : 0 ≤ cr2 a b e f ∧ (0 < cr2 a b c d ∨ 0 < cr2 c d e f → 0 < cr2 a b e f) := by
  have e1 : cr2 a b e f * c = cr2 a b c d * e + cr2 c d e f * a := by simp only [cr2]; grind
  have e2 : cr2 a b e f * d = cr2 a b c d * f + cr2 c d e f * b := by simp only [cr2]; grind
  by_cases hs : 0 < cr2 a b c d ∨ 0 < cr2 c d e f
  · have h := lx_comb h3 h1 k1 k2 hs
    rw [← e1, ← e2] at h
    have := lx_pos h2 h
    exact ⟨by omega, fun _ => this⟩
  · refine ⟨?_, fun h => absurd h hs⟩
    have z1 : cr2 a b c d = 0 := by omega
    have z2 : cr2 c d e f = 0 := by omega
    rw [z1, z2] at e1 e2
    simp only [Int.zero_mul, Int.add_zero] at e1 e2
    rcases Int.mul_eq_zero.1 e1 with h | h
    · omega
    · rcases Int.mul_eq_zero.1 e2 with h' | h'
      · omega
      · rcases h2 with h2 | h2 <;> omega
/-- q comes behind p, in a direction -/
def Lt (s : Int) (p q : Pt) : Prop := Lx (s * (q.x - p.x)) (s * (q.y - p.y))
def Sg (s : Int) : Prop := s = 1 ∨ s = -1
theorem Lt.trans {s : Int} {p q r : Pt} (h : Lt s p q) (k : Lt s q r) : Lt s p r := by
  unfold Lt at *
  have e1 : s * (r.x - p.x) = 1 * (s * (q.x - p.x)) + 1 * (s * (r.x - q.x)) := by grind
  have e2 : s * (r.y - p.y) = 1 * (s * (q.y - p.y)) + 1 * (s * (r.y - q.y)) := by grind
  rw [e1, e2]
  exact lx_comb h k (by omega) (by omega) (by omega)
theorem Lt.irrefl {s : Int} {p : Pt} (h : Lt s p p) : False := by
  unfold Lt Lx at h
  simp at h
theorem Lt.ne {s : Int} {p q : Pt} (h : Lt s p q) : p ≠ q := fun e => by subst e; exact h.irrefl
theorem Lt.neg {s : Int} {p q : Pt} (h : Lt s p q) : Lt (-s) q p := by
  unfold Lt at *
  have e1 : -s * (p.x - q.x) = s * (q.x - p.x) := by grind
  have e2 : -s * (p.y - q.y) = s * (q.y - p.y) := by grind
  rw [e1, e2]; exact h
theorem Lt.total {s : Int} (hs : Sg s) (p q : Pt) : p = q ∨ Lt s p q ∨ Lt s q p := by
  obtain ⟨px, py⟩ := p
  obtain ⟨qx, qy⟩ := q
  simp only [Lt, Lx, Pt.mk.injEq]
  rcases hs with rfl | rfl <;> omega
theorem turn_cr {s : Int} (hs : Sg s) (a b c : Pt) : turnS a b c = cr2 (s * (b.x - a.x)) (s * (b.y - a.y)) (s * (c.x - a.x)) (s * (c.y - a.y)) := by
  rcases hs with rfl | rfl <;> (simp only [turnS, cr2]; grind)
theorem turn_cr2 {s : Int} (hs : Sg s) (a b c : Pt) : turnS a b c = cr2 (s * (b.x - a.x)) (s * (b.y - a.y)) (s * (c.x - b.x)) (s * (c.y - b.y)) := by
  rcases hs with rfl | rfl <;> (simp only [turnS, cr2]; grind)
/-- c's turn at a b, seen from d behind it -/
theorem turn_far {s : Int} (hs : Sg s) {a b c d : Pt} (h1 : Lt s a b) (h2 : Lt s b c) (h3 : Lt s c d) (k1 : 0 < turnS a b c) (k2 : 0 < turnS b c d) : 0 < turnS a b d := by
  rw [turn_cr2 hs] at k1 k2 ⊢
  have h := cr_trans h1 h2 h3 (by omega) (by omega)
  have h9 := h.2 (.inl k1)
  have : cr2 (s * (b.x - a.x)) (s * (b.y - a.y)) (s * (d.x - b.x)) (s * (d.y - b.y)) = cr2 (s * (b.x - a.x)) (s * (b.y - a.y)) (s * (c.x - b.x)) (s * (c.y - b.y)) + cr2 (s * (b.x - a.x)) (s * (b.y - a.y)) (s * (d.x - c.x)) (s * (d.y - c.y)) := by simp only [cr2]; grind
  omega
/-- p ahead of t: over the way into t, hence over the way out of it -/
theorem turn_ahead {s : Int} (hs : Sg s) {a t x p : Pt} (h1 : Lt s a t) (h2 : Lt s t x) (h3 : Lt s p t) (k1 : 0 ≤ turnS a t x) (k2 : 0 ≤ turnS a t p) : 0 ≤ turnS t x p ∧ (0 < turnS a t x ∨ 0 < turnS a t p → 0 < turnS t x p) := by
  have e1 : turnS a t p = cr2 (s * (t.x - p.x)) (s * (t.y - p.y)) (s * (t.x - a.x)) (s * (t.y - a.y)) := by rcases hs with rfl | rfl <;> (simp only [turnS, cr2]; grind)
  have e2 : turnS t x p = cr2 (s * (t.x - p.x)) (s * (t.y - p.y)) (s * (x.x - t.x)) (s * (x.y - t.y)) := by rcases hs with rfl | rfl <;> (simp only [turnS, cr2]; grind)
  rw [e1] at k2 ⊢
  rw [e2]
  have e3 := turn_cr2 hs a t x
  rw [e3] at k1 ⊢
  have h := cr_trans h3 h1 h2 k2 k1
  exact ⟨h.1, fun h' => h.2 h'.symm⟩
/-- p behind t: over the way out of t that was dropped for x -/
theorem turn_behind {s : Int} (hs : Sg s) {t b x p : Pt} (h1 : Lt s t b) (h2 : Lt s t x) (h3 : Lt s t p) (k1 : turnS t b x ≤ 0) (k2 : 0 ≤ turnS t b p) : 0 ≤ turnS t x p := by
  have e1 : turnS t b x = -cr2 (s * (x.x - t.x)) (s * (x.y - t.y)) (s * (b.x - t.x)) (s * (b.y - t.y)) := by rcases hs with rfl | rfl <;> (simp only [turnS, cr2]; grind)
  rw [e1] at k1
  rw [turn_cr hs] at k2 ⊢
  exact (cr_trans h2 h1 h3 (by omega) k2).1
/-- two neighbours in a list -/
def Adj (l : List Pt) (u v : Pt) : Prop := ∃ p q, l = p ++ u :: v :: q
theorem Adj.cons {l : List Pt} {u v a : Pt} (h : Adj l u v) : Adj (a :: l) u v := by
  obtain ⟨p, q, rfl⟩ := h; exact ⟨a :: p, q, rfl⟩
theorem Adj.head {l : List Pt} {a b : Pt} : Adj (a :: b :: l) a b := ⟨[], l, rfl⟩
theorem adj_cons {l : List Pt} {u v a b : Pt} (h : Adj (a :: b :: l) u v) : u = a ∧ v = b ∨ Adj (b :: l) u v := by
  obtain ⟨p, q, e⟩ := h
  match p with
  | [] => simp at e; exact .inl ⟨e.1.symm, e.2.1.symm⟩
  | c :: p => simp only [List.cons_append, List.cons.injEq] at e; exact .inr ⟨p, q, e.2⟩
theorem adj_one {u v a : Pt} (h : Adj [a] u v) : False := by
  obtain ⟨p, q, e⟩ := h
  have := congrArg List.length e
  simp at this
  omega
theorem adj_nil {u v : Pt} (h : Adj [] u v) : False := by
  obtain ⟨p, q, e⟩ := h
  have := congrArg List.length e
  simp at this
theorem Adj.rev {l : List Pt} {u v : Pt} (h : Adj l u v) : Adj l.reverse v u := by
  obtain ⟨p, q, rfl⟩ := h
  exact ⟨q.reverse, p.reverse, by simp⟩
theorem Adj.mem {l : List Pt} {u v : Pt} (h : Adj l u v) : u ∈ l ∧ v ∈ l := by
  obtain ⟨p, q, rfl⟩ := h; simp
/-- three in a row turn left; the list read from its end -/
def Cv (l : List Pt) : Prop := ∀ p c b a q, l = p ++ c :: b :: a :: q → 0 < turnS a b c
theorem Cv.tail {a : Pt} {l : List Pt} (h : Cv (a :: l)) : Cv l := fun p c b a' q e => h (a :: p) c b a' q (by rw [e]; rfl)
theorem Cv.cons {c b a : Pt} {l : List Pt} (h : 0 < turnS a b c) (k : Cv (b :: a :: l)) : Cv (c :: b :: a :: l) := by
  intro p c' b' a' q e
  match p with
  | [] => simp at e; obtain ⟨rfl, rfl, rfl, -⟩ := e; exact h
  | d :: p => simp only [List.cons_append, List.cons.injEq] at e; exact k p c' b' a' q e.2
theorem cv_two (a b : Pt) : Cv [a, b] := fun p c b' a' q e => by have := congrArg List.length e; simp at this; omega
theorem cv_one (a : Pt) : Cv [a] := fun p c b' a' q e => by have := congrArg List.length e; simp at this; omega
/-- every point is left of every step of the chain that is read from its end -/
def Ed (done l : List Pt) : Prop := ∀ a b, Adj l b a → ∀ p ∈ done, 0 ≤ turnS a b p
theorem Ed.tail {a : Pt} {done l : List Pt} (h : Ed done (a :: l)) : Ed done l := fun u v k => h u v k.cons
abbrev Dn (s : Int) (l : List Pt) : Prop := l.Pairwise fun a b => Lt s b a
theorem pop_edge {s : Int} (hs : Sg s) {done : List Pt} {x : Pt} (hx : ∀ p ∈ done, Lt s p x) : ∀ (rc : List Pt) (hne : rc ≠ []), Dn s rc → (∀ b ∈ rc, Lt s b x) → Ed done rc → (∀ p ∈ done, p = rc.getLast hne ∨ Lt s (rc.getLast hne) p) →
    (∀ p ∈ done, Lt s (rc.head hne) p → 0 ≤ turnS (rc.head hne) x p) → ∃ t r, popR x rc = t :: r ∧ ∀ p ∈ done, 0 ≤ turnS t x p
  | [], hne, _, _, _, _, _ => absurd rfl hne
  | [t], _, hd, hl, he, hb, hT => ⟨t, [], rfl, fun p hp => by
      rcases hb p hp with h | h
      · simp at h; subst h; rw [turn_aba]; exact Int.le_refl _
      · exact hT p hp h⟩
  | b :: a :: r, _, hd, hl, he, hb, hT => by
    have hab : Lt s a b := by rw [Dn, List.pairwise_cons] at hd; exact hd.1 a (by simp)
    unfold popR
    split
    · rename_i hle
      refine pop_edge hs hx (a :: r) (by simp) (by rw [Dn, List.pairwise_cons] at hd; exact hd.2) (fun c hc => hl c (List.mem_cons_of_mem _ hc)) he.tail (by simpa using hb) ?_
      intro p hp hlt
      exact turn_behind hs hab (hl a (by simp)) hlt hle (he a b Adj.head p hp)
    · rename_i hle
      refine ⟨b, a :: r, rfl, fun p hp => ?_⟩
      rcases Lt.total hs p b with h | h | h
      · subst h; rw [turn_aba]; exact Int.le_refl _
      · exact (turn_ahead hs hab (hl b (by simp)) h (by omega) (he a b Adj.head p hp)).1
      · exact hT p hp h
theorem popR_suffix (x : Pt) : ∀ rc, ∃ p, rc = p ++ popR x rc
  | [] => ⟨[], rfl⟩
  | [a] => ⟨[], rfl⟩
  | b :: a :: r => by
    unfold popR
    split
    · obtain ⟨p, e⟩ := popR_suffix x (a :: r)
      exact ⟨b :: p, by rw [List.cons_append, ← e]⟩
    · exact ⟨[], rfl⟩
theorem popR_last (x : Pt) {rc : List Pt} (h : rc ≠ []) : (popR x rc).getLast (popR_pos x rc h) = rc.getLast h := by
  obtain ⟨p, e⟩ := popR_suffix x rc
  have hn := popR_pos x rc h
  have e2 : rc.getLast? = (popR x rc).getLast? := by
    conv => lhs; rw [e]
    rw [List.getLast?_append, List.getLast?_eq_some_getLast hn]; rfl
  rw [List.getLast?_eq_some_getLast h, List.getLast?_eq_some_getLast hn] at e2
  exact (Option.some.inj e2).symm
theorem popR_stop (x : Pt) : ∀ rc b a r, popR x rc = b :: a :: r → 0 < turnS a b x
  | [], b, a, r, h => by simp [popR] at h
  | [c], b, a, r, h => by simp [popR] at h
  | c :: d :: q, b, a, r, h => by
    unfold popR at h
    split at h
    · exact popR_stop x (d :: q) b a r h
    · rename_i hle
      simp at h
      obtain ⟨rfl, rfl, rfl⟩ := h
      omega
theorem cv_far {s : Int} (hs : Sg s) : ∀ (l : List Pt) (x c : Pt), Dn s (x :: c :: l) → Cv (x :: c :: l) → ∀ a b, Adj (c :: l) b a → 0 < turnS a b x
  | [], x, c, _, _, a, b, h => (adj_one h).elim
  | d :: l, x, c, hd, hc, a, b, h => by
    have h0 := hc [] x c d l rfl
    rcases adj_cons h with ⟨rfl, rfl⟩ | h
    · exact h0
    · have hd' := hd
      simp only [Dn, List.pairwise_cons, List.mem_cons, forall_eq_or_imp] at hd'
      refine cv_far hs l x d ?_ ?_ a b h
      · simp only [Dn, List.pairwise_cons, List.mem_cons, forall_eq_or_imp]
        exact ⟨⟨hd'.1.2.1, hd'.1.2.2⟩, hd'.2.2.1, hd'.2.2.2⟩
      · match l, hc with
        | [], _ => exact cv_two _ _
        | e :: l, hc =>
          have h1 := hc.tail [] c d e l rfl
          simp only [List.mem_cons, forall_eq_or_imp] at hd'
          exact Cv.cons (turn_far hs hd'.2.2.1.1 hd'.2.1.1 hd'.1.1 h1 h0) hc.tail.tail
/-- what a chain is after some points, read from its end -/
structure Chn (s : Int) (done rc : List Pt) : Prop where
  ne : rc ≠ []
  dn : Dn s rc
  cv : Cv rc
  ed : Ed done rc
  top : ∀ p ∈ done, p = rc.head ne ∨ Lt s p (rc.head ne)
  bot : ∀ p ∈ done, p = rc.getLast ne ∨ Lt s (rc.getLast ne) p
  sub : ∀ p ∈ rc, p ∈ done
theorem Chn.one (s : Int) (x : Pt) : Chn s [x] [x] where
  ne := by simp
  dn := by simp [Dn]
  cv := cv_one x
  ed := fun a b h => (adj_one h).elim
  top := by simp
  bot := by simp
  sub := by simp
theorem Chn.push {s : Int} (hs : Sg s) {done rc : List Pt} {x : Pt} (h : Chn s done rc) (hx : ∀ p ∈ done, Lt s p x) : Chn s (done ++ [x]) (x :: popR x rc) := by
  have hl : ∀ b ∈ rc, Lt s b x := fun b hb => hx b (h.sub b hb)
  obtain ⟨t, r, ht, hte⟩ := pop_edge hs hx rc h.ne h.dn hl h.ed h.bot fun p hp hlt => by
    rcases h.top p hp with e | e
    · rw [e]; rw [turn_aba]; exact Int.le_refl _
    · exact (Lt.irrefl (e.trans hlt)).elim
  obtain ⟨pre, hpre⟩ := popR_suffix x rc
  have hlast := popR_last x h.ne
  have hdn : Dn s (popR x rc) := by
    have := h.dn
    rw [hpre] at this
    exact (List.pairwise_append.1 this).2.1
  have hsub : ∀ p ∈ popR x rc, p ∈ done := fun p hp => h.sub p (popR_sub x _ _ hp)
  have hdn2 : Dn s (x :: popR x rc) := by
    rw [Dn, List.pairwise_cons]
    exact ⟨fun p hp => hx p (hsub p hp), hdn⟩
  have hcv : Cv (popR x rc) := fun p c b a q e => h.cv (pre ++ p) c b a q (by rw [List.append_assoc, ← e]; exact hpre)
  have hcv2 : Cv (x :: popR x rc) := by
    cases hr : popR x rc with
    | nil => exact cv_one x
    | cons b q =>
      cases q with
      | nil => exact cv_two x b
      | cons a q =>
        refine Cv.cons (popR_stop x rc b a q hr) ?_
        rw [← hr]; exact hcv
  refine ⟨by simp, hdn2, hcv2, ?_, ?_, ?_, ?_⟩
  · intro a b hab p hp
    rw [ht] at hab
    rcases List.mem_append.1 hp with hp1 | hp
    · rcases adj_cons hab with ⟨rfl, rfl⟩ | hab
      · exact hte p hp1
      · refine h.ed a b ?_ p hp1
        obtain ⟨u, v, e⟩ := hab
        exact ⟨pre ++ u, v, by rw [List.append_assoc, ← e, ← ht]; exact hpre⟩
    · obtain rfl := List.mem_singleton.1 hp
      rcases adj_cons hab with ⟨rfl, rfl⟩ | hab
      · rw [turn_abb]; exact Int.le_refl _
      · have := cv_far hs r p t (by rw [← ht]; exact hdn2) (by rw [← ht]; exact hcv2) a b hab
        omega
  · intro p hp
    rcases List.mem_append.1 hp with hp | hp
    · exact .inr (hx p hp)
    · exact .inl (List.mem_singleton.1 hp)
  · intro p hp
    rw [List.getLast_cons (popR_pos x rc h.ne), hlast]
    rcases List.mem_append.1 hp with hp | hp
    · exact h.bot p hp
    · obtain rfl := List.mem_singleton.1 hp
      exact .inr (hl _ (List.getLast_mem _))
  · intro p hp
    rcases List.mem_cons.1 hp with rfl | hp
    · simp
    · exact List.mem_append_left _ (hsub p hp)
theorem chn_fold {s : Int} (hs : Sg s) : ∀ (l done cs : List Pt), Chn s done cs.reverse → (done ++ l).Pairwise (Lt s) → Chn s (done ++ l) (l.foldl pushS cs).reverse
  | [], done, cs, h, _ => by simpa using h
  | x :: l, done, cs, h, hp => by
    have hx : ∀ p ∈ done, Lt s p x := fun p hp' => (List.pairwise_append.1 hp).2.2 p hp' x (by simp)
    have h1 := h.push hs hx
    have e : x :: popR x cs.reverse = (pushS cs x).reverse := by simp [pushS]
    rw [e] at h1
    have := chn_fold hs l (done ++ [x]) (pushS cs x) h1 (by simpa using hp)
    simpa using this
theorem chn_chain {s : Int} (hs : Sg s) {l : List Pt} (hne : l ≠ []) (hp : l.Pairwise (Lt s)) : Chn s l (chainS l).reverse := by
  match l, hne with
  | x :: l, _ =>
    have := chn_fold hs l [x] [x] (Chn.one s x) (by simpa using hp)
    simpa [chainS, pushS, popR] using this
end Go.Proofs.YtnhdnkeiijiiaaaGreat
namespace Go.Proofs.YtnhdnkeiijiiaaaGreat
set_option linter.unusedSimpArgs false
set_option linter.unusedVariables false
/-- a chain, read from its beginning -/
structure Fw (s : Int) (S L : List Pt) : Prop where
  ne : L ≠ []
  up : L.Pairwise (Lt s)
  cv : ∀ p u v w q, L = p ++ u :: v :: w :: q → 0 < turnS u v w
  ed : ∀ a b, Adj L a b → ∀ p ∈ S, 0 ≤ turnS a b p
  hd : ∀ p ∈ S, p = L.head ne ∨ Lt s (L.head ne) p
  la : ∀ p ∈ S, p = L.getLast ne ∨ Lt s p (L.getLast ne)
  sub : ∀ p ∈ L, p ∈ S
theorem fw_of {s : Int} {S L : List Pt} (h : Chn s S L.reverse) : Fw s S L where
  ne := by have := h.ne; simpa using this
  up := by have := h.dn; rw [Dn, List.pairwise_reverse] at this; exact this
  cv := fun p u v w q e => h.cv q.reverse w v u p.reverse (by rw [e]; simp)
  ed := fun a b k => h.ed a b k.rev
  hd := by have := h.bot; simpa using this
  la := by have := h.top; simpa using this
  sub := by have := h.sub; simpa using this
theorem fw_chain {s : Int} (hs : Sg s) {l : List Pt} (hne : l ≠ []) (hp : l.Pairwise (Lt s)) : Fw s l (chainS l) := fw_of (chn_chain hs hne hp)
theorem Fw.congr {s : Int} {S T L : List Pt} (h : Fw s S L) (k : ∀ p, p ∈ S ↔ p ∈ T) : Fw s T L where
  ne := h.ne
  up := h.up
  cv := h.cv
  ed := fun a b e p hp => h.ed a b e p ((k p).2 hp)
  hd := fun p hp => h.hd p ((k p).2 hp)
  la := fun p hp => h.la p ((k p).2 hp)
  sub := fun p hp => (k p).1 (h.sub p hp)
theorem fw_strict {s : Int} (hs : Sg s) {S L H : List Pt} (hL : Fw s S L) (hH : Fw (-s) S H) {u v x : Pt} (huv : Adj L u v) (hx : x ∈ L ∨ x ∈ H) : x = u ∨ x = v ∨ 0 < turnS u v x := by
  have hxS : x ∈ S := hx.elim (hL.sub x) (hH.sub x)
  have huS := hL.sub u huv.mem.1
  have hvS := hL.sub v huv.mem.2
  obtain ⟨p, q, e⟩ := huv
  have hup := hL.up
  rw [e] at hup
  have hp2 := List.pairwise_append.1 hup
  have hp3 := List.pairwise_cons.1 hp2.2.1
  have hp4 := List.pairwise_cons.1 hp3.2
  have huv : Lt s u v := hp3.1 v (by simp)
  rcases Lt.total hs x u with h | h | h
  · exact .inl h
  · refine .inr (.inr ?_)
    rcases List.eq_nil_or_concat p with rfl | ⟨p', t, rfl⟩
    · exfalso
      have hh := hL.hd x hxS
      have : L.head hL.ne = u := by simp [e]
      rw [this] at hh
      rcases hh with h9 | h9
      · subst h9; exact h.irrefl
      · exact (h.trans h9).irrefl
    · have e' : L = p' ++ t :: u :: v :: q := by rw [e]; simp
      have h1 := hL.cv p' t u v q e'
      have h2 := hL.ed t u ⟨p', v :: q, e'⟩ x hxS
      exact (turn_ahead hs (hp2.2.2 t (by simp) u (by simp)) huv h (by omega) h2).2 (.inl h1)
  · rcases Lt.total hs x v with k | k | k
    · exact .inr (.inl k)
    · -- between both
      refine .inr (.inr ?_)
      have hxH : x ∈ H := by
        rcases hx with hx | hx
        · exfalso
          rw [e] at hx
          rcases List.mem_append.1 hx with hx | hx
          · exact (h.trans (hp2.2.2 x hx u (by simp))).irrefl
          · rcases List.mem_cons.1 hx with rfl | hx
            · exact h.irrefl
            · rcases List.mem_cons.1 hx with rfl | hx
              · exact k.irrefl
              · exact (k.trans (hp4.1 x hx)).irrefl
        · exact hx
      obtain ⟨a, b, eH⟩ := List.append_of_mem hxH
      have hupH := hH.up
      rw [eH] at hupH
      have hq2 := List.pairwise_append.1 hupH
      have hq3 := List.pairwise_cons.1 hq2.2.1
      rcases List.eq_nil_or_concat a with rfl | ⟨a', t, rfl⟩
      · exfalso
        have hh := hH.hd v hvS
        have : H.head hH.ne = x := by simp [eH]
        rw [this] at hh
        rcases hh with h9 | h9
        · subst h9; exact k.irrefl
        · have := h9.neg; rw [Int.neg_neg] at this
          exact (k.trans this).irrefl
      · cases b with
        | nil =>
          exfalso
          have hh := hH.la u huS
          have : H.getLast hH.ne = x := by simp [eH]
          rw [this] at hh
          rcases hh with h9 | h9
          · subst h9; exact h.irrefl
          · have := h9.neg; rw [Int.neg_neg] at this
            exact (h.trans this).irrefl
        | cons w b =>
          have e1 : H = a' ++ t :: x :: w :: b := by rw [eH]; simp
          have e2 : H = (a' ++ [t]) ++ x :: w :: b := by rw [eH]; simp
          have c1 := hH.cv a' t x w b e1
          have f1 := hH.ed t x ⟨a', w :: b, e1⟩ u huS
          have f2 := hH.ed t x ⟨a', w :: b, e1⟩ v hvS
          have f3 := hH.ed x w ⟨_, b, e2⟩ u huS
          have f4 := hH.ed x w ⟨_, b, e2⟩ v hvS
          have lt1 : Lt s x t := by have := (hq2.2.2 t (by simp) x (by simp)).neg; rw [Int.neg_neg] at this; exact this
          have lt2 : Lt s w x := by have := (hq3.1 w (by simp)).neg; rw [Int.neg_neg] at this; exact this
          have h0 := hL.ed u v ⟨p, q, e⟩ x hxS
          rcases Int.lt_or_eq_of_le h0 with h0 | h0
          · exact h0
          exfalso
          have g0 : turnS u v x = cr2 (s * (v.x - x.x)) (s * (v.y - x.y)) (s * (x.x - u.x)) (s * (x.y - u.y)) := by rcases hs with rfl | rfl <;> (simp only [turnS, cr2]; grind)
          have g1 : turnS t x u = cr2 (s * (t.x - x.x)) (s * (t.y - x.y)) (s * (x.x - u.x)) (s * (x.y - u.y)) := by rcases hs with rfl | rfl <;> (simp only [turnS, cr2]; grind)
          have g2 : turnS t x v = cr2 (s * (v.x - x.x)) (s * (v.y - x.y)) (s * (t.x - x.x)) (s * (t.y - x.y)) := by rcases hs with rfl | rfl <;> (simp only [turnS, cr2]; grind)
          have g3 : turnS x w u = cr2 (s * (x.x - w.x)) (s * (x.y - w.y)) (s * (x.x - u.x)) (s * (x.y - u.y)) := by rcases hs with rfl | rfl <;> (simp only [turnS, cr2]; grind)
          have g4 : turnS x w v = cr2 (s * (v.x - x.x)) (s * (v.y - x.y)) (s * (x.x - w.x)) (s * (x.y - w.y)) := by rcases hs with rfl | rfl <;> (simp only [turnS, cr2]; grind)
          have g5 : turnS t x w = cr2 (s * (t.x - x.x)) (s * (t.y - x.y)) (s * (x.x - w.x)) (s * (x.y - w.y)) := by rcases hs with rfl | rfl <;> (simp only [turnS, cr2]; grind)
          have g6 : cr2 (s * (x.x - u.x)) (s * (x.y - u.y)) (s * (t.x - x.x)) (s * (t.y - x.y)) = -cr2 (s * (t.x - x.x)) (s * (t.y - x.y)) (s * (x.x - u.x)) (s * (x.y - u.y)) := by simp only [cr2]; grind
          have g7 : cr2 (s * (x.x - u.x)) (s * (x.y - u.y)) (s * (x.x - w.x)) (s * (x.y - w.y)) = -cr2 (s * (x.x - w.x)) (s * (x.y - w.y)) (s * (x.x - u.x)) (s * (x.y - u.y)) := by simp only [cr2]; grind
          have g8 : cr2 (s * (x.x - w.x)) (s * (x.y - w.y)) (s * (t.x - x.x)) (s * (t.y - x.y)) = -cr2 (s * (t.x - x.x)) (s * (t.y - x.y)) (s * (x.x - w.x)) (s * (x.y - w.y)) := by simp only [cr2]; grind
          rw [g0] at h0
          rw [g1] at f1
          rw [g2] at f2
          rw [g3] at f3
          rw [g4] at f4
          rw [g5] at c1
          have La : Lx (s * (x.x - u.x)) (s * (x.y - u.y)) := h
          have Lb : Lx (s * (v.x - x.x)) (s * (v.y - x.y)) := k
          have Ld : Lx (s * (t.x - x.x)) (s * (t.y - x.y)) := lt1
          have Lg : Lx (s * (x.x - w.x)) (s * (x.y - w.y)) := lt2
          have t1 := (cr_trans Lb Ld La f2 f1).2
          have t2 := (cr_trans Lb Lg La f4 f3).2
          have z1 : cr2 (s * (t.x - x.x)) (s * (t.y - x.y)) (s * (x.x - u.x)) (s * (x.y - u.y)) = 0 := by
            rcases Int.lt_or_eq_of_le f1 with h | h
            · have := t1 (.inr h); omega
            · exact h.symm
          have z2 : cr2 (s * (x.x - w.x)) (s * (x.y - w.y)) (s * (x.x - u.x)) (s * (x.y - u.y)) = 0 := by
            rcases Int.lt_or_eq_of_le f3 with h | h
            · have := t2 (.inr h); omega
            · exact h.symm
          have t3 := (cr_trans Lg La Ld (by omega) (by omega)).1
          omega
    · refine .inr (.inr ?_)
      cases q with
      | nil =>
        exfalso
        have hh := hL.la x hxS
        have : L.getLast hL.ne = v := by simp [e]
        rw [this] at hh
        rcases hh with h9 | h9
        · subst h9; exact k.irrefl
        · exact (k.trans h9).irrefl
      | cons w q =>
        have h1 := hL.cv p u v w q e
        have h2 := hL.ed v w ⟨p ++ [u], q, by rw [e]; simp⟩ x hxS
        rw [turn_cr2 hs] at h1 ⊢
        rw [turn_cr hs] at h2
        exact (cr_trans huv (hp4.1 w (by simp)) k (by omega) h2).2 (.inl h1)
theorem adj_of_get {l : List Pt} {i : Nat} {u v : Pt} (h : l[i]? = some u) (k : l[i + 1]? = some v) : Adj l u v := by
  obtain ⟨hi, e⟩ := List.getElem?_eq_some_iff.1 h
  obtain ⟨hj, e'⟩ := List.getElem?_eq_some_iff.1 k
  refine ⟨l.take i, l.drop (i + 2), ?_⟩
  rw [← e, ← e', ← List.drop_eq_getElem_cons, ← List.drop_eq_getElem_cons, List.take_append_drop]
theorem sides_two {A B A' B' : List Pt} {e f u v : Pt} (hA : A = f :: A') (hB : B = e :: B') (h : (u, v) ∈ sidesL (A ++ B)) : Adj (A ++ [e]) u v ∨ Adj (B ++ [f]) u v := by
  obtain ⟨i, hi, e0⟩ := List.mem_map.1 h
  rw [List.mem_range, List.length_append] at hi
  simp only [Prod.mk.injEq, List.getD_eq_getElem?_getD, List.length_append] at e0
  obtain ⟨e1, e2⟩ := e0
  have lA : 0 < A.length := by rw [hA]; simp
  have lB : 0 < B.length := by rw [hB]; simp
  by_cases c1 : i < A.length
  · left
    rw [List.getElem?_append_left c1] at e1
    have hu : (A ++ [e])[i]? = some u := by
      rw [List.getElem?_append_left c1, List.getElem?_eq_getElem c1]
      rw [List.getElem?_eq_getElem c1] at e1; exact congrArg some e1
    have hv : (A ++ [e])[i + 1]? = some v := by
      rw [Nat.mod_eq_of_lt (by omega)] at e2
      by_cases c2 : i + 1 < A.length
      · rw [List.getElem?_append_left c2] at e2 ⊢
        rw [List.getElem?_eq_getElem c2] at e2 ⊢; exact congrArg some e2
      · rw [List.getElem?_append_right (by omega)] at e2 ⊢
        have : i + 1 - A.length = 0 := by omega
        rw [this] at e2 ⊢
        rw [hB] at e2
        simpa using e2
    exact adj_of_get hu hv
  · right
    rw [List.getElem?_append_right (by omega)] at e1
    have hu : (B ++ [f])[i - A.length]? = some u := by
      rw [List.getElem?_append_left (by omega), List.getElem?_eq_getElem (by omega)]
      rw [List.getElem?_eq_getElem (by omega)] at e1; exact congrArg some e1
    have hv : (B ++ [f])[i - A.length + 1]? = some v := by
      by_cases c2 : i + 1 < A.length + B.length
      · rw [Nat.mod_eq_of_lt c2, List.getElem?_append_right (by omega)] at e2
        rw [show i + 1 - A.length = i - A.length + 1 by omega] at e2
        rw [List.getElem?_append_left (by omega), List.getElem?_eq_getElem (by omega)]
        rw [List.getElem?_eq_getElem (by omega)] at e2; exact congrArg some e2
      · rw [show i + 1 = A.length + B.length by omega, Nat.mod_self] at e2
        rw [List.getElem?_append_left lA, hA] at e2
        rw [List.getElem?_append_right (by omega), show i - A.length + 1 - B.length = 0 by omega]
        simpa using e2
    exact adj_of_get hu hv
theorem lt1_iff {p q : Pt} : Lt 1 p q ↔ cmpS p q < 0 := by
  have h := ltC p q
  unfold ltOf at h
  rw [← decide_eq_true_iff (p := cmpS p q < 0), h]
  simp only [Lt, Lx, Bool.or_eq_true, Bool.and_eq_true, decide_eq_true_eq]
  omega
theorem leP_iff {p q : Pt} : leP p q ↔ p = q ∨ Lt 1 p q := by
  obtain ⟨px, py⟩ := p
  obtain ⟨qx, qy⟩ := q
  simp only [leP, ltC, Lt, Lx, Pt.mk.injEq]
  simp
  omega
theorem dedup_strict : ∀ l : List Pt, l.Pairwise leP → (dedup l).Pairwise (Lt 1)
  | [], _ => by simp [dedup]
  | [a], _ => by simp [dedup]
  | a :: b :: l, h => by
    rw [List.pairwise_cons] at h
    unfold dedup
    split
    · exact dedup_strict (b :: l) h.2
    · rename_i hne
      rw [List.pairwise_cons]
      refine ⟨fun p hp => ?_, dedup_strict (b :: l) h.2⟩
      have hp' := (dedup_mem _ _).1 hp
      rcases leP_iff.1 (h.1 p hp') with rfl | h9
      · exfalso
        rcases List.mem_cons.1 hp' with rfl | hp'
        · exact hne rfl
        · exact hne (leP_anti (h.1 b (by simp)) ((List.pairwise_cons.1 h.2).1 _ hp'))
      · exact h9
/-- both chains over sorted points -/
structure Two (S A B : List Pt) (e f : Pt) : Prop where
  lo : Fw 1 S (A ++ [e])
  hi : Fw (-1) S (B ++ [f])
  hA : ∃ A', A = f :: A'
  hB : ∃ B', B = e :: B'
theorem two_of {S : List Pt} (h2 : 2 ≤ S.length) (hp : S.Pairwise (Lt 1)) : ∃ e f, Two S (chainS S).dropLast (chainS S.reverse).dropLast e f := by
  have hS : S ≠ [] := by intro e; rw [e] at h2; simp at h2
  have h1 := fw_chain (.inl rfl) hS hp
  have h3 : Fw (-1) S (chainS S.reverse) := (fw_chain (s := -1) (.inr rfl) (l := S.reverse) (by simpa using hS) (by rw [List.pairwise_reverse]; exact hp.imp fun h => h.neg)).congr (by simp)
  have l1 := chainS_two h2
  have l2 := chainS_two (xs := S.reverse) (by simpa using h2)
  generalize chainS S = L at *
  generalize chainS S.reverse = H at *
  have eL := List.dropLast_concat_getLast h1.ne
  have eH := List.dropLast_concat_getLast h3.ne
  have hf : L.head h1.ne = H.getLast h3.ne := by
    have a1 := h1.hd _ (h3.sub _ (List.getLast_mem h3.ne))
    have a2 := h3.la _ (h1.sub _ (List.head_mem h1.ne))
    rcases a2 with a2 | a2
    · exact a2
    rcases a1 with a1 | a1
    · exact a1.symm
    · have := a2.neg; rw [Int.neg_neg] at this
      exact (a1.trans this).irrefl.elim
  have he : H.head h3.ne = L.getLast h1.ne := by
    have a1 := h3.hd _ (h1.sub _ (List.getLast_mem h1.ne))
    have a2 := h1.la _ (h3.sub _ (List.head_mem h3.ne))
    rcases a2 with a2 | a2
    · exact a2
    rcases a1 with a1 | a1
    · exact a1.symm
    · have := a1.neg; rw [Int.neg_neg] at this
      exact (a2.trans this).irrefl.elim
  refine ⟨L.getLast h1.ne, H.getLast h3.ne, by rw [eL]; exact h1, by rw [eH]; exact h3, ?_, ?_⟩
  · match L, l1 with
    | a :: b :: L', _ => exact ⟨(b :: L').dropLast, by rw [← hf]; simp⟩
  · match H, l2 with
    | a :: b :: H', _ => exact ⟨(b :: H').dropLast, by rw [← he]; simp⟩
theorem two_side {S A B : List Pt} {e f : Pt} (h : Two S A B e f) {u v x : Pt} (hs : (u, v) ∈ sidesL (A ++ B)) : (x ∈ S → 0 ≤ turnS u v x) ∧ (x ∈ A ++ B → x = u ∨ x = v ∨ 0 < turnS u v x) := by
  obtain ⟨A', hA⟩ := h.hA
  obtain ⟨B', hB⟩ := h.hB
  have hm : x ∈ A ++ B → x ∈ A ++ [e] ∨ x ∈ B ++ [f] := fun h => (List.mem_append.1 h).imp (List.mem_append_left _) (List.mem_append_left _)
  rcases sides_two hA hB hs with hs | hs
  · exact ⟨h.lo.ed u v hs x, fun hx => fw_strict (.inl rfl) h.lo h.hi hs (hm hx)⟩
  · exact ⟨h.hi.ed u v hs x, fun hx => fw_strict (s := -1) (.inr rfl) h.hi h.lo hs (hm hx).symm⟩
theorem two_first {S A B : List Pt} {e f : Pt} (h : Two S A B e f) {A' B' : List Pt} (hA : A = f :: A') (hB : B = e :: B') : ∀ x ∈ A' ++ B, Lt 1 f x := by
  intro x hx
  rcases List.mem_append.1 hx with hx | hx
  · have := h.lo.up
    rw [hA] at this
    exact (List.pairwise_cons.1 this).1 x (List.mem_append_left _ hx)
  · have := (List.pairwise_append.1 h.hi.up).2.2 x hx f (by simp)
    have := this.neg
    rw [Int.neg_neg] at this
    exact this
/-- what the order of the corners asks -/
theorem firstB_of {f : Pt} {l : List Pt} (hp : ∀ p ∈ f :: l, plB p = true) (h : ∀ x ∈ l, Lt 1 f x) : firstB (f :: l) = true := by
  unfold firstB
  rw [List.all_eq_true]
  intro i hi
  rw [List.mem_range] at hi
  unfold okAt
  rw [hp _ (at_mem hi)]
  match i with
  | 0 => simp
  | i + 1 =>
    simp only [List.getD_cons_zero, List.getD_cons_succ, Bool.true_and, Bool.or_eq_true, decide_eq_true_eq]
    exact .inr (lt1_iff.1 (h _ (at_mem (by simpa using hi))))
theorem valid_of {f : Pt} {l : List Pt} (hp : ∀ p ∈ f :: l, plB p = true) (h64 : (f :: l).length ≤ 64) (h : ∀ x ∈ l, Lt 1 f x) (hs : 3 ≤ (f :: l).length → ∀ u v, (u, v) ∈ sidesL (f :: l) → ∀ x ∈ f :: l, x = u ∨ x = v ∨ 0 < turnS u v x) : validB (f :: l) = true := by
  unfold validB
  rw [firstB_of hp h]
  simp only [Bool.and_eq_true, Bool.or_eq_true, decide_eq_true_eq]
  refine ⟨⟨⟨by simp, h64⟩, trivial⟩, ?_⟩
  by_cases h3 : (f :: l).length < 3
  · exact .inl h3
  · refine .inr ?_
    rw [List.all_eq_true]
    rintro ⟨u, v⟩ hs'
    unfold sideOk
    rw [List.all_eq_true]
    intro x hx
    have := hs (by omega) u v hs' x hx
    simp only [Bool.or_eq_true, decide_eq_true_eq, or_assoc]
    exact this
theorem strict_pts {xs : List Pt} : (dedup (sortS xs)).Pairwise (Lt 1) := dedup_strict _ (sortS_sorted xs)
theorem mem_pts {xs : List Pt} {p : Pt} : p ∈ dedup (sortS xs) ↔ p ∈ xs := (dedup_mem _ _).trans sortS_mem
theorem hull_valid {xs : List Pt} (hne : xs ≠ []) (hp : ∀ p ∈ xs, plB p = true) (h64 : (hullS xs).length ≤ 64) : validB (hullS xs) = true := by
  have hpl : ∀ p ∈ hullS xs, plB p = true := fun p h => hp p (hullS_sub h)
  have hst := strict_pts (xs := xs)
  have hmem := fun p => mem_pts (xs := xs) (p := p)
  unfold hullS at *
  dsimp only at *
  generalize dedup (sortS xs) = S at *
  split at hpl <;> rename_i h3
  · rw [if_pos h3] at *
    match S, h3 with
    | [], _ => exact absurd (List.eq_nil_iff_forall_not_mem.2 fun p h => by have := (hmem p).2 h; simp at this) hne
    | [a], _ => exact valid_of hpl h64 (by simp) (by simp)
    | [a, b], _ => exact valid_of hpl h64 (by simpa using hst) (by simp)
    | _ :: _ :: _ :: _, h => simp at h; omega
  · rw [if_neg h3] at *
    obtain ⟨e, f, h⟩ := two_of (by omega) hst
    generalize (chainS S).dropLast = A at *
    generalize (chainS S.reverse).dropLast = B at *
    obtain ⟨A', hA⟩ := h.hA
    obtain ⟨B', hB⟩ := h.hB
    have h1 := two_first h hA hB
    have h2 := fun u v (hs : (u, v) ∈ sidesL (A ++ B)) x => (two_side h (x := x) hs).2
    rw [hA] at hpl h64 h2 ⊢
    rw [List.cons_append] at hpl h64 h2 ⊢
    exact valid_of hpl h64 h1 fun _ u v hs x hx => h2 u v hs x hx
theorem hull_has {xs : List Pt} (hv : validB (hullS xs) = true) {x : Pt} (hx : x ∈ xs) : insB (hullS xs) x = true := by
  have hst := strict_pts (xs := xs)
  have hmem := (mem_pts (xs := xs) (p := x)).2 hx
  by_cases h3 : (dedup (sortS xs)).length < 3
  · have e : hullS xs = dedup (sortS xs) := by unfold hullS; dsimp only; rw [if_pos h3]
    rw [insB_cov hv, e]
    exact Cov.of_mem hmem
  · have e : hullS xs = (chainS (dedup (sortS xs))).dropLast ++ (chainS (dedup (sortS xs)).reverse).dropLast := by unfold hullS; dsimp only; rw [if_neg h3]
    obtain ⟨e1, f, h⟩ := two_of (by omega) hst
    rw [e] at hv ⊢
    generalize dedup (sortS xs) = S at *
    generalize (chainS S).dropLast = A at *
    generalize (chainS S.reverse).dropLast = B at *
    have h2 := fun u v (hs : (u, v) ∈ sidesL (A ++ B)) => (two_side h (x := x) hs).1 hmem
    by_cases hl : (A ++ B).length < 3
    · obtain ⟨A', hA⟩ := h.hA
      obtain ⟨B', hB⟩ := h.hB
      have hl2 := hl
      rw [hA, hB] at hl2
      simp only [List.length_append, List.length_cons] at hl2
      have eA : A' = [] := List.eq_nil_of_length_eq_zero (by omega)
      have eB : B' = [] := List.eq_nil_of_length_eq_zero (by omega)
      subst eA eB hA hB
      have t1 := h2 f e1 (by simp [sidesL, List.range, List.range.loop])
      have t2 := h2 e1 f (by simp [sidesL, List.range, List.range.loop])
      rw [turn_swap] at t2
      have b1 := h.lo.hd x hmem
      have b2 := h.lo.la x hmem
      simp at b1 b2
      rw [insB_cov hv]
      have hfe : Lt 1 f e1 := by have := h.lo.up; simpa using this
      refine seg_cov (by simp [Pt.q]) (lt1_iff.1 hfe) (by rw [turnQ_q]; omega) ?_ ?_ ?_ ?_ <;> clear h h2 hv hst hl
      all_goals
        obtain ⟨fx, fy⟩ := f
        obtain ⟨ex, ey⟩ := e1
        obtain ⟨x, y⟩ := x
        simp only [Pt.q, Lt, Lx, turnS, Pt.mk.injEq, Int.mul_one] at *
      · omega
      · omega
      · by_cases hx0 : fx = ex
        · omega
        · have hz : (ex - fx) * (y - fy) = (ey - fy) * (x - fx) := by omega
          rcases Int.le_total fy ey with hy | hy
          · have := Int.mul_nonneg (show 0 ≤ ey - fy by omega) (show 0 ≤ x - fx by omega)
            have := Int.nonneg_of_mul_nonneg_right (show 0 ≤ (ex - fx) * (y - fy) by omega) (by omega)
            omega
          · have := Int.mul_nonneg (show 0 ≤ fy - ey by omega) (show 0 ≤ ex - x by omega)
            have hz2 : (ex - fx) * (y - ey) = (fy - ey) * (ex - x) := by grind
            have := Int.nonneg_of_mul_nonneg_right (show 0 ≤ (ex - fx) * (y - ey) by omega) (by omega)
            omega
      · by_cases hx0 : fx = ex
        · omega
        · have hz : (ex - fx) * (y - fy) = (ey - fy) * (x - fx) := by omega
          rcases Int.le_total fy ey with hy | hy
          · have := Int.mul_nonneg (show 0 ≤ ey - fy by omega) (show 0 ≤ ex - x by omega)
            have hz2 : (ex - fx) * (ey - y) = (ey - fy) * (ex - x) := by grind
            have := Int.nonneg_of_mul_nonneg_right (show 0 ≤ (ex - fx) * (ey - y) by omega) (by omega)
            omega
          · have := Int.mul_nonneg (show 0 ≤ fy - ey by omega) (show 0 ≤ x - fx by omega)
            have hz2 : (ex - fx) * (fy - y) = (fy - ey) * (x - fx) := by grind
            have := Int.nonneg_of_mul_nonneg_right (show 0 ≤ (ex - fx) * (fy - y) by omega) (by omega)
            omega
    · rw [insB_q]
      unfold insQ
      rw [if_neg hl]
      rintro ⟨u, v⟩ hs
      rw [turnQ_q]
      exact h2 u v hs
/-- the hull is reached as far as its points -/
theorem hull_cov {xs : List Pt} (hv : validB (hullS xs) = true) {z : Qp} : Cov (hullS xs) z ↔ Cov xs z :=
  ⟨fun h => h.mono fun p hp => hullS_sub hp, fun h => h.trans fun p hp => (insB_cov hv p).1 (hull_has hv hp)⟩
end Go.Proofs.YtnhdnkeiijiiaaaGreat
namespace Go.Proofs.YtnhdnkeiijiiaaaGreat
set_option linter.unusedSimpArgs false
set_option linter.unusedVariables false
theorem mul_mono_sgn {a x y : Int} (h : 0 ≤ a) (k : x ≤ y) : a * x ≤ a * y := Int.mul_le_mul_of_nonneg_left k h
/-- a point between four is reached with them -/
theorem grid_cov {x0 x1 y0 y1 : Int} {z : Qp} (h1 : x0 * z.W ≤ z.X) (h2 : z.X ≤ x1 * z.W) (h3 : y0 * z.W ≤ z.Y) (h4 : z.Y ≤ y1 * z.W) (hz : 0 < z.W) : Cov (gridL x0 x1 y0 y1) z := by
  intro A B C hC
  obtain ⟨X, Y, W⟩ := z
  simp only [hq, hp, gridL, List.mem_cons, List.not_mem_nil, or_false, forall_eq_or_imp, forall_eq] at *
  obtain ⟨c1, c2, c3, c4⟩ := hC
  have fin : ∀ x y : Int, A * x + B * y ≤ C → A * X ≤ A * (x * W) → B * Y ≤ B * (y * W) → A * X + B * Y ≤ C * W := fun x y h k1 k2 => by
    have := mul_le_of h hz
    have e : (A * x + B * y) * W = A * (x * W) + B * (y * W) := by grind
    omega
  have neg : ∀ {a x y : Int}, a ≤ 0 → y ≤ x → a * x ≤ a * y := fun {a x y} h k => Int.mul_le_mul_of_nonpos_left h k
  rcases Int.le_total 0 A with hA | hA <;> rcases Int.le_total 0 B with hB | hB
  · exact fin x1 y1 c4 (mul_mono_sgn hA h2) (mul_mono_sgn hB h4)
  · exact fin x1 y0 c3 (mul_mono_sgn hA h2) (neg hB h3)
  · exact fin x0 y1 c2 (neg hA h1) (mul_mono_sgn hB h4)
  · exact fin x0 y0 c1 (neg hA h1) (neg hB h3)
theorem flS_eq (a b : Int) (hb : b ≠ 0) : flS a b = a.fdiv b := by
  have e1 := Int.mul_tdiv_add_tmod a b
  have e2 := Int.mul_fdiv_add_fmod a b
  unfold flS
  have key : ∀ q r q' r' : Int, b * q + r = a → b * q' + r' = a → (0 < b → 0 ≤ r ∧ r < b) → (b < 0 → r ≤ 0 ∧ b < r) → (0 < b → 0 ≤ r' ∧ r' < b) → (b < 0 → r' ≤ 0 ∧ b < r') → q = q' := by
    intro q r q' r' h1 h2 k1 k2 k3 k4
    have hd : b * (q - q') = r' - r := by rw [Int.mul_sub]; omega
    rcases Int.lt_or_lt_of_ne hb with h | h
    · have a1 := k2 h
      have a2 := k4 h
      rcases Int.lt_trichotomy (q - q') 0 with c | c | c
      · have := Int.mul_le_mul_of_nonpos_left (Int.le_of_lt h) (show q - q' ≤ -1 by omega); omega
      · omega
      · have := Int.mul_le_mul_of_nonpos_left (Int.le_of_lt h) (show 1 ≤ q - q' by omega); omega
    · have a1 := k1 h
      have a2 := k3 h
      rcases Int.lt_trichotomy (q - q') 0 with c | c | c
      · have := Int.mul_le_mul_of_nonneg_left (show q - q' ≤ -1 by omega) (Int.le_of_lt h); omega
      · omega
      · have := Int.mul_le_mul_of_nonneg_left (show 1 ≤ q - q' by omega) (Int.le_of_lt h); omega
  have f1 : 0 < b → 0 ≤ a.fmod b ∧ a.fmod b < b := fun h => ⟨Int.fmod_nonneg_of_pos a h, Int.fmod_lt_of_pos a h⟩
  have f2 : b < 0 → a.fmod b ≤ 0 ∧ b < a.fmod b := fun h => by
    have h1 := Int.fmod_nonneg_of_pos (-a) (show 0 < -b by omega)
    have h2 := Int.fmod_lt_of_pos (-a) (show 0 < -b by omega)
    rw [Int.neg_fmod_neg] at h1 h2
    omega
  have tl : -(b.natAbs : Int) < a.tmod b ∧ a.tmod b < (b.natAbs : Int) := by
    rcases Int.lt_or_lt_of_ne hb with h | h
    · have h1 := Int.tmod_lt_of_pos a (show 0 < -b by omega)
      have h2 := Int.lt_tmod_of_pos a (show 0 < -b by omega)
      rw [Int.tmod_neg] at h1 h2
      omega
    · have h1 := Int.tmod_lt_of_pos a h
      have h2 := Int.lt_tmod_of_pos a h
      omega
  have t1 : 0 ≤ a → 0 ≤ a.tmod b ∧ a.tmod b < b.natAbs := fun h => ⟨Int.tmod_nonneg b h, tl.2⟩
  have t2 : a ≤ 0 → a.tmod b ≤ 0 ∧ -(b.natAbs : Int) < a.tmod b := fun h => by
    have h1 := Int.tmod_nonneg b (show 0 ≤ -a by omega)
    rw [Int.neg_tmod] at h1
    omega
  by_cases hr : a.tmod b = 0
  · rw [if_neg (by simp [hr])]
    exact key _ (a.tmod b) _ (a.fmod b) e1 e2 (by omega) (by omega) f1 f2
  · by_cases hs : (decide (a < 0) != decide (b < 0)) = true
    · rw [if_pos ⟨hr, hs⟩]
      simp only [bne_iff_ne, ne_eq, decide_eq_decide] at hs
      refine key _ (a.tmod b + b) _ (a.fmod b) (by rw [Int.mul_sub]; omega) e2 ?_ ?_ f1 f2
      · intro h; have := t2 (by omega); omega
      · intro h; have := t1 (by omega); omega
    · rw [if_neg (by simp only [not_and]; exact fun _ => hs)]
      simp only [bne_iff_ne, ne_eq, decide_eq_decide, Decidable.not_not] at hs
      refine key _ (a.tmod b) _ (a.fmod b) e1 e2 ?_ ?_ f1 f2
      · intro h; have := t1 (by omega); omega
      · intro h; have := t2 (by omega); omega
theorem flS_pos {a b : Int} (hb : 0 < b) : flS a b * b ≤ a ∧ a < flS a b * b + b := by
  rw [flS_eq a b (by omega)]
  have e2 := Int.mul_fdiv_add_fmod a b
  have := Int.fmod_nonneg_of_pos a hb
  have := Int.fmod_lt_of_pos a hb
  rw [Int.mul_comm] at e2
  omega
theorem flS_neg {a b : Int} (hb : b < 0) : a ≤ flS a b * b ∧ flS a b * b + b < a := by
  rw [flS_eq a b (by omega)]
  have e2 := Int.mul_fdiv_add_fmod a b
  have h1 := Int.fmod_nonneg_of_pos (-a) (show 0 < -b by omega)
  have h2 := Int.fmod_lt_of_pos (-a) (show 0 < -b by omega)
  rw [Int.neg_fmod_neg] at h1 h2
  rw [Int.mul_comm] at e2
  omega
/-- the ends of a frame -/
def endLo (u v s t : Int) : Int := u + flS ((v - u) * s) (s - t)
def endHi (u v s t : Int) : Int := u - flS (-((v - u) * s)) (s - t)
/-- the places around the point that divides a side -/
def frameS (a b : Pt) (s t : Int) : List Pt := gridL (endLo a.x b.x s t) (endHi a.x b.x s t) (endLo a.y b.y s t) (endHi a.y b.y s t)
theorem crosses_iff {s t : Int} : crossesB s t = true ↔ s < 0 ∧ 0 < t ∨ 0 < s ∧ t < 0 := by simp [crossesB]
/-- the point that divides a side -/
def divQ (a b : Pt) (s t : Int) : Qp := if t < s then ⟨s * b.x - t * a.x, s * b.y - t * a.y, s - t⟩ else ⟨t * a.x - s * b.x, t * a.y - s * b.y, t - s⟩
theorem end_bd {u v s t : Int} (h : s < t ∨ t < s) : (t < s → endLo u v s t * (s - t) ≤ s * v - t * u ∧ s * v - t * u ≤ endHi u v s t * (s - t)) ∧ (s < t → endLo u v s t * (t - s) ≤ t * u - s * v ∧ t * u - s * v ≤ endHi u v s t * (t - s)) := by
  have e : s * v - t * u = u * (s - t) + (v - u) * s := by grind
  unfold endLo endHi
  generalize (v - u) * s = N at *
  refine ⟨fun h => ?_, fun h => ?_⟩
  · have h1 := flS_pos (a := N) (show 0 < s - t by omega)
    have h2 := flS_pos (a := -N) (show 0 < s - t by omega)
    rw [Int.add_mul, Int.sub_mul]
    omega
  · have h1 := flS_neg (a := N) (show s - t < 0 by omega)
    have h2 := flS_neg (a := -N) (show s - t < 0 by omega)
    rw [show t - s = -(s - t) by omega, Int.mul_neg, Int.mul_neg, Int.add_mul, Int.sub_mul]
    omega
theorem end_bd2 {u v s t : Int} : (t < s → endHi u v s t * (s - t) < s * v - t * u + (s - t) ∧ s * v - t * u < endLo u v s t * (s - t) + (s - t)) ∧ (s < t → endHi u v s t * (t - s) < t * u - s * v + (t - s) ∧ t * u - s * v < endLo u v s t * (t - s) + (t - s)) := by
  have e : s * v - t * u = u * (s - t) + (v - u) * s := by grind
  unfold endLo endHi
  generalize (v - u) * s = N at *
  refine ⟨fun h => ?_, fun h => ?_⟩
  · have h1 := flS_pos (a := N) (show 0 < s - t by omega)
    have h2 := flS_pos (a := -N) (show 0 < s - t by omega)
    rw [Int.add_mul, Int.sub_mul]
    omega
  · have h1 := flS_neg (a := N) (show s - t < 0 by omega)
    have h2 := flS_neg (a := -N) (show s - t < 0 by omega)
    rw [show t - s = -(s - t) by omega, Int.mul_neg, Int.mul_neg, Int.add_mul, Int.sub_mul]
    omega
theorem frame_cov {a b : Pt} {s t : Int} (h : crossesB s t = true) : Cov (frameS a b s t) (divQ a b s t) := by
  rw [crosses_iff] at h
  have h1 := end_bd (u := a.x) (v := b.x) (s := s) (t := t) (by omega)
  have h2 := end_bd (u := a.y) (v := b.y) (s := s) (t := t) (by omega)
  unfold frameS divQ
  split
  · have k1 := h1.1 (by omega)
    have k2 := h2.1 (by omega)
    exact grid_cov k1.1 k1.2 k2.1 k2.2 (by dsimp only; omega)
  · have k1 := h1.2 (by omega)
    have k2 := h2.2 (by omega)
    exact grid_cov k1.1 k1.2 k2.1 k2.2 (by dsimp only; omega)
theorem end_box {u v s t lo hi : Int} (h : crossesB s t = true) (h1 : lo ≤ u) (h2 : lo ≤ v) (h3 : u ≤ hi) (h4 : v ≤ hi) : lo ≤ endLo u v s t ∧ endLo u v s t ≤ hi ∧ lo ≤ endHi u v s t ∧ endHi u v s t ≤ hi := by
  rw [crosses_iff] at h
  have hb := end_bd (u := u) (v := v) (s := s) (t := t) (by omega)
  have e : s * v - t * u = u * (s - t) + (v - u) * s := by grind
  rcases h with h | h
  · have hn := show s - t < 0 by omega
    have f1 := flS_neg (a := (v - u) * s) hn
    have f2 := flS_neg (a := -((v - u) * s)) hn
    have m1 := Int.mul_nonneg (show 0 ≤ t by omega) (show 0 ≤ u - lo by omega)
    have m2 := Int.mul_nonneg (show 0 ≤ -s by omega) (show 0 ≤ v - lo by omega)
    have m3 := Int.mul_nonneg (show 0 ≤ t by omega) (show 0 ≤ hi - u by omega)
    have m4 := Int.mul_nonneg (show 0 ≤ -s by omega) (show 0 ≤ hi - v by omega)
    have k1 : lo * (t - s) ≤ t * u - s * v := by grind
    have k2 : t * u - s * v ≤ hi * (t - s) := by grind
    have b := hb.2 (by omega)
    obtain ⟨g1, g2⟩ := (end_bd2 (u := u) (v := v)).2 (show s < t by omega)
    have w := show 0 < t - s by omega
    refine ⟨?_, ?_, ?_, ?_⟩
    · have : lo * (t - s) < (endLo u v s t + 1) * (t - s) := by rw [Int.add_mul, Int.one_mul]; omega
      have := Int.lt_of_mul_lt_mul_right this (by omega); omega
    · exact Int.le_of_mul_le_mul_right (show endLo u v s t * (t - s) ≤ hi * (t - s) by omega) w
    · exact Int.le_of_mul_le_mul_right (show lo * (t - s) ≤ endHi u v s t * (t - s) by omega) w
    · have : endHi u v s t * (t - s) < (hi + 1) * (t - s) := by rw [Int.add_mul, Int.one_mul]; omega
      have := Int.lt_of_mul_lt_mul_right this (by omega); omega
  · have hn := show 0 < s - t by omega
    have f1 := flS_pos (a := (v - u) * s) hn
    have f2 := flS_pos (a := -((v - u) * s)) hn
    have m1 := Int.mul_nonneg (show 0 ≤ -t by omega) (show 0 ≤ u - lo by omega)
    have m2 := Int.mul_nonneg (show 0 ≤ s by omega) (show 0 ≤ v - lo by omega)
    have m3 := Int.mul_nonneg (show 0 ≤ -t by omega) (show 0 ≤ hi - u by omega)
    have m4 := Int.mul_nonneg (show 0 ≤ s by omega) (show 0 ≤ hi - v by omega)
    have k1 : lo * (s - t) ≤ s * v - t * u := by grind
    have k2 : s * v - t * u ≤ hi * (s - t) := by grind
    have b := hb.1 (by omega)
    obtain ⟨g1, g2⟩ := (end_bd2 (u := u) (v := v)).1 (show t < s by omega)
    have w := show 0 < s - t by omega
    refine ⟨?_, ?_, ?_, ?_⟩
    · have : lo * (s - t) < (endLo u v s t + 1) * (s - t) := by rw [Int.add_mul, Int.one_mul]; omega
      have := Int.lt_of_mul_lt_mul_right this (by omega); omega
    · exact Int.le_of_mul_le_mul_right (show endLo u v s t * (s - t) ≤ hi * (s - t) by omega) w
    · exact Int.le_of_mul_le_mul_right (show lo * (s - t) ≤ endHi u v s t * (s - t) by omega) w
    · have : endHi u v s t * (s - t) < (hi + 1) * (s - t) := by rw [Int.add_mul, Int.one_mul]; omega
      have := Int.lt_of_mul_lt_mul_right this (by omega); omega
/-- a box has a point -/
def InBox (lo hi : Pt) (p : Pt) : Prop := lo.x ≤ p.x ∧ p.x ≤ hi.x ∧ lo.y ≤ p.y ∧ p.y ≤ hi.y
theorem frame_box {a b lo hi p : Pt} {s t : Int} (h : crossesB s t = true) (ha : InBox lo hi a) (hb : InBox lo hi b) (hm : p ∈ frameS a b s t) : InBox lo hi p := by
  have h1 := end_box h ha.1 hb.1 ha.2.1 hb.2.1
  have h2 := end_box h ha.2.2.1 hb.2.2.1 ha.2.2.2 hb.2.2.2
  unfold frameS at hm
  simp only [gridL, List.mem_cons, List.not_mem_nil, or_false] at hm
  rcases hm with rfl | rfl | rfl | rfl <;> (unfold InBox; dsimp only; omega)
theorem pl_box {p : Pt} : plB p = true ↔ InBox ⟨-500000, -500000⟩ ⟨500000, 500000⟩ p := by rw [plB_iff]; rfl
/-- what a half-plane keeps at a side -/
def keepS (h : Hf) (s : Pt × Pt) : List Pt := (if overS h s.1 ≤ 0 then [s.1] else []) ++ (if crossesB (overS h s.1) (overS h s.2) = true then frameS s.1 s.2 (overS h s.1) (overS h s.2) else [])
def cutPts (p : List Pt) (h : Hf) : List Pt := (sidesL p).flatMap (keepS h)
theorem corner_side {xs : List Pt} {c : Pt} (h : c ∈ xs) : ∃ d, (c, d) ∈ sidesL xs := by
  obtain ⟨i, hi, rfl⟩ := at_of_mem h
  exact ⟨_, side_at hi⟩
theorem keep_corner {p : List Pt} {h : Hf} {c : Pt} (hc : c ∈ p) (ho : overS h c ≤ 0) : c ∈ cutPts p h := by
  obtain ⟨d, hd⟩ := corner_side hc
  exact List.mem_flatMap.2 ⟨_, hd, by simp [keepS, ho]⟩
theorem keep_frame {p : List Pt} {h : Hf} {c d r : Pt} (hs : (c, d) ∈ sidesL p) (hx : crossesB (overS h c) (overS h d) = true) (hr : r ∈ frameS c d (overS h c) (overS h d)) : r ∈ cutPts p h :=
  List.mem_flatMap.2 ⟨_, hs, List.mem_append_right _ (by rw [if_pos hx]; exact hr)⟩
theorem cut_box {p : List Pt} {h : Hf} {lo hi r : Pt} (hp : ∀ c ∈ p, InBox lo hi c) (hr : r ∈ cutPts p h) : InBox lo hi r := by
  obtain ⟨s, hs, hr⟩ := List.mem_flatMap.1 hr
  have hm := sides_mem hs
  rcases List.mem_append.1 hr with hr | hr
  · split at hr
    · rw [List.mem_singleton.1 hr]; exact hp _ hm.1
    · simp at hr
  · split at hr
    · rename_i hx
      exact frame_box hx (hp _ hm.1) (hp _ hm.2) hr
    · simp at hr
/-- where a corner is not the farthest, a neighbour is farther -/
theorem ascend {p : List Pt} (hv : validB p = true) {A B : Int} {a b : Pt} (ha : a ∈ p) (hb : b ∈ p) (hlt : hp A B a < hp A B b) : ∃ n ∈ p, ((a, n) ∈ sidesL p ∨ (n, a) ∈ sidesL p) ∧ hp A B a < hp A B n := by
  have hl := len_of_valid hv
  by_cases h3 : 3 ≤ p.length
  · obtain ⟨u, w, hs1, hs2, hu, hw, hT⟩ := nbrs hv h3 ha
    by_cases c1 : hp A B a < hp A B u
    · exact ⟨u, hu, .inr hs1, c1⟩
    by_cases c2 : hp A B a < hp A B w
    · exact ⟨w, hw, .inl hs2, c2⟩
    exfalso
    have := cone (A := A) (B := B) (z := b.q) hT (by rw [turnQ_q]; exact side_ge hv h3 hs1 hb) (by rw [turnQ_q]; exact side_ge hv h3 hs2 hb) (by omega) (by omega)
    rw [hq_q] at this
    simp only [Pt.q, Int.mul_one] at this
    omega
  · match p, hl, h3 with
    | [x], _, _ =>
      rw [List.mem_singleton.1 ha, List.mem_singleton.1 hb] at hlt
      omega
    | [x, y], _, _ =>
      refine ⟨b, hb, ?_, hlt⟩
      have h1 : (x, y) ∈ sidesL [x, y] := by simp [sidesL, List.range, List.range.loop]
      have h2 : (y, x) ∈ sidesL [x, y] := by simp [sidesL, List.range, List.range.loop]
      simp only [List.mem_cons, List.not_mem_nil, or_false] at ha hb
      rcases ha with rfl | rfl <;> rcases hb with rfl | rfl
      · omega
      · exact .inl h1
      · exact .inl h2
      · omega
    | _ :: _ :: _ :: _, _, h => simp at h
theorem max_ratio (L h : Pt → Int) : ∀ xs : List Pt, (∃ c ∈ xs, 0 < h c) → ∃ a ∈ xs, 0 < h a ∧ ∀ c ∈ xs, 0 < h c → L c * h a ≤ L a * h c
  | [], k => by obtain ⟨c, hc, _⟩ := k; simp at hc
  | x :: l, k => by
    by_cases k' : ∃ c ∈ l, 0 < h c
    · obtain ⟨a, ha, ha0, hm⟩ := max_ratio L h l k'
      by_cases hx : 0 < h x ∧ L a * h x < L x * h a
      · refine ⟨x, by simp, hx.1, fun c hc hc0 => ?_⟩
        rcases List.mem_cons.1 hc with rfl | hc
        · exact Int.le_refl _
        · have h1 := hm c hc hc0
          -- L c h a ≤ L a h c, L a h x < L x h a
          have m1 := Int.mul_le_mul_of_nonneg_right h1 (Int.le_of_lt hx.1)
          have m2 := Int.mul_le_mul_of_nonneg_right (Int.le_of_lt hx.2) (Int.le_of_lt hc0)
          have e : L c * h a * h x ≤ L x * h a * h c := by
            have : L a * h c * h x = L a * h x * h c := by grind
            omega
          have : (L c * h x) * h a ≤ (L x * h c) * h a := by
            have e1 : L c * h a * h x = (L c * h x) * h a := by grind
            have e2 : L x * h a * h c = (L x * h c) * h a := by grind
            omega
          exact Int.le_of_mul_le_mul_right this ha0
      · refine ⟨a, by simp [ha], ha0, fun c hc hc0 => ?_⟩
        rcases List.mem_cons.1 hc with rfl | hc
        · omega
        · exact hm c hc hc0
    · obtain ⟨c, hc, hc0⟩ := k
      rcases List.mem_cons.1 hc with rfl | hc
      · refine ⟨c, by simp, hc0, fun d hd hd0 => ?_⟩
        rcases List.mem_cons.1 hd with rfl | hd
        · exact Int.le_refl _
        · exact absurd ⟨d, hd, hd0⟩ k'
      · exact absurd ⟨c, hc, hc0⟩ k'
def overQ (h : Hf) (z : Qp) : Int := h.a * z.X + h.b * z.Y - h.c * z.W
theorem div_hq (A B C : Int) (a b : Pt) (s t : Int) (h : hq A B (divQ a b s t) ≤ C * (divQ a b s t).W) : (t < s → s * (hp A B b - C) - t * (hp A B a - C) ≤ 0) ∧ (s < t → t * (hp A B a - C) - s * (hp A B b - C) ≤ 0) := by
  unfold divQ at h
  refine ⟨fun k => ?_, fun k => ?_⟩
  · rw [if_pos k] at h
    simp only [hq, hp] at *
    grind
  · rw [if_neg (by omega)] at h
    simp only [hq, hp] at *
    grind
/-- what a polygon and a half-plane have is reached with what is kept -/
theorem cut_cov {p : List Pt} {h : Hf} (hv : validB p = true) {z : Qp} (hz : 0 < z.W) (hc : Cov p z) (ho : overQ h z ≤ 0) : Cov (cutPts p h) z := by
  intro A B C hC
  by_cases hall : ∀ c ∈ p, hp A B c ≤ C
  · exact hc A B C hall
  have hex : ∃ c ∈ p, C < hp A B c := by
    apply Decidable.byContradiction
    intro hn
    exact hall fun c hc => by
      rcases Int.lt_or_le C (hp A B c) with h | h
      · exact absurd ⟨c, hc, h⟩ hn
      · exact h
  obtain ⟨c0, hc0, hL0⟩ := hex
  have hT0 : 0 < overS h c0 := by
    rcases Int.lt_or_le 0 (overS h c0) with k | k
    · exact k
    · have := hC c0 (keep_corner hc0 k); omega
  obtain ⟨a, ha, ha0, hm⟩ := max_ratio (fun c => hp A B c - C) (overS h) p ⟨c0, hc0, hT0⟩
  have hLa : 0 < hp A B a - C := by
    have h1 := hm c0 hc0 hT0
    have h2 := Int.mul_pos (show 0 < hp A B c0 - C by omega) ha0
    exact Int.pos_of_mul_pos_left (by omega : 0 < (hp A B a - C) * overS h c0) hT0
  -- M c = h a * L c - L a * h c
  have hM : ∀ c, overS h a * (hp A B c - C) - (hp A B a - C) * overS h c = hp (overS h a * A - (hp A B a - C) * h.a) (overS h a * B - (hp A B a - C) * h.b) c - (overS h a * C - (hp A B a - C) * h.c) := by
    intro c
    generalize hp A B a - C = La
    generalize overS h a = Ha
    simp only [hp, overS]
    grind
  by_cases hneg : ∀ c ∈ p, overS h a * (hp A B c - C) - (hp A B a - C) * overS h c ≤ 0
  · have h1 := hc (overS h a * A - (hp A B a - C) * h.a) (overS h a * B - (hp A B a - C) * h.b) (overS h a * C - (hp A B a - C) * h.c) fun c hc' => by
      have := hneg c hc'
      rw [hM c] at this
      omega
    have e : hq (overS h a * A - (hp A B a - C) * h.a) (overS h a * B - (hp A B a - C) * h.b) z - (overS h a * C - (hp A B a - C) * h.c) * z.W = overS h a * (hq A B z - C * z.W) - (hp A B a - C) * overQ h z := by
      generalize hp A B a - C = La
      generalize overS h a = Ha
      simp only [hq, overQ]
      grind
    have h2 := Int.mul_nonneg (Int.le_of_lt hLa) (show 0 ≤ -overQ h z by omega)
    rw [Int.mul_neg] at h2
    have h3 : overS h a * (hq A B z - C * z.W) ≤ 0 := by omega
    rcases Int.lt_or_le 0 (hq A B z - C * z.W) with k | k
    · have := Int.mul_pos ha0 k; omega
    · omega
  · exfalso
    have hexb : ∃ b ∈ p, 0 < overS h a * (hp A B b - C) - (hp A B a - C) * overS h b := by
      apply Decidable.byContradiction
      intro hn
      exact hneg fun c hc => by
        rcases Int.lt_or_le 0 (overS h a * (hp A B c - C) - (hp A B a - C) * overS h c) with h | h
        · exact absurd ⟨c, hc, h⟩ hn
        · exact h
    obtain ⟨b, hb, hb0⟩ := hexb
    have hMa : overS h a * (hp A B a - C) - (hp A B a - C) * overS h a = 0 := by rw [Int.mul_comm]; omega
    rw [hM b] at hb0
    have hMa' := hMa
    rw [hM a] at hMa'
    obtain ⟨n, hn, hs, hlt⟩ := ascend hv ha hb (A := overS h a * A - (hp A B a - C) * h.a) (B := overS h a * B - (hp A B a - C) * h.b) (by omega)
    have hn0 : 0 < overS h a * (hp A B n - C) - (hp A B a - C) * overS h n := by rw [hM n]; omega
    have hn1 : overS h n ≤ 0 := by
      rcases Int.lt_or_le 0 (overS h n) with k | k
      · have h9 := hm n hn k
        rw [Int.mul_comm] at h9
        omega
      · exact k
    have hLn := hC n (keep_corner hn hn1)
    rcases Int.lt_or_eq_of_le hn1 with k | k
    · rcases hs with hs | hs
      · have hx : crossesB (overS h a) (overS h n) = true := crosses_iff.2 (.inr ⟨ha0, k⟩)
        have h1 := frame_cov (a := a) (b := n) hx A B C fun r hr => hC r (keep_frame hs hx hr)
        have h2 := (div_hq A B C a n _ _ h1).1 (by omega)
        rw [Int.mul_comm (overS h n)] at h2
        omega
      · have hx : crossesB (overS h n) (overS h a) = true := crosses_iff.2 (.inl ⟨k, ha0⟩)
        have h1 := frame_cov (a := n) (b := a) hx A B C fun r hr => hC r (keep_frame hs hx hr)
        have h2 := (div_hq A B C n a _ _ h1).2 (by omega)
        rw [Int.mul_comm (overS h n)] at h2
        omega
    · rw [k] at hn0
      have := Int.mul_nonneg (Int.le_of_lt ha0) (show 0 ≤ C - hp A B n by omega)
      have e : overS h a * (C - hp A B n) = -(overS h a * (hp A B n - C)) := by rw [← Int.mul_neg]; congr 1; omega
      omega
end Go.Proofs.YtnhdnkeiijiiaaaGreat
namespace Go.Proofs.YtnhdnkeiijiiaaaGreat
set_option linter.unusedSimpArgs false
set_option linter.unusedVariables false
theorem foldl_min_le (f : Pt → Int) : ∀ (xs : List Pt) (a : Int), xs.foldl (fun m x => min m (f x)) a ≤ a ∧ ∀ p ∈ xs, xs.foldl (fun m x => min m (f x)) a ≤ f p
  | [], a => ⟨Int.le_refl _, by simp⟩
  | x :: xs, a => by
    have ih := foldl_min_le f xs (min a (f x))
    simp only [List.foldl_cons, List.mem_cons, forall_eq_or_imp]
    exact ⟨by omega, by omega, ih.2⟩
theorem foldl_max_le (f : Pt → Int) : ∀ (xs : List Pt) (a : Int), a ≤ xs.foldl (fun m x => max m (f x)) a ∧ ∀ p ∈ xs, f p ≤ xs.foldl (fun m x => max m (f x)) a
  | [], a => ⟨Int.le_refl _, by simp⟩
  | x :: xs, a => by
    have ih := foldl_max_le f xs (max a (f x))
    simp only [List.foldl_cons, List.mem_cons, forall_eq_or_imp]
    exact ⟨by omega, by omega, ih.2⟩
theorem foldl_min_at (f : Pt → Int) : ∀ (xs : List Pt) (a : Int), xs.foldl (fun m x => min m (f x)) a = a ∨ ∃ p ∈ xs, xs.foldl (fun m x => min m (f x)) a = f p
  | [], a => .inl rfl
  | x :: xs, a => by
    rw [List.foldl_cons]
    rcases foldl_min_at f xs (min a (f x)) with h | ⟨p, hp, h⟩
    · rw [h]
      by_cases k : a ≤ f x
      · exact .inl (by omega)
      · exact .inr ⟨x, by simp, by omega⟩
    · exact .inr ⟨p, by simp [hp], h⟩
theorem foldl_max_at (f : Pt → Int) : ∀ (xs : List Pt) (a : Int), xs.foldl (fun m x => max m (f x)) a = a ∨ ∃ p ∈ xs, xs.foldl (fun m x => max m (f x)) a = f p
  | [], a => .inl rfl
  | x :: xs, a => by
    rw [List.foldl_cons]
    rcases foldl_max_at f xs (max a (f x)) with h | ⟨p, hp, h⟩
    · rw [h]
      by_cases k : f x ≤ a
      · exact .inl (by omega)
      · exact .inr ⟨x, by simp, by omega⟩
    · exact .inr ⟨p, by simp [hp], h⟩
theorem minL_le {f : Pt → Int} {xs : List Pt} {p : Pt} (h : p ∈ xs) : minL f xs ≤ f p := (foldl_min_le f xs _).2 p h
theorem maxL_le {f : Pt → Int} {xs : List Pt} {p : Pt} (h : p ∈ xs) : f p ≤ maxL f xs := (foldl_max_le f xs _).2 p h
theorem minL_at (f : Pt → Int) {xs : List Pt} (h : xs ≠ []) : ∃ p ∈ xs, minL f xs = f p := by
  rcases foldl_min_at f xs (f (xs.getD 0 default)) with k | k
  · exact ⟨_, at_mem (List.length_pos_iff.2 h), k⟩
  · exact k
theorem maxL_at (f : Pt → Int) {xs : List Pt} (h : xs ≠ []) : ∃ p ∈ xs, maxL f xs = f p := by
  rcases foldl_max_at f xs (f (xs.getD 0 default)) with k | k
  · exact ⟨_, at_mem (List.length_pos_iff.2 h), k⟩
  · exact k
/-- the corners of an octagon with given bounds -/
def eight8 (lx hx ly hy le mo l r : Int) : List Pt :=
  [⟨lx, max (max ly (le - lx)) (lx - r)⟩, ⟨lx, min (min hy (mo - lx)) (lx - l)⟩, ⟨hx, max (max ly (le - hx)) (hx - r)⟩, ⟨hx, min (min hy (mo - hx)) (hx - l)⟩,
   ⟨max (max lx (le - ly)) (ly + l), ly⟩, ⟨min (min hx (mo - ly)) (ly + r), ly⟩, ⟨max (max lx (le - hy)) (hy + l), hy⟩, ⟨min (min hx (mo - hy)) (hy + r), hy⟩]
def eightPts (p : List Pt) : List Pt := eight8 (minL Pt.x p) (maxL Pt.x p) (minL Pt.y p) (maxL Pt.y p) (minL (fun q => q.x + q.y) p) (maxL (fun q => q.x + q.y) p) (minL (fun q => q.x - q.y) p) (maxL (fun q => q.x - q.y) p)
def eightS (p : List Pt) : List Pt := hullS (eightPts p)
/-- the bounds are those of a list -/
structure Bds (p : List Pt) (lx hx ly hy le mo l r : Int) : Prop where
  all : ∀ c ∈ p, lx ≤ c.x ∧ c.x ≤ hx ∧ ly ≤ c.y ∧ c.y ≤ hy ∧ le ≤ c.x + c.y ∧ c.x + c.y ≤ mo ∧ l ≤ c.x - c.y ∧ c.x - c.y ≤ r
  a1 : ∃ c ∈ p, c.x = lx
  a2 : ∃ c ∈ p, c.x = hx
  a3 : ∃ c ∈ p, c.y = ly
  a4 : ∃ c ∈ p, c.y = hy
  a5 : ∃ c ∈ p, c.x + c.y = le
  a6 : ∃ c ∈ p, c.x + c.y = mo
  a7 : ∃ c ∈ p, c.x - c.y = l
  a8 : ∃ c ∈ p, c.x - c.y = r
theorem bds_of {p : List Pt} (h : p ≠ []) : Bds p (minL Pt.x p) (maxL Pt.x p) (minL Pt.y p) (maxL Pt.y p) (minL (fun q => q.x + q.y) p) (maxL (fun q => q.x + q.y) p) (minL (fun q => q.x - q.y) p) (maxL (fun q => q.x - q.y) p) := by
  have s : ∀ {f : Pt → Int} {m : Int}, (∃ c ∈ p, m = f c) → ∃ c ∈ p, f c = m := fun ⟨c, hc, e⟩ => ⟨c, hc, e.symm⟩
  exact ⟨fun c hc => ⟨minL_le hc, maxL_le hc, minL_le hc, maxL_le hc, minL_le (f := fun q => q.x + q.y) hc, maxL_le (f := fun q => q.x + q.y) hc, minL_le (f := fun q => q.x - q.y) hc, maxL_le (f := fun q => q.x - q.y) hc⟩,
    s (minL_at _ h), s (maxL_at _ h), s (minL_at _ h), s (maxL_at _ h), s (minL_at _ h), s (maxL_at _ h), s (minL_at _ h), s (maxL_at _ h)⟩
theorem eight8_cov {p : List Pt} {lx hx ly hy le mo l r : Int} (h : Bds p lx hx ly hy le mo l r) {c : Pt} (hc : c ∈ p) : Cov (eight8 lx hx ly hy le mo l r) c.q := by
  intro A B C hC
  simp only [eight8, List.mem_cons, List.not_mem_nil, or_false, forall_eq_or_imp, forall_eq, hp] at hC
  obtain ⟨k1, k2, k3, k4, k5, k6, k7, k8⟩ := hC
  have hb := h.all c hc
  obtain ⟨c5, m5, e5⟩ := h.a5
  obtain ⟨c6, m6, e6⟩ := h.a6
  obtain ⟨c7, m7, e7⟩ := h.a7
  obtain ⟨c8, m8, e8⟩ := h.a8
  have b5 := h.all c5 m5
  have b6 := h.all c6 m6
  have b7 := h.all c7 m7
  have b8 := h.all c8 m8
  have f1 : max (max ly (le - lx)) (lx - r) = le - lx := by omega
  have f2 : min (min hy (mo - lx)) (lx - l) = lx - l := by omega
  have f3 : max (max ly (le - hx)) (hx - r) = hx - r := by omega
  have f4 : min (min hy (mo - hx)) (hx - l) = mo - hx := by omega
  have f5 : max (max lx (le - ly)) (ly + l) = le - ly := by omega
  have f6 : min (min hx (mo - ly)) (ly + r) = ly + r := by omega
  have f7 : max (max lx (le - hy)) (hy + l) = hy + l := by omega
  have f8 : min (min hx (mo - hy)) (hy + r) = mo - hy := by omega
  rw [f1] at k1; rw [f2] at k2; rw [f3] at k3; rw [f4] at k4; rw [f5] at k5; rw [f6] at k6; rw [f7] at k7; rw [f8] at k8
  clear f1 f2 f3 f4 f5 f6 f7 f8 b5 b6 b7 b8 e5 e6 e7 e8 m5 m6 m7 m8 h
  obtain ⟨x, y⟩ := c
  simp only [hq, Pt.q, Int.mul_one] at *
  obtain ⟨h1, h2, h3, h4, h5, h6, h7, h8⟩ := hb
  have fin : ∀ (a b u v : Int), 0 ≤ a → 0 ≤ b → 0 ≤ u → 0 ≤ v → 0 ≤ a * u + b * v := fun a b u v p q r s => by
    have := Int.mul_nonneg p r
    have := Int.mul_nonneg q s
    omega
  rcases Int.le_total 0 A with hA | hA <;> rcases Int.le_total 0 B with hB | hB
  · rcases Int.le_total B A with hAB | hAB
    · have := fin (A - B) B (hx - x) (mo - (x + y)) (by omega) (by omega) (by omega) (by omega)
      grind
    · have := fin (B - A) A (hy - y) (mo - (x + y)) (by omega) (by omega) (by omega) (by omega)
      grind
  · rcases Int.le_total (-B) A with hAB | hAB
    · have := fin (A + B) (-B) (hx - x) (r - (x - y)) (by omega) (by omega) (by omega) (by omega)
      grind
    · have := fin (-B - A) A (y - ly) (r - (x - y)) (by omega) (by omega) (by omega) (by omega)
      grind
  · rcases Int.le_total B (-A) with hAB | hAB
    · have := fin (-A - B) B (x - lx) (x - y - l) (by omega) (by omega) (by omega) (by omega)
      grind
    · have := fin (B + A) (-A) (hy - y) (x - y - l) (by omega) (by omega) (by omega) (by omega)
      grind
  · rcases Int.le_total (-B) (-A) with hAB | hAB
    · have := fin (-A + B) (-B) (x - lx) (x + y - le) (by omega) (by omega) (by omega) (by omega)
      grind
    · have := fin (-B + A) (-A) (y - ly) (x + y - le) (by omega) (by omega) (by omega) (by omega)
      grind
theorem eight8_box {p : List Pt} {lx hx ly hy le mo l r : Int} (h : Bds p lx hx ly hy le mo l r) {lo hi : Pt} (hb : ∀ c ∈ p, InBox lo hi c) : ∀ q ∈ eight8 lx hx ly hy le mo l r, InBox lo hi q := by
  obtain ⟨c1, m1, e1⟩ := h.a1
  obtain ⟨c2, m2, e2⟩ := h.a2
  obtain ⟨c3, m3, e3⟩ := h.a3
  obtain ⟨c4, m4, e4⟩ := h.a4
  have b1 := h.all c1 m1
  have b2 := h.all c2 m2
  have b3 := h.all c3 m3
  have b4 := h.all c4 m4
  have i1 := hb c1 m1
  have i2 := hb c2 m2
  have i3 := hb c3 m3
  have i4 := hb c4 m4
  simp only [InBox] at *
  intro q hq
  simp only [eight8, List.mem_cons, List.not_mem_nil, or_false] at hq
  rcases hq with rfl | rfl | rfl | rfl | rfl | rfl | rfl | rfl <;> (dsimp only; omega)
/-- r is a polygon about l: it has each point of l, and lies in each box that has these -/
structure Gd (l r : List Pt) : Prop where
  valid : validB r = true
  cov : ∀ p ∈ l, Cov r p.q
  box : ∀ lo hi, (∀ p ∈ l, InBox lo hi p) → ∀ p ∈ r, InBox lo hi p
theorem Gd.covers {l r : List Pt} (h : Gd l r) {z : Qp} (k : Cov l z) : Cov r z := k.trans h.cov
theorem Gd.trans {l r t : List Pt} (h : Gd l r) (k : Gd r t) : Gd l t := ⟨k.valid, fun p hp => k.covers (h.cov p hp), fun lo hi hb => k.box lo hi (h.box lo hi hb)⟩
theorem Gd.pl {l r : List Pt} (h : Gd l r) : ∀ p ∈ r, plB p = true := pl_of_valid h.valid
theorem Gd.ne {l r : List Pt} (h : Gd l r) : r ≠ [] := by
  have := (len_of_valid h.valid).1
  intro e; rw [e] at this; simp at this
theorem hull_gd {l : List Pt} (hne : l ≠ []) (hp : ∀ p ∈ l, plB p = true) (h64 : (hullS l).length ≤ 64) : Gd l (hullS l) :=
  have hv := hull_valid hne hp h64
  ⟨hv, fun p h => (insB_cov hv p).1 (hull_has hv h), fun lo hi hb p h => hb p (hullS_sub h)⟩
theorem eight_len (p : List Pt) : (eightPts p).length = 8 := rfl
theorem eightS_len (p : List Pt) : (eightS p).length ≤ 16 := by have := hullS_len (eightPts p); rw [eight_len] at this; exact this
theorem eight_gd {p : List Pt} (hne : p ≠ []) (hp : ∀ c ∈ p, plB c = true) : Gd p (eightS p) := by
  have hb := bds_of hne
  have hpl : ∀ q ∈ eightPts p, plB q = true := fun q hq => pl_box.2 (eight8_box hb (fun c hc => pl_box.1 (hp c hc)) q hq)
  have h8 : eightPts p ≠ [] := by intro e; have := eight_len p; rw [e] at this; simp at this
  have hg := hull_gd h8 hpl (by have := eightS_len p; unfold eightS at this; omega)
  exact ⟨hg.valid, fun c hc => hg.covers (eight8_cov hb hc), fun lo hi h => hg.box lo hi (eight8_box hb h)⟩
/-- the union of two -/
theorem Gd.union {l m r t : List Pt} (h : Gd l r) (k : Gd m t) {u : List Pt} (g : Gd (r ++ t) u) : Gd (l ++ m) u where
  valid := g.valid
  cov := fun p hp => by
    rcases List.mem_append.1 hp with hp | hp
    · exact g.covers ((h.cov p hp).mono fun q hq => List.mem_append_left _ hq)
    · exact g.covers ((k.cov p hp).mono fun q hq => List.mem_append_right _ hq)
  box := fun lo hi hb => g.box lo hi fun p hp => by
    rcases List.mem_append.1 hp with hp | hp
    · exact h.box lo hi (fun q hq => hb q (List.mem_append_left _ hq)) p hp
    · exact k.box lo hi (fun q hq => hb q (List.mem_append_right _ hq)) p hp
/-- the hull of places, or an octagon about them -/
def aroundF : Nat → List Pt → List Pt
  | 0, l => hullS l
  | k + 1, l => if l.length ≤ 4000 ∧ (hullS l).length ≤ 64 then hullS l else eightS (hullS (eightS (aroundF k (l.take (l.length / 2))) ++ eightS (aroundF k (l.drop (l.length / 2)))))
def aroundS (l : List Pt) : List Pt := aroundF l.length l
theorem around_gd : ∀ (k : Nat) (l : List Pt), l.length ≤ k → l ≠ [] → (∀ p ∈ l, plB p = true) → Gd l (aroundF k l)
  | 0, l, hk, hne, hp => absurd (List.eq_nil_of_length_eq_zero (by omega)) hne
  | k + 1, l, hk, hne, hp => by
    unfold aroundF
    split
    · rename_i h
      exact hull_gd hne hp h.2
    · rename_i h
      have hl := hullS_len l
      have h32 : 32 < l.length := by omega
      have ht := List.length_take_le (l.length / 2) l
      have hd := List.length_drop (i := l.length / 2) (l := l)
      have g1 := around_gd k (l.take (l.length / 2)) (by omega) (by intro e; have := congrArg List.length e; rw [List.length_take] at this; simp only [List.length_nil] at this; omega) fun p h => hp p (List.mem_of_mem_take h)
      have g2 := around_gd k (l.drop (l.length / 2)) (by omega) (by intro e; have := congrArg List.length e; rw [List.length_drop] at this; simp only [List.length_nil] at this; omega) fun p h => hp p (List.mem_of_mem_drop h)
      have e1 := g1.trans (eight_gd g1.ne g1.pl)
      have e2 := g2.trans (eight_gd g2.ne g2.pl)
      have l1 := eightS_len (aroundF k (l.take (l.length / 2)))
      have l2 := eightS_len (aroundF k (l.drop (l.length / 2)))
      have g3 : Gd _ (hullS (eightS (aroundF k (l.take (l.length / 2))) ++ eightS (aroundF k (l.drop (l.length / 2))))) := hull_gd (by simp [e1.ne]) (fun p hp => by
        rcases List.mem_append.1 hp with h | h
        · exact e1.pl p h
        · exact e2.pl p h) (by have := hullS_len (eightS (aroundF k (l.take (l.length / 2))) ++ eightS (aroundF k (l.drop (l.length / 2)))); rw [List.length_append] at this; omega)
      have g4 := e1.union e2 (g3.trans (eight_gd g3.ne g3.pl))
      rw [List.take_append_drop] at g4
      exact g4
/-- the octagon about places -/
def octF : Nat → List Pt → List Pt
  | 0, l => eightS (hullS l)
  | k + 1, l => if l.length ≤ 4000 ∧ (hullS l).length ≤ 64 then eightS (hullS l) else eightS (hullS (octF k (l.take (l.length / 2)) ++ octF k (l.drop (l.length / 2))))
def octS (l : List Pt) : List Pt := octF l.length l
theorem octF_len : ∀ (k : Nat) (l : List Pt), (octF k l).length ≤ 16
  | 0, l => eightS_len _
  | k + 1, l => by unfold octF; split <;> exact eightS_len _
theorem oct_gd : ∀ (k : Nat) (l : List Pt), l.length ≤ k → l ≠ [] → (∀ p ∈ l, plB p = true) → Gd l (octF k l)
  | 0, l, hk, hne, hp => absurd (List.eq_nil_of_length_eq_zero (by omega)) hne
  | k + 1, l, hk, hne, hp => by
    unfold octF
    split
    · rename_i h
      have g := hull_gd hne hp h.2
      exact g.trans (eight_gd g.ne g.pl)
    · rename_i h
      have hl := hullS_len l
      have h32 : 32 < l.length := by omega
      have ht := List.length_take_le (l.length / 2) l
      have hd := List.length_drop (i := l.length / 2) (l := l)
      have e1 := oct_gd k (l.take (l.length / 2)) (by omega) (by intro e; have := congrArg List.length e; rw [List.length_take] at this; simp only [List.length_nil] at this; omega) fun p h => hp p (List.mem_of_mem_take h)
      have e2 := oct_gd k (l.drop (l.length / 2)) (by omega) (by intro e; have := congrArg List.length e; rw [List.length_drop] at this; simp only [List.length_nil] at this; omega) fun p h => hp p (List.mem_of_mem_drop h)
      have l1 := octF_len k (l.take (l.length / 2))
      have l2 := octF_len k (l.drop (l.length / 2))
      have g3 : Gd _ (hullS (octF k (l.take (l.length / 2)) ++ octF k (l.drop (l.length / 2)))) := hull_gd (by simp [e1.ne]) (fun p hp => by
        rcases List.mem_append.1 hp with h | h
        · exact e1.pl p h
        · exact e2.pl p h) (by have := hullS_len (octF k (l.take (l.length / 2)) ++ octF k (l.drop (l.length / 2))); rw [List.length_append] at this; omega)
      have g4 := e1.union e2 (g3.trans (eight_gd g3.ne g3.pl))
      rw [List.take_append_drop] at g4
      exact g4
end Go.Proofs.YtnhdnkeiijiiaaaGreat
namespace Go.Proofs.YtnhdnkeiijiiaaaGreat
set_option linter.unusedSimpArgs false
set_option linter.unusedVariables false
/-- a b-th part of z and a c-th of a corner -/
def mixQ (α : Int) (z : Qp) (β : Int) (e : Pt) : Qp := ⟨α * z.X + β * e.x, α * z.Y + β * e.y, α * z.W + β⟩
theorem mix_hq (A B α β : Int) (z : Qp) (e : Pt) : hq A B (mixQ α z β e) = α * hq A B z + β * hp A B e := by simp only [hq, hp, mixQ]; grind
theorem mix_turn (a b : Pt) (α β : Int) (z : Qp) (e : Pt) : turnQ a b (mixQ α z β e) = α * turnQ a b z + β * turnS a b e := by simp only [turnQ, turnS, mixQ]; grind
theorem mix_cov {xs : List Pt} {α β : Int} {z : Qp} {e : Pt} (ha : 0 ≤ α) (hb : 0 ≤ β) (h : Cov xs z) (k : Cov xs e.q) : Cov xs (mixQ α z β e) := by
  intro A B C hC
  have h1 := h A B C hC
  have h2 := k A B C hC
  rw [hq_q] at h2
  simp only [Pt.q, Int.mul_one] at h2
  rw [mix_hq]
  have m1 := Int.mul_nonneg ha (show 0 ≤ C * z.W - hq A B z by omega)
  have m2 := Int.mul_nonneg hb (show 0 ≤ C - hp A B e by omega)
  simp only [mixQ]
  grind
/-- both are the same point -/
def Is (z : Qp) (p : Pt) : Prop := z.X = p.x * z.W ∧ z.Y = p.y * z.W
theorem is_hq {z : Qp} {p : Pt} (h : Is z p) (A B : Int) : hq A B z = hp A B p * z.W := by simp only [hq, hp, h.1, h.2]; grind
theorem is_cov {xs : List Pt} {z : Qp} {p : Pt} (hz : 0 < z.W) (h : Is z p) : Cov xs z ↔ Cov xs p.q := by
  constructor
  · intro k A B C hC
    have := k A B C hC
    rw [is_hq h] at this
    rw [hq_q]
    have := Int.le_of_mul_le_mul_right this hz
    simp only [Pt.q, Int.mul_one]; exact this
  · intro k A B C hC
    have := k A B C hC
    rw [hq_q] at this
    simp only [Pt.q, Int.mul_one] at this
    rw [is_hq h]
    exact mul_le_of this hz
theorem not_cov {xs : List Pt} {z : Qp} (h : ¬ Cov xs z) : ∃ A B C : Int, (∀ p ∈ xs, hp A B p ≤ C) ∧ C * z.W < hq A B z := by
  apply Classical.byContradiction
  intro hn
  apply h
  intro A B C hC
  rcases Int.lt_or_le (C * z.W) (hq A B z) with k | k
  · exact absurd ⟨A, B, C, hC, k⟩ hn
  · exact k
theorem pair_turn {c d : Pt} {z : Qp} (h : Cov [c, d] z) : turnQ c d z = 0 := by
  have t1 := cov_turn h c d (by simp [turn_aba, turn_abb])
  have t2 := cov_turn h d c (by simp [turn_aba, turn_abb])
  have t3 : turnQ d c z = -turnQ c d z := by simp only [turnQ]; grind
  omega
/-- what is on a segment, out of its ends -/
theorem seg_comb {c d : Pt} {z : Qp} (hz : 0 < z.W) (hne : c ≠ d) (h : Cov [c, d] z) : ∃ u v N : Int, 0 ≤ u ∧ 0 ≤ v ∧ 0 < N ∧ N * z.W = u + v ∧ N * z.X = u * c.x + v * d.x ∧ N * z.Y = u * c.y + v * d.y := by
  have h0 := pair_turn h
  have hN : 0 < (d.x - c.x) * (d.x - c.x) + (d.y - c.y) * (d.y - c.y) := by
    have s1 : ∀ a : Int, 0 ≤ a * a := fun a => by
      rcases Int.le_total 0 a with h | h
      · exact Int.mul_nonneg h h
      · have := Int.mul_nonneg (show 0 ≤ -a by omega) (show 0 ≤ -a by omega); rw [Int.neg_mul_neg] at this; exact this
    have s2 : ∀ a : Int, a ≠ 0 → 0 < a * a := fun a h => by
      rcases Int.lt_or_lt_of_ne h with h | h
      · have := Int.mul_pos (show 0 < -a by omega) (show 0 < -a by omega); rw [Int.neg_mul_neg] at this; exact this
      · exact Int.mul_pos h h
    by_cases hx : d.x - c.x = 0
    · have hy : d.y - c.y ≠ 0 := by
        intro hy; apply hne
        obtain ⟨cx, cy⟩ := c
        obtain ⟨dx, dy⟩ := d
        simp only [Pt.mk.injEq] at *; omega
      have := s2 _ hy
      have := s1 (d.x - c.x)
      omega
    · have := s2 _ hx
      have := s1 (d.y - c.y)
      omega
  have hd := h (d.x - c.x) (d.y - c.y) ((d.x - c.x) * d.x + (d.y - c.y) * d.y) (by
    intro p hp'
    simp only [List.mem_cons, List.not_mem_nil, or_false] at hp'
    rcases hp' with rfl | rfl
    · simp only [hp]; grind
    · simp only [hp]; omega)
  have hc := h (c.x - d.x) (c.y - d.y) ((c.x - d.x) * c.x + (c.y - d.y) * c.y) (by
    intro p hp'
    simp only [List.mem_cons, List.not_mem_nil, or_false] at hp'
    rcases hp' with rfl | rfl
    · simp only [hp]; omega
    · simp only [hp]; grind)
  refine ⟨((d.x - c.x) * d.x + (d.y - c.y) * d.y) * z.W - hq (d.x - c.x) (d.y - c.y) z, ((c.x - d.x) * c.x + (c.y - d.y) * c.y) * z.W - hq (c.x - d.x) (c.y - d.y) z, _, by omega, by omega, hN, ?_, ?_, ?_⟩
  · simp only [hq]; grind
  · simp only [hq, turnQ] at *; grind
  · simp only [hq, turnQ] at *; grind
theorem min_ratio {α : Type} (f F : α → Int) : ∀ xs : List α, (∃ c ∈ xs, 0 < F c) → ∃ a ∈ xs, 0 < F a ∧ ∀ c ∈ xs, 0 < F c → f a * F c ≤ f c * F a
  | [], k => by obtain ⟨c, hc, _⟩ := k; simp at hc
  | x :: l, k => by
    by_cases k' : ∃ c ∈ l, 0 < F c
    · obtain ⟨a, ha, ha0, hm⟩ := min_ratio f F l k'
      by_cases hx : 0 < F x ∧ f x * F a < f a * F x
      · refine ⟨x, by simp, hx.1, fun c hc hc0 => ?_⟩
        rcases List.mem_cons.1 hc with rfl | hc
        · exact Int.le_refl _
        · have h1 := hm c hc hc0
          have m1 := Int.mul_le_mul_of_nonneg_right h1 (Int.le_of_lt hx.1)
          have m2 := Int.mul_le_mul_of_nonneg_right (Int.le_of_lt hx.2) (Int.le_of_lt hc0)
          have : (f x * F c) * F a ≤ (f c * F x) * F a := by
            have e1 : f x * F a * F c = (f x * F c) * F a := by grind
            have e2 : f a * F x * F c = f a * F c * F x := by grind
            have e3 : f c * F a * F x = (f c * F x) * F a := by grind
            omega
          exact Int.le_of_mul_le_mul_right this ha0
      · refine ⟨a, by simp [ha], ha0, fun c hc hc0 => ?_⟩
        rcases List.mem_cons.1 hc with rfl | hc
        · omega
        · exact hm c hc hc0
    · obtain ⟨c, hc, hc0⟩ := k
      rcases List.mem_cons.1 hc with rfl | hc
      · refine ⟨c, by simp, hc0, fun d hd hd0 => ?_⟩
        rcases List.mem_cons.1 hd with rfl | hd
        · exact Int.le_refl _
        · exact absurd ⟨d, hd, hd0⟩ k'
      · exact absurd ⟨c, hc, hc0⟩ k'
/-- what is in a polygon and on the line of a side is on the side -/
theorem on_side {p : List Pt} (hv : validB p = true) (h3 : 3 ≤ p.length) {g h : Pt} (hs : (g, h) ∈ sidesL p) {x : Qp} (hx : 0 < x.W) (hc : Cov p x) (h0 : turnQ g h x = 0) : Cov [g, h] x := by
  intro A B C hC
  have hCg := hC g (by simp)
  have hCh := hC h (by simp)
  have hi : insQ p x := (ins_cov hv hx).2 hc
  unfold insQ at hi
  rw [if_neg (by omega)] at hi
  have hm := sides_mem hs
  have hgh := side_ne hv (by omega) hs
  obtain ⟨u, w, s1, s2, hu, hw, hT⟩ := nbrs hv h3 hm.1
  obtain ⟨u', n, s3, s4, hu', hn, hT'⟩ := nbrs hv h3 hm.2
  dsimp only at *
  -- u -> g, g -> h, h -> n
  have q1 := hi _ s1
  have q2 := hi _ s4
  dsimp only at q1 q2
  have T1 : 0 < turnS u g h := by
    rcases side_pos hv h3 s1 hm.2 with e | e | e
    · exfalso
      subst e
      -- side (h, g) and (g, h): the turn of (h, g, w) is positive, but g -> h puts it on the left
      rcases side_pos hv h3 hs hw with e | e | e
      · subst e; rw [turn_abb] at hT; omega
      · subst e; rw [turn_aba] at hT; omega
      · rw [turn_swap] at e; omega
    · exact absurd e (Ne.symm hgh)
    · exact e
  have T2 : 0 < turnS g h n := by
    rcases side_pos hv h3 hs hn with e | e | e
    · exfalso
      subst e
      rcases side_pos hv h3 hs hu' with e | e | e
      · subst e; rw [turn_aba] at hT'; omega
      · subst e; rw [turn_aa] at hT'; omega
      · have : turnS u' h n = -turnS n h u' := by simp only [turnS]; grind
        omega
    · exfalso
      exact side_ne hv (by omega) s4 e.symm
    · exact e
  have e1 : turnS u g h * turnQ n g x = turnS g h n * turnQ u g x := by simp only [turnS, turnQ] at *; grind
  have k1 : 0 ≤ turnQ n g x := Int.nonneg_of_mul_nonneg_right (by rw [e1]; exact Int.mul_nonneg (by omega) q1) T1
  have b1 := bary1 g h n x
  have b2 := bary2 A B g h n x
  rw [h0] at b1 b2
  have m1 := Int.mul_nonneg q2 (show 0 ≤ C - hp A B g by omega)
  have m2 := Int.mul_nonneg k1 (show 0 ≤ C - hp A B h by omega)
  have : 0 ≤ turnS g h n * (C * x.W - hq A B x) := by
    have : turnS g h n * (C * x.W - hq A B x) = turnQ h n x * (C - hp A B g) + turnQ n g x * (C - hp A B h) := by
      have : turnS g h n * (C * x.W) = C * (turnQ h n x + turnQ n g x) := by rw [show turnQ h n x + turnQ n g x = turnS g h n * x.W by omega]; grind
      grind
    omega
  have := Int.nonneg_of_mul_nonneg_right this T2
  omega
/-- on the way from z, which a polygon has, to a corner that it does not have, its edge is passed -/
theorem exit_side {p : List Pt} (hv : validB p = true) (h2 : 2 ≤ p.length) {z : Qp} (hz : 0 < z.W) (hc : Cov p z) {e : Pt} (he : ¬ Cov p e.q) :
    ∃ α β : Int, 0 < α ∧ 0 ≤ β ∧ Cov p (mixQ α z β e) ∧ ∃ g h, (g, h) ∈ sidesL p ∧ Cov [g, h] (mixQ α z β e) ∧ (Is (mixQ α z β e) g ∨ Is (mixQ α z β e) h ∨ turnS g h e ≠ 0) := by
  by_cases h3 : 3 ≤ p.length
  · have hi : insQ p z := (ins_cov hv hz).2 hc
    unfold insQ at hi
    rw [if_neg (by omega)] at hi
    have hne : ¬ insQ p e.q := fun h => he ((ins_cov hv (by simp [Pt.q])).1 h)
    unfold insQ at hne
    rw [if_neg (by omega)] at hne
    have hex : ∃ s ∈ sidesL p, 0 < -turnS s.1 s.2 e := by
      apply Decidable.byContradiction
      intro hn
      apply hne
      intro s hs
      rw [turnQ_q]
      rcases Int.lt_or_le 0 (-turnS s.1 s.2 e) with k | k
      · exact absurd ⟨s, hs, k⟩ hn
      · omega
    obtain ⟨⟨g, h⟩, hs, hF, hm⟩ := min_ratio (fun s : Pt × Pt => turnQ s.1 s.2 z) (fun s => -turnS s.1 s.2 e) (sidesL p) hex
    dsimp only at hF hm
    have h0 := hi _ hs
    dsimp only at h0
    have hW : 0 < -turnS g h e * z.W + turnQ g h z := by have := Int.mul_pos hF hz; omega
    have hcov : Cov p (mixQ (-turnS g h e) z (turnQ g h z) e) := by
      refine (ins_cov hv (by simp only [mixQ]; exact hW)).1 ?_
      unfold insQ
      rw [if_neg (by omega)]
      intro s hs'
      rw [mix_turn]
      have f0 := hi s hs'
      rcases Int.lt_or_le 0 (-turnS s.1 s.2 e) with k | k
      · have := hm s hs' k
        have e1 : -turnS g h e * turnQ s.1 s.2 z + turnQ g h z * turnS s.1 s.2 e = turnQ s.1 s.2 z * -turnS g h e - turnQ g h z * -turnS s.1 s.2 e := by grind
        omega
      · have m1 := Int.mul_nonneg (Int.le_of_lt hF) f0
        have m2 := Int.mul_nonneg h0 (show 0 ≤ turnS s.1 s.2 e by omega)
        omega
    have ht : turnQ g h (mixQ (-turnS g h e) z (turnQ g h z) e) = 0 := by rw [mix_turn]; grind
    exact ⟨_, _, hF, h0, hcov, g, h, hs, on_side hv h3 hs (by simp only [mixQ]; exact hW) hcov ht, .inr (.inr (by omega))⟩
  · match p, h2, h3 with
    | [p0, p1], _, _ =>
      have s1 : (p0, p1) ∈ sidesL [p0, p1] := by simp [sidesL, List.range, List.range.loop]
      have hne : p0 ≠ p1 := side_ne hv (by simp) s1
      have t0 := pair_turn hc
      have e0 : mixQ 1 z 0 e = z := by simp [mixQ]
      by_cases ht : turnS p0 p1 e ≠ 0
      · exact ⟨1, 0, by omega, by omega, by rw [e0]; exact hc, p0, p1, s1, by rw [e0]; exact hc, .inr (.inr ht)⟩
      · have ht : turnS p0 p1 e = 0 := by omega
        obtain ⟨A, B, C, hC, hlt⟩ := not_cov he
        rw [hq_q] at hlt
        simp only [Pt.q, Int.mul_one] at hlt
        have h0' := hC p0 (by simp)
        have h1' := hC p1 (by simp)
        -- the end that reaches farther
        obtain ⟨k, hk, hk0, hk1⟩ : ∃ k, (k = p0 ∨ k = p1) ∧ hp A B p0 ≤ hp A B k ∧ hp A B p1 ≤ hp A B k := by
          rcases Int.le_total (hp A B p0) (hp A B p1) with h | h
          · exact ⟨p1, .inr rfl, h, Int.le_refl _⟩
          · exact ⟨p0, .inl rfl, Int.le_refl _, h⟩
        have hkC : hp A B k ≤ C := by rcases hk with rfl | rfl <;> assumption
        have hkt : turnS p0 p1 k = 0 := by rcases hk with rfl | rfl; exact turn_aba _ _; exact turn_abb _ _
        have hzk := hc A B (hp A B k) (by
          intro r hr
          simp only [List.mem_cons, List.not_mem_nil, or_false] at hr
          rcases hr with rfl | rfl <;> assumption)
        have hα : 0 < hp A B e - hp A B k := by omega
        have hβ : 0 ≤ hp A B k * z.W - hq A B z := by omega
        have hW : 0 < (mixQ (hp A B e - hp A B k) z (hp A B k * z.W - hq A B z) e).W := by
          simp only [mixQ]; have := Int.mul_pos hα hz; omega
        have hM : hq A B (mixQ (hp A B e - hp A B k) z (hp A B k * z.W - hq A B z) e) = hp A B k * (mixQ (hp A B e - hp A B k) z (hp A B k * z.W - hq A B z) e).W := by
          rw [mix_hq]; simp only [mixQ]; grind
        have hT : turnQ p0 p1 (mixQ (hp A B e - hp A B k) z (hp A B k * z.W - hq A B z) e) = 0 := by rw [mix_turn, t0, ht]; simp
        have hmD : A * (p1.x - p0.x) + B * (p1.y - p0.y) ≠ 0 := by
          intro h0
          -- (e - k) x D = 0
          have c0 : (p1.x - p0.x) * (e.y - k.y) - (p1.y - p0.y) * (e.x - k.x) = 0 := by simp only [turnS] at ht hkt; grind
          have x1 : (p1.x - p0.x) * (hp A B e - hp A B k) = 0 := by simp only [hp]; grind
          have x2 : (p1.y - p0.y) * (hp A B e - hp A B k) = 0 := by simp only [hp]; grind
          have y1 : p1.x - p0.x = 0 := by rcases Int.mul_eq_zero.1 x1 with h | h; exact h; omega
          have y2 : p1.y - p0.y = 0 := by rcases Int.mul_eq_zero.1 x2 with h | h; exact h; omega
          apply hne
          obtain ⟨ax, ay⟩ := p0
          obtain ⟨bx, bY⟩ := p1
          simp only [Pt.mk.injEq] at *; omega
        obtain ⟨x, hx⟩ : ∃ x, x = mixQ (hp A B e - hp A B k) z (hp A B k * z.W - hq A B z) e := ⟨_, rfl⟩
        rw [← hx] at hM hT hW
        have hIs : Is x k := by
          simp only [turnQ, turnS, hq, hp] at hT hM hkt
          have x1 : (A * (p1.x - p0.x) + B * (p1.y - p0.y)) * (x.X - k.x * x.W) = 0 := by grind
          have x2 : (A * (p1.x - p0.x) + B * (p1.y - p0.y)) * (x.Y - k.y * x.W) = 0 := by grind
          constructor
          · rcases Int.mul_eq_zero.1 x1 with h | h
            · exact absurd h hmD
            · omega
          · rcases Int.mul_eq_zero.1 x2 with h | h
            · exact absurd h hmD
            · omega
        have hcx : Cov [p0, p1] x := (is_cov hW hIs).2 (Cov.of_mem (by rcases hk with rfl | rfl <;> simp))
        refine ⟨_, _, hα, hβ, by rw [← hx]; exact hcx, p0, p1, s1, by rw [← hx]; exact hcx, ?_⟩
        rw [← hx]
        rcases hk with rfl | rfl
        · exact .inl hIs
        · exact .inr (.inl hIs)
    | _ :: _ :: _ :: _, _, h => simp at h

def cornersS (p q : List Pt) : List Pt := p.filter (insB q)
/-- the frame at which two sides cross -/
def crossS (s r : Pt × Pt) : List Pt :=
  if crossesB (turnS s.1 s.2 r.1) (turnS s.1 s.2 r.2) && crossesB (turnS r.1 r.2 s.1) (turnS r.1 r.2 s.2) then frameS r.1 r.2 (turnS s.1 s.2 r.1) (turnS s.1 s.2 r.2) else []
def crossingsS (p q : List Pt) : List Pt := (sidesL p).flatMap fun s => (sidesL q).flatMap fun r => crossS s r
def sharedS (p q : List Pt) : List Pt := cornersS p q ++ cornersS q p ++ crossingsS p q
theorem shared_left {p q : List Pt} (hq : validB q = true) {c : Pt} (hc : c ∈ p) (h : Cov q c.q) : c ∈ sharedS p q :=
  List.mem_append_left _ (List.mem_append_left _ (List.mem_filter.2 ⟨hc, (insB_cov hq c).2 h⟩))
theorem shared_right {p q : List Pt} (hp : validB p = true) {c : Pt} (hc : c ∈ q) (h : Cov p c.q) : c ∈ sharedS p q :=
  List.mem_append_left _ (List.mem_append_right _ (List.mem_filter.2 ⟨hc, (insB_cov hp c).2 h⟩))
theorem one_is {a : Pt} {z : Qp} (h : Cov [a] z) : Is z a := by
  have := cov_box h a.x a.x a.y a.y (by simp)
  exact ⟨by omega, by omega⟩
theorem hq_pos_mix {A B C α β : Int} {z : Qp} {e : Pt} (ha : 0 < α) (hb : 0 ≤ β) (h : C * z.W < hq A B z) (k : C ≤ hp A B e) : C * (mixQ α z β e).W < hq A B (mixQ α z β e) := by
  rw [mix_hq]
  have m1 := Int.mul_pos ha (show 0 < hq A B z - C * z.W by omega)
  have m2 := Int.mul_nonneg hb (show 0 ≤ hp A B e - C by omega)
  simp only [mixQ]
  grind
theorem mix_W {α β : Int} {z : Qp} {e : Pt} (ha : 0 < α) (hb : 0 ≤ β) (hz : 0 < z.W) : 0 < (mixQ α z β e).W := by
  have := Int.mul_pos ha hz
  simp only [mixQ]; omega
theorem seg_turn (g h c d : Pt) (x : Qp) (u v N : Int) (n1 : N * x.W = u + v) (n2 : N * x.X = u * c.x + v * d.x) (n3 : N * x.Y = u * c.y + v * d.y) : N * turnQ g h x = u * turnS g h c + v * turnS g h d := by
  simp only [turnQ, turnS]; grind
theorem seg_hq (A B C : Int) (c d : Pt) (x : Qp) (u v N : Int) (n1 : N * x.W = u + v) (n2 : N * x.X = u * c.x + v * d.x) (n3 : N * x.Y = u * c.y + v * d.y) : N * (hq A B x - C * x.W) = u * (hp A B c - C) + v * (hp A B d - C) := by
  simp only [hq, hp]; grind
theorem seg_zero (u v N : Int) (c d : Pt) (x : Qp) (hN : 0 < N) (n1 : N * x.W = u + v) (n2 : N * x.X = u * c.x + v * d.x) (n3 : N * x.Y = u * c.y + v * d.y) (h0 : u = 0) : Is x d := by
  subst h0
  simp only [Int.zero_mul, Int.zero_add] at n1 n2 n3
  constructor
  · apply Int.eq_of_mul_eq_mul_left (show N ≠ 0 by omega)
    grind
  · apply Int.eq_of_mul_eq_mul_left (show N ≠ 0 by omega)
    grind
theorem ratio_id1 {u v s t a b : Int} (w : u * s + v * t = 0) : t * (u * a + v * b) = u * (t * a - s * b) := by grind
theorem ratio_id2 {u v s t a b : Int} (w : u * s + v * t = 0) : s * (u * a + v * b) = v * (s * b - t * a) := by grind
theorem line_zero {g h c d : Pt} (z1 : turnS c d g = 0) (z2 : turnS c d h = 0) : turnS g h c * (d.x - c.x) = 0 ∧ turnS g h c * (d.y - c.y) = 0 := by
  simp only [turnS] at *
  constructor <;> grind
/-- what two polygons have in common is reached with their corners and crossings -/
theorem meet_cov {p q : List Pt} (hvp : validB p = true) (hvq : validB q = true) {z : Qp} (hz : 0 < z.W) (hcp : Cov p z) (hcq : Cov q z) : Cov (sharedS p q) z := by
  intro A B C hC
  apply Int.not_lt.1
  intro hlt
  have lp := len_of_valid hvp
  have lq := len_of_valid hvq
  -- a corner of one that the other one has is not beyond
  have kl : ∀ c ∈ p, Cov q c.q → hp A B c ≤ C := fun c hc h => hC c (shared_left hvq hc h)
  have kr : ∀ c ∈ q, Cov p c.q → hp A B c ≤ C := fun c hc h => hC c (shared_right hvp hc h)
  have isl : ∀ (x : Qp) (c : Pt), 0 < x.W → Is x c → C * x.W < hq A B x → hp A B c ≤ C → False := fun x c hx h1 h2 h3 => by
    rw [is_hq h1] at h2
    have := mul_le_of h3 hx
    omega
  by_cases p1 : p.length = 1
  · obtain ⟨a, rfl⟩ := List.length_eq_one_iff.1 p1
    have h := one_is hcp
    exact isl z a hz h hlt (kl a (by simp) ((is_cov hz h).1 hcq))
  by_cases q1 : q.length = 1
  · obtain ⟨a, rfl⟩ := List.length_eq_one_iff.1 q1
    have h := one_is hcq
    exact isl z a hz h hlt (kr a (by simp) ((is_cov hz h).1 hcp))
  obtain ⟨a, ha, hmax⟩ := exists_max (hp A B) p (by intro e; rw [e] at lp; simp at lp)
  have hLa : C < hp A B a := by
    have := hcp A B (hp A B a) hmax
    exact Int.lt_of_mul_lt_mul_right (show C * z.W < hp A B a * z.W by omega) (by omega)
  have hna : ¬ Cov q a.q := fun h => by have := kl a ha h; omega
  obtain ⟨α, β, hα, hβ, hq1, c, d, hs, hcd, -⟩ := exit_side hvq (by omega) hz hcq hna
  have hp1 : Cov p (mixQ α z β a) := mix_cov (by omega) hβ hcp (Cov.of_mem ha)
  have hl1 := hq_pos_mix hα hβ hlt (Int.le_of_lt hLa)
  have hW1 := mix_W (e := a) hα hβ hz
  generalize mixQ α z β a = x1 at *
  have hm := sides_mem hs
  have hcdne := side_ne hvq (by omega) hs
  dsimp only at hm
  -- the end of this side that reaches farther
  obtain ⟨e, he, he1, he2⟩ : ∃ e, (e = c ∨ e = d) ∧ hp A B c ≤ hp A B e ∧ hp A B d ≤ hp A B e := by
    rcases Int.le_total (hp A B c) (hp A B d) with h | h
    · exact ⟨d, .inr rfl, h, Int.le_refl _⟩
    · exact ⟨c, .inl rfl, Int.le_refl _, h⟩
  have heq : e ∈ q := by rcases he with rfl | rfl; exact hm.1; exact hm.2
  have hLe : C < hp A B e := by
    have := hcd A B (hp A B e) (by
      intro r hr
      simp only [List.mem_cons, List.not_mem_nil, or_false] at hr
      rcases hr with rfl | rfl <;> assumption)
    exact Int.lt_of_mul_lt_mul_right (show C * x1.W < hp A B e * x1.W by omega) (by omega)
  have hnp : ¬ Cov p e.q := fun h => by have := kr e heq h; omega
  obtain ⟨α', β', hα', hβ', hp2, g, h, hs', hgh, hor⟩ := exit_side hvp (by omega) hW1 hp1 hnp
  have hq2 : Cov q (mixQ α' x1 β' e) := mix_cov (by omega) hβ' hq1 (Cov.of_mem heq)
  have hcd2 : Cov [c, d] (mixQ α' x1 β' e) := mix_cov (by omega) hβ' hcd (Cov.of_mem (by rcases he with rfl | rfl <;> simp))
  have hl2 := hq_pos_mix hα' hβ' hl1 (Int.le_of_lt hLe)
  have hW2 := mix_W (e := e) hα' hβ' hW1
  generalize mixQ α' x1 β' e = x at *
  have hm' := sides_mem hs'
  have hghne := side_ne hvp (by omega) hs'
  dsimp only at hm'
  have ng : ¬ Is x g := fun k => isl x g hW2 k hl2 (kl g hm'.1 ((is_cov hW2 k).1 hq2))
  have nh : ¬ Is x h := fun k => isl x h hW2 k hl2 (kl h hm'.2 ((is_cov hW2 k).1 hq2))
  have nc : ¬ Is x c := fun k => isl x c hW2 k hl2 (kr c hm.1 ((is_cov hW2 k).1 hp2))
  have nd : ¬ Is x d := fun k => isl x d hW2 k hl2 (kr d hm.2 ((is_cov hW2 k).1 hp2))
  have hte : turnS g h e ≠ 0 := by
    rcases hor with k | k | k
    · exact absurd k ng
    · exact absurd k nh
    · exact k
  obtain ⟨u, v, N, hu, hv, hN, n1, n2, n3⟩ := seg_comb hW2 hcdne hcd2
  obtain ⟨u', v', N', hu', hv', hN', n1', n2', n3'⟩ := seg_comb hW2 hghne hgh
  have hu0 : 0 < u := by
    rcases Int.lt_or_eq_of_le hu with k | k
    · exact k
    · exact absurd (seg_zero u v N c d x hN n1 n2 n3 k.symm) nd
  have hv0 : 0 < v := by
    rcases Int.lt_or_eq_of_le hv with k | k
    · exact k
    · exact absurd (seg_zero v u N d c x hN (by omega) (by omega) (by omega) k.symm) nc
  have hu0' : 0 < u' := by
    rcases Int.lt_or_eq_of_le hu' with k | k
    · exact k
    · exact absurd (seg_zero u' v' N' g h x hN' n1' n2' n3' k.symm) nh
  have hv0' : 0 < v' := by
    rcases Int.lt_or_eq_of_le hv' with k | k
    · exact k
    · exact absurd (seg_zero v' u' N' h g x hN' (by omega) (by omega) (by omega) k.symm) ng
  have t1 := pair_turn hgh
  have t2 := pair_turn hcd2
  have w1 : u * turnS g h c + v * turnS g h d = 0 := by
    have := seg_turn g h c d x u v N n1 n2 n3
    rw [t1] at this; omega
  have w2 : u' * turnS c d g + v' * turnS c d h = 0 := by
    have := seg_turn c d g h x u' v' N' n1' n2' n3'
    rw [t2] at this; omega
  have opp : ∀ (u v s t : Int), 0 < u → 0 < v → u * s + v * t = 0 → s ≠ 0 ∨ t ≠ 0 → s < 0 ∧ 0 < t ∨ 0 < s ∧ t < 0 := by
    intro u v s t hu hv h0 hne
    rcases Int.lt_trichotomy s 0 with k | k | k
    · have m := Int.mul_pos hu (show 0 < -s by omega)
      rw [Int.mul_neg] at m
      exact .inl ⟨k, Int.pos_of_mul_pos_right (show 0 < v * t by omega) hv⟩
    · subst k
      simp only [Int.mul_zero, Int.zero_add] at h0
      rcases Int.mul_eq_zero.1 h0 with h | h <;> omega
    · have m := Int.mul_pos hu k
      have : 0 < v * -t := by rw [Int.mul_neg]; omega
      have := Int.pos_of_mul_pos_right this hv
      exact .inr ⟨k, by omega⟩
  have o1 := opp u v _ _ hu0 hv0 w1 (by rcases he with rfl | rfl; exact .inl hte; exact .inr hte)
  have o2 := opp u' v' _ _ hu0' hv0' w2 (by
    apply Classical.byContradiction
    intro hn
    have z1 : turnS c d g = 0 := Classical.byContradiction fun k => hn (.inl k)
    have z2 : turnS c d h = 0 := Classical.byContradiction fun k => hn (.inr k)
    have y1 := (line_zero (h := h) z1 z2).1
    have y2 := (line_zero (h := h) z1 z2).2
    have hgc : turnS g h c ≠ 0 := by omega
    rcases Int.mul_eq_zero.1 y1 with k | k
    · exact hgc k
    rcases Int.mul_eq_zero.1 y2 with k' | k'
    · exact hgc k'
    apply hcdne
    obtain ⟨cx, cy⟩ := c
    obtain ⟨dx, dy⟩ := d
    simp only [Pt.mk.injEq] at *; omega)
  have hx1 := crosses_iff.2 o1
  have hx2 := crosses_iff.2 o2
  have hfr := frame_cov (a := c) (b := d) hx1 A B C fun r hr => hC r (List.mem_append_right _ (List.mem_flatMap.2 ⟨_, hs', List.mem_flatMap.2 ⟨_, hs, by unfold crossS; dsimp only; rw [hx1, hx2]; exact hr⟩⟩))
  have hdv := div_hq A B C c d _ _ hfr
  have hL : 0 < u * (hp A B c - C) + v * (hp A B d - C) := by
    have e1 := seg_hq A B C c d x u v N n1 n2 n3
    have := Int.mul_pos hN (show 0 < hq A B x - C * x.W by omega)
    omega
  generalize turnS g h c = s at *
  generalize turnS g h d = t at *
  generalize hp A B c - C = Lc at *
  generalize hp A B d - C = Ld at *
  rcases o1 with ⟨k1, k2⟩ | ⟨k1, k2⟩
  · have h9 := hdv.2 (by omega)
    -- t * (u Lc + v Ld) = u (t Lc - s Ld)
    have m1 := Int.mul_pos k2 hL
    have m2 := Int.mul_nonneg hu (show 0 ≤ -(t * Lc - s * Ld) by omega)
    have : t * (u * Lc + v * Ld) = u * (t * Lc - s * Ld) := ratio_id1 w1
    rw [Int.mul_neg] at m2
    omega
  · have h9 := hdv.1 (by omega)
    have m1 := Int.mul_pos k1 hL
    have m2 := Int.mul_nonneg hv (show 0 ≤ -(s * Ld - t * Lc) by omega)
    have : s * (u * Lc + v * Ld) = v * (s * Ld - t * Lc) := ratio_id2 w1
    rw [Int.mul_neg] at m2
    omega
/-- where sides cross lies in the box of both -/
theorem cross_box {a b c d lo hi r : Pt} (ha : InBox lo hi a) (hb : InBox lo hi b) (hr : r ∈ crossS (a, b) (c, d)) : InBox lo hi r := by
  unfold crossS at hr
  dsimp only at hr
  split at hr
  · rename_i hx
    rw [Bool.and_eq_true] at hx
    obtain ⟨hx1, hx2⟩ := hx
    have o1 := crosses_iff.1 hx1
    have o2 := crosses_iff.1 hx2
    have e0 : turnS a b c - turnS a b d = -(turnS c d a - turnS c d b) := by simp only [turnS]; grind
    have f1 := end_bd (u := c.x) (v := d.x) (s := turnS a b c) (t := turnS a b d) (by omega)
    have f2 := end_bd (u := c.y) (v := d.y) (s := turnS a b c) (t := turnS a b d) (by omega)
    have g1 := end_bd2 (u := c.x) (v := d.x) (s := turnS a b c) (t := turnS a b d)
    have g2 := end_bd2 (u := c.y) (v := d.y) (s := turnS a b c) (t := turnS a b d)
    -- the point on both lines, reckoned on either
    have ex : turnS a b c * d.x - turnS a b d * c.x = turnS c d b * a.x - turnS c d a * b.x := by simp only [turnS]; grind
    have ey : turnS a b c * d.y - turnS a b d * c.y = turnS c d b * a.y - turnS c d a * b.y := by simp only [turnS]; grind
    have key : ∀ (W X E1 E2 l h u v s' t' : Int), 0 < W → (s' < 0 ∧ 0 < t' ∨ 0 < s' ∧ t' < 0) → W = (if s' < t' then t' - s' else s' - t') → X = (if s' < t' then t' * u - s' * v else s' * v - t' * u) → l ≤ u → l ≤ v → u ≤ h → v ≤ h → E1 * W ≤ X → X ≤ E2 * W → E2 * W < X + W → X < E1 * W + W → l ≤ E1 ∧ E1 ≤ h ∧ l ≤ E2 ∧ E2 ≤ h := by
      intro W X E1 E2 l h u v s' t' hW ho eW eX h1 h2 h3 h4 k1 k2 k3 k4
      have hl : l * W ≤ X ∧ X ≤ h * W := by
        rcases ho with ⟨p1, p2⟩ | ⟨p1, p2⟩
        · rw [if_pos (by omega)] at eW eX
          have m1 := Int.mul_nonneg (show 0 ≤ t' by omega) (show 0 ≤ u - l by omega)
          have m2 := Int.mul_nonneg (show 0 ≤ -s' by omega) (show 0 ≤ v - l by omega)
          have m3 := Int.mul_nonneg (show 0 ≤ t' by omega) (show 0 ≤ h - u by omega)
          have m4 := Int.mul_nonneg (show 0 ≤ -s' by omega) (show 0 ≤ h - v by omega)
          subst eW eX
          constructor <;> grind
        · rw [if_neg (by omega)] at eW eX
          have m1 := Int.mul_nonneg (show 0 ≤ -t' by omega) (show 0 ≤ u - l by omega)
          have m2 := Int.mul_nonneg (show 0 ≤ s' by omega) (show 0 ≤ v - l by omega)
          have m3 := Int.mul_nonneg (show 0 ≤ -t' by omega) (show 0 ≤ h - u by omega)
          have m4 := Int.mul_nonneg (show 0 ≤ s' by omega) (show 0 ≤ h - v by omega)
          subst eW eX
          constructor <;> grind
      refine ⟨?_, ?_, ?_, ?_⟩
      · have : l * W < (E1 + 1) * W := by rw [Int.add_mul, Int.one_mul]; omega
        have := Int.lt_of_mul_lt_mul_right this (by omega); omega
      · exact Int.le_of_mul_le_mul_right (show E1 * W ≤ h * W by omega) hW
      · exact Int.le_of_mul_le_mul_right (show l * W ≤ E2 * W by omega) hW
      · have : E2 * W < (h + 1) * W := by rw [Int.add_mul, Int.one_mul]; omega
        have := Int.lt_of_mul_lt_mul_right this (by omega); omega
    have hbx : (lo.x ≤ endLo c.x d.x (turnS a b c) (turnS a b d) ∧ endLo c.x d.x (turnS a b c) (turnS a b d) ≤ hi.x ∧ lo.x ≤ endHi c.x d.x (turnS a b c) (turnS a b d) ∧ endHi c.x d.x (turnS a b c) (turnS a b d) ≤ hi.x) ∧ (lo.y ≤ endLo c.y d.y (turnS a b c) (turnS a b d) ∧ endLo c.y d.y (turnS a b c) (turnS a b d) ≤ hi.y ∧ lo.y ≤ endHi c.y d.y (turnS a b c) (turnS a b d) ∧ endHi c.y d.y (turnS a b c) (turnS a b d) ≤ hi.y) := by
      rcases o1 with ⟨p1, p2⟩ | ⟨p1, p2⟩
      · have F1 := f1.2 (by omega)
        have F2 := f2.2 (by omega)
        have G1 := g1.2 (by omega)
        have G2 := g2.2 (by omega)
        have ho : 0 < turnS c d a ∧ turnS c d b < 0 := by omega
        refine ⟨key (turnS a b d - turnS a b c) (turnS a b d * c.x - turnS a b c * d.x) _ _ _ _ a.x b.x (turnS c d a) (turnS c d b) (by omega) o2 ?_ ?_ ha.1 hb.1 ha.2.1 hb.2.1 F1.1 F1.2 G1.1 G1.2, key (turnS a b d - turnS a b c) (turnS a b d * c.y - turnS a b c * d.y) _ _ _ _ a.y b.y (turnS c d a) (turnS c d b) (by omega) o2 ?_ ?_ ha.2.2.1 hb.2.2.1 ha.2.2.2 hb.2.2.2 F2.1 F2.2 G2.1 G2.2⟩
        all_goals rw [if_neg (by omega)]; omega
      · have F1 := f1.1 (by omega)
        have F2 := f2.1 (by omega)
        have G1 := g1.1 (by omega)
        have G2 := g2.1 (by omega)
        have ho : turnS c d a < 0 ∧ 0 < turnS c d b := by omega
        refine ⟨key (turnS a b c - turnS a b d) (turnS a b c * d.x - turnS a b d * c.x) _ _ _ _ a.x b.x (turnS c d a) (turnS c d b) (by omega) o2 ?_ ?_ ha.1 hb.1 ha.2.1 hb.2.1 F1.1 F1.2 G1.1 G1.2, key (turnS a b c - turnS a b d) (turnS a b c * d.y - turnS a b d * c.y) _ _ _ _ a.y b.y (turnS c d a) (turnS c d b) (by omega) o2 ?_ ?_ ha.2.2.1 hb.2.2.1 ha.2.2.2 hb.2.2.2 F2.1 F2.2 G2.1 G2.2⟩
        all_goals rw [if_pos (by omega)]; omega
    obtain ⟨x1, x2, x3, x4⟩ := hbx.1
    obtain ⟨y1, y2, y3, y4⟩ := hbx.2
    unfold frameS at hr
    simp only [gridL, List.mem_cons, List.not_mem_nil, or_false] at hr
    rcases hr with rfl | rfl | rfl | rfl <;> (unfold InBox; dsimp only; omega)
  · simp at hr
theorem shared_box {p q : List Pt} (hvp : validB p = true) {lo hi r : Pt} (hp' : ∀ c ∈ p, InBox lo hi c) (hr : r ∈ sharedS p q) : InBox lo hi r := by
  unfold sharedS at hr
  rcases List.mem_append.1 hr with hr | hr
  · rcases List.mem_append.1 hr with hr | hr
    · exact hp' r (List.mem_filter.1 hr).1
    · have h1 := (insB_cov hvp r).1 (List.mem_filter.1 hr).2
      have := cov_box h1 lo.x hi.x lo.y hi.y hp'
      simp only [Pt.q, Int.mul_one] at this
      exact this
  · obtain ⟨s, hs, hr⟩ := List.mem_flatMap.1 hr
    obtain ⟨r', hs', hr⟩ := List.mem_flatMap.1 hr
    have hm := sides_mem hs
    exact cross_box (a := s.1) (b := s.2) (c := r'.1) (d := r'.2) (hp' _ hm.1) (hp' _ hm.2) hr
end Go.Proofs.YtnhdnkeiijiiaaaGreat
namespace Go.Proofs.YtnhdnkeiijiiaaaGreat
set_option linter.unusedSimpArgs false
set_option linter.unusedVariables false
theorem sq_pos_of_ne {a b c d : Int} (h : ¬ (a = c ∧ b = d)) : 0 < (a - c) * (a - c) + (b - d) * (b - d) := by
  have s1 : ∀ a : Int, 0 ≤ a * a := fun a => by
    rcases Int.le_total 0 a with h | h
    · exact Int.mul_nonneg h h
    · have := Int.mul_nonneg (show 0 ≤ -a by omega) (show 0 ≤ -a by omega); rw [Int.neg_mul_neg] at this; exact this
  have s2 : ∀ a : Int, a ≠ 0 → 0 < a * a := fun a h => by
    rcases Int.lt_or_lt_of_ne h with h | h
    · have := Int.mul_pos (show 0 < -a by omega) (show 0 < -a by omega); rw [Int.neg_mul_neg] at this; exact this
    · exact Int.mul_pos h h
  by_cases hx : a - c = 0
  · have hy : b - d ≠ 0 := by omega
    have := s2 _ hy
    have := s1 (a - c)
    omega
  · have := s2 _ hx
    have := s1 (b - d)
    omega
theorem Pt.ne_iff {p q : Pt} : p ≠ q ↔ ¬ (p.x = q.x ∧ p.y = q.y) := by
  obtain ⟨a, b⟩ := p
  obtain ⟨c, d⟩ := q
  simp
theorem seg_ext {a b : Pt} (hne : a ≠ b) {c : Pt} (h : Cov [a, b] c.q) (hc : c ≠ a) : hp (a.x - b.x) (a.y - b.y) c < hp (a.x - b.x) (a.y - b.y) a := by
  obtain ⟨u, v, N, hu, hv, hN, n1, n2, n3⟩ := seg_comb (by simp [Pt.q]) hne h
  have hq1 := seg_hq (a.x - b.x) (a.y - b.y) (hp (a.x - b.x) (a.y - b.y) a) a b c.q u v N n1 n2 n3
  rw [hq_q] at hq1
  simp only [Pt.q, Int.mul_one] at hq1 n1
  have hpos := sq_pos_of_ne (Pt.ne_iff.1 hne)
  have e1 : hp (a.x - b.x) (a.y - b.y) b - hp (a.x - b.x) (a.y - b.y) a = -((a.x - b.x) * (a.x - b.x) + (a.y - b.y) * (a.y - b.y)) := by simp only [hp]; grind
  rw [e1] at hq1
  have hv0 : 0 < v := by
    rcases Int.lt_or_eq_of_le hv with k | k
    · exact k
    · exfalso
      have := seg_zero v u N b a c.q hN (by simp only [Pt.q]; omega) (by omega) (by omega) k.symm
      simp only [Is, Pt.q, Int.mul_one] at this
      exact (Pt.ne_iff.1 hc) this
  have m := Int.mul_pos hv0 hpos
  have : 0 < N * (hp (a.x - b.x) (a.y - b.y) a - hp (a.x - b.x) (a.y - b.y) c) := by
    have e : N * (hp (a.x - b.x) (a.y - b.y) a - hp (a.x - b.x) (a.y - b.y) c) = -(N * (hp (a.x - b.x) (a.y - b.y) c - hp (a.x - b.x) (a.y - b.y) a)) := by rw [← Int.mul_neg]; congr 1; omega
    rw [e, hq1, Int.mul_neg]
    simp only [Int.sub_self, Int.mul_zero]
    omega
  have := Int.pos_of_mul_pos_right this hN
  omega
/-- a corner is strictly the farthest in some direction -/
theorem extreme {p : List Pt} (hv : validB p = true) {v : Pt} (h : v ∈ p) : ∃ A B, ∀ c : Pt, Cov p c.q → c ≠ v → hp A B c < hp A B v := by
  have hl := len_of_valid hv
  by_cases h3 : 3 ≤ p.length
  · obtain ⟨u, w, hs1, hs2, hu, hw, hT⟩ := nbrs hv h3 h
    refine ⟨w.y - u.y, u.x - w.x, fun c hc hne => ?_⟩
    have t1 := cov_turn hc u v fun r hr => side_ge hv h3 hs1 hr
    have t2 := cov_turn hc v w fun r hr => side_ge hv h3 hs2 hr
    rw [turnQ_q] at t1 t2
    have e : hp (w.y - u.y) (u.x - w.x) v - hp (w.y - u.y) (u.x - w.x) c = turnS u v c + turnS v w c := by simp only [hp, turnS]; grind
    rcases Int.lt_or_eq_of_le (show 0 ≤ turnS u v c + turnS v w c by omega) with k | k
    · omega
    · exfalso
      have z1 : turnS u v c = 0 := by omega
      have z2 : turnS v w c = 0 := by omega
      have x1 : turnS u v w * (c.x - v.x) = 0 := by simp only [turnS] at *; grind
      have x2 : turnS u v w * (c.y - v.y) = 0 := by simp only [turnS] at *; grind
      refine Pt.ne_iff.1 hne ⟨?_, ?_⟩
      · rcases Int.mul_eq_zero.1 x1 with h | h <;> omega
      · rcases Int.mul_eq_zero.1 x2 with h | h <;> omega
  · match p, hl, h3 with
    | [a], _, _ =>
      obtain rfl := List.mem_singleton.1 h
      refine ⟨0, 0, fun c hc hne => ?_⟩
      have := one_is hc
      simp only [Is, Pt.q, Int.mul_one] at this
      exact absurd this (Pt.ne_iff.1 hne)
    | [a, b], _, _ =>
      have hab : a ≠ b := side_ne hv (by simp) (by simp [sidesL, List.range, List.range.loop])
      simp only [List.mem_cons, List.not_mem_nil, or_false] at h
      rcases h with rfl | rfl
      · exact ⟨_, _, fun c hc hne => seg_ext hab hc hne⟩
      · exact ⟨_, _, fun c hc hne => seg_ext hab.symm (hc.mono (by intro p h; simp only [List.mem_cons, List.not_mem_nil, or_false] at h ⊢; exact h.symm)) hne⟩
    | _ :: _ :: _ :: _, _, h => simp at h
def withinS (p q : List Pt) : Bool := p.all (insB q)
theorem within_iff {p q : List Pt} (hq : validB q = true) : withinS p q = true ↔ ∀ c ∈ p, Cov q c.q := by
  simp only [withinS, List.all_eq_true]
  exact forall_congr' fun c => imp_congr_right fun _ => insB_cov hq c
theorem within_cov {p q : List Pt} (hq : validB q = true) (h : withinS p q = true) {z : Qp} (k : Cov p z) : Cov q z := k.trans ((within_iff hq).1 h)
theorem same_sub {p q : List Pt} (hvp : validB p = true) (hvq : validB q = true) (h1 : withinS p q = true) (h2 : withinS q p = true) : ∀ v ∈ p, v ∈ q := by
  intro v hv
  apply Decidable.byContradiction
  intro hn
  obtain ⟨A, B, he⟩ := extreme hvp hv
  have h3 := (within_iff hvq).1 h1 v hv A B (hp A B v - 1) fun c hc => by
    have := he c ((within_iff hvp).1 h2 c hc) (fun e => hn (e ▸ hc))
    omega
  rw [hq_q] at h3
  simp only [Pt.q, Int.mul_one] at h3
  omega
theorem three_ne {p : List Pt} (hv : validB p = true) (h3 : 3 ≤ p.length) : p.getD 0 default ≠ p.getD 1 default ∧ p.getD 1 default ≠ p.getD 2 default ∧ p.getD 0 default ≠ p.getD 2 default := by
  have h01 := side_ne hv (by omega) (side_at (xs := p) (i := 0) (by omega))
  have h12 := side_ne hv (by omega) (side_at (xs := p) (i := 1) (by omega))
  rw [Nat.mod_eq_of_lt (by omega)] at h01 h12
  have h02 := first_less hv (i := 2) (by omega) (by omega)
  exact ⟨h01, h12, fun e => by rw [e, cmpS_self] at h02; omega⟩
theorem cmp_anti {a b : Pt} (h : cmpS a b < 0) (k : cmpS b a < 0) : False := (Lt.trans (lt1_iff.2 h) (lt1_iff.2 k)).irrefl
theorem first_eq {p q : List Pt} (hvp : validB p = true) (hvq : validB q = true) (hs : ∀ v, v ∈ p ↔ v ∈ q) : p.getD 0 default = q.getD 0 default := by
  have lp := len_of_valid hvp
  have lq := len_of_valid hvq
  have m1 := (hs _).1 (at_mem (xs := p) (i := 0) (by omega))
  have m2 := (hs _).2 (at_mem (xs := q) (i := 0) (by omega))
  obtain ⟨i, hi, ei⟩ := at_of_mem m1
  obtain ⟨j, hj, ej⟩ := at_of_mem m2
  rcases Nat.eq_zero_or_pos i with rfl | h0
  · exact ei.symm
  rcases Nat.eq_zero_or_pos j with rfl | k0
  · exact ej
  have a1 := first_less hvq h0 hi
  have a2 := first_less hvp k0 hj
  rw [ei] at a1
  rw [ej] at a2
  exact (cmp_anti a1 a2).elim
theorem next_eq {p q : List Pt} (hvp : validB p = true) (hvq : validB q = true) (hs : ∀ v, v ∈ p ↔ v ∈ q) (p3 : 3 ≤ p.length) (q3 : 3 ≤ q.length) {a b b' : Pt} (h : (a, b) ∈ sidesL p) (k : (a, b') ∈ sidesL q) : b = b' := by
  have m1 := (hs _).1 (sides_mem h).2
  have m2 := (hs _).2 (sides_mem k).2
  dsimp only at m1 m2
  have n1 := side_ne hvp (by omega) h
  have n2 := side_ne hvq (by omega) k
  rcases side_pos hvp p3 h m2 with e | e | e
  · exact absurd e.symm n2
  · exact e.symm
  rcases side_pos hvq q3 k m1 with e' | e' | e'
  · exact absurd e'.symm n1
  · exact e'
  exfalso
  have : turnS a b' b = -turnS a b b' := by simp only [turnS]; grind
  omega
theorem same_list {p q : List Pt} (hvp : validB p = true) (hvq : validB q = true) (hs : ∀ v, v ∈ p ↔ v ∈ q) : p = q := by
  have lp := len_of_valid hvp
  have lq := len_of_valid hvq
  have h0 := first_eq hvp hvq hs
  by_cases p3 : 3 ≤ p.length
  · by_cases q3 : 3 ≤ q.length
    · have hall : ∀ i, i < p.length → i < q.length → p.getD i default = q.getD i default := by
        intro i
        induction i with
        | zero => exact fun _ _ => h0
        | succ i ih =>
          intro hi hj
          have := ih (by omega) (by omega)
          have s1 := side_at (xs := p) (i := i) (by omega)
          have s2 := side_at (xs := q) (i := i) (by omega)
          rw [Nat.mod_eq_of_lt hi] at s1
          rw [Nat.mod_eq_of_lt hj, ← this] at s2
          exact next_eq hvp hvq hs p3 q3 s1 s2
      have hlen : p.length = q.length := by
        rcases Nat.lt_trichotomy p.length q.length with h | h | h
        · exfalso
          have s1 := side_at (xs := p) (i := p.length - 1) (by omega)
          have s2 := side_at (xs := q) (i := p.length - 1) (by omega)
          rw [show p.length - 1 + 1 = p.length by omega, Nat.mod_self] at s1
          rw [show p.length - 1 + 1 = p.length by omega, Nat.mod_eq_of_lt h, ← hall (p.length - 1) (by omega) (by omega)] at s2
          have e := next_eq hvp hvq hs p3 q3 s1 s2
          have := first_less hvq (i := p.length) (by omega) h
          rw [← e, h0, cmpS_self] at this
          omega
        · exact h
        · exfalso
          have s1 := side_at (xs := p) (i := q.length - 1) (by omega)
          have s2 := side_at (xs := q) (i := q.length - 1) (by omega)
          rw [show q.length - 1 + 1 = q.length by omega, Nat.mod_self, ← hall (q.length - 1) (by omega) (by omega)] at s2
          rw [show q.length - 1 + 1 = q.length by omega, Nat.mod_eq_of_lt h] at s1
          have e := next_eq hvp hvq hs p3 q3 s1 s2
          have := first_less hvp (i := q.length) (by omega) h
          rw [e, ← h0, cmpS_self] at this
          omega
      apply List.ext_getElem hlen
      intro i hi hj
      have := hall i hi hj
      rw [List.getD_eq_getElem?_getD, List.getD_eq_getElem?_getD, List.getElem?_eq_getElem hi, List.getElem?_eq_getElem hj] at this
      exact this
    · exfalso
      have hn := three_ne hvp p3
      have m0 := (hs _).1 (at_mem (xs := p) (i := 0) (by omega))
      have m1 := (hs _).1 (at_mem (xs := p) (i := 1) (by omega))
      have m2 := (hs _).1 (at_mem (xs := p) (i := 2) (by omega))
      generalize p.getD 0 default = a at *
      generalize p.getD 1 default = b at *
      generalize p.getD 2 default = c at *
      match q, lq, q3 with
      | [x], _, _ => simp at m0 m1 m2; exact hn.1 (m0.trans m1.symm)
      | [x, y], _, _ =>
        simp only [List.mem_cons, List.not_mem_nil, or_false] at m0 m1 m2
        rcases m0 with rfl | rfl <;> rcases m1 with rfl | rfl <;> rcases m2 with rfl | rfl <;> simp at hn
      | _ :: _ :: _ :: _, _, h => simp at h
  · by_cases q3 : 3 ≤ q.length
    · exfalso
      have hn := three_ne hvq q3
      have m0 := (hs _).2 (at_mem (xs := q) (i := 0) (by omega))
      have m1 := (hs _).2 (at_mem (xs := q) (i := 1) (by omega))
      have m2 := (hs _).2 (at_mem (xs := q) (i := 2) (by omega))
      generalize q.getD 0 default = a at *
      generalize q.getD 1 default = b at *
      generalize q.getD 2 default = c at *
      match p, lp, p3 with
      | [x], _, _ => simp at m0 m1 m2; exact hn.1 (m0.trans m1.symm)
      | [x, y], _, _ =>
        simp only [List.mem_cons, List.not_mem_nil, or_false] at m0 m1 m2
        rcases m0 with rfl | rfl <;> rcases m1 with rfl | rfl <;> rcases m2 with rfl | rfl <;> simp at hn
      | _ :: _ :: _ :: _, _, h => simp at h
    · match p, q, lp, lq, p3, q3 with
      | [a], [b], _, _, _, _ => simp at h0; rw [h0]
      | [a, b], [c], _, _, _, _ =>
        exfalso
        have := side_ne hvp (by simp) (show (a, b) ∈ sidesL [a, b] by simp [sidesL, List.range, List.range.loop])
        have m0 := (hs a).1 (by simp)
        have m1 := (hs b).1 (by simp)
        simp at m0 m1
        exact this (m0.trans m1.symm)
      | [c], [a, b], _, _, _, _ =>
        exfalso
        have := side_ne hvq (by simp) (show (a, b) ∈ sidesL [a, b] by simp [sidesL, List.range, List.range.loop])
        have m0 := (hs a).2 (by simp)
        have m1 := (hs b).2 (by simp)
        simp at m0 m1
        exact this (m0.trans m1.symm)
      | [a, b], [c, d], _, _, _, _ =>
        have n1 := side_ne hvp (by simp) (show (a, b) ∈ sidesL [a, b] by simp [sidesL, List.range, List.range.loop])
        simp at h0
        subst h0
        have m1 := (hs b).1 (by simp)
        simp only [List.mem_cons, List.not_mem_nil, or_false] at m1
        rcases m1 with m1 | m1
        · exact absurd m1.symm n1
        · rw [m1]
      | _ :: _ :: _ :: _, _, _, _, h, _ => simp at h
      | _, _ :: _ :: _ :: _, _, _, _, h => simp at h
theorem within_anti {p q : List Pt} (hvp : validB p = true) (hvq : validB q = true) (h1 : withinS p q = true) (h2 : withinS q p = true) : p = q :=
  same_list hvp hvq fun v => ⟨same_sub hvp hvq h1 h2 v, same_sub hvq hvp h2 h1 v⟩
theorem within_trans {p q r : List Pt} (hvq : validB q = true) (hvr : validB r = true) (h1 : withinS p q = true) (h2 : withinS q r = true) : withinS p r = true :=
  (within_iff hvr).2 fun c hc => within_cov hvr h2 ((within_iff hvq).1 h1 c hc)
theorem within_refl {p : List Pt} (hv : validB p = true) : withinS p p = true := (within_iff hv).2 fun c hc => Cov.of_mem hc
/-- a polygon lies within another one that stays -/
def coverB (l : List (List Pt)) (i k : Nat) : Bool := withinS (l.getD i []) (l.getD k []) && (decide (k ≠ i) && (decide (k < i) || decide (l.getD i [] ≠ l.getD k [])))
def coveredS (l : List (List Pt)) (i : Nat) : Bool := (List.range l.length).any (coverB l i)
def keptS (l : List (List Pt)) : List (List Pt) := ((List.range l.length).filter fun i => !coveredS l i).map fun i => l.getD i []
def tidiedS (l : List (List Pt)) : List (List Pt) := if (keptS l).length ≤ 32 then keptS l else (keptS l).take 31 ++ [octS (((keptS l).drop 31).flatMap eightS)]
def overs (l : List (List Pt)) (i : Nat) : Nat := ((List.range l.length).filter fun k => withinS (l.getD i []) (l.getD k [])).length
theorem getD_valid {l : List (List Pt)} (hv : ∀ p ∈ l, validB p = true) {i : Nat} (hi : i < l.length) : validB (l.getD i []) = true := by
  rw [List.getD_eq_getElem?_getD, List.getElem?_eq_getElem hi]; exact hv _ (List.getElem_mem _)
theorem filter_len_lt {α : Type} (P Q : α → Bool) : ∀ l : List α, (∀ x ∈ l, P x = true → Q x = true) → (∃ x ∈ l, Q x = true ∧ P x = false) → (l.filter P).length < (l.filter Q).length
  | [], _, h => by obtain ⟨x, hx, _⟩ := h; simp at hx
  | a :: l, h, k => by
    have hle : (l.filter P).length ≤ (l.filter Q).length := by
      rw [← List.countP_eq_length_filter, ← List.countP_eq_length_filter]
      exact List.countP_mono_left fun x hx hp' => h x (List.mem_cons_of_mem _ hx) hp'
    by_cases k' : ∃ x ∈ l, Q x = true ∧ P x = false
    · have ih := filter_len_lt P Q l (fun x hx => h x (List.mem_cons_of_mem _ hx)) k'
      have ha := h a (by simp)
      cases hP : P a <;> cases hQ : Q a <;> simp [List.filter, hP, hQ] at * <;> omega
    · obtain ⟨x, hx, hq, hp'⟩ := k
      rcases List.mem_cons.1 hx with rfl | hx
      · simp [List.filter, hq, hp']; omega
      · exact absurd ⟨x, hx, hq, hp'⟩ k'
theorem kept_over {l : List (List Pt)} (hv : ∀ p ∈ l, validB p = true) : ∀ (m : Nat) (i : Nat), i < l.length → overs l i * (l.length + 1) + i ≤ m → ∃ j, j < l.length ∧ coveredS l j = false ∧ withinS (l.getD i []) (l.getD j []) = true := by
  intro m
  induction m with
  | zero =>
    intro i hi hm
    by_cases hc : coveredS l i = false
    · exact ⟨i, hi, hc, within_refl (getD_valid hv hi)⟩
    · exfalso
      have h0 : overs l i * (l.length + 1) = 0 := by omega
      have h1 : overs l i = 0 := by
        rcases Nat.mul_eq_zero.1 h0 with h | h
        · exact h
        · omega
      unfold overs at h1
      have := List.eq_nil_of_length_eq_zero h1
      have hm : i ∈ (List.range l.length).filter fun k => withinS (l.getD i []) (l.getD k []) := List.mem_filter.2 ⟨List.mem_range.2 hi, within_refl (getD_valid hv hi)⟩
      rw [this] at hm
      simp at hm
  | succ m ih =>
    intro i hi hm
    by_cases hc : coveredS l i = false
    · exact ⟨i, hi, hc, within_refl (getD_valid hv hi)⟩
    · simp only [Bool.not_eq_false, coveredS, List.any_eq_true, List.mem_range] at hc
      obtain ⟨k, hk, hcov⟩ := hc
      simp only [coverB, Bool.and_eq_true, Bool.or_eq_true, decide_eq_true_eq] at hcov
      obtain ⟨hw, hne, hor⟩ := hcov
      have vi := getD_valid hv hi
      have vk := getD_valid hv hk
      have hdec : overs l k * (l.length + 1) + k ≤ m := by
        by_cases heq : l.getD i [] = l.getD k []
        · have hki : k < i := by
            rcases hor with h | h
            · exact h
            · exact absurd heq h
          have : overs l k = overs l i := by unfold overs; rw [heq]
          rw [this]; omega
        · have hlt : overs l k < overs l i := by
            unfold overs
            refine filter_len_lt _ _ _ (fun x hx h => within_trans vk (getD_valid hv (List.mem_range.1 hx)) hw h) ⟨i, List.mem_range.2 hi, within_refl vi, ?_⟩
            cases h : withinS (l.getD k []) (l.getD i []) with
            | false => rfl
            | true => exact absurd (within_anti vi vk hw h) heq
          have := Nat.mul_le_mul_right (l.length + 1) (show overs l k + 1 ≤ overs l i by omega)
          rw [Nat.add_mul, Nat.one_mul] at this
          omega
      obtain ⟨j, hj, hj1, hj2⟩ := ih k hk hdec
      exact ⟨j, hj, hj1, within_trans vk (getD_valid hv hj) hw hj2⟩
theorem kept_sub {l : List (List Pt)} {p : List Pt} (h : p ∈ keptS l) : p ∈ l := by
  obtain ⟨i, hi, rfl⟩ := List.mem_map.1 h
  have := List.mem_range.1 (List.mem_filter.1 hi).1
  rw [List.getD_eq_getElem?_getD, List.getElem?_eq_getElem this]; exact List.getElem_mem _
theorem kept_has {l : List (List Pt)} (hv : ∀ p ∈ l, validB p = true) {p : List Pt} (h : p ∈ l) : ∃ r ∈ keptS l, ∀ z, Cov p z → Cov r z := by
  obtain ⟨i, hi, rfl⟩ := List.mem_iff_getElem.1 h
  obtain ⟨j, hj, hj1, hj2⟩ := kept_over hv _ i hi (Nat.le_refl _)
  refine ⟨l.getD j [], List.mem_map.2 ⟨j, List.mem_filter.2 ⟨List.mem_range.2 hj, by rw [hj1]; rfl⟩, rfl⟩, fun z hz => within_cov (getD_valid hv hj) hj2 ?_⟩
  rw [List.getD_eq_getElem?_getD, List.getElem?_eq_getElem hi]; exact hz
theorem flat_gd {l : List (List Pt)} (hv : ∀ p ∈ l, validB p = true) {p : List Pt} (h : p ∈ l) : Gd p (eightS p) := by
  have hp := hv p h
  exact eight_gd (by intro e; have := (len_of_valid hp).1; rw [e] at this; simp at this) (pl_of_valid hp)
theorem tidied_has {l : List (List Pt)} (hv : ∀ p ∈ l, validB p = true) {p : List Pt} (h : p ∈ l) : ∃ r ∈ tidiedS l, ∀ z, Cov p z → Cov r z := by
  obtain ⟨r, hr, hc⟩ := kept_has hv h
  have hvk : ∀ p ∈ keptS l, validB p = true := fun p h => hv p (kept_sub h)
  unfold tidiedS
  split
  · exact ⟨r, hr, hc⟩
  · rename_i h32
    rw [← List.take_append_drop 31 (keptS l)] at hr
    rcases List.mem_append.1 hr with hr | hr
    · exact ⟨r, List.mem_append_left _ hr, hc⟩
    · refine ⟨_, List.mem_append_right _ (List.mem_singleton.2 rfl), fun z hz => ?_⟩
      have hne : ((keptS l).drop 31).flatMap eightS ≠ [] := by
        obtain ⟨q, hq⟩ := List.exists_mem_of_ne_nil _ (flat_gd hvk (List.mem_of_mem_drop hr)).ne
        exact List.ne_nil_of_mem (List.mem_flatMap.2 ⟨r, hr, hq⟩)
      have g := oct_gd _ _ (Nat.le_refl _) hne fun q hq => by
        obtain ⟨s, hs, hq⟩ := List.mem_flatMap.1 hq
        exact (flat_gd hvk (List.mem_of_mem_drop hs)).pl q hq
      exact g.covers (((flat_gd hvk (List.mem_of_mem_drop hr)).covers (hc z hz)).mono fun q hq => List.mem_flatMap.2 ⟨r, hr, hq⟩)
theorem tidied_valid {l : List (List Pt)} (hv : ∀ p ∈ l, validB p = true) : ∀ p ∈ tidiedS l, validB p = true := by
  have hvk : ∀ p ∈ keptS l, validB p = true := fun p h => hv p (kept_sub h)
  unfold tidiedS
  split
  · exact hvk
  · rename_i h32
    intro p hp
    rcases List.mem_append.1 hp with hp | hp
    · exact hvk p (List.mem_of_mem_take hp)
    · obtain rfl := List.mem_singleton.1 hp
      have hex : ∃ r, r ∈ (keptS l).drop 31 := List.exists_mem_of_ne_nil _ (by intro e; have := congrArg List.length e; rw [List.length_drop] at this; simp only [List.length_nil] at this; omega)
      obtain ⟨r, hr⟩ := hex
      have hne : ((keptS l).drop 31).flatMap eightS ≠ [] := by
        obtain ⟨q, hq⟩ := List.exists_mem_of_ne_nil _ (flat_gd hvk (List.mem_of_mem_drop hr)).ne
        exact List.ne_nil_of_mem (List.mem_flatMap.2 ⟨r, hr, hq⟩)
      exact (oct_gd _ _ (Nat.le_refl _) hne fun q hq => by
        obtain ⟨s, hs, hq⟩ := List.mem_flatMap.1 hq
        exact (flat_gd hvk (List.mem_of_mem_drop hs)).pl q hq).valid
theorem tidied_len (l : List (List Pt)) : (tidiedS l).length ≤ 32 := by
  unfold tidiedS
  split
  · assumption
  · rw [List.length_append, List.length_take]; simp; omega
theorem tidied_box {l : List (List Pt)} (hv : ∀ p ∈ l, validB p = true) {lo hi : Pt} (hb : ∀ p ∈ l, ∀ c ∈ p, InBox lo hi c) : ∀ p ∈ tidiedS l, ∀ c ∈ p, InBox lo hi c := by
  have hvk : ∀ p ∈ keptS l, validB p = true := fun p h => hv p (kept_sub h)
  unfold tidiedS
  split
  · exact fun p hp => hb p (kept_sub hp)
  · rename_i h32
    intro p hp
    rcases List.mem_append.1 hp with hp | hp
    · exact hb p (kept_sub (List.mem_of_mem_take hp))
    · obtain rfl := List.mem_singleton.1 hp
      have hex : ∃ r, r ∈ (keptS l).drop 31 := List.exists_mem_of_ne_nil _ (by intro e; have := congrArg List.length e; rw [List.length_drop] at this; simp only [List.length_nil] at this; omega)
      obtain ⟨r, hr⟩ := hex
      have hne : ((keptS l).drop 31).flatMap eightS ≠ [] := by
        obtain ⟨q, hq⟩ := List.exists_mem_of_ne_nil _ (flat_gd hvk (List.mem_of_mem_drop hr)).ne
        exact List.ne_nil_of_mem (List.mem_flatMap.2 ⟨r, hr, hq⟩)
      refine (oct_gd _ _ (Nat.le_refl _) hne fun q hq => by
        obtain ⟨s, hs, hq⟩ := List.mem_flatMap.1 hq
        exact (flat_gd hvk (List.mem_of_mem_drop hs)).pl q hq).box lo hi fun q hq => ?_
      obtain ⟨s, hs, hq⟩ := List.mem_flatMap.1 hq
      exact (flat_gd hvk (List.mem_of_mem_drop hs)).box lo hi (hb s (kept_sub (List.mem_of_mem_drop hs))) q hq
end Go.Proofs.YtnhdnkeiijiiaaaGreat
namespace Go.Proofs.YtnhdnkeiijiiaaaGreat
set_option linter.unusedSimpArgs false
set_option linter.unusedVariables false
def dt (a b : Pt) : Int := a.x * b.x + a.y * b.y
def cr (a b : Pt) : Int := a.x * b.y - a.y * b.x
theorem round_cov (t : Pt) {n d : Int} (hd : 0 < d) : Cov (roundL t n d) ⟨t.x * n, t.y * n, d⟩ := by
  have f1 := fl_bd (t.x * n) d hd
  have f2 := fl_bd (t.y * n) d hd
  have f3 := up_bd (t.x * n) d hd
  have f4 := up_bd (t.y * n) d hd
  exact grid_cov f1.1 f3.1 f2.1 f4.1 hd
/-- what is reckoned with of two neighbouring rays -/
def nbB (k : Nat) : Bool :=
  let a := atS k; let b := atS (k + 1)
  let A := dt a a - 996004; let B := dt a b - 996004; let C := dt b b - 996004
  decide (0 < cr a b) && decide (0 ≤ A) && decide (0 ≤ C) && (decide (0 ≤ B) || decide (0 < A) && decide (B * B ≤ A * C))
def nb2B (k : Nat) : Bool :=
  let a := atS k; let m := atS (k + 1); let b := atS (k + 2)
  decide (0 < cr a b) && decide (dt a a ≤ 1002001) && decide (dt a b ≤ 1002001) && decide (dt b b ≤ 1002001) && decide (dt m m ≤ 1002001) &&
  decide (994749 ≤ dt m a) && decide (994749 ≤ dt m b) && decide (994749 ≤ dt m m) && decide (m.x ≤ 1000) && decide (-1000 ≤ m.x) && decide (m.y ≤ 1000) && decide (-1000 ≤ m.y) &&
  decide (m.x + m.y ≤ 1414) && decide (m.x - m.y ≤ 1414) && decide (-m.x + m.y ≤ 1414) && decide (-m.x - m.y ≤ 1414)
theorem nb_all : ∀ k, k < 64 → nbB k = true := by decide +kernel
theorem nb2_all : ∀ k, k < 64 → nb2B k = true := by decide +kernel
theorem switch (P : Nat → Prop) [DecidablePred P] : ∀ (n a : Nat), P a → ¬ P (a + n) → ∃ k, a ≤ k ∧ k < a + n ∧ P k ∧ ¬ P (k + 1)
  | 0, a, h, k => absurd h k
  | n + 1, a, h, k => by
    by_cases h1 : P (a + 1)
    · obtain ⟨j, h2, h3, h4⟩ := switch P n (a + 1) h1 (by rw [show a + 1 + n = a + (n + 1) by omega]; exact k)
      exact ⟨j, by omega, by omega, h4⟩
    · exact ⟨a, by omega, by omega, h, h1⟩
/-- each vector lies between two neighbouring rays -/
theorem ray_of (y : Pt) (h : ¬ (y.x = 0 ∧ y.y = 0)) : ∃ k, k < 64 ∧ 0 ≤ cr (atS k) y ∧ 0 ≤ cr y (atS (k + 1)) := by
  have main : ∀ a : Nat, a + 16 ≤ 64 → 0 ≤ cr (atS a) y → cr (atS (a + 16)) y < 0 → ∃ k, k < 64 ∧ 0 ≤ cr (atS k) y ∧ 0 ≤ cr y (atS (k + 1)) := fun a ha h1 h2 => by
    obtain ⟨k, k1, k2, k3, k4⟩ := switch (fun k => 0 ≤ cr (atS k) y) 16 a h1 (by omega)
    refine ⟨k, by omega, k3, ?_⟩
    have : cr y (atS (k + 1)) = -cr (atS (k + 1)) y := by simp only [cr]; grind
    omega
  have a0 : atS 0 = ⟨1000, 0⟩ := by decide
  have a1 : atS 16 = ⟨0, 1000⟩ := by decide
  have a2 : atS 32 = ⟨-1000, 0⟩ := by decide
  have a3 : atS 48 = ⟨0, -1000⟩ := by decide
  have a4 : atS 64 = ⟨1000, 0⟩ := by decide
  by_cases c0 : 0 < y.x ∧ 0 ≤ y.y
  · exact main 0 (by omega) (by rw [a0]; simp only [cr]; omega) (by rw [a1]; simp only [cr]; omega)
  by_cases c1 : y.x ≤ 0 ∧ 0 < y.y
  · exact main 16 (by omega) (by rw [a1]; simp only [cr]; omega) (by rw [a2]; simp only [cr]; omega)
  by_cases c2 : y.x < 0 ∧ y.y ≤ 0
  · exact main 32 (by omega) (by rw [a2]; simp only [cr]; omega) (by rw [a3]; simp only [cr]; omega)
  · exact main 48 (by omega) (by rw [a3]; simp only [cr]; omega) (by rw [a4]; simp only [cr]; omega)
theorem sq_le_of {a b : Int} (ha : 0 ≤ a) (hb : 0 ≤ b) (h : a * a ≤ b * b) : a ≤ b := by
  rcases Int.lt_or_le b a with k | k
  · have h1 := Int.mul_pos (show 0 < a - b by omega) (show 0 < a + b by omega)
    have e : (a - b) * (a + b) = a * a - b * b := by grind
    omega
  · exact k
/-- the chord of the outer rays lies beyond -/
theorem chord_up {s u A B C D n hi : Int} (hs : 0 ≤ s) (hu : 0 ≤ u) (hA : 0 ≤ A - 996004) (hC : 0 ≤ C - 996004) (hB : 0 ≤ B - 996004 ∨ 0 < A - 996004 ∧ (B - 996004) * (B - 996004) ≤ (A - 996004) * (C - 996004)) (hD : 0 < D) (hhi : 0 ≤ hi)
    (hn : D * D * n = s * s * A + 2 * (s * u) * B + u * u * C) (hle : n ≤ hi * hi) : 998 * (s + u) ≤ D * hi := by
  have sq : ∀ a : Int, 0 ≤ a * a := fun a => by
    rcases Int.le_total 0 a with h | h
    · exact Int.mul_nonneg h h
    · have := Int.mul_nonneg (show 0 ≤ -a by omega) (show 0 ≤ -a by omega); rw [Int.neg_mul_neg] at this; exact this
  have hsu := Int.mul_nonneg hs hu
  have hq : 0 ≤ s * s * (A - 996004) + 2 * (s * u) * (B - 996004) + u * u * (C - 996004) := by
    generalize A - 996004 = a at *
    generalize B - 996004 = b at *
    generalize C - 996004 = c at *
    rcases hB with hb | ⟨ha, hb⟩
    · have m1 := Int.mul_nonneg (sq s) hA
      have m2 := Int.mul_nonneg hsu hb
      have m3 := Int.mul_nonneg (sq u) hC
      have : 2 * (s * u) * b = 2 * (s * u * b) := by grind
      omega
    · have m1 := sq (a * s + b * u)
      have m2 := Int.mul_nonneg (show 0 ≤ a * c - b * b by omega) (sq u)
      have e : a * (s * s * a + 2 * (s * u) * b + u * u * c) = (a * s + b * u) * (a * s + b * u) + (a * c - b * b) * (u * u) := by grind
      exact Int.nonneg_of_mul_nonneg_right (by omega) ha
  have e1 : (998 * (s + u)) * (998 * (s + u)) = s * s * A + 2 * (s * u) * B + u * u * C - (s * s * (A - 996004) + 2 * (s * u) * (B - 996004) + u * u * (C - 996004)) := by grind
  have e2 : D * hi * (D * hi) = D * D * (hi * hi) := by grind
  have m3 := Int.mul_le_mul_of_nonneg_left hle (sq D)
  exact sq_le_of (by omega) (Int.mul_nonneg (by omega) hhi) (by omega)
theorem chord_lo {s u A B C D n lo : Int} (hs : 0 ≤ s) (hu : 0 ≤ u) (hA : A ≤ 1002001) (hB : B ≤ 1002001) (hC : C ≤ 1002001) (hD : 0 < D) (hlo : 0 ≤ lo)
    (hn : D * D * n = s * s * A + 2 * (s * u) * B + u * u * C) (hle : lo * lo ≤ n) : D * lo ≤ 1001 * (s + u) := by
  have sq : ∀ a : Int, 0 ≤ a * a := fun a => by
    rcases Int.le_total 0 a with h | h
    · exact Int.mul_nonneg h h
    · have := Int.mul_nonneg (show 0 ≤ -a by omega) (show 0 ≤ -a by omega); rw [Int.neg_mul_neg] at this; exact this
  have hsu := Int.mul_nonneg hs hu
  have m1 := Int.mul_nonneg (sq s) (show 0 ≤ 1002001 - A by omega)
  have m2 := Int.mul_nonneg hsu (show 0 ≤ 1002001 - B by omega)
  have m3 := Int.mul_nonneg (sq u) (show 0 ≤ 1002001 - C by omega)
  have e1 : (1001 * (s + u)) * (1001 * (s + u)) = s * s * A + 2 * (s * u) * B + u * u * C + (s * s * (1002001 - A) + 2 * (s * u * (1002001 - B)) + u * u * (1002001 - C)) := by grind
  have e2 : D * lo * (D * lo) = D * D * (lo * lo) := by grind
  have m4 := Int.mul_le_mul_of_nonneg_left hle (sq D)
  exact sq_le_of (Int.mul_nonneg (by omega) hlo) (by omega) (by omega)
theorem comb_id (a b y : Pt) : cr a b * y.x = cr y b * a.x + cr a y * b.x ∧ cr a b * y.y = cr y b * a.y + cr a y * b.y := by
  simp only [cr]; constructor <;> grind
theorem comb_sq (a b y : Pt) : cr a b * cr a b * (y.x * y.x + y.y * y.y) = cr y b * cr y b * dt a a + 2 * (cr y b * cr a y) * dt a b + cr a y * cr a y * dt b b := by
  simp only [cr, dt]; grind
theorem comb_hp (A B : Int) (a b y : Pt) : cr a b * hp A B y = cr y b * hp A B a + cr a y * hp A B b := by
  simp only [cr, hp]; grind
theorem round_hp {t : Pt} {n d A B C : Int} (hd : 0 < d) (h : ∀ p ∈ roundL t n d, hp A B p ≤ C) : hp A B t * n ≤ C * d := by
  have h1 := round_cov t (n := n) hd A B C h
  simp only [hq] at h1
  have : hp A B t * n = A * (t.x * n) + B * (t.y * n) := by simp only [hp]; grind
  omega
theorem sec_cov {a k : Nat} {lo hi : Int} {y : Pt} (ha : a < 64) (hk : k = a ∨ k = a + 1) (hk64 : k < 64) (h1 : 0 ≤ cr (atS k) y) (h2 : 0 ≤ cr y (atS (k + 1))) (hlo : 0 ≤ lo) (hlh : lo ≤ hi)
    (hn1 : lo * lo ≤ y.x * y.x + y.y * y.y) (hn2 : y.x * y.x + y.y * y.y ≤ hi * hi) : Cov (secL a 2 lo hi) y.q := by
  intro A B C hC
  rw [hq_q]
  simp only [Pt.q, Int.mul_one]
  have nb := nb_all k hk64
  have nb2 := nb2_all a ha
  simp only [nbB, nb2B, Bool.and_eq_true, Bool.or_eq_true, decide_eq_true_eq] at nb nb2
  obtain ⟨⟨⟨nD, nA⟩, nC⟩, nB⟩ := nb
  obtain ⟨⟨⟨⟨⟨⟨⟨⟨⟨⟨⟨⟨⟨⟨⟨rD, rA⟩, rB⟩, rC⟩, -⟩, -⟩, -⟩, -⟩, -⟩, -⟩, -⟩, -⟩, -⟩, -⟩, -⟩, -⟩ := nb2
  have hlo1 : hp A B (atS a) * lo ≤ C * 1001 := round_hp (by omega) fun p hp' => hC p (List.mem_append_left _ (List.mem_append_left _ hp'))
  have hlo2 : hp A B (atS (a + 2)) * lo ≤ C * 1001 := round_hp (by omega) fun p hp' => hC p (List.mem_append_left _ (List.mem_append_right _ hp'))
  have hout : ∀ j, a ≤ j → j ≤ a + 2 → hp A B (atS j) * hi ≤ C * 998 := fun j j1 j2 => round_hp (by omega) fun p hp' => hC p (List.mem_append_right _ (List.mem_flatMap.2 ⟨j, by unfold raysL; rw [List.mem_range'_1]; omega, hp'⟩))
  have ho1 := hout k (by omega) (by omega)
  have ho2 := hout (k + 1) (by omega) (by omega)
  rcases Int.lt_or_le C 0 with hCn | hCp
  · -- beyond the inner chord
    have s2 : 0 ≤ cr y (atS (a + 2)) := by
      rcases hk with rfl | rfl
      · have e : cr (atS k) (atS (k + 1)) * cr y (atS (k + 2)) = cr y (atS (k + 1)) * cr (atS k) (atS (k + 2)) + cr (atS k) y * cr (atS (k + 1)) (atS (k + 2)) := by simp only [cr]; grind
        have nb' := nb_all (k + 1)
        have m1 := Int.mul_nonneg h2 (Int.le_of_lt rD)
        have m2 : 0 ≤ cr (atS (k + 1)) (atS (k + 2)) := by
          by_cases h63 : k + 1 < 64
          · have := nb_all (k + 1) h63
            simp only [nbB, Bool.and_eq_true, decide_eq_true_eq] at this
            exact Int.le_of_lt this.1.1.1
          · have : k = 63 := by omega
            subst this; decide
        have m3 := Int.mul_nonneg h1 m2
        exact Int.nonneg_of_mul_nonneg_right (by omega) nD
      · exact h2
    have u2 : 0 ≤ cr (atS a) y := by
      rcases hk with rfl | rfl
      · exact h1
      · have e : cr (atS (a + 1)) (atS (a + 2)) * cr (atS a) y = cr y (atS (a + 2)) * cr (atS a) (atS (a + 1)) + cr (atS (a + 1)) y * cr (atS a) (atS (a + 2)) := by simp only [cr]; grind
        have m2 : 0 ≤ cr (atS a) (atS (a + 1)) := by
          have := nb_all a ha
          simp only [nbB, Bool.and_eq_true, decide_eq_true_eq] at this
          have := this.1.1.1; omega
        have m1 := Int.mul_nonneg h2 m2
        have m3 := Int.mul_nonneg h1 (Int.le_of_lt rD)
        exact Int.nonneg_of_mul_nonneg_right (show 0 ≤ cr (atS (a + 1)) (atS (a + 2)) * cr (atS a) y by rw [e]; exact Int.add_nonneg m1 m3) nD
    have hch := chord_lo s2 u2 rA rB rC rD hlo (comb_sq _ _ _) hn1
    have hh := comb_hp A B (atS a) (atS (a + 2)) y
    have m1 := Int.mul_le_mul_of_nonneg_left hlo1 s2
    have m2 := Int.mul_le_mul_of_nonneg_left hlo2 u2
    generalize cr y (atS (a + 2)) = s at *
    generalize cr (atS a) y = u at *
    generalize cr (atS a) (atS (a + 2)) = D at *
    generalize hp A B (atS a) = p at *
    generalize hp A B (atS (a + 2)) = q at *
    generalize hp A B y = F at *
    rcases Int.lt_or_eq_of_le hlo with l0 | l0
    · have m3 := Int.mul_nonneg (show 0 ≤ 1001 * (s + u) - D * lo by omega) (show 0 ≤ -C by omega)
      have e1 : D * F * lo ≤ D * C * lo := by
        have : D * F * lo = s * (p * lo) + u * (q * lo) := by rw [hh]; clear hC hout; grind
        have : s * (C * 1001) + u * (C * 1001) = 1001 * (s + u) * C := by clear hC hout; grind
        have : (1001 * (s + u) - D * lo) * -C = D * C * lo - 1001 * (s + u) * C := by clear hC hout; grind
        omega
      have e2 := Int.le_of_mul_le_mul_right e1 l0
      exact Int.le_of_mul_le_mul_left e2 rD
    · subst l0
      omega
  · have hch := chord_up h2 h1 nA nC nB nD (by omega) (comb_sq _ _ _) hn2
    have hh := comb_hp A B (atS k) (atS (k + 1)) y
    have m1 := Int.mul_le_mul_of_nonneg_left ho1 h2
    have m2 := Int.mul_le_mul_of_nonneg_left ho2 h1
    generalize cr y (atS (k + 1)) = s at *
    generalize cr (atS k) y = u at *
    generalize cr (atS k) (atS (k + 1)) = D at *
    generalize hp A B (atS k) = p at *
    generalize hp A B (atS (k + 1)) = q at *
    have hhi : 0 ≤ hi := by omega
    rcases Int.lt_or_eq_of_le hhi with l0 | l0
    · generalize hp A B y = F at *
      have m3 := Int.mul_nonneg (show 0 ≤ D * hi - 998 * (s + u) by omega) hCp
      have e1 : D * F * hi ≤ D * C * hi := by
        have : D * F * hi = s * (p * hi) + u * (q * hi) := by rw [hh]; clear hC hout; grind
        have : s * (C * 998) + u * (C * 998) = 998 * (s + u) * C := by clear hC hout; grind
        have : (D * hi - 998 * (s + u)) * C = D * C * hi - 998 * (s + u) * C := by clear hC hout; grind
        omega
      have e2 := Int.le_of_mul_le_mul_right e1 l0
      exact Int.le_of_mul_le_mul_left e2 nD
    · subst l0
      have hx : y.x = 0 ∧ y.y = 0 := by
        apply Decidable.byContradiction
        intro hn
        have := sq_pos_of_ne (a := y.x) (b := y.y) (c := 0) (d := 0) hn
        simp at this; omega
      simp only [hp, hx.1, hx.2]
      omega
/-- what is at the distances is in one of the sectors -/
theorem sectors_cov {lo hi : Int} {y : Pt} (hlo : 0 ≤ lo) (hlh : lo ≤ hi) (hn1 : lo * lo ≤ y.x * y.x + y.y * y.y) (hn2 : y.x * y.x + y.y * y.y ≤ hi * hi) : ∃ j, j < 32 ∧ Cov (secL (2 * j) 2 lo hi) y.q := by
  by_cases h0 : y.x = 0 ∧ y.y = 0
  · have hl : lo = 0 := by
      rw [h0.1, h0.2] at hn1
      apply Decidable.byContradiction
      intro hn
      have := Int.mul_pos (show 0 < lo by omega) (show 0 < lo by omega); omega
    refine ⟨0, by omega, Cov.of_mem ?_⟩
    have : y = ⟨0, 0⟩ := by obtain ⟨a, b⟩ := y; simp only [Pt.mk.injEq] at *; exact h0
    subst hl this
    unfold secL
    refine List.mem_append_left _ (List.mem_append_left _ ?_)
    have : roundL (atS (2 * 0)) 0 1001 = [⟨0, 0⟩, ⟨0, 0⟩, ⟨0, 0⟩, ⟨0, 0⟩] := by decide
    rw [this]; simp
  · obtain ⟨k, hk, h1, h2⟩ := ray_of y h0
    refine ⟨k / 2, by omega, sec_cov (k := k) (by omega) (by omega) hk h1 h2 hlo hlh hn1 hn2⟩
theorem round_near {t p : Pt} {n d : Int} (hd : 0 < d) (h : p ∈ roundL t n d) : -d < p.x * d - t.x * n ∧ p.x * d - t.x * n < d ∧ -d < p.y * d - t.y * n ∧ p.y * d - t.y * n < d := by
  have h1 := roundL_mem h
  have f1 := fl_bd (t.x * n) d hd
  have f2 := fl_bd (t.y * n) d hd
  have f3 := up_bd (t.x * n) d hd
  have f4 := up_bd (t.y * n) d hd
  rcases h1.1 with e | e <;> rcases h1.2 with e' | e' <;> rw [e, e'] <;> omega
theorem sec_far {a : Nat} {lo hi : Int} (hlo : 0 ≤ lo) (hlh : lo ≤ hi) {p : Pt} (h : p ∈ secL a 2 lo hi) : -(hi * 1003 / 1000 + 2) ≤ p.x ∧ p.x ≤ hi * 1003 / 1000 + 2 ∧ -(hi * 1003 / 1000 + 2) ≤ p.y ∧ p.y ≤ hi * 1003 / 1000 + 2 := by
  have key : ∀ (t : Pt) (n d : Int), (-1000 ≤ t.x ∧ t.x ≤ 1000 ∧ -1000 ≤ t.y ∧ t.y ≤ 1000) → 0 ≤ n → n ≤ hi → (d = 998 ∨ d = 1001) → p ∈ roundL t n d → -(hi * 1003 / 1000 + 2) ≤ p.x ∧ p.x ≤ hi * 1003 / 1000 + 2 ∧ -(hi * 1003 / 1000 + 2) ≤ p.y ∧ p.y ≤ hi * 1003 / 1000 + 2 := by
    intro t n d ht h0 h1 hd hm
    have r := round_near (by omega) hm
    have a1 := Int.mul_le_mul_of_nonneg_right ht.1 h0
    have a2 := Int.mul_le_mul_of_nonneg_right ht.2.1 h0
    have a3 := Int.mul_le_mul_of_nonneg_right ht.2.2.1 h0
    have a4 := Int.mul_le_mul_of_nonneg_right ht.2.2.2 h0
    rcases hd with rfl | rfl <;> omega
  simp only [secL, List.mem_append, List.mem_flatMap] at h
  rcases h with (h | h) | ⟨k, -, h⟩
  · exact key _ lo 1001 (atS_bd _) hlo hlh (.inr rfl) h
  · exact key _ lo 1001 (atS_bd _) hlo hlh (.inr rfl) h
  · exact key _ hi 998 (atS_bd _) (by omega) (Int.le_refl _) (.inl rfl) h
theorem sec_near {a : Nat} {lo hi : Int} (ha : a < 64) (hlo : 0 ≤ lo) (hlh : lo ≤ hi) {p : Pt} (h : p ∈ secL a 2 lo hi) : 1001 * (99 * lo - 300) ≤ 100 * dt (atS (a + 1)) p := by
  have nb2 := nb2_all a ha
  simp only [nb2B, Bool.and_eq_true, decide_eq_true_eq] at nb2
  obtain ⟨⟨⟨⟨⟨⟨⟨⟨⟨⟨⟨⟨⟨⟨⟨rD, rA⟩, rB⟩, rC⟩, rM⟩, d1⟩, d2⟩, d3⟩, x1⟩, x2⟩, y1⟩, y2⟩, z1⟩, z2⟩, z3⟩, z4⟩ := nb2
  have key : ∀ (t : Pt) (n d : Int), 994749 ≤ dt (atS (a + 1)) t → lo ≤ n → (d = 998 ∨ d = 1001) → p ∈ roundL t n d → 1001 * (99 * lo - 300) ≤ 100 * dt (atS (a + 1)) p := by
    intro t n d hdt h1 hd hm
    have r := round_near (by omega) hm
    have hd0 : 0 < d := by omega
    generalize atS (a + 1) = m at *
    -- m . p * d = m . t * n + m.x * ex + m.y * ey
    have ex : m.x * (p.x * d - t.x * n) + m.y * (p.y * d - t.y * n) ≥ -(1414 * d) := by
      generalize p.x * d - t.x * n = e at *
      generalize p.y * d - t.y * n = f at *
      have g : ∀ w v : Int, -d ≤ v → v ≤ d → (0 ≤ w → -(w * d) ≤ w * v) ∧ (w ≤ 0 → w * d ≤ w * v) := by
        intro w v v1 v2
        refine ⟨fun hw => ?_, fun hw => ?_⟩
        · have := Int.mul_le_mul_of_nonneg_left v1 hw; rw [Int.mul_neg] at this; exact this
        · exact Int.mul_le_mul_of_nonpos_left hw v2
      have g1 := g m.x e (by omega) (by omega)
      have g2 := g m.y f (by omega) (by omega)
      have w1 := mul_le_of z1 hd0
      have w2 := mul_le_of z2 hd0
      have w3 := mul_le_of z3 hd0
      have w4 := mul_le_of z4 hd0
      rw [Int.add_mul] at w1
      rw [Int.sub_mul] at w2
      rw [Int.add_mul, Int.neg_mul] at w3
      rw [Int.sub_mul, Int.neg_mul] at w4
      rcases Int.le_total 0 m.x with hx | hx <;> rcases Int.le_total 0 m.y with hy | hy
      · have := g1.1 hx; have := g2.1 hy; omega
      · have := g1.1 hx; have := g2.2 hy; omega
      · have := g1.2 hx; have := g2.1 hy; omega
      · have := g1.2 hx; have := g2.2 hy; omega
    have e1 : dt m p * d = dt m t * n + (m.x * (p.x * d - t.x * n) + m.y * (p.y * d - t.y * n)) := by simp only [dt]; grind
    have m1 := Int.mul_le_mul_of_nonneg_right hdt (show 0 ≤ n by omega)
    rcases hd with rfl | rfl <;> omega
  simp only [secL, List.mem_append, List.mem_flatMap] at h
  rcases h with (h | h) | ⟨k, hk, h⟩
  · exact key _ lo 1001 d1 (Int.le_refl _) (.inr rfl) h
  · exact key _ lo 1001 d2 (Int.le_refl _) (.inr rfl) h
  · refine key _ hi 998 ?_ hlh (.inl rfl) h
    unfold raysL at hk
    rw [List.mem_range'_1] at hk
    have : k = a ∨ k = a + 1 ∨ k = a + 2 := by omega
    rcases this with rfl | rfl | rfl
    · exact d1
    · exact d3
    · exact d2
theorem near_of {a : Nat} {lo hi : Int} (ha : a < 64) (hlo : 0 ≤ lo) (hlh : lo ≤ hi) {y : Pt} (h : Cov (secL a 2 lo hi) y.q) (hn : 0 < 99 * lo - 300) : (99 * lo - 300) * (99 * lo - 300) ≤ 10000 * (y.x * y.x + y.y * y.y) := by
  have h1 := h (-(100 * (atS (a + 1)).x)) (-(100 * (atS (a + 1)).y)) (-(1001 * (99 * lo - 300))) fun p hp' => by
    have := sec_near ha hlo hlh hp'
    have e : hp (-(100 * (atS (a + 1)).x)) (-(100 * (atS (a + 1)).y)) p = -(100 * dt (atS (a + 1)) p) := by simp only [hp, dt]; grind
    rw [e]; omega
  rw [hq_q] at h1
  have e : hp (-(100 * (atS (a + 1)).x)) (-(100 * (atS (a + 1)).y)) y = -(100 * dt (atS (a + 1)) y) := by simp only [hp, dt]; grind
  rw [e] at h1
  simp only [Pt.q, Int.mul_one] at h1
  have nb2 := nb2_all a ha
  simp only [nb2B, Bool.and_eq_true, decide_eq_true_eq] at nb2
  have rM := nb2.1.1.1.1.1.1.1.1.1.1.1.2
  generalize 99 * lo - 300 = N at *
  generalize atS (a + 1) = m at *
  have sq : ∀ a : Int, 0 ≤ a * a := fun a => by
    rcases Int.le_total 0 a with h | h
    · exact Int.mul_nonneg h h
    · have := Int.mul_nonneg (show 0 ≤ -a by omega) (show 0 ≤ -a by omega); rw [Int.neg_mul_neg] at this; exact this
  have m1 := Int.mul_le_mul (show 1001 * N ≤ 100 * dt m y by omega) (show 1001 * N ≤ 100 * dt m y by omega) (by omega) (by omega)
  -- (m . y)^2 <= |m|^2 |y|^2
  have cs : dt m y * dt m y + cr m y * cr m y = dt m m * (y.x * y.x + y.y * y.y) := by simp only [dt, cr]; grind
  have c0 := sq (cr m y)
  have hy0 : 0 ≤ y.x * y.x + y.y * y.y := Int.add_nonneg (sq _) (sq _)
  have m2 := Int.mul_le_mul_of_nonneg_right rM hy0
  have e1 : 1001 * N * (1001 * N) = 1002001 * (N * N) := by grind
  have e2 : 100 * dt m y * (100 * dt m y) = 10000 * (dt m y * dt m y) := by grind
  omega
end Go.Proofs.YtnhdnkeiijiiaaaGreat
namespace Go.Proofs.YtnhdnkeiijiiaaaGreat
set_option linter.unusedVariables false
set_option linter.unusedSimpArgs false
/-- the polygon around points, if there are any -/
def polyIf (P : List Pt) : List (List Pt) := if P = [] then [] else [aroundS P]
def cutPolys (rs : List (List Pt)) (h : Hf) : List (List Pt) := rs.flatMap fun r => polyIf (cutPts r h)
def regCutS (rs : List (List Pt)) (h : Hf) : List (List Pt) := tidiedS (cutPolys rs h)
def meetRow (r : List Pt) (ys : List (List Pt)) : List (List Pt) := ys.flatMap fun s => polyIf (sharedS r s)
def meetPolys (xs ys : List (List Pt)) : List (List Pt) := xs.flatMap fun r => meetRow r ys
def regMeetS (xs ys : List (List Pt)) : List (List Pt) := tidiedS (meetPolys xs ys)
theorem polyIf_len (P : List Pt) : (polyIf P).length ≤ 1 := by unfold polyIf; split <;> simp
theorem flat_len2 {α β : Type} (f : α → List β) (k : Nat) (h : ∀ a, (f a).length ≤ k) : ∀ l : List α, (l.flatMap f).length ≤ k * l.length
  | [] => by simp
  | a :: l => by
    have := flat_len2 f k h l
    have := h a
    rw [List.flatMap_cons, List.length_append, List.length_cons, Nat.mul_add]
    omega
theorem cutPolys_len (rs : List (List Pt)) (h : Hf) : (cutPolys rs h).length ≤ rs.length := by
  have := flat_len2 (fun r => polyIf (cutPts r h)) 1 (fun r => polyIf_len _) rs
  unfold cutPolys; omega
theorem meetRow_len (r : List Pt) (ys : List (List Pt)) : (meetRow r ys).length ≤ ys.length := by
  have := flat_len2 (fun s => polyIf (sharedS r s)) 1 (fun r => polyIf_len _) ys
  unfold meetRow; omega
theorem meetPolys_len (xs ys : List (List Pt)) : (meetPolys xs ys).length ≤ ys.length * xs.length := flat_len2 (fun r => meetRow r ys) ys.length (fun r => meetRow_len r ys) xs
theorem polyIf_gd {P : List Pt} (hp : ∀ p ∈ P, plB p = true) {r : List Pt} (h : r ∈ polyIf P) : Gd P r := by
  unfold polyIf at h
  split at h
  · simp at h
  · rename_i hne
    rw [List.mem_singleton] at h
    subst h
    exact around_gd _ _ (Nat.le_refl _) hne hp
theorem polyIf_mem {P : List Pt} (hne : P ≠ []) : aroundS P ∈ polyIf P := by unfold polyIf; rw [if_neg hne]; exact List.mem_singleton.2 rfl
theorem cov_ne {P : List Pt} {z : Qp} (hz : 0 < z.W) (h : Cov P z) : P ≠ [] := by
  rintro rfl
  have := h 0 0 (-1) (fun p hp => by simp at hp)
  simp [hq] at this
  omega
theorem valid_pl {p : List Pt} (hv : validB p = true) : ∀ c ∈ p, InBox ⟨-500000, -500000⟩ ⟨500000, 500000⟩ c := fun c hc => pl_box.1 (pl_of_valid hv c hc)
theorem cut_gd {p : List Pt} (hv : validB p = true) {h : Hf} {r : List Pt} (hr : r ∈ polyIf (cutPts p h)) : Gd (cutPts p h) r :=
  polyIf_gd (fun q hq => pl_box.2 (cut_box (valid_pl hv) hq)) hr
theorem meet_gd {p q : List Pt} (hv : validB p = true) {r : List Pt} (hr : r ∈ polyIf (sharedS p q)) : Gd (sharedS p q) r :=
  polyIf_gd (fun s hs => pl_box.2 (shared_box hv (valid_pl hv) hs)) hr
theorem cutPolys_valid {rs : List (List Pt)} (hv : ∀ r ∈ rs, validB r = true) (h : Hf) : ∀ r ∈ cutPolys rs h, validB r = true := fun r hr => by
  obtain ⟨p, hp, hr⟩ := List.mem_flatMap.1 hr
  exact (cut_gd (hv p hp) hr).valid
theorem meetPolys_valid {xs ys : List (List Pt)} (hv : ∀ r ∈ xs, validB r = true) : ∀ r ∈ meetPolys xs ys, validB r = true := fun r hr => by
  obtain ⟨p, hp, hr⟩ := List.mem_flatMap.1 hr
  obtain ⟨q, hq, hr⟩ := List.mem_flatMap.1 hr
  exact (meet_gd (hv p hp) hr).valid
/-- a region has a place -/
def Has (rs : List (List Pt)) (z : Qp) : Prop := ∃ r ∈ rs, Cov r z
theorem tidied_Has {l : List (List Pt)} (hv : ∀ p ∈ l, validB p = true) {z : Qp} (h : Has l z) : Has (tidiedS l) z := by
  obtain ⟨r, hr, hc⟩ := h
  obtain ⟨s, hs, k⟩ := tidied_has hv hr
  exact ⟨s, hs, k z hc⟩
theorem regCut_Has {rs : List (List Pt)} (hv : ∀ r ∈ rs, validB r = true) {h : Hf} {z : Qp} (hz : 0 < z.W) (hh : Has rs z) (ho : overQ h z ≤ 0) : Has (regCutS rs h) z := by
  obtain ⟨r, hr, hc⟩ := hh
  have hk := cut_cov (hv r hr) hz hc ho
  have hm := polyIf_mem (cov_ne hz hk)
  exact tidied_Has (cutPolys_valid hv h) ⟨_, List.mem_flatMap.2 ⟨r, hr, hm⟩, (cut_gd (hv r hr) hm).covers hk⟩
theorem regMeet_Has {xs ys : List (List Pt)} (hx : ∀ r ∈ xs, validB r = true) (hy : ∀ r ∈ ys, validB r = true) {z : Qp} (hz : 0 < z.W) (h1 : Has xs z) (h2 : Has ys z) : Has (regMeetS xs ys) z := by
  obtain ⟨p, hp, hc⟩ := h1
  obtain ⟨q, hq, hd⟩ := h2
  have hk := meet_cov (hx p hp) (hy q hq) hz hc hd
  have hm := polyIf_mem (cov_ne hz hk)
  exact tidied_Has (meetPolys_valid hx) ⟨_, List.mem_flatMap.2 ⟨p, hp, List.mem_flatMap.2 ⟨q, hq, hm⟩⟩, (meet_gd (hx p hp) hm).covers hk⟩
theorem regMeet_box {xs ys : List (List Pt)} (hx : ∀ r ∈ xs, validB r = true) {lo hi : Pt} (hb : ∀ p ∈ xs, ∀ c ∈ p, InBox lo hi c) : ∀ p ∈ regMeetS xs ys, ∀ c ∈ p, InBox lo hi c :=
  tidied_box (meetPolys_valid hx) fun r hr => by
    obtain ⟨p, hp, hr⟩ := List.mem_flatMap.1 hr
    obtain ⟨q, hq, hr⟩ := List.mem_flatMap.1 hr
    exact (meet_gd (hx p hp) hr).box lo hi fun c hc => shared_box (hx p hp) (hb p hp) hc
theorem regCut_valid {rs : List (List Pt)} (hv : ∀ r ∈ rs, validB r = true) (h : Hf) : ∀ r ∈ regCutS rs h, validB r = true := tidied_valid (cutPolys_valid hv h)
theorem regMeet_valid {xs ys : List (List Pt)} (hv : ∀ r ∈ xs, validB r = true) : ∀ r ∈ regMeetS xs ys, validB r = true := tidied_valid (meetPolys_valid hv)
theorem cutPolys_take {rs : List (List Pt)} {k : Nat} {r : List Pt} (h : rs[k]? = some r) (g : Hf) : cutPolys (rs.take (k + 1)) g = cutPolys (rs.take k) g ++ polyIf (cutPts r g) := by
  unfold cutPolys
  rw [List.take_add_one, h]
  simp
end Go.Proofs.YtnhdnkeiijiiaaaGreat
