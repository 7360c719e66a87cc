import Derived.Test.YthkjejikhlcmfaaT7
import Derived.BigRegion
import Derived.BigQuiet
import Derived.Deep.QuietTactic
import Derived.Deep.DeepCutAuto
namespace Go.Proofs.Ythkjejikhlcmfaa
open Go.RowKit
set_option linter.unusedSimpArgs false
set_option linter.unusedVariables false

/-- a row stored at a place -/
abbrev set6 (w : World) (g o : Nat) (r : Rw) : World := (((((w.setCell ⟨g, o, none⟩ (.int .i64 r.lo)).setCell ⟨g, o + 1, none⟩ (.int .i64 r.hi)).setCell ⟨g, o + 2, none⟩ (.int .i64 r.age)).setCell ⟨g, o + 3, none⟩ (.int .i64 r.since)).setCell ⟨g, o + 4, none⟩ (.int .i64 r.part)).setCell ⟨g, o + 5, none⟩ (.int .i64 r.turn)
theorem sc_ne (W : World) (g i j : Nat) (v : Value) (h : i ≠ j) : (W.setCell ⟨g, i, none⟩ v).cell? ⟨g, j, none⟩ = W.cell? ⟨g, j, none⟩ := World.cell?_setCell_other _ _ _ _ (by intro e; exact h (by injection e))
theorem set6_other (w : World) (g o o' : Nat) (r : Rw) (h : ∀ k, k < 6 → o + k ≠ o') : (set6 w g o r).cell? ⟨g, o', none⟩ = w.cell? ⟨g, o', none⟩ := by
  unfold set6
  rw [sc_ne _ _ _ _ _ (h 5 (by omega)), sc_ne _ _ _ _ _ (h 4 (by omega)), sc_ne _ _ _ _ _ (h 3 (by omega)), sc_ne _ _ _ _ _ (h 2 (by omega)), sc_ne _ _ _ _ _ (h 1 (by omega)), sc_ne _ _ _ _ _ (by simpa using h 0 (by omega))]
theorem set6_same {w : World} {g o : Nat} {r r' : Rw} (h : RowAt w g o r') : RowAt (set6 w g o r) g o r := by
  obtain ⟨h0, h1, h2, h3, h4, h5⟩ := h
  unfold set6
  refine ⟨?_, ?_, ?_, ?_, ?_, ?_⟩
  · rw [sc_ne _ _ _ _ _ (by omega), sc_ne _ _ _ _ _ (by omega), sc_ne _ _ _ _ _ (by omega), sc_ne _ _ _ _ _ (by omega), sc_ne _ _ _ _ _ (by omega)]; exact World.cell?_setCell_same _ _ _ h0
  · rw [sc_ne _ _ _ _ _ (by omega), sc_ne _ _ _ _ _ (by omega), sc_ne _ _ _ _ _ (by omega), sc_ne _ _ _ _ _ (by omega)]; exact World.cell?_setCell_same _ _ _ (u := .int .i64 r'.hi) (by rw [sc_ne _ _ _ _ _ (by omega)]; exact h1)
  · rw [sc_ne _ _ _ _ _ (by omega), sc_ne _ _ _ _ _ (by omega), sc_ne _ _ _ _ _ (by omega)]; exact World.cell?_setCell_same _ _ _ (u := .int .i64 r'.age) (by rw [sc_ne _ _ _ _ _ (by omega), sc_ne _ _ _ _ _ (by omega)]; exact h2)
  · rw [sc_ne _ _ _ _ _ (by omega), sc_ne _ _ _ _ _ (by omega)]; exact World.cell?_setCell_same _ _ _ (u := .int .i64 r'.since) (by rw [sc_ne _ _ _ _ _ (by omega), sc_ne _ _ _ _ _ (by omega), sc_ne _ _ _ _ _ (by omega)]; exact h3)
  · rw [sc_ne _ _ _ _ _ (by omega)]; exact World.cell?_setCell_same _ _ _ (u := .int .i64 r'.part) (by rw [sc_ne _ _ _ _ _ (by omega), sc_ne _ _ _ _ _ (by omega), sc_ne _ _ _ _ _ (by omega), sc_ne _ _ _ _ _ (by omega)]; exact h4)
  · exact World.cell?_setCell_same _ _ _ (u := .int .i64 r'.turn) (by rw [sc_ne _ _ _ _ _ (by omega), sc_ne _ _ _ _ _ (by omega), sc_ne _ _ _ _ _ (by omega), sc_ne _ _ _ _ _ (by omega), sc_ne _ _ _ _ _ (by omega)]; exact h5)
theorem Rows?.drew {w : World} {A : Option Addr} {xs : List Rw} (h : Rows? w A xs) : Rows? w.drew A xs := h
theorem rowAt_other {w w' : World} {g o : Nat} {r : Rw} (h : RowAt w g o r) (hk : ∀ k, k < 6 → w'.cell? ⟨g, o + k, none⟩ = w.cell? ⟨g, o + k, none⟩) : RowAt w' g o r :=
  rowAt_iff.2 fun k hk' => (hk k hk').trans (rowAt_iff.1 h k hk')
theorem swap_get (r1 r2 : Rw) (suf : List Rw) : ∀ (pre : List Rw) (i : Nat), (pre ++ r2 :: r1 :: suf)[i]? = if i = pre.length then some r2 else if i = pre.length + 1 then some r1 else (pre ++ r1 :: r2 :: suf)[i]?
  | [], 0 => by simp
  | [], 1 => by simp
  | [], i + 2 => by simp
  | p :: pre, 0 => by simp
  | p :: pre, i + 1 => by
    have := swap_get r1 r2 suf pre i
    simpa using this
theorem swap_find (p : Rw → Bool) (pre suf : List Rw) (r1 r2 : Rw) (h : ¬ (p r1 = true ∧ p r2 = true)) : (pre ++ r1 :: r2 :: suf).find? p = (pre ++ r2 :: r1 :: suf).find? p := by
  rw [List.find?_append, List.find?_append]
  congr 1
  simp only [List.find?_cons]
  cases h1 : p r1 <;> cases h2 : p r2 <;> simp_all
theorem swap_valid (pre suf : List Rw) (r1 r2 : Rw) : validB (pre ++ r2 :: r1 :: suf) = validB (pre ++ r1 :: r2 :: suf) := by
  simp only [validB, List.length_append, List.length_cons, List.all_append, List.all_cons]
  congr 2
  rw [← Bool.and_assoc, ← Bool.and_assoc, Bool.and_comm r2.ok r1.ok]
theorem swap_rows {w : World} {g j : Nat} {pre suf : List Rw} {r1 r2 : Rw} (hj : pre.length = j) (h : ∀ i r, (pre ++ r1 :: r2 :: suf)[i]? = some r → RowAt w g (i * 6) r) :
    Rows? (set6 (set6 w g (j * 6) r2) g ((1 + j) * 6) r1) (some ⟨g, 0, none⟩) (pre ++ r2 :: r1 :: suf) := fun _ => ⟨g, 0, rfl, fun i r hr => by
  have e1 : RowAt w g (j * 6) r1 := h j r1 (by subst hj; simp)
  have e2 : RowAt w g ((1 + j) * 6) r2 := by
    have := h (j + 1) r2 (by subst hj; simp)
    rwa [show (j + 1) * 6 = (1 + j) * 6 by omega] at this
  rw [swap_get, hj] at hr
  rw [show 0 + i * 6 = i * 6 by omega]
  have a1 : RowAt (set6 w g (j * 6) r2) g (j * 6) r2 := set6_same e1
  have a2 : RowAt (set6 w g (j * 6) r2) g ((1 + j) * 6) r2 := rowAt_other e2 fun k hk => set6_other _ _ _ _ _ (by omega)
  split at hr
  · rename_i he; subst he; cases hr
    exact rowAt_other a1 fun k hk => set6_other _ _ _ _ _ (by omega)
  · split at hr
    · rename_i he; subst he; cases hr
      rw [show (j + 1) * 6 = (1 + j) * 6 by omega]
      exact set6_same a2
    · exact rowAt_other (h i r hr) fun k hk => (set6_other _ _ _ _ _ (by omega)).trans (set6_other _ _ _ _ _ (by omega))⟩

theorem bdz (z : World) (n : Nat) : Below z.heap.size z (z.drewN n) := ⟨rfl, rfl, rfl, Nat.le_refl _, fun _ _ => rfl⟩
set_option maxHeartbeats 400000 in
set_option maxRecDepth 100000 in
theorem order_meet (temp a s q : Int) (b off n c j : Nat) (xs pre suf : List Rw) (w : World) (hn : xs.length = n) (hnc : n ≤ c) (hx : Rows? w (some ⟨b, off, none⟩) xs) (hq0 : 0 ≤ q) (hq1 : q ≤ 255) (hj : q % ((n : Int) - 1) = (j : Int)) (hj2 : j + 1 < n) (hn50 : n ≤ 50)
    (h : (validB xs && useB temp a s) = true) (r1 r2 : Rw) (ex : xs = pre ++ r1 :: r2 :: suf) (hp : pre.length = j) (hap : r1.lo ≤ r2.hi) (hap2 : r2.lo ≤ r1.hi) :
    Calls Try.prog 9 #[.slice (some ⟨b, off, none⟩) n c, .int .u8 q, .int .i64 temp, .int .i64 a, .int .i64 s] w fun e w' => e = .returned (.bool true) ∧ Below w.heap.size w w' := by
  have e1 : xs[j]? = some r1 := by subst ex hp; simp
  have e2 : xs[j + 1]? = some r2 := by subst ex hp; simp
  have HEX := Lib.hid ex
  have HP := Lib.hid hp
  have u := fun W h => usable_any temp a s (some ⟨b, off, none⟩) n c xs W hn (by omega) h
  rw [h] at u
  have HU := Lib.hid u
  have HX := Lib.hid hx
  have HN := Lib.hid hn
  have HH := Lib.hid h
  have HE1 := Lib.hid e1
  have HE2 := Lib.hid e2
  have hn2 : (2 : Int) ≤ (n : Int) := by omega
  clear u hx hn h e1 e2 ex hp
  go_enter Try.func9, Try.ntmps9
  go_wp2_with fail
  refine (head_any _).mono ?_
  rintro e w1 ⟨rfl, hb1⟩
  have hz1 := hb1.size
  have HX1 := Lib.hid (HX.out.below hb1)
  go_wp2_with fail
  refine (HU.out _ HX1.out).mono ?_
  rintro e w2 ⟨rfl, hb2⟩
  have hB2 : Below w.heap.size w w2 := below_after hb1 hb2
  have hz2 := hB2.size
  have ha2 : Below w.heap.size w (w2.alloc (.cells #[] 32)) := hB2.alloc hz2 _
  have HX2 := Lib.hid (HX.out.below ha2)
  have HO := Lib.hid (own_empty w2 w.heap.size hz2)
  clear hb1 hb2
  go_wp2_with (at_builtin; go_must (refine wpList_append_rows _ (by rfl) (.tmp 34) (.tmp 35) (by rfl) w.heap.size _ 0 [] (by rfl) HO.out (some ⟨b, off, none⟩) n c xs (by rfl) (by intro h; cases h) HN.out HX2.out (by omega) (by simp; omega) ?_))
  intro v1 w3 hown1 hg1 hat1
  have hB3 : Below w.heap.size w w3 := ha2.grown hg1 (by simp; omega) (by intro k hk; simp only [Value.ownBlock, Option.some.injEq] at hk; omega)
  have hz3 := hB3.size
  have hcell := fun g h => hown1.cells (g := g) h
  have ho2 := hown1.2
  rcases ho2 with ⟨_, h0⟩ | ⟨g, cap, cur, rfl, hgb, hh, hcap, hcm, hsz, ht⟩
  · omega
  have fz : ∀ k, w3.frozen? ⟨g, k, none⟩ = false := by intro k; simp [World.frozen?, hh]
  have row : ∀ i r, xs[i]? = some r → RowAt w3 g (i * 6) r := by
    intro i r hr
    rw [rowAt_iff]
    intro k hk
    have h2 := flat_at xs i r k hr hk
    have hin : (flat xs)[i * 6 + k]? = some (r.cs[k]'(by rw [cs_len]; exact hk)) := by rw [h2]; exact List.getElem?_eq_getElem _
    have h3 := hcell g rfl _ _ hin
    rw [addP] at h3
    rw [show i * 6 + k = 0 + (i * 6 + k) by omega, h3, ← h2, hin]
  obtain ⟨p0, p1, p2, p3, p4, p5⟩ := row j r1 HE1.out
  have rw2 := row (j + 1) r2 HE2.out
  rw [show (j + 1) * 6 = (1 + j) * 6 by omega] at rw2
  obtain ⟨s0, s1, s2, s3, s4, s5⟩ := rw2
  have i1 : (0 : Int) ≤ 1 + (j : Int) := by omega
  have i2 : 1 + (j : Int) < (n : Int) := by omega
  have i3 : (0 : Int) ≤ (j : Int) := by omega
  have i4 : (j : Int) < (n : Int) := by omega
  have hgl := World.block_lt_of_cell? _ _ p0
  simp only at hgl
  have HR := Lib.hid row
  have HFZ := Lib.hid fz
  clear hcell ht hsz hh hown1 hg1 hat1 row
  go_wp2_with fail
  go_region
  change Exit.then _ _ Exit.normal _ (set6 (set6 w3 g (j * 6) r2) g ((1 + j) * 6) r1).drew
  have hB4 : Below w.heap.size w (set6 (set6 w3 g (j * 6) r2) g ((1 + j) * 6) r1).drew := by unfold set6; go_grown
  have hR4 := (swap_rows (w := w3) (g := g) HP.out (by have := HR.out; rw [HEX.out] at this; exact this)).drew
  have HR4 := Lib.hid hR4
  clear hR4
  generalize (set6 (set6 w3 g (j * 6) r2) g ((1 + j) * 6) r1).drew = z at *
  have hx4 := HX.out.below hB4
  have hz4 := hB4.size
  have HX4 := Lib.hid hx4
  obtain ⟨b', off', hbo, hc⟩ := hx4 (by rw [HN.out]; omega)
  cases hbo
  obtain ⟨t0, t1, t2, t3, t4, t5⟩ := hc j r1 HE1.out
  have hc2 := hc (j + 1) r2 HE2.out
  rw [show (j + 1) * 6 = (1 + j) * 6 by omega] at hc2
  obtain ⟨u0, u1, u2, u3, u4, u5⟩ := hc2
  clear hc fz p0 p1 p2 p3 p4 p5 s0 s1 s2 s3 s4 s5
  go_wp2_with fail
  go_quiet (fail)
  go_wp2_with fail
  go_ret
  exact ⟨rfl, bdn (by assumption) _⟩

set_option maxHeartbeats 400000 in
set_option maxRecDepth 100000 in
theorem order_apart1 (temp a s q : Int) (b off n c j : Nat) (xs pre suf : List Rw) (w : World) (hn : xs.length = n) (hnc : n ≤ c) (hx : Rows? w (some ⟨b, off, none⟩) xs) (hq0 : 0 ≤ q) (hq1 : q ≤ 255) (hj : q % ((n : Int) - 1) = (j : Int)) (hj2 : j + 1 < n) (hn50 : n ≤ 50)
    (h : (validB xs && useB temp a s) = true) (r1 r2 : Rw) (ex : xs = pre ++ r1 :: r2 :: suf) (hp : pre.length = j) (hap : ¬ r1.lo ≤ r2.hi) :
    Calls Try.prog 9 #[.slice (some ⟨b, off, none⟩) n c, .int .u8 q, .int .i64 temp, .int .i64 a, .int .i64 s] w fun e w' => e = .returned (.bool true) ∧ Below w.heap.size w w' := by
  have e1 : xs[j]? = some r1 := by subst ex hp; simp
  have e2 : xs[j + 1]? = some r2 := by subst ex hp; simp
  have HEX := Lib.hid ex
  have HP := Lib.hid hp
  have u := fun W h => usable_any temp a s (some ⟨b, off, none⟩) n c xs W hn (by omega) h
  rw [h] at u
  have HU := Lib.hid u
  have HX := Lib.hid hx
  have HN := Lib.hid hn
  have HH := Lib.hid h
  have HE1 := Lib.hid e1
  have HE2 := Lib.hid e2
  have sm := fun g cap W h1 h2 => same_any temp a s (some ⟨b, off, none⟩) n c xs (some ⟨g, 0, none⟩) n cap (pre ++ r2 :: r1 :: suf) W hn (by omega) h1 (by rw [← hn, ex]; simp) (by omega) h2 (by
    have hv := swap_valid pre suf r1 r2
    rw [← ex, and_left h] at hv
    have hf : xs.find? (Rw.isFor temp a s) = (pre ++ r2 :: r1 :: suf).find? (Rw.isFor temp a s) := by
      rw [ex]; exact swap_find _ pre suf r1 r2 (fun hh => by have a1 := (isFor_iff temp a s r1).1 hh.1; have a2 := (isFor_iff temp a s r2).1 hh.2; omega)
    simp only [findS, and_left h, and_right h, hv, hf]) (and_left h) (and_right h)
  have HS := Lib.hid sm
  clear sm
  have hd1 : decide (r1.lo ≤ r2.hi) = false := by simpa using hap
  have hn2 : (2 : Int) ≤ (n : Int) := by omega
  clear u hx hn h e1 e2 ex hp
  go_enter Try.func9, Try.ntmps9
  go_wp2_with fail
  refine (head_any _).mono ?_
  rintro e w1 ⟨rfl, hb1⟩
  have hz1 := hb1.size
  have HX1 := Lib.hid (HX.out.below hb1)
  go_wp2_with fail
  refine (HU.out _ HX1.out).mono ?_
  rintro e w2 ⟨rfl, hb2⟩
  have hB2 : Below w.heap.size w w2 := below_after hb1 hb2
  have hz2 := hB2.size
  have ha2 : Below w.heap.size w (w2.alloc (.cells #[] 32)) := hB2.alloc hz2 _
  have HX2 := Lib.hid (HX.out.below ha2)
  have HO := Lib.hid (own_empty w2 w.heap.size hz2)
  clear hb1 hb2
  go_wp2_with (at_builtin; go_must (refine wpList_append_rows _ (by rfl) (.tmp 34) (.tmp 35) (by rfl) w.heap.size _ 0 [] (by rfl) HO.out (some ⟨b, off, none⟩) n c xs (by rfl) (by intro h; cases h) HN.out HX2.out (by omega) (by simp; omega) ?_))
  intro v1 w3 hown1 hg1 hat1
  have hB3 : Below w.heap.size w w3 := ha2.grown hg1 (by simp; omega) (by intro k hk; simp only [Value.ownBlock, Option.some.injEq] at hk; omega)
  have hz3 := hB3.size
  have hcell := fun g h => hown1.cells (g := g) h
  have ho2 := hown1.2
  rcases ho2 with ⟨_, h0⟩ | ⟨g, cap, cur, rfl, hgb, hh, hcap, hcm, hsz, ht⟩
  · omega
  have fz : ∀ k, w3.frozen? ⟨g, k, none⟩ = false := by intro k; simp [World.frozen?, hh]
  have row : ∀ i r, xs[i]? = some r → RowAt w3 g (i * 6) r := by
    intro i r hr
    rw [rowAt_iff]
    intro k hk
    have h2 := flat_at xs i r k hr hk
    have hin : (flat xs)[i * 6 + k]? = some (r.cs[k]'(by rw [cs_len]; exact hk)) := by rw [h2]; exact List.getElem?_eq_getElem _
    have h3 := hcell g rfl _ _ hin
    rw [addP] at h3
    rw [show i * 6 + k = 0 + (i * 6 + k) by omega, h3, ← h2, hin]
  obtain ⟨p0, p1, p2, p3, p4, p5⟩ := row j r1 HE1.out
  have rw2 := row (j + 1) r2 HE2.out
  rw [show (j + 1) * 6 = (1 + j) * 6 by omega] at rw2
  obtain ⟨s0, s1, s2, s3, s4, s5⟩ := rw2
  have i1 : (0 : Int) ≤ 1 + (j : Int) := by omega
  have i2 : 1 + (j : Int) < (n : Int) := by omega
  have i3 : (0 : Int) ≤ (j : Int) := by omega
  have i4 : (j : Int) < (n : Int) := by omega
  have hgl := World.block_lt_of_cell? _ _ p0
  simp only at hgl
  have HR := Lib.hid row
  have HFZ := Lib.hid fz
  clear hcell ht hsz hh hown1 hg1 hat1 row
  go_wp2_with fail
  go_region
  change Exit.then _ _ Exit.normal _ (set6 (set6 w3 g (j * 6) r2) g ((1 + j) * 6) r1).drew
  have hB4 : Below w.heap.size w (set6 (set6 w3 g (j * 6) r2) g ((1 + j) * 6) r1).drew := by unfold set6; go_grown
  have hR4 := (swap_rows (w := w3) (g := g) HP.out (by have := HR.out; rw [HEX.out] at this; exact this)).drew
  have HR4 := Lib.hid hR4
  clear hR4
  generalize (set6 (set6 w3 g (j * 6) r2) g ((1 + j) * 6) r1).drew = z at *
  have hx4 := HX.out.below hB4
  have hz4 := hB4.size
  have HX4 := Lib.hid hx4
  obtain ⟨b', off', hbo, hc⟩ := hx4 (by rw [HN.out]; omega)
  cases hbo
  obtain ⟨t0, t1, t2, t3, t4, t5⟩ := hc j r1 HE1.out
  have hc2 := hc (j + 1) r2 HE2.out
  rw [show (j + 1) * 6 = (1 + j) * 6 by omega] at hc2
  obtain ⟨u0, u1, u2, u3, u4, u5⟩ := hc2
  clear hc fz p0 p1 p2 p3 p4 p5 s0 s1 s2 s3 s4 s5
  go_wp2_with fail
  go_quiet (fail)
  go_wp2_with fail
  refine (HS.out _ _ _ (HX4.out.below (bdz _ _)) (HR4.out.below (bdz _ _))).mono ?_
  rintro e w5 ⟨rfl, hb5⟩
  have hB5 : Below w.heap.size w w5 := below_after (bdn (by assumption) _) hb5
  clear hb5
  go_wp2_with fail
  go_ret
  exact ⟨rfl, by assumption⟩

set_option maxHeartbeats 400000 in
set_option maxRecDepth 100000 in
theorem order_apart2 (temp a s q : Int) (b off n c j : Nat) (xs pre suf : List Rw) (w : World) (hn : xs.length = n) (hnc : n ≤ c) (hx : Rows? w (some ⟨b, off, none⟩) xs) (hq0 : 0 ≤ q) (hq1 : q ≤ 255) (hj : q % ((n : Int) - 1) = (j : Int)) (hj2 : j + 1 < n) (hn50 : n ≤ 50)
    (h : (validB xs && useB temp a s) = true) (r1 r2 : Rw) (ex : xs = pre ++ r1 :: r2 :: suf) (hp : pre.length = j) (hap : r1.lo ≤ r2.hi) (hap2 : ¬ r2.lo ≤ r1.hi) :
    Calls Try.prog 9 #[.slice (some ⟨b, off, none⟩) n c, .int .u8 q, .int .i64 temp, .int .i64 a, .int .i64 s] w fun e w' => e = .returned (.bool true) ∧ Below w.heap.size w w' := by
  have e1 : xs[j]? = some r1 := by subst ex hp; simp
  have e2 : xs[j + 1]? = some r2 := by subst ex hp; simp
  have HEX := Lib.hid ex
  have HP := Lib.hid hp
  have u := fun W h => usable_any temp a s (some ⟨b, off, none⟩) n c xs W hn (by omega) h
  rw [h] at u
  have HU := Lib.hid u
  have HX := Lib.hid hx
  have HN := Lib.hid hn
  have HH := Lib.hid h
  have HE1 := Lib.hid e1
  have HE2 := Lib.hid e2
  have sm := fun g cap W h1 h2 => same_any temp a s (some ⟨b, off, none⟩) n c xs (some ⟨g, 0, none⟩) n cap (pre ++ r2 :: r1 :: suf) W hn (by omega) h1 (by rw [← hn, ex]; simp) (by omega) h2 (by
    have hv := swap_valid pre suf r1 r2
    rw [← ex, and_left h] at hv
    have hf : xs.find? (Rw.isFor temp a s) = (pre ++ r2 :: r1 :: suf).find? (Rw.isFor temp a s) := by
      rw [ex]; exact swap_find _ pre suf r1 r2 (fun hh => by have a1 := (isFor_iff temp a s r1).1 hh.1; have a2 := (isFor_iff temp a s r2).1 hh.2; omega)
    simp only [findS, and_left h, and_right h, hv, hf]) (and_left h) (and_right h)
  have HS := Lib.hid sm
  clear sm
  have hd1 : decide (r2.lo ≤ r1.hi) = false := by simpa using hap2
  have hn2 : (2 : Int) ≤ (n : Int) := by omega
  clear u hx hn h e1 e2 ex hp
  go_enter Try.func9, Try.ntmps9
  go_wp2_with fail
  refine (head_any _).mono ?_
  rintro e w1 ⟨rfl, hb1⟩
  have hz1 := hb1.size
  have HX1 := Lib.hid (HX.out.below hb1)
  go_wp2_with fail
  refine (HU.out _ HX1.out).mono ?_
  rintro e w2 ⟨rfl, hb2⟩
  have hB2 : Below w.heap.size w w2 := below_after hb1 hb2
  have hz2 := hB2.size
  have ha2 : Below w.heap.size w (w2.alloc (.cells #[] 32)) := hB2.alloc hz2 _
  have HX2 := Lib.hid (HX.out.below ha2)
  have HO := Lib.hid (own_empty w2 w.heap.size hz2)
  clear hb1 hb2
  go_wp2_with (at_builtin; go_must (refine wpList_append_rows _ (by rfl) (.tmp 34) (.tmp 35) (by rfl) w.heap.size _ 0 [] (by rfl) HO.out (some ⟨b, off, none⟩) n c xs (by rfl) (by intro h; cases h) HN.out HX2.out (by omega) (by simp; omega) ?_))
  intro v1 w3 hown1 hg1 hat1
  have hB3 : Below w.heap.size w w3 := ha2.grown hg1 (by simp; omega) (by intro k hk; simp only [Value.ownBlock, Option.some.injEq] at hk; omega)
  have hz3 := hB3.size
  have hcell := fun g h => hown1.cells (g := g) h
  have ho2 := hown1.2
  rcases ho2 with ⟨_, h0⟩ | ⟨g, cap, cur, rfl, hgb, hh, hcap, hcm, hsz, ht⟩
  · omega
  have fz : ∀ k, w3.frozen? ⟨g, k, none⟩ = false := by intro k; simp [World.frozen?, hh]
  have row : ∀ i r, xs[i]? = some r → RowAt w3 g (i * 6) r := by
    intro i r hr
    rw [rowAt_iff]
    intro k hk
    have h2 := flat_at xs i r k hr hk
    have hin : (flat xs)[i * 6 + k]? = some (r.cs[k]'(by rw [cs_len]; exact hk)) := by rw [h2]; exact List.getElem?_eq_getElem _
    have h3 := hcell g rfl _ _ hin
    rw [addP] at h3
    rw [show i * 6 + k = 0 + (i * 6 + k) by omega, h3, ← h2, hin]
  obtain ⟨p0, p1, p2, p3, p4, p5⟩ := row j r1 HE1.out
  have rw2 := row (j + 1) r2 HE2.out
  rw [show (j + 1) * 6 = (1 + j) * 6 by omega] at rw2
  obtain ⟨s0, s1, s2, s3, s4, s5⟩ := rw2
  have i1 : (0 : Int) ≤ 1 + (j : Int) := by omega
  have i2 : 1 + (j : Int) < (n : Int) := by omega
  have i3 : (0 : Int) ≤ (j : Int) := by omega
  have i4 : (j : Int) < (n : Int) := by omega
  have hgl := World.block_lt_of_cell? _ _ p0
  simp only at hgl
  have HR := Lib.hid row
  have HFZ := Lib.hid fz
  clear hcell ht hsz hh hown1 hg1 hat1 row
  go_wp2_with fail
  go_region
  change Exit.then _ _ Exit.normal _ (set6 (set6 w3 g (j * 6) r2) g ((1 + j) * 6) r1).drew
  have hB4 : Below w.heap.size w (set6 (set6 w3 g (j * 6) r2) g ((1 + j) * 6) r1).drew := by unfold set6; go_grown
  have hR4 := (swap_rows (w := w3) (g := g) HP.out (by have := HR.out; rw [HEX.out] at this; exact this)).drew
  have HR4 := Lib.hid hR4
  clear hR4
  generalize (set6 (set6 w3 g (j * 6) r2) g ((1 + j) * 6) r1).drew = z at *
  have hx4 := HX.out.below hB4
  have hz4 := hB4.size
  have HX4 := Lib.hid hx4
  obtain ⟨b', off', hbo, hc⟩ := hx4 (by rw [HN.out]; omega)
  cases hbo
  obtain ⟨t0, t1, t2, t3, t4, t5⟩ := hc j r1 HE1.out
  have hc2 := hc (j + 1) r2 HE2.out
  rw [show (j + 1) * 6 = (1 + j) * 6 by omega] at hc2
  obtain ⟨u0, u1, u2, u3, u4, u5⟩ := hc2
  clear hc fz p0 p1 p2 p3 p4 p5 s0 s1 s2 s3 s4 s5
  go_wp2_with fail
  go_quiet (fail)
  go_wp2_with fail
  refine (HS.out _ _ _ (HX4.out.below (bdz _ _)) (HR4.out.below (bdz _ _))).mono ?_
  rintro e w5 ⟨rfl, hb5⟩
  have hB5 : Below w.heap.size w w5 := below_after (bdn (by assumption) _) hb5
  clear hb5
  go_wp2_with fail
  go_ret
  exact ⟨rfl, by assumption⟩

set_option maxHeartbeats 400000 in
set_option maxRecDepth 100000 in
theorem order_un (temp a s q : Int) (A : Option Addr) (n c : Nat) (xs : List Rw) (w : World) (hn : xs.length = n) (hbig : n ≤ 9223372036854775807) (hx : Rows? w A xs) (B : Bool) (hB : (validB xs && useB temp a s) = B) (hs : B = false ∨ (n : Int) < 2) :
    Calls Try.prog 9 #[.slice A n c, .int .u8 q, .int .i64 temp, .int .i64 a, .int .i64 s] w fun e w' => e = .returned (.bool true) ∧ Below w.heap.size w w' := by
  have u := fun W h => usable_any temp a s A n c xs W hn hbig h
  rw [hB] at u
  have HU := Lib.hid u
  have HX := Lib.hid hx
  clear u hx hn hB
  rcases hs with rfl | hs
  · go_enter Try.func9, Try.ntmps9
    go_wp2_with fail
    refine (head_any _).mono ?_
    rintro e w1 ⟨rfl, hb1⟩
    have HX1 := Lib.hid (HX.out.below hb1)
    go_wp2_with fail
    refine (HU.out _ HX1.out).mono ?_
    rintro e w2 ⟨rfl, hb2⟩
    have hB2 : Below w.heap.size w w2 := below_after hb1 hb2
    clear hb1 hb2
    go_wp2_with fail
    go_ret
    exact ⟨rfl, by assumption⟩
  · cases B
    · go_enter Try.func9, Try.ntmps9
      go_wp2_with fail
      refine (head_any _).mono ?_
      rintro e w1 ⟨rfl, hb1⟩
      have HX1 := Lib.hid (HX.out.below hb1)
      go_wp2_with fail
      refine (HU.out _ HX1.out).mono ?_
      rintro e w2 ⟨rfl, hb2⟩
      have hB2 : Below w.heap.size w w2 := below_after hb1 hb2
      clear hb1 hb2
      go_wp2_with fail
      go_ret
      exact ⟨rfl, by assumption⟩
    · go_enter Try.func9, Try.ntmps9
      go_wp2_with fail
      refine (head_any _).mono ?_
      rintro e w1 ⟨rfl, hb1⟩
      have HX1 := Lib.hid (HX.out.below hb1)
      go_wp2_with fail
      refine (HU.out _ HX1.out).mono ?_
      rintro e w2 ⟨rfl, hb2⟩
      have hB2 : Below w.heap.size w w2 := below_after hb1 hb2
      clear hb1 hb2
      go_wp2_with fail
      go_ret
      exact ⟨rfl, by assumption⟩

theorem split2 : ∀ (xs : List Rw) (j : Nat), j + 1 < xs.length → ∃ pre r1 r2 suf, xs = pre ++ r1 :: r2 :: suf ∧ pre.length = j
  | r1 :: r2 :: suf, 0, _ => ⟨[], r1, r2, suf, rfl, rfl⟩
  | r :: xs, j + 1, h => by
    obtain ⟨pre, r1, r2, suf, e, hp⟩ := split2 xs j (by simpa using h)
    exact ⟨r :: pre, r1, r2, suf, by rw [e]; rfl, by simp [hp]⟩
  | [], j, h => by simp at h
  | [r], 0, h => by simp at h
theorem order_walk (temp a s q : Int) (A : Option Addr) (n c : Nat) (xs : List Rw) (w : World) (hn : xs.length = n) (hbig : n ≤ 9223372036854775807) (hnc : n ≤ c) (hx : Rows? w A xs) (hq0 : 0 ≤ q) (hq1 : q ≤ 255) :
    Calls Try.prog 9 #[.slice A n c, .int .u8 q, .int .i64 temp, .int .i64 a, .int .i64 s] w fun e w' => e = .returned (.bool true) ∧ Below w.heap.size w w' := by
  by_cases h2 : (n : Int) < 2
  · exact order_un temp a s q A n c xs w hn hbig hx _ rfl (.inr h2)
  · cases h : (validB xs && useB temp a s)
    · exact order_un temp a s q A n c xs w hn hbig hx _ h (.inl rfl)
    · have hv := and_left h
      have h50 : n ≤ 50 := by simp only [validB, Bool.and_eq_true, decide_eq_true_eq] at hv; omega
      have m1 : 0 ≤ q % ((n : Int) - 1) := Int.emod_nonneg _ (by omega)
      have m2 : q % ((n : Int) - 1) < (n : Int) - 1 := Int.emod_lt_of_pos _ (by omega)
      have hj : q % ((n : Int) - 1) = ((q % ((n : Int) - 1)).toNat : Int) := (Int.toNat_of_nonneg m1).symm
      generalize (q % ((n : Int) - 1)).toNat = j at hj
      obtain ⟨pre, r1, r2, suf, ex, hp⟩ := split2 xs j (by omega)
      obtain ⟨b, off, rfl, _⟩ := hx (by omega)
      by_cases c1 : r1.lo ≤ r2.hi
      · by_cases c2 : r2.lo ≤ r1.hi
        · exact order_meet temp a s q b off n c j xs pre suf w hn hnc hx hq0 hq1 hj (by omega) h50 h r1 r2 ex hp c1 c2
        · exact order_apart2 temp a s q b off n c j xs pre suf w hn hnc hx hq0 hq1 hj (by omega) h50 h r1 r2 ex hp c1 c2
      · exact order_apart1 temp a s q b off n c j xs pre suf w hn hnc hx hq0 hq1 hj (by omega) h50 h r1 r2 ex hp c1
end Go.Proofs.Ythkjejikhlcmfaa
