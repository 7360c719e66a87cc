import Derived.Test.YtnhdnkeiijiiaaaGreatA7
import Derived.RangeFuncNested
import Derived.RangeFuncBound
import Derived.RangeFuncCalls
import Derived.RangeFuncLeaves
import Derived.RangeFuncBox
import Derived.Shelf.Abstract
import Derived.Shelf.RegionOpen
import Derived.WalkKit
import Derived.OwnWalkIn
import Derived.TacticsInMore
import Derived.LoopNIn
import Derived.LoopIn
import Derived.RegionIn
import Derived.Maps.AppendAt
import Derived.Stop.RegionWithIn
import Derived.Sort.CutIn
namespace Go.Proofs.YtnhdnkeiijiiaaaGreat
open Go.RowKit Go.Shelf
set_option linter.unusedSimpArgs false
set_option linter.unusedVariables false
attribute [local go_sem ↓] Go.wp_at_zero Go.wp_at_succ
set_option maxHeartbeats 1600000 in
set_option maxRecDepth 100000 in
theorem Ray_bad (k : Int) (w : World) (h : raysB k 0 = false) :
    Calls Tryz.prog 34 #[.int .i64 k] w fun e w' => e = .returned (.tuple #[Pt.val ⟨0, 0⟩, .int .i64 1]) ∧ Below w.heap.size w w' := by
  have v := fun W => areRays_any k 0 W
  rw [h] at v
  have HV := Lib.hid v
  clear v h
  go_enter Tryz.func34, Tryz.ntmps34
  go_wp2_with fail
  refine (HV.out _).mono ?_
  rintro e w1 ⟨rfl, hb1⟩
  have hB : Below w.heap.size w w1 := below_after (by go_grown) hb1
  have r0 : w1.cell? ⟨w.heap.size, 0, none⟩ = some (.int .i64 0) := kp hb1 (by go_cell)
  have r1 : w1.cell? ⟨w.heap.size, 1, none⟩ = some (.int .i64 0) := kp hb1 (by go_cell)
  have g0 : w1.frozen? ⟨w.heap.size, 0, none⟩ = false := kf hb1 (by go_simp) (by go_simp)
  have g1 : w1.frozen? ⟨w.heap.size, 1, none⟩ = false := kf hb1 (by go_simp) (by go_simp)
  clear hb1
  go_wp2_with fail
  refine ret_span rfl rfl rfl (set2s _ _ (by rw [r0]; rfl) (by rw [r1]; rfl)) ⟨rfl, by go_grown⟩
set_option maxHeartbeats 1600000 in
set_option maxRecDepth 100000 in
theorem Ray_ok (k : Nat) (w : World) (h : k < 64) :
    Calls Tryz.prog 34 #[.int .i64 k] w fun e w' => e = .returned (.tuple #[(atS k).val, .int .i64 0]) ∧ Below w.heap.size w w' := by
  have v := fun W => areRays_any (k : Int) 0 W
  have hr : raysB (k : Int) 0 = true := by simp [raysB]; omega
  rw [hr] at v
  have HV := Lib.hid v
  have HA := Lib.hid (fun W => rat_any k W (by omega))
  clear v hr
  obtain ⟨⟨x, y⟩, hp⟩ : ∃ p, p = atS k := ⟨_, rfl⟩
  rw [← hp] at HA ⊢
  clear hp
  go_enter Tryz.func34, Tryz.ntmps34
  go_wp2_with fail
  refine (HV.out _).mono ?_
  rintro e w1 ⟨rfl, hb1⟩
  have hB : Below w.heap.size w w1 := below_after (by go_grown) hb1
  have r0 : w1.cell? ⟨w.heap.size, 0, none⟩ = some (.int .i64 0) := kp hb1 (by go_cell)
  have r1 : w1.cell? ⟨w.heap.size, 1, none⟩ = some (.int .i64 0) := kp hb1 (by go_cell)
  have g0 : w1.frozen? ⟨w.heap.size, 0, none⟩ = false := kf hb1 (by go_simp) (by go_simp)
  have g1 : w1.frozen? ⟨w.heap.size, 1, none⟩ = false := kf hb1 (by go_simp) (by go_simp)
  clear hb1
  go_wp2_with fail
  refine (HA.out _).mono ?_
  rintro e w2 ⟨rfl, hb2⟩
  have hB2 : Below w.heap.size w w2 := hB.trans (hb2.mono hB.size)
  replace g0 := kf hb2 (by rw [r0]; rfl) g0
  replace g1 := kf hb2 (by rw [r1]; rfl) g1
  replace r0 := kp hb2 r0
  replace r1 := kp hb2 r1
  clear hb2
  go_wp2_with fail
  refine ret_span rfl rfl rfl (set2s _ _ (by rw [r0]; rfl) (by rw [r1]; rfl)) ⟨rfl, by go_grown⟩
end Go.Proofs.YtnhdnkeiijiiaaaGreat
namespace Go.Proofs.YtnhdnkeiijiiaaaGreat
open Go.RowKit Go.Shelf
set_option linter.unusedSimpArgs false
set_option linter.unusedVariables false
attribute [local go_sem ↓] Go.wp_at_zero Go.wp_at_succ
@[go_sem] theorem min3_run (P : Program) (a b c : Int) (w : World) : Sem.run P (Builtin.min_ #[3, 3, 3] 3 #[.int .i64 a, .int .i64 b, .int .i64 c]) w = .ok (.int .i64 (min (min a b) c)) w := by
  unfold Builtin.min_
  simp only [List.foldlM, Sem.run_bind, min2_run, Result.andThen_ok, Sem.run_pure]
@[go_sem] theorem max3_run (P : Program) (a b c : Int) (w : World) : Sem.run P (Builtin.max_ #[3, 3, 3] 3 #[.int .i64 a, .int .i64 b, .int .i64 c]) w = .ok (.int .i64 (max (max a b) c)) w := by
  unfold Builtin.max_
  simp only [List.foldlM, Sem.run_bind, max2_run, Result.andThen_ok, Sem.run_pure]
/-- two points appended to a row of the call's own -/
theorem wpList_append_pt2 {ops : Array Oper} {rest : List Oper} {o : Oper} {a : Act} {Q : Exit → Act → World → Prop} (W1 : World) (hgd : o.guard = none) (s x : Operand)
    (ho : o.op = .call { callee := .builtin .append, args := #[s, x], argTypes := #[39, 39] }) (base : Nat) (v : Value) (xs : List Pt) (X Y Z T : Int) (hs : a.eval s = v) (hown : Own W1 base v xs)
    (hx : a.eval x = .slice (some ⟨W1.heap.size, 0, none⟩) 2 2) (hb : xs.length + 2 ≤ 2000000000000) (hbase : base ≤ W1.heap.size)
    (h : ∀ v' w', Own w' base v' (xs ++ [⟨X, Y⟩, ⟨Z, T⟩]) → Below base W1 w' → W1.heap.size < w'.heap.size → (∀ b, b < W1.heap.size → v.ownBlock ≠ some b → w'.heap[b]? = W1.heap[b]?) → (∀ b, b < W1.heap.size → v.ownBlock ≠ some b → v'.ownBlock ≠ some b) → wpList Tryz.prog ops Q rest (a.put o.dst v') w') :
    wpList Tryz.prog ops Q (o :: rest) a (W1.alloc (.cells #[.int .i64 X, .int .i64 Y, .int .i64 Z, .int .i64 T] 23)) := by
  have hB : Below W1.heap.size W1 (W1.alloc (.cells #[.int .i64 X, .int .i64 Y, .int .i64 Z, .int .i64 T] 23)) := (Below.refl _ W1).alloc (Nat.le_refl _) _
  have hown1 : Own (W1.alloc (.cells #[.int .i64 X, .int .i64 Y, .int .i64 Z, .int .i64 T] 23)) base v xs := hown.kept (World.grownBy_alloc _ _ none) (by cases hv : v.ownBlock <;> simp)
  have hp1 : Pts? (W1.alloc (.cells #[.int .i64 X, .int .i64 Y, .int .i64 Z, .int .i64 T] 23)).heap.size (W1.alloc (.cells #[.int .i64 X, .int .i64 Y, .int .i64 Z, .int .i64 T] 23)) (some ⟨W1.heap.size, 0, none⟩) [⟨X, Y⟩, ⟨Z, T⟩] := fun _ => ⟨W1.heap.size, 0, rfl, by simp, fun i r hr => by
    match i, hr with
    | 0, hr => cases hr; exact ⟨by go_cell, by go_cell⟩
    | 1, hr => cases hr; exact ⟨by go_cell, by go_cell⟩
    | i + 2, hr => simp at hr⟩
  have hlt := fun k e => own_block_lt hown (k := k) e
  refine wpList_append_pts _ hgd s x 39 Tryz.underlying39 ho base v xs hs hown1 (some ⟨W1.heap.size, 0, none⟩) 2 2 [⟨X, Y⟩, ⟨Z, T⟩] hx (fun h => by cases h) rfl hp1 hb (by simp; omega) ?_
  intro v' w' h1 h2 h3
  have hsz := h2.size
  simp only [World.size_alloc] at hsz
  refine h v' w' h1 ?_ (by omega) ?_ ?_
  · exact (hB.mono hbase).grown h2 (by simp; omega) (fun k e => (hlt k e).1)
  · intro b hb1 hne
    rw [h2.block b (by simp; omega) (fun e => hne e.symm)]
    exact Below.heap_alloc _ _ _ hb1
  · intro b hb1 hne
    rcases h3 with h3 | h3
    · rw [h3]; exact hne
    · rw [h3]; simp; omega
theorem eight_take (lx hx ly hy le mo l r : Int) (j : Nat) (hj : j < 2) :
    (eight8 lx hx ly hy le mo l r).take (2 * (j + 1)) = (eight8 lx hx ly hy le mo l r).take (2 * j) ++ [⟨pick lx hx j, max ly (max (le - pick lx hx j) (pick lx hx j - r))⟩, ⟨pick lx hx j, min hy (min (mo - pick lx hx j) (pick lx hx j - l))⟩] ∧
    (eight8 lx hx ly hy le mo l r).take (4 + 2 * (j + 1)) = (eight8 lx hx ly hy le mo l r).take (4 + 2 * j) ++ [⟨max lx (max (le - pick ly hy j) (pick ly hy j + l)), pick ly hy j⟩, ⟨min hx (min (mo - pick ly hy j) (pick ly hy j + r)), pick ly hy j⟩] := by
  match j, hj with
  | 0, _ => simp [eight8, pick, Int.max_assoc, Int.min_assoc]
  | 1, _ => simp [eight8, pick, Int.max_assoc, Int.min_assoc]
theorem pick_or (a b : Int) (j : Nat) : pick a b j = a ∨ pick a b j = b := by
  cases j <;> simp [pick]
set_option maxHeartbeats 1600000 in
set_option maxRecDepth 100000 in
theorem Eight_ok (A : Option Addr) (n c : Nat) (xs : List Pt) (w : World) (hn : xs.length = n) (hx : Pts? w.heap.size w A xs) (hv : validB xs = true) :
    Calls Tryz.prog 80 #[.slice A n c] w fun e w' => ∃ v, e = .returned (.tuple #[v, .int .i64 0]) ∧ Own w' w.heap.size v (eightS xs) ∧ Below w.heap.size w w' := by
  have hl := len_of_valid hv
  have hpl := pl_of_valid hv
  have hI := ok64_of_pl hpl
  have hne : xs ≠ [] := by intro e; rw [e] at hl; simp at hl
  have v1 := fun W (hB : Below w.heap.size w W) => hBox_ok A n c xs W hn (hx.later hB) hI hv
  have v2 := fun W (hB : Below w.heap.size w W) => ends_p (fun q => q.x + q.y) A n c xs W hn (by omega) (by omega) (hx.later hB) (fun p hp W => fn105_any p (nr_of_pl (hpl p hp)) W)
  have v3 := fun W (hB : Below w.heap.size w W) => ends_m (fun q => q.x - q.y) A n c xs W hn (by omega) (by omega) (hx.later hB) (fun p hp W => fn106_any p (nr_of_pl (hpl p hp)) W)
  have hbd := bds_of hne
  have hb8 := eight8_box hbd (lo := ⟨-500000, -500000⟩) (hi := ⟨500000, 500000⟩) (fun c hc => pl_box.1 (hpl c hc))
  have h1 : ∃ p ∈ xs, p.x = minL Pt.x xs := hbd.a1
  obtain ⟨p0, hp0⟩ : ∃ p, p ∈ xs := List.exists_mem_of_ne_nil _ hne
  have hb0 := hbd.all p0 hp0
  have hbx := fun c hc => (plB_iff c).1 (hpl c hc)
  obtain ⟨q1, m1, e1⟩ := hbd.a1
  obtain ⟨q2, m2, e2⟩ := hbd.a2
  obtain ⟨q3, m3, e3⟩ := hbd.a3
  obtain ⟨q4, m4, e4⟩ := hbd.a4
  obtain ⟨q5, m5, e5⟩ := hbd.a5
  obtain ⟨q6, m6, e6⟩ := hbd.a6
  obtain ⟨q7, m7, e7⟩ := hbd.a7
  obtain ⟨q8, m8, e8⟩ := hbd.a8
  have n1 := hbx q1 m1
  have n2 := hbx q2 m2
  have n3 := hbx q3 m3
  have n4 := hbx q4 m4
  have n5 := hbx q5 m5
  have n6 := hbx q6 m6
  have n7 := hbx q7 m7
  have n8 := hbx q8 m8
  have hE : eightS xs = hullS (eightPts xs) := rfl
  have hP : eightPts xs = eight8 (minL Pt.x xs) (maxL Pt.x xs) (minL Pt.y xs) (maxL Pt.y xs) (minL (fun q => q.x + q.y) xs) (maxL (fun q => q.x + q.y) xs) (minL (fun q => q.x - q.y) xs) (maxL (fun q => q.x - q.y) xs) := rfl
  rw [hP] at hE
  have ha : ∀ (W : World) (B : Option Addr) (m d : Nat), m = 8 → Pts? W.heap.size W B (eightPts xs) → Calls Tryz.prog 103 #[.slice B m d] W (RetPts W.heap.size W (eightS xs)) := fun W B m d hm hp => by
    subst hm
    refine around_any B 8 d (eightPts xs) W (eight_len xs) (fun e => by subst e; exact absurd (hp (by simp [eight_len])) (by rintro ⟨b, o, e, _⟩; cases e)) hp (by omega) (by intro e; have := eight_len xs; rw [e] at this; simp at this) (fun p hp => nr_of_pl ?_)
    rw [hP] at hp
    exact pl_box.2 (hb8 p hp)
  rw [hP, hE] at ha
  rw [hE]
  clear hb8 hE hP hbd hx hI hv hbx h1 hb0 hp0 hpl
  generalize minL Pt.x xs = LX at *
  generalize minL Pt.y xs = LY at *
  generalize maxL Pt.x xs = UX at *
  generalize maxL Pt.y xs = UY at *
  generalize minL (fun q => q.x + q.y) xs = LE at *
  generalize maxL (fun q => q.x + q.y) xs = MO at *
  generalize minL (fun q => q.x - q.y) xs = LL at *
  generalize maxL (fun q => q.x - q.y) xs = RR at *
  have b1 : -500000 ≤ LX ∧ LX ≤ 500000 ∧ -500000 ≤ UX ∧ UX ≤ 500000 := by omega
  have b2 : -500000 ≤ LY ∧ LY ≤ 500000 ∧ -500000 ≤ UY ∧ UY ≤ 500000 := by omega
  have b3 : -1000000 ≤ LE ∧ LE ≤ 1000000 ∧ -1000000 ≤ MO ∧ MO ≤ 1000000 := by omega
  have b4 : -1000000 ≤ LL ∧ LL ≤ 1000000 ∧ -1000000 ≤ RR ∧ RR ≤ 1000000 := by omega
  have HT := Lib.hid (eight_take LX UX LY UY LE MO LL RR)
  have HL8 := Lib.hid (show ∀ k, ((eight8 LX UX LY UY LE MO LL RR).take k).length ≤ 8 from fun k => List.length_take_le' _ _)
  have HF := Lib.hid (show (eight8 LX UX LY UY LE MO LL RR).take 8 = eight8 LX UX LY UY LE MO LL RR from rfl)
  have H8 := Lib.hid (show (eight8 LX UX LY UY LE MO LL RR).length = 8 from rfl)
  generalize eight8 LX UX LY UY LE MO LL RR = es at *
  have V1 := Lib.hid v1
  have V2 := Lib.hid v2
  have V3 := Lib.hid v3
  have HA := Lib.hid ha
  clear v1 v2 v3 ha n1 n2 n3 n4 n5 n6 n7 n8 e1 e2 e3 e4 e5 e6 e7 e8 m1 m2 m3 m4 m5 m6 m7 m8 q1 q2 q3 q4 q5 q6 q7 q8 hne hn hl p0
  go_enter Tryz.func80, Tryz.ntmps80
  go_wp2_with fail
  refine (V1.out _ (Below.refl _ _)).mono ?_
  rintro e w1 ⟨rfl, hb1⟩
  have hz1 := hb1.size
  go_wp2_with fail
  have hBa : Below w.heap.size w ((w1.alloc (.cells #[.int .i64 LX, .int .i64 LY] 23)).alloc (.cells #[.int .i64 UX, .int .i64 UY] 23)) := by go_grown
  refine (V2.out _ (by go_grown)).mono ?_
  rintro e w2 ⟨rfl, hb2⟩
  have hB2 : Below w.heap.size w w2 := below_after (by go_grown) hb2
  have hz2 := hb2.size
  try simp only [World.size_alloc, World.size_setCell, World.size_drew] at hz2
  have d0 : w2.cell? ⟨w1.heap.size, 0, none⟩ = some (.int .i64 LX) := kp hb2 (by go_cell)
  have d1 : w2.cell? ⟨w1.heap.size, 1, none⟩ = some (.int .i64 LY) := kp hb2 (by go_cell)
  have d2 : w2.cell? ⟨w1.heap.size + 1, 0, none⟩ = some (.int .i64 UX) := kp hb2 (by go_cell)
  have d3 : w2.cell? ⟨w1.heap.size + 1, 1, none⟩ = some (.int .i64 UY) := kp hb2 (by go_cell)
  clear hb2 hBa
  go_wp2_with fail
  refine (V3.out _ hB2).mono ?_
  rintro e w3 ⟨rfl, hb3⟩
  have hB3 : Below w.heap.size w w3 := hB2.trans (hb3.mono hB2.size)
  replace d0 := kp hb3 d0
  replace d1 := kp hb3 d1
  replace d2 := kp hb3 d2
  replace d3 := kp hb3 d3
  have hz3 := hb3.size
  clear hb3
  go_wp2_with fail
  have e0 : (w3.alloc (.cells #[.int .i64 LX, .int .i64 UX] 3)).heap[w3.heap.size]? = some (.cells #[.int .i64 LX, .int .i64 UX] 3 (0, 0)) := World.alloc_heap_new _ _
  have hB4 : Below w.heap.size w (w3.alloc (.cells #[.int .i64 LX, .int .i64 UX] 3)) := by have := hB3.size; go_grown
  have hb34 : Below w3.heap.size w3 (w3.alloc (.cells #[.int .i64 LX, .int .i64 UX] 3)) := (Below.refl _ _).alloc (Nat.le_refl _) _
  replace d0 := kp hb34 d0
  replace d1 := kp hb34 d1
  replace d2 := kp hb34 d2
  replace d3 := kp hb34 d3
  have hw14 : w1.heap.size + 2 ≤ w3.heap.size := by omega
  clear hB3 hB2 hb34 hz2 hz3
  have hg4 : w3.heap.size < (w3.alloc (.cells #[.int .i64 LX, .int .i64 UX] 3)).heap.size := by simp
  generalize hW4 : w3.alloc (.cells #[.int .i64 LX, .int .i64 UX] 3) = w4 at *
  generalize w3.heap.size = g4 at *
  clear hW4
  go_loopg [41, 11] 3 (fun g s41 s11 wr => ∃ (k : Nat) (v9 : Value), k ≤ 2 ∧ g + k = 3 ∧ s41 = .int .i64 k ∧ v9 = s11 ∧ Own wr w4.heap.size v9 (es.take (2 * k)) ∧ Below w4.heap.size w4 wr)
  case atStart => exact ⟨0, _, by omega, by omega, rfl, rfl, by simp only [Nat.mul_zero, List.take_zero]; exact own_nil _ _, Below.refl _ _⟩
  case round =>
    obtain ⟨k, v9, hk, hg, rfl, rfl, hO9, hBr⟩ := hrel
    have HO9 := Lib.hid hO9
    have hs9 := hBr.size
    clear hO9
    have r0 := kp hBr d0
    have r1 := kp hBr d1
    have r2 := kp hBr d2
    have r3 := kp hBr d3
    by_cases hlt : k < 2
    · have hlt2 : (k : Int) < 2 := by omega
      have hcx := kp hBr (pick_cell e0 k hlt)
      have HTk := Lib.hid (HT.out k hlt).1
      have HLk := Lib.hid (HL8.out (2 * k))
      have hpk := pick_or LX UX k
      generalize pick LX UX k = xk at *
      have q1 : IntKind.i64.wrap (LE - xk) = LE - xk := IntWalk.i64_in _ (by omega)
      have q2 : IntKind.i64.wrap (xk - RR) = xk - RR := IntWalk.i64_in _ (by omega)
      have q3 : IntKind.i64.wrap (MO - xk) = MO - xk := IntWalk.i64_in _ (by omega)
      have q4 : IntKind.i64.wrap (xk - LL) = xk - LL := IntWalk.i64_in _ (by omega)
      clear hpk
      go_wp2_with (at_builtin; go_must (refine wpList_append_pt2 _ (by rfl) (.tmp 45) (.tmp 68) (by rfl) w4.heap.size _ _ _ _ _ _ (by rfl) HO9.out (by rfl) (by have := HLk.out; omega) hs9 ?_))
      intro v7 w7 hown7 hB7 hz7 hk7 hn7
      rw [← HTk.out] at hown7
      have HO7 := Lib.hid hown7
      have hBw7 : Below w4.heap.size w4 w7 := hBr.trans hB7
      clear hown7 hB7 hk7 hn7 HO9 hcx hBr r0 r1 r2 r3
      go_wp2_with fail
      go_roundg (gk - 1)
      case measure => omega
      case rel => exact ⟨k + 1, _, by omega, by omega, by go_num, rfl, HO7.out, hBw7⟩
    · obtain rfl : k = 2 := by omega
      clear r0 r2
      have hB5 : Below w.heap.size w wr := hB4.trans (hBr.mono hB4.size)
      replace d0 := kp hBr d0
      replace d2 := kp hBr d2
      go_wp2_with fail
      have e5 : (wr.alloc (.cells #[.int .i64 LY, .int .i64 UY] 3)).heap[wr.heap.size]? = some (.cells #[.int .i64 LY, .int .i64 UY] 3 (0, 0)) := World.alloc_heap_new _ _
      have hb35 : Below wr.heap.size wr (wr.alloc (.cells #[.int .i64 LY, .int .i64 UY] 3)) := (Below.refl _ _).alloc (Nat.le_refl _) _
      have hB6 : Below w.heap.size w (wr.alloc (.cells #[.int .i64 LY, .int .i64 UY] 3)) := hB5.trans (hb35.mono hB5.size)
      have HO6 := Lib.hid (HO9.out.later hb35)
      replace d0 := kp hb35 d0
      replace d1 := kp hb35 r1
      replace d2 := kp hb35 d2
      replace d3 := kp hb35 r3
      have hg5 : wr.heap.size < (wr.alloc (.cells #[.int .i64 LY, .int .i64 UY] 3)).heap.size := by simp
      have hbase6 : w4.heap.size ≤ (wr.alloc (.cells #[.int .i64 LY, .int .i64 UY] 3)).heap.size := by simp; omega
      have hne5 : v9.ownBlock ≠ some wr.heap.size := fun e => by have := (own_block_lt HO9.out e).2; omega
      clear HO9 hBr hB5 hb35 r1 r3 hB4
      generalize hW6 : wr.alloc (.cells #[.int .i64 LY, .int .i64 UY] 3) = w6 at *
      generalize wr.heap.size = g5 at *
      clear hW6
      have HN5 := Lib.hid hne5
      clear hne5
      obtain ⟨gK, rfl⟩ : ∃ x, x = gk := ⟨_, rfl⟩
      go_loopg [77, 11] 3 (fun g s77 s11 wi => ∃ (j : Nat) (v9 : Value), j ≤ 2 ∧ g + j = 3 ∧ s77 = .int .i64 j ∧ v9 = s11 ∧ Aside (Own wi w4.heap.size v9 (es.take (4 + 2 * j)) ∧ v9.ownBlock ≠ some g5) ∧ Below w4.heap.size w6 wi ∧ g5 < wi.heap.size ∧ wi.heap[g5]? = some (.cells #[.int .i64 LY, .int .i64 UY] 3 (0, 0)))
      case atStart => exact ⟨0, _, by omega, by omega, rfl, rfl, ⟨HO6.out, HN5.out⟩, Below.refl _ _, hg5, e5⟩
      case round =>
        obtain ⟨j, v9, hj, hgj, rfl, rfl, ⟨hO9, hne9⟩, hBi, hgi, hci⟩ := hrel
        have HO9 := Lib.hid hO9
        have HN9 := Lib.hid hne9
        have hs9' := hBi.size
        clear hO9 hne9
        have r0 := (hBi.cell (p := ⟨w1.heap.size, 0, none⟩) (by dsimp only; omega)).trans d0
        have r2 := (hBi.cell (p := ⟨w1.heap.size + 1, 0, none⟩) (by dsimp only; omega)).trans d2
        by_cases hltj : j < 2
        · have hltj2 : (j : Int) < 2 := by omega
          have hcy := pick_cell hci j hltj
          have HTj := Lib.hid (HT.out j hltj).2
          have HLj := Lib.hid (HL8.out (4 + 2 * j))
          have hpj := pick_or LY UY j
          generalize pick LY UY j = yj at *
          have q1 : IntKind.i64.wrap (LE - yj) = LE - yj := IntWalk.i64_in _ (by omega)
          have q2 : IntKind.i64.wrap (yj + LL) = yj + LL := IntWalk.i64_in _ (by omega)
          have q3 : IntKind.i64.wrap (MO - yj) = MO - yj := IntWalk.i64_in _ (by omega)
          have q4 : IntKind.i64.wrap (yj + RR) = yj + RR := IntWalk.i64_in _ (by omega)
          clear hpj
          go_wp2_with (at_builtin; go_must (refine wpList_append_pt2 _ (by rfl) (.tmp 81) (.tmp 104) (by rfl) w4.heap.size _ _ _ _ _ _ (by rfl) HO9.out (by rfl) (by have := HLj.out; omega) (Nat.le_trans hbase6 hs9') ?_))
          intro v7 w7 hown7 hB7 hz7 hk7 hn7
          rw [← HTj.out] at hown7
          have HO7 := Lib.hid hown7
          have hBw7 : Below w4.heap.size w6 w7 := hBi.trans hB7
          have hc7 := (hk7 g5 hgi HN9.out).trans hci
          have HN7 := Lib.hid (hn7 g5 hgi HN9.out)
          have hg7 : g5 < w7.heap.size := by omega
          clear hown7 hB7 hk7 hn7 HO9 HN9 hci hcy hBi r0 r2
          go_wp2_with fail
          go_roundg (gk - 1)
          case measure => omega
          case rel => exact ⟨j + 1, _, by omega, by omega, by go_num, rfl, ⟨HO7.out, HN7.out⟩, hBw7, hg7, hc7⟩
        · obtain rfl : j = 2 := by omega
          have ho := HO9.out
          rw [show 4 + 2 * 2 = 8 from rfl, HF.out] at ho
          obtain ⟨A9, c9, e9, -, -, -, hp9⟩ := ho.slice
          rw [H8.out] at e9
          subst e9
          have HP9 := Lib.hid hp9
          have hBf : Below w.heap.size w wr := hB6.trans (hBi.mono (by omega))
          clear ho hp9 hci hgi r0 r2
          go_wp2_with fail
          refine (HA.out _ A9 8 c9 rfl HP9.out).mono ?_
          rintro e wf ⟨vf, rfl, hof, hbf⟩
          have HOf := Lib.hid (own_mono hof hBf.size)
          have hBF : Below w.heap.size w wf := hBf.trans (hbf.mono hBf.size)
          clear hof hbf hBf
          go_wp2_with fail
          go_ret2
          exact ⟨_, rfl, HOf.out, hBF⟩
end Go.Proofs.YtnhdnkeiijiiaaaGreat
namespace Go.Proofs.YtnhdnkeiijiiaaaGreat
open Go.RowKit Go.Shelf
set_option linter.unusedSimpArgs false
set_option linter.unusedVariables false
attribute [local go_sem] Oper.semAt_some
theorem ret_156 {R : Ending → World → Prop} {fn : Func} {p : Tmp} {a : Act} {w : World} {B : Nat} {lo hi : Int} (hres : fn.results = #[.cell p 156]) (hd : a.defers = [])
    (hp : a.tmps.getD p undef = .pointer (some ⟨B, 0, none⟩)) (c : w.cell? ⟨B, 0, none⟩ = some (.int .i64 lo) ∧ w.cell? ⟨B, 1, none⟩ = some (.int .i64 hi))
    (hR : R (.returned (.agg #[.int .i64 lo, .int .i64 hi])) w) : bodyPost Tryz.prog fn R .ret a w := by
  refine bodyPost_ret (v := .agg #[.int .i64 lo, .int .i64 hi]) ?_ hd hR
  have hp' : a.tmps[p]?.getD undef = .pointer (some ⟨B, 0, none⟩) := by simpa using hp
  simp only [results, hres]
  simp [Sem.run_bind, Result.andThen, hp', go_sem, c.1, c.2]
set_option maxRecDepth 100000 in
set_option maxHeartbeats 4000000 in
theorem frame1_any (u v S T : Int) (Bs Bt : Nat) (w : World) (hc : crossesB S T = true) (hu : -500000 ≤ u ∧ u ≤ 500000) (hv : -500000 ≤ v ∧ v ≤ 500000) (hs : -3000000000000 ≤ S ∧ S ≤ 3000000000000) (ht : -3000000000000 ≤ T ∧ T ≤ 3000000000000)
    (cs : w.cell? ⟨Bs, 0, none⟩ = some (.int .i64 S)) (ct : w.cell? ⟨Bt, 0, none⟩ = some (.int .i64 T)) :
    Calls Tryz.prog 134 #[.int .i64 u, .int .i64 v, .pointer (some ⟨Bs, 0, none⟩), .pointer (some ⟨Bt, 0, none⟩)] w fun e w' => e = .returned (.agg #[.int .i64 (endLo u v S T), .int .i64 (endHi u v S T)]) ∧ Below w.heap.size w w' := by
  have hbx := end_box hc (lo := -500000) (hi := 500000) hu.1 hv.1 hu.2 hv.2
  have hst : S - T ≠ 0 := by rw [crosses_iff] at hc; omega
  have hP := mul_bd (a := v - u) (b := S) (A := 1000000) (B := 3000000000000) (by omega) (by omega) (by omega) hs.2
  unfold endLo endHi at *
  have q1 : IntKind.i64.wrap (v - u) = v - u := IntWalk.i64_in _ (by omega)
  generalize hPe : (v - u) * S = P at *
  have q2 : IntKind.i64.wrap P = P := IntWalk.i64_in _ (by omega)
  have q3 : IntKind.i64.wrap (S - T) = S - T := IntWalk.i64_in _ (by omega)
  have q4 : IntKind.i64.wrap (-P) = -P := IntWalk.i64_in _ (by omega)
  have v1 := fun W => floor_any P (S - T) W hst (by omega) (by omega) (by unfold I64; omega)
  have v2 := fun W => floor_any (-P) (S - T) W hst (by omega) (by omega) (by unfold I64; omega)
  generalize flS P (S - T) = F1 at *
  generalize flS (-P) (S - T) = F2 at *
  have q5 : IntKind.i64.wrap (u + F1) = u + F1 := IntWalk.i64_in _ (by omega)
  have q6 : IntKind.i64.wrap (u - F2) = u - F2 := IntWalk.i64_in _ (by omega)
  have V1 := Lib.hid v1
  have V2 := Lib.hid v2
  have hp : ∀ ops, PlainOps Fence.wide ops := fun ops => plainOps_none rfl
  clear v1 v2 hbx hst hP hc hu hv hs ht
  refine (callsIn_wide (n := 6)).1 ?_
  refine callsIn_of_wp Tryz.func134 rfl trivial ?_ rfl
  simp only [Tryz.ntmps134, List.size_toArray, List.length_cons, List.length_nil, Nat.reduceAdd, Nat.reduceSub, Array.replicate_succ, Array.replicate_zero, List.push_toArray, List.append_toArray, List.nil_append, List.cons_append]
  have k0 : (w.alloc (.cells #[.int .i64 0, .int .i64 0] 156)).cell? ⟨w.heap.size, 0, none⟩ = some (.int .i64 0) := by go_cell
  gi_wp2
  have hBz : Below w.heap.size w (w.alloc (.cells #[.int .i64 0, .int .i64 0] 156)).drew := Below.drew ((Below.refl _ w).alloc (Nat.le_refl _) _)
  have y0 : (w.alloc (.cells #[.int .i64 0, .int .i64 0] 156)).drew.cell? ⟨w.heap.size, 0, none⟩ = some (.int .i64 0) := by go_cell
  have y1 : (w.alloc (.cells #[.int .i64 0, .int .i64 0] 156)).drew.cell? ⟨w.heap.size, 1, none⟩ = some (.int .i64 0) := by go_cell
  have f0 : (w.alloc (.cells #[.int .i64 0, .int .i64 0] 156)).drew.frozen? ⟨w.heap.size, 0, none⟩ = false := by go_simp
  have f1 : (w.alloc (.cells #[.int .i64 0, .int .i64 0] 156)).drew.frozen? ⟨w.heap.size, 1, none⟩ = false := by go_simp
  replace cs : (w.alloc (.cells #[.int .i64 0, .int .i64 0] 156)).drew.cell? ⟨Bs, 0, none⟩ = some (.int .i64 S) := by go_cell
  replace ct : (w.alloc (.cells #[.int .i64 0, .int .i64 0] 156)).drew.cell? ⟨Bt, 0, none⟩ = some (.int .i64 T) := by go_cell
  clear k0
  refine held_begin [0, 1, 2, 3, 4, 6, 7, 8, 9, 10, 11, 12, 14] (fun w9 => Below (w.alloc (.cells #[.int .i64 0, .int .i64 0] 156)).drew.heap.size (w.alloc (.cells #[.int .i64 0, .int .i64 0] 156)).drew w9 ∧ w9.cell? ⟨Bs, 0, none⟩ = some (.int .i64 S) ∧ w9.cell? ⟨Bt, 0, none⟩ = some (.int .i64 T) ∧ w9.cell? ⟨w.heap.size, 0, none⟩ = some (.int .i64 0) ∧ w9.cell? ⟨w.heap.size, 1, none⟩ = some (.int .i64 0)) (by kernel_rfl) (⟨Below.refl _ _, cs, ct, y0, y1⟩) (fun hS => ?_)
  generalize (w.alloc (.cells #[.int .i64 0, .int .i64 0] 156)).drew = z at *
  have HSZ := Lib.hid (show ∀ w9, Below z.heap.size z w9 → Below z.heap.size z w9 ∧ w9.cell? ⟨Bs, 0, none⟩ = some (.int .i64 S) ∧ w9.cell? ⟨Bt, 0, none⟩ = some (.int .i64 T) ∧ w9.cell? ⟨w.heap.size, 0, none⟩ = some (.int .i64 0) ∧ w9.cell? ⟨w.heap.size, 1, none⟩ = some (.int .i64 0) from fun w9 h9 => ⟨h9, kp h9 cs, kp h9 ct, kp h9 y0, kp h9 y1⟩)
  refine tk 0 (v := ?_) (hp _) hS rfl (fun _ _ _ _ => trivial) ?_ ?_
  rotate_left 1
  · intro w hw; (try rw [hw]); (try go_split_ands); go_simp <;> with_reducible rfl
  try simp only [Act.put, st]
  refine tk 1 (v := ?_) (hp _) hS rfl (fun _ _ _ _ => trivial) ?_ ?_
  rotate_left 1
  · intro w hw; (try rw [hw]); (try go_split_ands); go_simp <;> with_reducible rfl
  try simp only [Act.put, st]
  refine tk 2 (v := ?_) (hp _) hS rfl (fun _ _ _ _ => trivial) ?_ ?_
  rotate_left 1
  · intro w hw; (try rw [hw]); (try go_split_ands); go_simp <;> with_reducible rfl
  try simp only [Act.put, st]
  refine tk 3 (v := ?_) (hp _) hS rfl (fun _ _ _ _ => trivial) ?_ ?_
  rotate_left 1
  · intro w hw; (try rw [hw]); (try go_split_ands); go_simp <;> with_reducible rfl
  try simp only [Act.put, st]
  refine tk 4 (v := ?_) (hp _) hS rfl (fun _ _ _ _ => trivial) ?_ ?_
  rotate_left 1
  · intro w hw; (try rw [hw]); (try go_split_ands); go_simp <;> with_reducible rfl
  try simp only [Act.put, st]
  refine tk 7 (v := ?_) (hp _) hS rfl (fun _ _ _ _ => trivial) ?_ ?_
  rotate_left 1
  · intro w hw; (try rw [hw]); (try go_split_ands); go_simp <;> with_reducible rfl
  try simp only [Act.put, st]
  refine tk 8 (v := ?_) (hp _) hS rfl (fun _ _ _ _ => trivial) ?_ ?_
  rotate_left 1
  · intro w hw; (try rw [hw]); (try go_split_ands); go_simp <;> with_reducible rfl
  try simp only [Act.put, st]
  refine tk 9 (v := ?_) (hp _) hS rfl (fun _ _ _ _ => trivial) ?_ ?_
  rotate_left 1
  · intro w hw; (try rw [hw]); (try go_split_ands); go_simp <;> with_reducible rfl
  try simp only [Act.put, st]
  refine tk 10 (v := ?_) (hp _) hS rfl (fun _ _ _ _ => trivial) ?_ ?_
  rotate_left 1
  · intro w hw; (try rw [hw]); (try go_split_ands); go_simp <;> with_reducible rfl
  try simp only [Act.put, st]
  refine tk 11 (v := ?_) (hp _) hS rfl (fun _ _ _ _ => trivial) ?_ ?_
  rotate_left 1
  · intro w hw; (try rw [hw]); (try go_split_ands); go_simp <;> with_reducible rfl
  try simp only [Act.put, st]
  refine tk 12 (v := ?_) (hp _) hS rfl (fun _ _ _ _ => trivial) ?_ ?_
  rotate_left 1
  · intro w hw; (try rw [hw]); (try go_split_ands); go_simp <;> with_reducible rfl
  try simp only [Act.put, st]
  refine held_step 5 rfl (hp _) (by kernel_rfl) (by kernel_rfl) (fun K hK => ⟨?_, ?_⟩)
  · exact fun _ _ => trivial
  go_simp
  refine (callsIn_wide.2 (V1.out _)).mono ?_
  rintro e w1 ⟨rfl, hb_1⟩
  have hB_1 : Below z.heap.size z w1 := Below.after' hS.1 hb_1
  have hS := HSZ.out _ hB_1
  refine hK _ _ hS ?_
  clear hK K
  try simp only [Act.put, st]
  refine tk 6 (v := ?_) (hp _) hS rfl (fun _ _ _ _ => trivial) ?_ ?_
  rotate_left 1
  · intro w hw; (try rw [hw]); (try go_split_ands); go_simp <;> with_reducible rfl
  try simp only [Act.put, st]
  refine held_step 13 rfl (hp _) (by kernel_rfl) (by kernel_rfl) (fun K hK => ⟨?_, ?_⟩)
  · exact fun _ _ => trivial
  go_simp
  refine (callsIn_wide.2 (V2.out _)).mono ?_
  rintro e w2 ⟨rfl, hb_2⟩
  have hB_2 : Below z.heap.size z w2 := Below.after' hS.1 hb_2
  have hS := HSZ.out _ hB_2
  refine hK _ _ hS ?_
  clear hK K
  try simp only [Act.put, st]
  refine tk 14 (v := ?_) (hp _) hS rfl (fun _ _ _ _ => trivial) ?_ ?_
  rotate_left 1
  · intro w hw; (try rw [hw]); (try go_split_ands); go_simp <;> with_reducible rfl
  try simp only [Act.put, st]
  refine held_one 15 rfl (hp _) (by kernel_rfl) (by kernel_rfl) (by kernel_rfl) (fun K hK => ⟨?_, ?_⟩)
  · exact fun _ _ => trivial
  go_simp
  refine hK _ _ ?_
  clear hK K
  try simp only [Act.put, st]
  obtain ⟨-, -, -, z0, z1⟩ := hS
  have g0 := kf hB_2 (by rw [y0]; rfl) f0
  have g1 := kf hB_2 (by rw [y1]; rfl) f1
  have hBw : Below w.heap.size w w2 := hBz.trans (hB_2.mono hBz.size)
  refine held_one 16 rfl (hp _) (by kernel_rfl) (by kernel_rfl) (by kernel_rfl) (fun K hK => ⟨?_, ?_⟩)
  · exact fun _ _ => trivial
  go_simp
  refine hK _ _ ?_
  clear hK K
  try simp only [Act.put, st]
  refine held_end (by kernel_rfl) ?_
  have c2 := set2 (.int .i64 (u + F1)) (.int .i64 (u - F2)) z0 z1
  gi_wp2
  refine ret_156 rfl rfl rfl c2 ⟨rfl, by go_grown⟩
end Go.Proofs.YtnhdnkeiijiiaaaGreat
namespace Go.Proofs.YtnhdnkeiijiiaaaGreat
open Go.RowKit Go.Shelf
set_option linter.unusedSimpArgs false
set_option linter.unusedVariables false
attribute [local go_sem ↓] Go.wp_at_zero Go.wp_at_succ
theorem und156 : Tryz.prog.underlying 156 = some (.array 2 3) := by kernel_rfl
theorem run_index2 (a b : Int) (k : Nat) (hk : k < 2) (w : World) : Sem.run Tryz.prog (Instr.index 156 (.agg #[.int .i64 a, .int .i64 b]) (.int .i64 k)) w = .ok (.int .i64 (pick a b k)) w := by
  match k, hk with
  | 0, _ => simp [Instr.index, run_underlying und156, asIntOf, go_sem, pick]
  | 1, _ => simp [Instr.index, run_underlying und156, asIntOf, go_sem, pick]
set_option maxHeartbeats 1600000 in
set_option maxRecDepth 100000 in
theorem frame_any (a b : Pt) (S T : Int) (w : World) (hc : crossesB S T = true) (ha : plB a = true) (hb : plB b = true) (hs : -3000000000000 ≤ S ∧ S ≤ 3000000000000) (ht : -3000000000000 ≤ T ∧ T ≤ 3000000000000) :
    Calls Tryz.prog 116 #[a.val, b.val, .int .i64 S, .int .i64 T] w (RetPts w.heap.size w (frameS a b S T)) := by
  have ha' := (plB_iff a).1 ha
  have hb' := (plB_iff b).1 hb
  have vX := fun W B4 B5 h4 h5 => frame1_any a.x b.x S T B4 B5 W hc (by omega) (by omega) hs ht h4 h5
  have vY := fun W B4 B5 h4 h5 => frame1_any a.y b.y S T B4 B5 W hc (by omega) (by omega) hs ht h4 h5
  have hL : frameS a b S T = gridL (endLo a.x b.x S T) (endHi a.x b.x S T) (endLo a.y b.y S T) (endHi a.y b.y S T) := rfl
  generalize endLo a.x b.x S T = x0 at *
  generalize endHi a.x b.x S T = x1 at *
  generalize endLo a.y b.y S T = y0 at *
  generalize endHi a.y b.y S T = y1 at *
  have HX := Lib.hid vX
  have HY := Lib.hid vY
  have HL := Lib.hid hL
  have HG := Lib.hid (grid_take x0 x1 y0 y1)
  clear vX vY hL ha hb ha' hb' hs ht hc
  obtain ⟨ax, ay⟩ := a
  obtain ⟨bx, bY⟩ := b
  dsimp only at HX HY
  go_enter Tryz.func116, Tryz.ntmps116
  go_wp2_with fail
  refine (HX.out _ _ _ (by go_cell) (by go_cell)).mono ?_
  rintro e w1 ⟨rfl, hb1⟩
  have hlw : w.heap.size + 4 ≤ w1.heap.size := by have := hb1.size; simp at this; omega
  have hB1 : Below w.heap.size w w1 := Below.trans (by go_grown) (hb1.mono (by simp; omega))
  have c1 : w1.cell? ⟨w.heap.size, 1, none⟩ = some (.int .i64 ay) := kp hb1 (by go_cell)
  have c4 : w1.cell? ⟨w.heap.size + 1, 1, none⟩ = some (.int .i64 bY) := kp hb1 (by go_cell)
  have c2 : w1.cell? ⟨w.heap.size + 2, 0, none⟩ = some (.int .i64 S) := kp hb1 (by go_cell)
  have c3 : w1.cell? ⟨w.heap.size + 3, 0, none⟩ = some (.int .i64 T) := kp hb1 (by go_cell)
  clear hb1
  go_wp2_with fail
  go_loopg [22, 10] 3 (fun g s22 s10 wr => ∃ (k : Nat) (v8 : Value), k ≤ 2 ∧ g + k = 3 ∧ s22 = .int .i64 k ∧ v8 = s10 ∧ Own wr w1.heap.size v8 ((gridL x0 x1 y0 y1).take (2 * k)) ∧ Below w1.heap.size w1 wr)
  case atStart => exact ⟨0, _, by omega, by omega, rfl, rfl, by simp only [Nat.mul_zero, List.take_zero]; exact own_nil _ _, Below.refl _ _⟩
  case round =>
    obtain ⟨k, v8, hk, hg, rfl, rfl, hO, hBr⟩ := hrel
    have HO := Lib.hid hO
    clear hO
    have hs1 := hBr.size
    by_cases hlt : k < 2
    · have hlt2 : (k : Int) < 2 := by omega
      have d1 := kp hBr c1
      have d4 := kp hBr c4
      have d2 := kp hBr c2
      have d3 := kp hBr c3
      have HGk := Lib.hid (fun j => HG.out k j hlt)
      have hix := fun W => run_index2 x0 x1 k hlt W
      generalize pick x0 x1 k = xk at *
      go_wp2_with fail
      refine (HY.out _ _ _ (by go_cell) (by go_cell)).mono ?_
      rintro e w2 ⟨rfl, hb2⟩
      have hO2 := HO.out.later hb2
      have hBw2 : Below w1.heap.size w1 w2 := hBr.trans (hb2.mono hs1)
      clear hb2 d1 d4 d2 d3 HO hBr hs1 hix
      have HO2 := Lib.hid hO2
      have hsw2 := hBw2.size
      clear hO2
      go_wp2_with fail
      obtain ⟨gK, rfl⟩ : ∃ x, x = gk := ⟨_, rfl⟩
      go_loopg [31, 10] 3 (fun gi s31 s10 wi => ∃ (j : Nat) (v9 : Value), j ≤ 2 ∧ gi + j = 3 ∧ s31 = .int .i64 j ∧ v9 = s10 ∧ Own wi w1.heap.size v9 ((gridL x0 x1 y0 y1).take (2 * k + j)) ∧ Below w1.heap.size w1 wi)
      case atStart => exact ⟨0, _, by omega, by omega, rfl, rfl, HO2.out, hBw2⟩
      case round =>
        obtain ⟨j, v9, hj, hgj, rfl, rfl, hO9, hBi⟩ := hrel
        have HO9 := Lib.hid hO9
        have hs9 := hBi.size
        clear hO9
        by_cases hltj : j < 2
        · have hltj2 : (j : Int) < 2 := by omega
          have hix := fun W => run_index2 y0 y1 j hltj W
          have HGj := Lib.hid (HGk.out j hltj)
          have HL9 := Lib.hid (show ((gridL x0 x1 y0 y1).take (2 * k + j)).length ≤ 4 from List.length_take_le' _ _)
          generalize pick y0 y1 j = yj at *
          go_wp2_with (at_builtin; go_must (refine wpList_append_pt _ (by rfl) (.tmp 34) (.tmp 38) (by rfl) w1.heap.size _ _ _ _ (by rfl) HO9.out (by rfl) (by have := HL9.out; omega) hs9 ?_))
          intro v7 w7 hown7 hB7 hz7 hk7 hn7
          rw [← HGj.out] at hown7
          have HO7 := Lib.hid hown7
          have hBw7 : Below w1.heap.size w1 w7 := hBi.trans hB7
          clear hown7 hB7 hk7 hn7 HO9 hBi hix
          go_wp2_with fail
          go_roundg (gk - 1)
          case measure => omega
          case rel => exact ⟨j + 1, _, by omega, by omega, by go_num, rfl, HO7.out, hBw7⟩
        · obtain rfl : j = 2 := by omega
          go_wp2_with fail
          go_roundg (gK - 1)
          case measure => omega
          case rel => exact ⟨k + 1, _, by omega, by omega, by go_num, rfl, HO9.out, hBi⟩
    · obtain rfl : k = 2 := by omega
      go_wp2_with fail
      go_ret
      exact ⟨_, rfl, by rw [HL.out]; exact own_mono HO.out (by omega), hB1.trans (hBr.mono (by omega))⟩
end Go.Proofs.YtnhdnkeiijiiaaaGreat
namespace Go.Proofs.YtnhdnkeiijiiaaaGreat
open Go.RowKit Go.Shelf
set_option linter.unusedSimpArgs false
set_option linter.unusedVariables false
attribute [local go_sem ↓] Go.wp_at_zero Go.wp_at_succ
theorem around_small : ∀ (k : Nat) (l : List Pt), l.length ≤ 32 → aroundF k l = hullS l
  | 0, l, _ => rfl
  | k + 1, l, h => by
    unfold aroundF
    have := hullS_len l
    rw [if_pos ⟨by omega, by omega⟩]
set_option maxHeartbeats 1600000 in
set_option maxRecDepth 100000 in
theorem caround_nil (c : Nat) (A : Option Addr) (w : World) :
    Calls Tryz.prog 91 #[.slice A 0 c] w fun e w' => e = .returned (.tuple #[.slice none 0 0, .bool false]) ∧ Below w.heap.size w w' := by
  go_enter Tryz.func91, Tryz.ntmps91
  go_wp2_with fail
  go_ret2
  exact ⟨rfl, Below.refl _ _⟩
/-- what Hull gives of a list that has no hull with few corners -/
theorem Hull_no (A : Option Addr) (n c : Nat) (xs : List Pt) (w : World) (hn : xs.length = n) (hx : Pts? w.heap.size w A xs) (hI : ∀ p ∈ xs, plB p = true) (hx0 : xs ≠ []) (h : ¬ (n ≤ 4000 ∧ (hullS xs).length ≤ 64)) :
    Calls Tryz.prog 78 #[.slice A n c] w fun e w' => e = .returned (.tuple #[.slice none 0 0, .int .i64 2]) ∧ Below w.heap.size w w' := by
  by_cases h4 : n ≤ 4000
  · exact Hull_big A n c xs w hn hx hI h4 hx0 (by omega)
  · exact Hull_many A n c w (by omega)
theorem Pts?.take {n₀ : Nat} {w : World} {A : Option Addr} {xs : List Pt} (h : Pts? n₀ w A xs) (m : Nat) : Pts? n₀ w A (xs.take m) := fun hn => by
  have : 0 < xs.length := by rw [List.length_take] at hn; omega
  obtain ⟨b, off, e, hlt, hc⟩ := h this
  exact ⟨b, off, e, hlt, fun i r hr => hc i r (by
    rw [List.getElem?_take] at hr
    split at hr
    · exact hr
    · cases hr)⟩
theorem Pts?.drop {n₀ : Nat} {w : World} {b off : Nat} {xs : List Pt} (h : Pts? n₀ w (some ⟨b, off, none⟩) xs) (m : Nat) : Pts? n₀ w (some ⟨b, off + m * 2, none⟩) (xs.drop m) := fun hn => by
  have : 0 < xs.length := by rw [List.length_drop] at hn; omega
  obtain ⟨b', off', e, hlt, hc⟩ := h this
  cases e
  refine ⟨b, off + m * 2, rfl, hlt, fun i r hr => ?_⟩
  rw [List.getElem?_drop] at hr
  have := hc (m + i) r hr
  rw [show off + m * 2 + i * 2 = off + (m + i) * 2 by omega]
  exact this
set_option maxHeartbeats 1600000 in
set_option maxRecDepth 100000 in
theorem caround_any : ∀ (k : Nat) (A : Option Addr) (n c : Nat) (xs : List Pt) (w : World) (hn : xs.length = n) (hk : n ≤ k) (hc : n ≤ c) (hx : Pts? w.heap.size w A xs) (hI : ∀ p ∈ xs, plB p = true) (hx0 : xs ≠ []) (hbig : n ≤ 1000000),
    Calls Tryz.prog 91 #[.slice A n c] w fun e w' => ∃ v, e = .returned (.tuple #[v, .bool true]) ∧ Own w' w.heap.size v (aroundF k xs) ∧ Below w.heap.size w w' := by
  intro k
  induction k with
  | zero => exact fun A n c xs w hn hk hc hx hI hx0 hbig => absurd (List.eq_nil_of_length_eq_zero (by omega)) hx0
  | succ k ih =>
    intro A n c xs w hn hk hc hx hI hx0 hbig
    have hn0 : n ≠ 0 := by intro e; apply hx0; apply List.eq_nil_of_length_eq_zero; omega
    have hni : ¬ (n : Int) = 0 := by omega
    by_cases hh : n ≤ 4000 ∧ (hullS xs).length ≤ 64
    · have hA : aroundF (k + 1) xs = hullS xs := by
        unfold aroundF; rw [hn, if_pos hh]
      have v := fun W (hB : Below w.heap.size w W) => Hull_ok A n c xs W hn (hx.later hB) hI hh.1 hx0 hh.2
      rw [hA]
      have HV := Lib.hid v
      clear v hx hI hx0 hn hh hA ih hk hc
      go_enter Tryz.func91, Tryz.ntmps91
      go_wp2_with fail
      refine (HV.out _ (Below.refl _ _)).mono ?_
      rintro e w1 ⟨v1, rfl, ho1, hb1⟩
      have HO1 := Lib.hid ho1
      clear ho1
      go_wp2_with fail
      go_ret2
      exact ⟨_, rfl, HO1.out, hb1⟩
    · have hA : aroundF (k + 1) xs = eightS (hullS (eightS (aroundF k (xs.take (n / 2))) ++ eightS (aroundF k (xs.drop (n / 2))))) := by
        rw [aroundF, hn, if_neg hh]
      have hl := hullS_len xs
      have h32 : 32 < n := by omega
      obtain ⟨b, off, rfl, hb, -⟩ := hx (by omega)
      have hv := Hull_no (some ⟨b, off, none⟩) n c xs w hn hx hI hx0 hh
      generalize hm : n / 2 = m at *
      have hm1 : 0 < m ∧ m < n ∧ n ≤ 2 * m + 1 := by omega
      have lt : (xs.take m).length = m := by rw [List.length_take]; omega
      have ld : (xs.drop m).length = n - m := by rw [List.length_drop]; omega
      have nt : xs.take m ≠ [] := by intro e; rw [e] at lt; simp at lt; omega
      have nd : xs.drop m ≠ [] := by intro e; rw [e] at ld; simp at ld; omega
      have pt : ∀ p ∈ xs.take m, plB p = true := fun p h => hI p (List.mem_of_mem_take h)
      have pd : ∀ p ∈ xs.drop m, plB p = true := fun p h => hI p (List.mem_of_mem_drop h)
      have g1 := around_gd k (xs.take m) (by omega) nt pt
      have g2 := around_gd k (xs.drop m) (by omega) nd pd
      have e1 := g1.trans (eight_gd g1.ne g1.pl)
      have e2 := g2.trans (eight_gd g2.ne g2.pl)
      have l1 := eightS_len (aroundF k (xs.take m))
      have l2 := eightS_len (aroundF k (xs.drop m))
      have lc : (eightS (aroundF k (xs.take m)) ++ eightS (aroundF k (xs.drop m))).length ≤ 32 := by rw [List.length_append]; omega
      have hs := around_small k _ lc
      have pe : ∀ p ∈ eightS (aroundF k (xs.take m)) ++ eightS (aroundF k (xs.drop m)), plB p = true := fun p hp => by
        rcases List.mem_append.1 hp with h | h
        · exact e1.pl p h
        · exact e2.pl p h
      have ne : eightS (aroundF k (xs.take m)) ++ eightS (aroundF k (xs.drop m)) ≠ [] := by simp [e1.ne]
      have hvh : validB (hullS (eightS (aroundF k (xs.take m)) ++ eightS (aroundF k (xs.drop m)))) = true := hull_valid ne pe (by have := hullS_len (eightS (aroundF k (xs.take m)) ++ eightS (aroundF k (xs.drop m))); omega)
      have v1 := fun W (hB : Below w.heap.size w W) => ih (some ⟨b, off, none⟩) m c (xs.take m) W lt (by omega) (by omega) ((hx.take m).later hB) pt nt (by omega)
      have v2 := fun W (hB : Below w.heap.size w W) => ih (some ⟨b, off + m * 2, none⟩) (n - m) (c - m) (xs.drop m) W ld (by omega) (by omega) ((hx.drop m).later hB) pd nd (by omega)
      have v3 := fun W B j d (hj : _ = j) hp => Eight_ok B j d (aroundF k (xs.take m)) W hj hp g1.valid
      have v4 := fun W B j d (hj : _ = j) hp => Eight_ok B j d (aroundF k (xs.drop m)) W hj hp g2.valid
      have v5 := fun W B j d (hj : _ = j) (hjd : j ≤ d) hp => ih B j d (eightS (aroundF k (xs.take m)) ++ eightS (aroundF k (xs.drop m))) W hj (by omega) hjd hp pe ne (by omega)
      have v6 := fun W B j d (hj : _ = j) hp => Eight_ok B j d (hullS (eightS (aroundF k (xs.take m)) ++ eightS (aroundF k (xs.drop m)))) W hj hp hvh
      rw [hs] at v5
      rw [hA]
      clear e1 e2 g1 g2 hs pe ne hvh pt pd nt nd lt ld hA hh hl hx hI hx0 hn ih
      generalize aroundF k (xs.take m) = R1 at *
      generalize aroundF k (xs.drop m) = R2 at *
      generalize hE1 : eightS R1 = E1 at *
      generalize hE2 : eightS R2 = E2 at *
      generalize hullS (E1 ++ E2) = R3 at *
      have V0 := Lib.hid hv
      have V1 := Lib.hid v1
      have V2 := Lib.hid v2
      have V3 := Lib.hid v3
      have V4 := Lib.hid v4
      have V5 := Lib.hid v5
      have V6 := Lib.hid v6
      clear hv v1 v2 v3 v4 v5 v6 hE1 hE2
      have q1 : (n : Int).tdiv 2 = (m : Int) := by rw [Int.tdiv_eq_ediv_of_nonneg (by omega)]; omega
      have q2 : IntKind.i64.wrap (m : Int) = (m : Int) := IntWalk.i64_in _ (by omega)
      have hmn : (m : Int) ≤ (n : Int) := by omega
      have hmc : (m : Int) ≤ (c : Int) := by omega
      have hm0 : (0 : Int) ≤ (m : Int) := by omega
      have hnc : (n : Int) ≤ (c : Int) := by omega
      go_enter Tryz.func91, Tryz.ntmps91
      go_wp2_with fail
      refine V0.out.mono ?_
      rintro e w1 ⟨rfl, hb1⟩
      go_wp2_with fail
      refine (V1.out _ hb1).mono ?_
      rintro e w2 ⟨v2, rfl, ho2, hb2⟩
      obtain ⟨A2, c2, rfl, -, -, -, hp2⟩ := ho2.slice
      have hB2 : Below w.heap.size w w2 := hb1.trans (hb2.mono hb1.size)
      have HP2 := Lib.hid hp2
      clear ho2 hp2 hb2 hb1 V0 V1
      go_wp2_with fail
      refine (V2.out _ hB2).mono ?_
      rintro e w3 ⟨v3, rfl, ho3, hb3⟩
      obtain ⟨A3, c3, rfl, -, -, -, hp3⟩ := ho3.slice
      have hB3 : Below w.heap.size w w3 := hB2.trans (hb3.mono hB2.size)
      have HP2' := Lib.hid (HP2.out.later hb3)
      have HP3 := Lib.hid hp3
      clear ho3 hp3 hb3 hB2 HP2 V2
      generalize hr1 : R1.length = r1 at *
      generalize hr2 : R2.length = r2 at *
      have HR1 := Lib.hid hr1
      have HR2 := Lib.hid hr2
      clear hr1 hr2
      go_wp2_with fail
      refine (V3.out _ A2 r1 c2 rfl HP2'.out).mono ?_
      rintro e w4 ⟨v4, rfl, ho4, hb4⟩
      obtain ⟨A4, c4, rfl, hc4, hA4, -, hp4⟩ := ho4.slice
      have hB4 : Below w.heap.size w w4 := hB3.trans (hb4.mono hB3.size)
      have HP3' := Lib.hid (HP3.out.later hb4)
      have HP4 := Lib.hid hp4
      have HA4 := Lib.hid hA4
      clear ho4 hp4 hb4 hB3 HP3 HP2' V3 hA4
      have L1 := Lib.hid l1
      have L2 := Lib.hid l2
      generalize hs1 : E1.length = s1 at *
      generalize hs2 : E2.length = s2 at *
      have HS1 := Lib.hid hs1
      have HS2 := Lib.hid hs2
      clear hs1 hs2 l1 l2
      go_wp2_with fail
      refine (V4.out _ A3 r2 c3 rfl HP3'.out).mono ?_
      rintro e w5 ⟨v5, rfl, ho5, hb5⟩
      obtain ⟨A5, c5, rfl, hc5, hA5, -, hp5⟩ := ho5.slice
      rw [HS2.out] at hc5 ⊢
      have hB5 : Below w.heap.size w w5 := hB4.trans (hb5.mono hB4.size)
      have HP4' := Lib.hid (HP4.out.later hb5)
      have HP5 := Lib.hid hp5
      have HA5 := Lib.hid (fun e => hA5 e)
      clear ho5 hp5 hb5 hB4 HP4 HP3' V4 hA5
      go_wp2_with fail
      refine (clone_any A4 s1 c4 E1 _ HS1.out (fun e => by have h9 := HA4.out e; have := HS1.out; rw [h9.1] at this; exact ⟨this.symm, h9.2⟩) HP4'.out (by have := L1.out; omega)).mono ?_
      rintro e w6 ⟨v6, rfl, ho6, hb6⟩
      have hB6 : Below w.heap.size w w6 := hB5.trans (hb6.mono hB5.size)
      have hw5 := hB5.size
      have HO6 := Lib.hid ho6
      have HP5' := Lib.hid (HP5.out.later hb6)
      have hs56 := hb6.size
      clear ho6 hb6 HP4' HP5 HA4 hB5
      go_wp2_with (at_builtin; go_must (refine wpList_append_pts _ (by rfl) (.tmp 55) (.tmp 56) 39 Tryz.underlying39 (by rfl) w5.heap.size _ _ (by rfl) HO6.out A5 s2 c5 E2 (by rfl) (fun e => by have h9 := HA5.out e; have := HS2.out; rw [h9.1] at this; exact ⟨this.symm, h9.2⟩) HS2.out HP5'.out (by have := L1.out; have := L2.out; have := HS1.out; omega) hs56 ?_))
      intro v7 w7 hown7 hg7 hat7
      have hB7 : Below w.heap.size w w7 := hB6.grown hg7 hB6.size (fun j e => Nat.le_trans hw5 (own_block_lt HO6.out e).1)
      obtain ⟨A7, c7, rfl, hc7, -, -, hp7⟩ := hown7.slice
      have HP7 := Lib.hid hp7
      clear hown7 hp7 hg7 hat7 HO6 HP5' HA5 hs56 hB6
      generalize hj : (E1 ++ E2).length = j at *
      clear hj
      go_wp2_with fail
      refine (V5.out _ A7 j c7 rfl hc7 HP7.out).mono ?_
      rintro e w8 ⟨v8, rfl, ho8, hb8⟩
      obtain ⟨A8, c8, rfl, -, -, -, hp8⟩ := ho8.slice
      have hB8 : Below w.heap.size w w8 := hB7.trans (hb8.mono hB7.size)
      have HP8 := Lib.hid hp8
      clear ho8 hp8 hb8 hB7 HP7
      generalize hr3 : R3.length = r3 at *
      go_wp2_with fail
      refine (V6.out _ A8 r3 c8 rfl HP8.out).mono ?_
      rintro e w9 ⟨v9, rfl, ho9, hb9⟩
      have hB9 : Below w.heap.size w w9 := hB8.trans (hb9.mono hB8.size)
      have HO9 := Lib.hid (own_mono ho9 hB8.size)
      clear ho9 hb9 hB8 HP8
      go_wp2_with fail
      go_ret2
      exact ⟨_, rfl, HO9.out, hB9⟩
end Go.Proofs.YtnhdnkeiijiiaaaGreat
namespace Go.Proofs.YtnhdnkeiijiiaaaGreat
open Go.RowKit Go.Shelf
set_option linter.unusedSimpArgs false
set_option linter.unusedVariables false
attribute [local go_sem] Oper.semAt_some
theorem oct_small : ∀ (k : Nat) (l : List Pt), l.length ≤ 32 → octF k l = eightS (hullS l)
  | 0, l, _ => rfl
  | k + 1, l, h => by
    unfold octF
    have := hullS_len l
    rw [if_pos ⟨by omega, by omega⟩]
/-- two slices side by side, to be joined -/
theorem concat2 (A1 A2 : Option Addr) (c1 c2 : Nat) (P1 P2 : List Pt) (z : World) (hp1 : Pts? z.heap.size z A1 P1) (hp2 : Pts? z.heap.size z A2 P2) (hA1 : A1 = none → P1 = [] ∧ c1 = 0) (hA2 : A2 = none → P2 = [] ∧ c2 = 0) (hbig : (P1 ++ P2).length ≤ 10000000) :
    Calls Tryz.prog 75 #[.slice (some ⟨z.heap.size, 0, none⟩) 2 2] (z.alloc (.cells #[.slice A1 P1.length c1, .slice A2 P2.length c2] 39)) (RetPts (z.alloc (.cells #[.slice A1 P1.length c1, .slice A2 P2.length c2] 39)).heap.size (z.alloc (.cells #[.slice A1 P1.length c1, .slice A2 P2.length c2] 39)) (P1 ++ P2)) := by
  have hb4 : Below z.heap.size z (z.alloc (.cells #[.slice A1 P1.length c1, .slice A2 P2.length c2] 39)) := (Below.refl _ _).alloc (Nat.le_refl _) _
  have hk := World.alloc_heap_new z (.cells #[.slice A1 P1.length c1, .slice A2 P2.length c2] 39)
  have hreg : Reg? (z.alloc (.cells #[.slice A1 P1.length c1, .slice A2 P2.length c2] 39)).heap.size (z.alloc (.cells #[.slice A1 P1.length c1, .slice A2 P2.length c2] 39)) (some ⟨z.heap.size, 0, none⟩) [P1, P2] := fun _ => ⟨z.heap.size, 0, rfl, by simp, fun i r hr => by
    match i, hr with
    | 0, hr => cases hr; exact ⟨A1, c1, by go_cell, hp1.later hb4⟩
    | 1, hr => cases hr; exact ⟨A2, c2, by go_cell, hp2.later hb4⟩
    | i + 2, hr => simp at hr⟩
  have h := Concat_any (some ⟨z.heap.size, 0, none⟩) 2 2 [P1, P2] _ rfl hreg (by
    intro b off e i r hr Ai ci hcell hAi
    cases e
    simp only [World.cell?, hk] at hcell
    match i, hr with
    | 0, hr =>
      cases hr
      simp at hcell
      have := hA1 (hcell.1.trans hAi)
      exact ⟨by rw [this.1]; rfl, by rw [← hcell.2]; exact this.2⟩
    | 1, hr =>
      cases hr
      simp at hcell
      have := hA2 (hcell.1.trans hAi)
      exact ⟨by rw [this.1]; rfl, by rw [← hcell.2]; exact this.2⟩
    | i + 2, hr => simp at hr) (by rw [← flatten_len]; simpa using hbig) (by omega)
  simpa using h
set_option maxRecDepth 100000 in
set_option maxHeartbeats 4000000 in
theorem octagon_any : ∀ (k : Nat) (A : Option Addr) (n c : Nat) (xs : List Pt) (w : World) (hn : xs.length = n) (hk : n ≤ k) (hc : n ≤ c) (hx : Pts? w.heap.size w A xs) (hI : ∀ p ∈ xs, plB p = true) (hx0 : xs ≠ []) (hbig : n ≤ 1000000),
    Calls Tryz.prog 95 #[.slice A n c] w (RetPts w.heap.size w (octF k xs)) := by
  intro k
  induction k with
  | zero => exact fun A n c xs w hn hk hc hx hI hx0 hbig => absurd (List.eq_nil_of_length_eq_zero (by omega)) hx0
  | succ k ih =>
    intro A n c xs w hn hk hc hx hI hx0 hbig
    by_cases hh : n ≤ 4000 ∧ (hullS xs).length ≤ 64
    · have hA : octF (k + 1) xs = eightS (hullS xs) := by
        unfold octF; rw [hn, if_pos hh]
      have v := fun W (hB : Below w.heap.size w W) => Hull_ok A n c xs W hn (hx.later hB) hI hh.1 hx0 hh.2
      have v2 := fun W B j d (hj : _ = j) hp => Eight_ok B j d (hullS xs) W hj hp (hull_valid hx0 hI hh.2)
      rw [hA]
      have HV := Lib.hid v
      have HV2 := Lib.hid v2
      clear v v2 hx hI hx0 hn hh hA ih hk hc
      refine (callsIn_wide (n := 6)).1 ?_
      refine callsIn_of_wp Tryz.func95 rfl trivial ?_ rfl
      simp only [Tryz.ntmps95, List.size_toArray, List.length_cons, List.length_nil, Nat.reduceAdd, Nat.reduceSub, Array.replicate_succ, Array.replicate_zero, List.push_toArray, List.append_toArray, List.nil_append, List.cons_append]
      gi_wp2
      refine ⟨trivial, (callsIn_wide.2 (HV.out _ (Below.refl _ _))).mono ?_⟩
      rintro e w1 ⟨v1, rfl, ho1, hb1⟩
      obtain ⟨A1, c1, rfl, -, -, -, hp1⟩ := ho1.slice
      have HP1 := Lib.hid hp1
      clear ho1 hp1
      gi_wp2
      refine ⟨trivial, (callsIn_wide.2 (HV2.out _ A1 _ c1 rfl HP1.out)).mono ?_⟩
      rintro e w2 ⟨v2, rfl, ho2, hb2⟩
      have HO2 := Lib.hid (own_mono ho2 hb1.size)
      have hB2 : Below w.heap.size w w2 := hb1.trans (hb2.mono hb1.size)
      clear ho2 hb2 hb1
      gi_wp2
      refine bodyPost_ret (v := v2) (by simp [results, Tryz.f95, go_sem]) rfl ?_
      exact ⟨_, rfl, HO2.out, hB2⟩
    · have hA : octF (k + 1) xs = eightS (hullS (octF k (xs.take (n / 2)) ++ octF k (xs.drop (n / 2)))) := by
        rw [octF, hn, if_neg hh]
      have hl := hullS_len xs
      have h32 : 32 < n := by omega
      obtain ⟨b, off, rfl, hb, -⟩ := hx (by omega)
      have hv := fun W (hB : Below w.heap.size w W) => Hull_no (some ⟨b, off, none⟩) n c xs W hn (hx.later hB) hI hx0 hh
      generalize hm : n / 2 = m at *
      have hm1 : 0 < m ∧ m < n ∧ n ≤ 2 * m + 1 := by omega
      have lt : (xs.take m).length = m := by rw [List.length_take]; omega
      have ld : (xs.drop m).length = n - m := by rw [List.length_drop]; omega
      have nt : xs.take m ≠ [] := by intro e; rw [e] at lt; simp at lt; omega
      have nd : xs.drop m ≠ [] := by intro e; rw [e] at ld; simp at ld; omega
      have pt : ∀ p ∈ xs.take m, plB p = true := fun p h => hI p (List.mem_of_mem_take h)
      have pd : ∀ p ∈ xs.drop m, plB p = true := fun p h => hI p (List.mem_of_mem_drop h)
      have e1 := oct_gd k (xs.take m) (by omega) nt pt
      have e2 := oct_gd k (xs.drop m) (by omega) nd pd
      have l1 := octF_len k (xs.take m)
      have l2 := octF_len k (xs.drop m)
      have lc : (octF k (xs.take m) ++ octF k (xs.drop m)).length ≤ 32 := by rw [List.length_append]; omega
      have hs := oct_small k _ lc
      have pe : ∀ p ∈ octF k (xs.take m) ++ octF k (xs.drop m), plB p = true := fun p hp => by
        rcases List.mem_append.1 hp with h | h
        · exact e1.pl p h
        · exact e2.pl p h
      have ne : octF k (xs.take m) ++ octF k (xs.drop m) ≠ [] := by simp [e1.ne]
      have v1 := fun W (hB : Below w.heap.size w W) => ih (some ⟨b, off, none⟩) m c (xs.take m) W lt (by omega) (by omega) ((hx.take m).later hB) pt nt (by omega)
      have v2 := fun W (hB : Below w.heap.size w W) => ih (some ⟨b, off + m * 2, none⟩) (n - m) (c - m) (xs.drop m) W ld (by omega) (by omega) ((hx.drop m).later hB) pd nd (by omega)
      have v5 := fun W B j d (hj : _ = j) (hjd : j ≤ d) hp => ih B j d (octF k (xs.take m) ++ octF k (xs.drop m)) W hj (by omega) hjd hp pe ne (by omega)
      rw [hs] at v5
      rw [hA]
      clear e1 e2 hs pe ne pt pd nt nd lt ld hA hh hl hx hI hx0 hn ih
      generalize octF k (xs.take m) = E1 at *
      generalize octF k (xs.drop m) = E2 at *
      generalize eightS (hullS (E1 ++ E2)) = R3 at *
      have V0 := Lib.hid hv
      have V1 := Lib.hid v1
      have V2 := Lib.hid v2
      have V5 := Lib.hid v5
      clear hv v1 v2 v5
      have q1 : (n : Int).tdiv 2 = (m : Int) := by rw [Int.tdiv_eq_ediv_of_nonneg (by omega)]; omega
      have q2 : IntKind.i64.wrap (m : Int) = (m : Int) := IntWalk.i64_in _ (by omega)
      have hmn : (m : Int) ≤ (n : Int) := by omega
      have hmc : (m : Int) ≤ (c : Int) := by omega
      have hm0 : (0 : Int) ≤ (m : Int) := by omega
      have hnc : (n : Int) ≤ (c : Int) := by omega
      have hcm : ¬ c = m := by omega
      have hp : ∀ ops, PlainOps Fence.wide ops := fun ops => plainOps_none rfl
      refine (callsIn_wide (n := 6)).1 ?_
      refine callsIn_of_wp Tryz.func95 rfl trivial ?_ rfl
      simp only [Tryz.ntmps95, List.size_toArray, List.length_cons, List.length_nil, Nat.reduceAdd, Nat.reduceSub, Array.replicate_succ, Array.replicate_zero, List.push_toArray, List.append_toArray, List.nil_append, List.cons_append]
      gi_wp2
      refine ⟨trivial, (callsIn_wide.2 (V0.out _ (Below.refl _ _))).mono ?_⟩
      rintro e w1 ⟨rfl, hb1⟩
      have hbz : Below w.heap.size w w1.drew := Below.drew hb1
      clear V0
      gi_wp2
      refine held_begin [0, 1, 2, 4, 5, 6] (fun w9 => Below w1.drew.heap.size w1.drew w9) (by kernel_rfl) (Below.refl _ _) (fun hS => ?_)
      generalize w1.drew = z at *
      refine tk 0 (v := ?_) (hp _) hS rfl (fun _ _ _ _ => trivial) ?_ ?_
      rotate_left 1
      · intro w hw; (try rw [hw]); (try go_split_ands); go_simp <;> with_reducible rfl
      try simp only [Act.put, st]
      refine tk 1 (v := ?_) (hp _) hS rfl (fun _ _ _ _ => trivial) ?_ ?_
      rotate_left 1
      · intro w hw; (try rw [hw]); (try go_split_ands); go_simp <;> with_reducible rfl
      try simp only [Act.put, st]
      refine tk 2 (v := ?_) (hp _) hS rfl (fun _ _ _ _ => trivial) ?_ ?_
      rotate_left 1
      · intro w hw; (try rw [hw]); (try go_split_ands); go_simp <;> with_reducible rfl
      try simp only [Act.put, st]
      refine tk 4 (v := ?_) (hp _) hS rfl (fun _ _ _ _ => trivial) ?_ ?_
      rotate_left 1
      · intro w hw; (try rw [hw]); (try go_split_ands); go_simp <;> with_reducible rfl
      try simp only [Act.put, st]
      refine tk 5 (v := ?_) (hp _) hS rfl (fun _ _ _ _ => trivial) ?_ ?_
      rotate_left 1
      · intro w hw; (try rw [hw]); (try go_split_ands); go_simp <;> with_reducible rfl
      try simp only [Act.put, st]
      refine tk 6 (v := ?_) (hp _) hS rfl (fun _ _ _ _ => trivial) ?_ ?_
      rotate_left 1
      · intro w hw; (try rw [hw]); (try go_split_ands); go_simp <;> with_reducible rfl
      try simp only [Act.put, st]
      refine held_step 3 rfl (hp _) (by kernel_rfl) (by kernel_rfl) (fun K hK => ⟨?_, ?_⟩)
      · exact fun _ _ => trivial
      go_simp
      refine (callsIn_wide.2 (V1.out _ (hbz.trans (hS.mono hbz.size)))).mono ?_
      rintro e w2 ⟨v2, rfl, ho2, hb_2⟩
      have hB_2 : Below z.heap.size z w2 := Below.after' hS hb_2
      have HO2 := Lib.hid ho2
      clear ho2
      have hS := hB_2
      refine hK _ _ hS ?_
      clear hK K
      try simp only [Act.put, st]
      refine held_step 7 rfl (hp _) (by kernel_rfl) (by kernel_rfl) (fun K hK => ⟨?_, ?_⟩)
      · exact fun _ _ => trivial
      go_simp
      refine (callsIn_wide.2 (V2.out _ (hbz.trans (hS.mono hbz.size)))).mono ?_
      rintro e w3 ⟨v3, rfl, ho3, hb_3⟩
      have hB_3 : Below z.heap.size z w3 := Below.after' hS hb_3
      have ho2 := HO2.out.later hb_3
      obtain ⟨A2, c2, rfl, -, hA2, -, hp2⟩ := ho2.slice
      obtain ⟨A3, c3, rfl, -, hA3, -, hp3⟩ := ho3.slice
      have hcat := concat2 A2 A3 c2 c3 E1 E2 w3 hp2 hp3 hA2 hA3 (by omega)
      have HCAT := Lib.hid hcat
      have hb4 : Below z.heap.size z (w3.alloc (.cells #[.slice A2 E1.length c2, .slice A3 E2.length c3] 39)) := Below.after' hB_3 ((Below.refl _ _).alloc (Nat.le_refl _) _)
      generalize E1.length = n1 at *
      generalize E2.length = n2 at *
      clear ho2 ho3 hp2 hp3 hA2 hA3 hcat HO2
      have hS := hB_3
      refine hK _ _ hS ?_
      clear hK K
      try simp only [Act.put, st]
      refine held_one 8 rfl (hp _) (by kernel_rfl) (by kernel_rfl) (by kernel_rfl) (fun K hK => ⟨?_, ?_⟩)
      · exact fun _ _ => trivial
      go_simp
      refine hK _ _ ?_
      clear hK K
      try simp only [Act.put, st]
      refine held_one 9 rfl (hp _) (by kernel_rfl) (by kernel_rfl) (by kernel_rfl) (fun K hK => ⟨?_, ?_⟩)
      · exact fun _ _ => trivial
      go_simp
      refine (callsIn_wide.2 HCAT.out).mono ?_
      rintro e w5 ⟨v5, rfl, ho5, hb_5⟩
      have hb5 : Below z.heap.size z w5 := Below.after' hb4 hb_5
      obtain ⟨A5, c5, e5, hc5, -, -, hp5⟩ := ho5.slice
      generalize hn5 : (E1 ++ E2).length = n5 at e5 hc5
      subst e5
      have HP5 := Lib.hid hp5
      clear ho5 hp5 hb_5 HCAT
      refine hK _ _ ?_
      clear hK K
      try simp only [Act.put, st]
      refine held_one 10 rfl (hp _) (by kernel_rfl) (by kernel_rfl) (by kernel_rfl) (fun K hK => ⟨?_, ?_⟩)
      · exact fun _ _ => trivial
      go_simp
      refine (callsIn_wide.2 (V5.out _ A5 n5 c5 hn5 hc5 HP5.out)).mono ?_
      rintro e w6 ⟨v6, rfl, ho6, hb_6⟩
      have hb6 : Below z.heap.size z w6 := Below.after' hb5 hb_6
      have HO6 := Lib.hid (own_mono ho6 (Nat.le_trans hbz.size hb5.size))
      clear ho6 hb_6
      refine hK _ _ ?_
      clear hK K
      try simp only [Act.put, st]
      refine held_one 11 rfl (hp _) (by kernel_rfl) (by kernel_rfl) (by kernel_rfl) (fun K hK => ⟨?_, ?_⟩)
      · exact fun _ _ => trivial
      go_simp
      refine hK _ _ ?_
      clear hK K
      try simp only [Act.put, st]
      refine held_end (by kernel_rfl) ?_
      have hBf : Below w.heap.size w w6 := hbz.trans (hb6.mono hbz.size)
      gi_wp2
      refine bodyPost_ret (v := v6) (by simp [results, Tryz.f95, go_sem]) rfl ?_
      exact ⟨_, rfl, HO6.out, hBf⟩
end Go.Proofs.YtnhdnkeiijiiaaaGreat
