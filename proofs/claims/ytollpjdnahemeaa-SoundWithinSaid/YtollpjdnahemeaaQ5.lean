import Derived.Test.YtollpjdnahemeaaQ4
namespace Go.Proofs.Ytollpjdnahemeaa
open Go.RowKit Go.Shelf
set_option linter.unusedSimpArgs false
set_option linter.unusedVariables false
attribute [local go_sem ↓] Go.wp_at_zero Go.wp_at_succ
set_option maxHeartbeats 1600000 in
set_option maxRecDepth 100000 in
theorem RValid17_zero (A : Option Addr) (n c : Nat) (xs : List Wt) (w : World) (hn : xs.length = n) (h0 : n = 0) :
    Calls Try.prog 62 #[.slice A n c] w fun e w' => e = .returned (.bool (wValid xs)) ∧ Below w.heap.size w w' := by
  subst h0
  have hv : wValid xs = false := by simp [wValid, hn]
  rw [hv]
  go_enter Try.func62, Try.ntmps62
  go_wp2_with fail
  go_ret
  exact ⟨rfl, by go_grown⟩
set_option maxHeartbeats 1600000 in
set_option maxRecDepth 100000 in
theorem RValid17_many (A : Option Addr) (n c : Nat) (xs : List Wt) (w : World) (hn : xs.length = n) (h0 : 20 < n) :
    Calls Try.prog 62 #[.slice A n c] w fun e w' => e = .returned (.bool (wValid xs)) ∧ Below w.heap.size w w' := by
  have hv : wValid xs = false := by simp [wValid, hn]; omega
  have hm2 : (20 : Int) < (n : Int) := by omega
  have hm3 : ¬ ((n : Int) < 1) := by omega
  rw [hv]
  go_enter Try.func62, Try.ntmps62
  go_wp2_with fail
  go_ret
  exact ⟨rfl, by go_grown⟩
theorem take_allOk {xs : List Wt} {k : Nat} {x : Wt} (hx : xs[k]? = some x) (h : allOk ((lay 0 xs).take k)) (hp : okP (frm xs k, x) = true) : allOk ((lay 0 xs).take (k + 1)) := by
  rw [lay_take_succ hx]; exact h.snoc hp
theorem bad_valid {xs : List Wt} {k : Nat} {x : Wt} (hx : xs[k]? = some x) (hp : okP (frm xs k, x) = false) : wValid xs = false := by
  cases h : wValid xs with
  | false => rfl
  | true =>
    have := ((wValid_iff xs).1 h).2.2.2 _ (lay_mem hx)
    rw [hp] at this; exact absurd this (by simp)
theorem end_valid {xs : List Wt} {n : Nat} (hn : xs.length = n) (h0 : 0 < n) (h1 : n ≤ 20) (h : allOk ((lay 0 xs).take n)) : decide (frm xs n = 100000) = wValid xs := by
  rw [List.take_of_length_le (by rw [lay_length, hn]; exact Nat.le_refl _)] at h
  subst hn
  have h9 : (lay 0 xs).all okP = true := List.all_eq_true.2 h
  simp [wValid, h9, h0, h1]
set_option maxHeartbeats 1600000 in
set_option maxRecDepth 100000 in
theorem RValid17_go (A : Option Addr) (n c : Nat) (xs : List Wt) (w : World) (hn : xs.length = n) (h0 : 0 < n) (h1 : n ≤ 20) (hx : Wts? w.heap.size w A xs) :
    Calls Try.prog 62 #[.slice A n c] w fun e w' => e = .returned (.bool (wValid xs)) ∧ Below w.heap.size w w' := by
  have HN := Lib.hid hn
  obtain ⟨b, off, rfl, hlt, hcs⟩ := hx (by omega)
  have HC := Lib.hid hcs
  have i1 : ¬ ((n : Int) < 1) := by omega
  have i2 : ¬ ((20 : Int) < (n : Int)) := by omega
  generalize hV : wValid xs = V
  have HV := Lib.hid hV
  clear hn hx hcs hV
  go_enter Try.func62, Try.ntmps62
  go_wp2_with fail
  go_loopg [3, 4] (n + 1) (fun g s3 s4 wr => ∃ k : Nat, k ≤ n ∧ g + k = n + 1 ∧ s4 = .int .i64 k ∧ s3 = .int .i64 (frm xs k) ∧ Aside (allOk ((lay 0 xs).take k)) ∧ Below w.heap.size w wr)
  case atStart => exact ⟨0, by omega, by omega, rfl, rfl, fun p hp => absurd hp (by simp), by go_grown⟩
  case round =>
    obtain ⟨k, hk, hg, rfl, rfl, HA, hB⟩ := hrel
    have hsz := hB.size
    by_cases hlt9 : k < n
    · obtain ⟨x, hx⟩ : ∃ x, xs[k]? = some x := ⟨_, List.getElem?_eq_getElem (by rw [HN.out]; exact hlt9)⟩
      obtain ⟨c0, c1, c2⟩ := (HC.out k x hx).upto hB hlt
      have hlt2 : (k : Int) < (n : Int) := by omega
      have HX := Lib.hid hx
      have hfs := Lib.hid (frm_succ hx)
      clear hx
      generalize hfr : frm xs k = fr at *
      have HFR := Lib.hid hfr
      clear hfr
      cases hok : okP (fr, x) with
      | true =>
        obtain ⟨o0, o1, o2, o3⟩ := (okP_iff _).1 hok
        simp only at o0 o1 o2 o3
        have HT := Lib.hid (take_allOk HX.out HA.out (by rw [HFR.out]; exact hok))
        clear hok
        go_wp2_with fail
        go_roundg (gk - 1)
        case measure => omega
        case rel => exact ⟨k + 1, by omega, by omega, by go_num, by rw [hfs.out], HT.out, by go_grown⟩
      | false =>
        have HB := Lib.hid (bad_valid HX.out (by rw [HFR.out]; exact hok))
        have hno : ¬ (fr < x.til ∧ 1 ≤ x.lo ∧ x.lo ≤ x.hi ∧ x.hi ≤ 20000) := by
          intro h9
          rw [(okP_iff (fr, x)).2 h9] at hok
          exact absurd hok (by simp)
        clear hok
        go_wp2_with fail
        all_goals first
          | (exfalso; omega)
          | (go_ret; exact ⟨ret_bool (by rw [← HV.out, HB.out]), by go_grown⟩)
    · obtain rfl : k = n := by omega
      have hnlt : ¬ ((k : Int) < (k : Int)) := by omega
      have HE := Lib.hid (end_valid HN.out h0 h1 HA.out)
      clear HA
      go_wp2_with fail
      all_goals
        go_ret
        refine ⟨ret_bool ?_, by go_grown⟩
        rw [← HV.out, ← HE.out]
        first | rfl | exact (beq_eq_decide _ _) | (trace_state; fail)
theorem RValid17_any (A : Option Addr) (n c : Nat) (xs : List Wt) (w : World) (hn : xs.length = n) (hx : Wts? w.heap.size w A xs) :
    Calls Try.prog 62 #[.slice A n c] w fun e w' => e = .returned (.bool (wValid xs)) ∧ Below w.heap.size w w' := by
  by_cases h0 : n = 0
  · exact RValid17_zero A n c xs w hn h0
  · by_cases h1 : 20 < n
    · exact RValid17_many A n c xs w hn h1
    · exact RValid17_go A n c xs w hn (by omega) (by omega) hx
theorem tl_take_miss {xs : List Wt} {k : Nat} {x : Wt} {lo hi : Int} (hx : xs[k]? = some x) (h : tchP lo hi (frm xs k, x) = false) : sp1 (tl lo hi ((lay 0 xs).take (k + 1))) = sp1 (tl lo hi ((lay 0 xs).take k)) := by
  rw [lay_take_succ hx, tl_snoc_miss _ _ _ _ h]
theorem tl_take_hit {xs : List Wt} {k : Nat} {x : Wt} {lo hi : Int} (hx : xs[k]? = some x) (h : tchP lo hi (frm xs k, x) = true) : sp1 (tl lo hi ((lay 0 xs).take (k + 1))) = stepS (sp1 (tl lo hi ((lay 0 xs).take k))) (x.lo, x.hi) := by
  rw [lay_take_succ hx, tl_snoc_hit _ _ _ _ h]; simp [sp1]
set_option maxHeartbeats 1600000 in
set_option maxRecDepth 100000 in
theorem speeds_any (A : Option Addr) (n c : Nat) (xs : List Wt) (lo hi : Int) (w : World) (hn : xs.length = n) (hbig : n ≤ 1000000) (hx : Wts? w.heap.size w A xs) :
    Calls Try.prog 89 #[.slice A n c, .agg #[.int .i64 lo, .int .i64 hi]] w fun e w' => e = .returned (.agg #[.int .i64 (speedP lo hi xs).1, .int .i64 (speedP lo hi xs).2]) ∧ Below w.heap.size w w' := by
  have HN := Lib.hid hn
  have HXS := Lib.hid hx
  clear hn hx
  go_enter Try.func89, Try.ntmps89
  go_wp2_with fail
  go_loopg [6] (n + 1) (fun g s6 wr => ∃ (k : Nat) (o1 o2 : Int), k ≤ n ∧ g + k = n + 1 ∧ s6 = .int .i64 k ∧ Aside (sp1 (tl lo hi ((lay 0 xs).take k)) = (o1, o2)) ∧ Below w.heap.size w wr ∧ wr.cell? ⟨w.heap.size, 0, none⟩ = some (.int .i64 lo) ∧ wr.cell? ⟨w.heap.size, 1, none⟩ = some (.int .i64 hi) ∧ wr.cell? ⟨w.heap.size + 1, 0, none⟩ = some (.int .i64 0) ∧ wr.cell? ⟨w.heap.size + 1, 1, none⟩ = some (.int .i64 0) ∧ wr.cell? ⟨w.heap.size + 1 + 1, 0, none⟩ = some (.int .i64 o1) ∧ wr.cell? ⟨w.heap.size + 1 + 1, 1, none⟩ = some (.int .i64 o2) ∧ wr.frozen? ⟨w.heap.size + 1, 0, none⟩ = false ∧ wr.frozen? ⟨w.heap.size + 1, 1, none⟩ = false ∧ wr.frozen? ⟨w.heap.size + 1 + 1, 0, none⟩ = false ∧ wr.frozen? ⟨w.heap.size + 1 + 1, 1, none⟩ = false)
  case atStart =>
    refine ⟨0, 0, 0, by omega, by omega, rfl, rfl, by go_grown, ?_, ?_, ?_, ?_, ?_, ?_, ?_, ?_, ?_, ?_⟩ <;> first | go_cell | (go_simp; done)
  case round =>
    obtain ⟨k, o1, o2, hk, hg, rfl, HA, hB, p0, p1, q0, q1, r0, r1, qf0, qf1, rf0, rf1⟩ := hrel
    have hsz := hB.size
    have hblk := World.block_lt_of_cell? _ _ r0
    simp only at hblk
    by_cases hlt9 : k < n
    · obtain ⟨x, hx⟩ : ∃ x, xs[k]? = some x := ⟨_, List.getElem?_eq_getElem (by rw [HN.out]; exact hlt9)⟩
      obtain ⟨b, off, rfl, hlt, hcs⟩ := HXS.out (by rw [HN.out]; omega)
      obtain ⟨c0, c1, c2⟩ := (hcs k x hx).upto hB hlt
      have hlt2 : (k : Int) < (n : Int) := by omega
      have HX := Lib.hid hx
      clear hx hcs
      cases ht : tchP lo hi (frm xs k, x) with
      | false =>
        have HS := Lib.hid ((tl_take_miss HX.out ht).trans HA.out)
        clear HA
        have HT := fun W h => Touches_any (some ⟨b, off, none⟩) n c k xs lo hi x W HN.out (by omega) h HX.out
        rw [ht] at HT
        have HT2 := Lib.hid HT
        clear HT ht
        go_wp2_with fail
        refine (HT2.out _ (((HXS.out).upto hB).mono hsz)).mono ?_
        rintro e w1 ⟨rfl, hb1⟩
        have hB1 : Below w.heap.size w w1 := below_after hB hb1
        have p0 : w1.cell? ⟨w.heap.size, 0, none⟩ = some (.int .i64 lo) := kp hb1 p0
        have p1 : w1.cell? ⟨w.heap.size, 1, none⟩ = some (.int .i64 hi) := kp hb1 p1
        have q0 : w1.cell? ⟨w.heap.size + 1, 0, none⟩ = some (.int .i64 0) := kp hb1 q0
        have q1 : w1.cell? ⟨w.heap.size + 1, 1, none⟩ = some (.int .i64 0) := kp hb1 q1
        have r0 : w1.cell? ⟨w.heap.size + 1 + 1, 0, none⟩ = some (.int .i64 o1) := kp hb1 r0
        have r1 : w1.cell? ⟨w.heap.size + 1 + 1, 1, none⟩ = some (.int .i64 o2) := kp hb1 r1
        have qf0 : w1.frozen? ⟨w.heap.size + 1, 0, none⟩ = false := (hb1.frozen (p := ⟨w.heap.size + 1, 0, none⟩) (by simp; omega)).trans qf0
        have qf1 : w1.frozen? ⟨w.heap.size + 1, 1, none⟩ = false := (hb1.frozen (p := ⟨w.heap.size + 1, 1, none⟩) (by simp; omega)).trans qf1
        have rf0 : w1.frozen? ⟨w.heap.size + 1 + 1, 0, none⟩ = false := (hb1.frozen (p := ⟨w.heap.size + 1 + 1, 0, none⟩) (by simp; omega)).trans rf0
        have rf1 : w1.frozen? ⟨w.heap.size + 1 + 1, 1, none⟩ = false := (hb1.frozen (p := ⟨w.heap.size + 1 + 1, 1, none⟩) (by simp; omega)).trans rf1
        have c0 : w1.cell? ⟨b, off + k * 3, none⟩ = some (.int .i64 x.til) := kp hb1 c0
        have c1 : w1.cell? ⟨b, off + k * 3 + 1, none⟩ = some (.int .i64 x.lo) := kp hb1 c1
        have c2 : w1.cell? ⟨b, off + k * 3 + 2, none⟩ = some (.int .i64 x.hi) := kp hb1 c2
        have hsz1 := hB1.size
        clear hb1
        go_wp2_with fail
        go_roundg (gk - 1)
        case measure => omega
        case rel => (refine ⟨k + 1, _, _, by omega, by omega, by go_num, HS.out, by go_grown, ?_, ?_, ?_, ?_, ?_, ?_, ?_, ?_, ?_, ?_⟩ <;> first | go_cell | (go_simp; done) | (exact World.cell?_setCell_same' _ _ _ (by go_simp)))
      | true =>
        have hs9 := tl_take_hit HX.out ht
        rw [HA.out] at hs9
        clear HA
        by_cases hz : o2 = 0
        · have hz1 : (o2 == 0) = true := by simp [hz]
          have hs8 : stepS (o1, o2) (x.lo, x.hi) = (x.lo, x.hi) := by simp [stepS, hz]
          rw [hs8] at hs9
          have HS := Lib.hid hs9
          clear hs8 hs9
          have HT := fun W h => Touches_any (some ⟨b, off, none⟩) n c k xs lo hi x W HN.out (by omega) h HX.out
          rw [ht] at HT
          have HT2 := Lib.hid HT
          clear HT ht
          go_wp2_with fail
          refine (HT2.out _ (((HXS.out).upto hB).mono hsz)).mono ?_
          rintro e w1 ⟨rfl, hb1⟩
          have hB1 : Below w.heap.size w w1 := below_after hB hb1
          have p0 : w1.cell? ⟨w.heap.size, 0, none⟩ = some (.int .i64 lo) := kp hb1 p0
          have p1 : w1.cell? ⟨w.heap.size, 1, none⟩ = some (.int .i64 hi) := kp hb1 p1
          have q0 : w1.cell? ⟨w.heap.size + 1, 0, none⟩ = some (.int .i64 0) := kp hb1 q0
          have q1 : w1.cell? ⟨w.heap.size + 1, 1, none⟩ = some (.int .i64 0) := kp hb1 q1
          have r0 : w1.cell? ⟨w.heap.size + 1 + 1, 0, none⟩ = some (.int .i64 o1) := kp hb1 r0
          have r1 : w1.cell? ⟨w.heap.size + 1 + 1, 1, none⟩ = some (.int .i64 o2) := kp hb1 r1
          have qf0 : w1.frozen? ⟨w.heap.size + 1, 0, none⟩ = false := (hb1.frozen (p := ⟨w.heap.size + 1, 0, none⟩) (by simp; omega)).trans qf0
          have qf1 : w1.frozen? ⟨w.heap.size + 1, 1, none⟩ = false := (hb1.frozen (p := ⟨w.heap.size + 1, 1, none⟩) (by simp; omega)).trans qf1
          have rf0 : w1.frozen? ⟨w.heap.size + 1 + 1, 0, none⟩ = false := (hb1.frozen (p := ⟨w.heap.size + 1 + 1, 0, none⟩) (by simp; omega)).trans rf0
          have rf1 : w1.frozen? ⟨w.heap.size + 1 + 1, 1, none⟩ = false := (hb1.frozen (p := ⟨w.heap.size + 1 + 1, 1, none⟩) (by simp; omega)).trans rf1
          have c0 : w1.cell? ⟨b, off + k * 3, none⟩ = some (.int .i64 x.til) := kp hb1 c0
          have c1 : w1.cell? ⟨b, off + k * 3 + 1, none⟩ = some (.int .i64 x.lo) := kp hb1 c1
          have c2 : w1.cell? ⟨b, off + k * 3 + 2, none⟩ = some (.int .i64 x.hi) := kp hb1 c2
          have hsz1 := hB1.size
          clear hb1
          go_upto_region 9 with fail
          go_region
          go_upto_region 10 with fail
          go_region
          go_wp2_with fail
          go_roundg (gk - 1)
          case measure => omega
          case rel => (refine ⟨k + 1, _, _, by omega, by omega, by go_num, HS.out, by go_grown, ?_, ?_, ?_, ?_, ?_, ?_, ?_, ?_, ?_, ?_⟩ <;> first | go_cell | (go_simp; done) | (exact World.cell?_setCell_same' _ _ _ (by go_simp)))
        · have hz1 : (o2 == 0) = false := by simp [hz]
          by_cases m1 : o1 ≤ x.lo
          · by_cases m2 : x.hi ≤ o2
            · skip
              have hs8 : stepS (o1, o2) (x.lo, x.hi) = (o1, o2) := by
                unfold stepS
                simp only [if_neg hz]
                refine Prod.ext ?_ ?_ <;> simp only <;> omega
              rw [hs8] at hs9
              have HS := Lib.hid hs9
              clear hs8 hs9
              have HT := fun W h => Touches_any (some ⟨b, off, none⟩) n c k xs lo hi x W HN.out (by omega) h HX.out
              rw [ht] at HT
              have HT2 := Lib.hid HT
              clear HT ht
              go_wp2_with fail
              refine (HT2.out _ (((HXS.out).upto hB).mono hsz)).mono ?_
              rintro e w1 ⟨rfl, hb1⟩
              have hB1 : Below w.heap.size w w1 := below_after hB hb1
              have p0 : w1.cell? ⟨w.heap.size, 0, none⟩ = some (.int .i64 lo) := kp hb1 p0
              have p1 : w1.cell? ⟨w.heap.size, 1, none⟩ = some (.int .i64 hi) := kp hb1 p1
              have q0 : w1.cell? ⟨w.heap.size + 1, 0, none⟩ = some (.int .i64 0) := kp hb1 q0
              have q1 : w1.cell? ⟨w.heap.size + 1, 1, none⟩ = some (.int .i64 0) := kp hb1 q1
              have r0 : w1.cell? ⟨w.heap.size + 1 + 1, 0, none⟩ = some (.int .i64 o1) := kp hb1 r0
              have r1 : w1.cell? ⟨w.heap.size + 1 + 1, 1, none⟩ = some (.int .i64 o2) := kp hb1 r1
              have qf0 : w1.frozen? ⟨w.heap.size + 1, 0, none⟩ = false := (hb1.frozen (p := ⟨w.heap.size + 1, 0, none⟩) (by simp; omega)).trans qf0
              have qf1 : w1.frozen? ⟨w.heap.size + 1, 1, none⟩ = false := (hb1.frozen (p := ⟨w.heap.size + 1, 1, none⟩) (by simp; omega)).trans qf1
              have rf0 : w1.frozen? ⟨w.heap.size + 1 + 1, 0, none⟩ = false := (hb1.frozen (p := ⟨w.heap.size + 1 + 1, 0, none⟩) (by simp; omega)).trans rf0
              have rf1 : w1.frozen? ⟨w.heap.size + 1 + 1, 1, none⟩ = false := (hb1.frozen (p := ⟨w.heap.size + 1 + 1, 1, none⟩) (by simp; omega)).trans rf1
              have c0 : w1.cell? ⟨b, off + k * 3, none⟩ = some (.int .i64 x.til) := kp hb1 c0
              have c1 : w1.cell? ⟨b, off + k * 3 + 1, none⟩ = some (.int .i64 x.lo) := kp hb1 c1
              have c2 : w1.cell? ⟨b, off + k * 3 + 2, none⟩ = some (.int .i64 x.hi) := kp hb1 c2
              have hsz1 := hB1.size
              clear hb1
              go_upto_region 9 with fail
              go_region
              go_upto_region 10 with fail
              go_region
              go_wp2_with fail
              go_roundg (gk - 1)
              case measure => omega
              case rel => (refine ⟨k + 1, _, _, by omega, by omega, by go_num, HS.out, by go_grown, ?_, ?_, ?_, ?_, ?_, ?_, ?_, ?_, ?_, ?_⟩ <;> first | go_cell | (go_simp; done) | (exact World.cell?_setCell_same' _ _ _ (by go_simp)))
            · skip
              have hs8 : stepS (o1, o2) (x.lo, x.hi) = (o1, x.hi) := by
                unfold stepS
                simp only [if_neg hz]
                refine Prod.ext ?_ ?_ <;> simp only <;> omega
              rw [hs8] at hs9
              have HS := Lib.hid hs9
              clear hs8 hs9
              have HT := fun W h => Touches_any (some ⟨b, off, none⟩) n c k xs lo hi x W HN.out (by omega) h HX.out
              rw [ht] at HT
              have HT2 := Lib.hid HT
              clear HT ht
              go_wp2_with fail
              refine (HT2.out _ (((HXS.out).upto hB).mono hsz)).mono ?_
              rintro e w1 ⟨rfl, hb1⟩
              have hB1 : Below w.heap.size w w1 := below_after hB hb1
              have p0 : w1.cell? ⟨w.heap.size, 0, none⟩ = some (.int .i64 lo) := kp hb1 p0
              have p1 : w1.cell? ⟨w.heap.size, 1, none⟩ = some (.int .i64 hi) := kp hb1 p1
              have q0 : w1.cell? ⟨w.heap.size + 1, 0, none⟩ = some (.int .i64 0) := kp hb1 q0
              have q1 : w1.cell? ⟨w.heap.size + 1, 1, none⟩ = some (.int .i64 0) := kp hb1 q1
              have r0 : w1.cell? ⟨w.heap.size + 1 + 1, 0, none⟩ = some (.int .i64 o1) := kp hb1 r0
              have r1 : w1.cell? ⟨w.heap.size + 1 + 1, 1, none⟩ = some (.int .i64 o2) := kp hb1 r1
              have qf0 : w1.frozen? ⟨w.heap.size + 1, 0, none⟩ = false := (hb1.frozen (p := ⟨w.heap.size + 1, 0, none⟩) (by simp; omega)).trans qf0
              have qf1 : w1.frozen? ⟨w.heap.size + 1, 1, none⟩ = false := (hb1.frozen (p := ⟨w.heap.size + 1, 1, none⟩) (by simp; omega)).trans qf1
              have rf0 : w1.frozen? ⟨w.heap.size + 1 + 1, 0, none⟩ = false := (hb1.frozen (p := ⟨w.heap.size + 1 + 1, 0, none⟩) (by simp; omega)).trans rf0
              have rf1 : w1.frozen? ⟨w.heap.size + 1 + 1, 1, none⟩ = false := (hb1.frozen (p := ⟨w.heap.size + 1 + 1, 1, none⟩) (by simp; omega)).trans rf1
              have c0 : w1.cell? ⟨b, off + k * 3, none⟩ = some (.int .i64 x.til) := kp hb1 c0
              have c1 : w1.cell? ⟨b, off + k * 3 + 1, none⟩ = some (.int .i64 x.lo) := kp hb1 c1
              have c2 : w1.cell? ⟨b, off + k * 3 + 2, none⟩ = some (.int .i64 x.hi) := kp hb1 c2
              have hsz1 := hB1.size
              clear hb1
              go_upto_region 9 with fail
              go_region
              go_upto_region 10 with fail
              go_region
              go_wp2_with fail
              go_roundg (gk - 1)
              case measure => omega
              case rel => (refine ⟨k + 1, _, _, by omega, by omega, by go_num, HS.out, by go_grown, ?_, ?_, ?_, ?_, ?_, ?_, ?_, ?_, ?_, ?_⟩ <;> first | go_cell | (go_simp; done) | (exact World.cell?_setCell_same' _ _ _ (by go_simp)))
          · by_cases m2 : x.hi ≤ o2
            · skip
              have hs8 : stepS (o1, o2) (x.lo, x.hi) = (x.lo, o2) := by
                unfold stepS
                simp only [if_neg hz]
                refine Prod.ext ?_ ?_ <;> simp only <;> omega
              rw [hs8] at hs9
              have HS := Lib.hid hs9
              clear hs8 hs9
              have HT := fun W h => Touches_any (some ⟨b, off, none⟩) n c k xs lo hi x W HN.out (by omega) h HX.out
              rw [ht] at HT
              have HT2 := Lib.hid HT
              clear HT ht
              go_wp2_with fail
              refine (HT2.out _ (((HXS.out).upto hB).mono hsz)).mono ?_
              rintro e w1 ⟨rfl, hb1⟩
              have hB1 : Below w.heap.size w w1 := below_after hB hb1
              have p0 : w1.cell? ⟨w.heap.size, 0, none⟩ = some (.int .i64 lo) := kp hb1 p0
              have p1 : w1.cell? ⟨w.heap.size, 1, none⟩ = some (.int .i64 hi) := kp hb1 p1
              have q0 : w1.cell? ⟨w.heap.size + 1, 0, none⟩ = some (.int .i64 0) := kp hb1 q0
              have q1 : w1.cell? ⟨w.heap.size + 1, 1, none⟩ = some (.int .i64 0) := kp hb1 q1
              have r0 : w1.cell? ⟨w.heap.size + 1 + 1, 0, none⟩ = some (.int .i64 o1) := kp hb1 r0
              have r1 : w1.cell? ⟨w.heap.size + 1 + 1, 1, none⟩ = some (.int .i64 o2) := kp hb1 r1
              have qf0 : w1.frozen? ⟨w.heap.size + 1, 0, none⟩ = false := (hb1.frozen (p := ⟨w.heap.size + 1, 0, none⟩) (by simp; omega)).trans qf0
              have qf1 : w1.frozen? ⟨w.heap.size + 1, 1, none⟩ = false := (hb1.frozen (p := ⟨w.heap.size + 1, 1, none⟩) (by simp; omega)).trans qf1
              have rf0 : w1.frozen? ⟨w.heap.size + 1 + 1, 0, none⟩ = false := (hb1.frozen (p := ⟨w.heap.size + 1 + 1, 0, none⟩) (by simp; omega)).trans rf0
              have rf1 : w1.frozen? ⟨w.heap.size + 1 + 1, 1, none⟩ = false := (hb1.frozen (p := ⟨w.heap.size + 1 + 1, 1, none⟩) (by simp; omega)).trans rf1
              have c0 : w1.cell? ⟨b, off + k * 3, none⟩ = some (.int .i64 x.til) := kp hb1 c0
              have c1 : w1.cell? ⟨b, off + k * 3 + 1, none⟩ = some (.int .i64 x.lo) := kp hb1 c1
              have c2 : w1.cell? ⟨b, off + k * 3 + 2, none⟩ = some (.int .i64 x.hi) := kp hb1 c2
              have hsz1 := hB1.size
              clear hb1
              go_upto_region 9 with fail
              go_region
              go_upto_region 10 with fail
              go_region
              go_wp2_with fail
              go_roundg (gk - 1)
              case measure => omega
              case rel => (refine ⟨k + 1, _, _, by omega, by omega, by go_num, HS.out, by go_grown, ?_, ?_, ?_, ?_, ?_, ?_, ?_, ?_, ?_, ?_⟩ <;> first | go_cell | (go_simp; done) | (exact World.cell?_setCell_same' _ _ _ (by go_simp)))
            · skip
              have hs8 : stepS (o1, o2) (x.lo, x.hi) = (x.lo, x.hi) := by
                unfold stepS
                simp only [if_neg hz]
                refine Prod.ext ?_ ?_ <;> simp only <;> omega
              rw [hs8] at hs9
              have HS := Lib.hid hs9
              clear hs8 hs9
              have HT := fun W h => Touches_any (some ⟨b, off, none⟩) n c k xs lo hi x W HN.out (by omega) h HX.out
              rw [ht] at HT
              have HT2 := Lib.hid HT
              clear HT ht
              go_wp2_with fail
              refine (HT2.out _ (((HXS.out).upto hB).mono hsz)).mono ?_
              rintro e w1 ⟨rfl, hb1⟩
              have hB1 : Below w.heap.size w w1 := below_after hB hb1
              have p0 : w1.cell? ⟨w.heap.size, 0, none⟩ = some (.int .i64 lo) := kp hb1 p0
              have p1 : w1.cell? ⟨w.heap.size, 1, none⟩ = some (.int .i64 hi) := kp hb1 p1
              have q0 : w1.cell? ⟨w.heap.size + 1, 0, none⟩ = some (.int .i64 0) := kp hb1 q0
              have q1 : w1.cell? ⟨w.heap.size + 1, 1, none⟩ = some (.int .i64 0) := kp hb1 q1
              have r0 : w1.cell? ⟨w.heap.size + 1 + 1, 0, none⟩ = some (.int .i64 o1) := kp hb1 r0
              have r1 : w1.cell? ⟨w.heap.size + 1 + 1, 1, none⟩ = some (.int .i64 o2) := kp hb1 r1
              have qf0 : w1.frozen? ⟨w.heap.size + 1, 0, none⟩ = false := (hb1.frozen (p := ⟨w.heap.size + 1, 0, none⟩) (by simp; omega)).trans qf0
              have qf1 : w1.frozen? ⟨w.heap.size + 1, 1, none⟩ = false := (hb1.frozen (p := ⟨w.heap.size + 1, 1, none⟩) (by simp; omega)).trans qf1
              have rf0 : w1.frozen? ⟨w.heap.size + 1 + 1, 0, none⟩ = false := (hb1.frozen (p := ⟨w.heap.size + 1 + 1, 0, none⟩) (by simp; omega)).trans rf0
              have rf1 : w1.frozen? ⟨w.heap.size + 1 + 1, 1, none⟩ = false := (hb1.frozen (p := ⟨w.heap.size + 1 + 1, 1, none⟩) (by simp; omega)).trans rf1
              have c0 : w1.cell? ⟨b, off + k * 3, none⟩ = some (.int .i64 x.til) := kp hb1 c0
              have c1 : w1.cell? ⟨b, off + k * 3 + 1, none⟩ = some (.int .i64 x.lo) := kp hb1 c1
              have c2 : w1.cell? ⟨b, off + k * 3 + 2, none⟩ = some (.int .i64 x.hi) := kp hb1 c2
              have hsz1 := hB1.size
              clear hb1
              go_upto_region 9 with fail
              go_region
              go_upto_region 10 with fail
              go_region
              go_wp2_with fail
              go_roundg (gk - 1)
              case measure => omega
              case rel => (refine ⟨k + 1, _, _, by omega, by omega, by go_num, HS.out, by go_grown, ?_, ?_, ?_, ?_, ?_, ?_, ?_, ?_, ?_, ?_⟩ <;> first | go_cell | (go_simp; done) | (exact World.cell?_setCell_same' _ _ _ (by go_simp)))
    · obtain rfl : k = n := by omega
      have hnlt : ¬ ((k : Int) < (k : Int)) := by omega
      have ha := HA.out
      rw [List.take_of_length_le (by rw [lay_length, HN.out]; exact Nat.le_refl _)] at ha
      have HE := Lib.hid ha
      clear ha HA
      go_wp2_with fail
      refine ret_span1 rfl rfl rfl ⟨by go_cell, by go_cell⟩ ⟨?_, by go_grown⟩
      rw [show speedP lo hi xs = (o1, o2) from HE.out]
end Go.Proofs.Ytollpjdnahemeaa
