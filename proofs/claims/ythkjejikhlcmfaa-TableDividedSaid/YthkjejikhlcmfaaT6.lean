import Derived.Test.YthkjejikhlcmfaaT5
namespace Go.Proofs.Ythkjejikhlcmfaa
open Go.RowKit
set_option linter.unusedSimpArgs false
set_option linter.unusedVariables false

theorem Rows?.take {w : World} {A : Option Addr} {xs : List Rw} (h : Rows? w A xs) (k : Nat) : Rows? w A (xs.take k) := fun hn => by
  obtain ⟨b, off, e, hc⟩ := h (by rw [List.length_take] at hn; omega)
  exact ⟨b, off, e, fun i r hr => hc i r (by
    rw [List.getElem?_take] at hr
    split at hr
    · exact hr
    · cases hr)⟩
theorem validB_take {xs : List Rw} (h : validB xs = true) (k : Nat) : validB (xs.take k) = true := by
  simp only [validB, Bool.and_eq_true, decide_eq_true_eq, List.all_eq_true] at h ⊢
  refine ⟨by rw [List.length_take]; omega, fun x hx => h.2 x (List.mem_of_mem_take hx)⟩
theorem find_take_succ (p : Rw → Bool) (xs : List Rw) (k : Nat) (r : Rw) (h : xs[k]? = some r) (h0 : (xs.take k).find? p = none) : (xs.take (k + 1)).find? p = if p r then some r else none := by
  obtain ⟨hk, rfl⟩ := List.getElem?_eq_some_iff.1 h
  rw [List.take_succ_eq_append_getElem hk, List.find?_append, h0]
  by_cases hp : p xs[k] = true <;> simp [hp]
theorem find_of_take (p : Rw → Bool) (xs : List Rw) (k : Nat) (r : Rw) (h : (xs.take k).find? p = some r) : xs.find? p = some r := by
  have e : xs = xs.take k ++ xs.drop k := (List.take_append_drop k xs).symm
  rw [e, List.find?_append, h]; rfl
theorem findS_none {xs : List Rw} {temp a s : Int} (h : validB xs = true) (h2 : useB temp a s = true) (h3 : xs.find? (Rw.isFor temp a s) = none) : findS xs temp a s = (0, 0, 4) := by simp [findS, h, h2, h3]
theorem findS_some {xs : List Rw} {temp a s : Int} {r : Rw} (h : validB xs = true) (h2 : useB temp a s = true) (h3 : xs.find? (Rw.isFor temp a s) = some r) : findS xs temp a s = (r.part, r.turn, 0) := by simp [findS, h, h2, h3]
theorem isFor_iff (temp a s : Int) (r : Rw) : r.isFor temp a s = true ↔ (r.lo ≤ temp ∧ temp ≤ r.hi ∧ a ≤ r.age ∧ s ≤ r.since) := by simp [Rw.isFor, forB, limB]; omega

set_option maxHeartbeats 1600000 in
set_option maxRecDepth 100000 in
theorem matches_walk (temp a s : Int) (A : Option Addr) (n c : Nat) (xs : List Rw) (w : World) (hn : xs.length = n) (hbig : n ≤ 9223372036854775807) (hnc : n ≤ c) (hx : Rows? w A xs) :
    Calls Try.prog 3 #[.slice A n c, .int .i64 temp, .int .i64 a, .int .i64 s] w fun e w' => e = .returned (.bool true) ∧ Below w.heap.size w w' := by
  have f1 := fun w h => Find_any temp a s A n c xs w hn hbig h
  have f2 := fun w h => RFind_any temp a s A n c xs w hn hbig h
  have v1 := fun w h => Valid_any A n c xs w hn hbig h
  have v2 := fun w h => RValid_any A n c xs w hn hbig h
  obtain ⟨p, t, e⟩ := findS xs temp a s
  generalize validB xs = v at *
  have HF1 := Lib.hid f1
  have HF2 := Lib.hid f2
  have HV1 := Lib.hid v1
  have HV2 := Lib.hid v2
  have HX := Lib.hid hx
  clear f1 f2 v1 v2 hx hn
  go_enter Try.func3, Try.ntmps3
  go_wp2_with fail
  refine (head_any _).mono ?_
  rintro e w1 ⟨rfl, hb1⟩
  have hB1 : Below w.heap.size w w1 := below_after (by go_grown) hb1
  have hz1 := hb1.size
  try simp only [World.size_alloc, World.size_setCell, World.size_drew] at hz1
  have hw1 := hB1.size
  clear hb1
  go_wp2_with fail
  refine (HF1.out _ (HX.out.below hB1)).mono ?_
  rintro e w2 ⟨rfl, hb2⟩
  have hB2 : Below w.heap.size w w2 := below_after (by go_grown) hb2
  have hz2 := hb2.size
  try simp only [World.size_alloc, World.size_setCell, World.size_drew] at hz2
  have hw2 := hB2.size
  clear hb2 hB1
  go_wp2_with fail
  refine (HF2.out _ (HX.out.below hB2)).mono ?_
  rintro e w3 ⟨rfl, hb3⟩
  have hB3 : Below w.heap.size w w3 := below_after (by go_grown) hb3
  have hz3 := hb3.size
  try simp only [World.size_alloc, World.size_setCell, World.size_drew] at hz3
  have hw3 := hB3.size
  clear hb3 hB2
  go_wp2_with fail
  refine (HV1.out _ (HX.out.below hB3)).mono ?_
  rintro e w4 ⟨rfl, hb4⟩
  have hB4 : Below w.heap.size w w4 := below_after (by go_grown) hb4
  have hz4 := hb4.size
  try simp only [World.size_alloc, World.size_setCell, World.size_drew] at hz4
  have hw4 := hB4.size
  clear hb4 hB3
  go_wp2_with fail
  refine (HV2.out _ (HX.out.below hB4)).mono ?_
  rintro e w5 ⟨rfl, hb5⟩
  have hB5 : Below w.heap.size w w5 := below_after (by go_grown) hb5
  have hz5 := hb5.size
  try simp only [World.size_alloc, World.size_setCell, World.size_drew] at hz5
  have hw5 := hB5.size
  clear hb5 hB4
  go_wp2_with fail
  go_ret
  exact ⟨rfl, by go_grown⟩

set_option maxHeartbeats 1600000 in
set_option maxRecDepth 100000 in
theorem first_no (temp a s : Int) (A : Option Addr) (n c : Nat) (xs : List Rw) (w : World) (hn : xs.length = n) (hbig : n ≤ 9223372036854775807) (hnc : n ≤ c) (hx : Rows? w A xs) (h : (validB xs && useB temp a s) = false) :
    Calls Try.prog 4 #[.slice A n c, .int .i64 temp, .int .i64 a, .int .i64 s] w fun e w' => e = .returned (.bool true) ∧ Below w.heap.size w w' := by
  have u := fun w h => usable_any temp a s A n c xs w hn hbig h
  rw [h] at u
  have HU := Lib.hid u
  have HX := Lib.hid hx
  clear u h hx hn
  go_enter Try.func4, Try.ntmps4
  go_wp2_with fail
  refine (head_any _).mono ?_
  rintro e w1 ⟨rfl, hb1⟩
  have hB1 : Below w.heap.size w w1 := below_after (by go_grown) hb1
  have hz1 := hb1.size
  try simp only [World.size_alloc, World.size_setCell, World.size_drew] at hz1
  have hw1 := hB1.size
  clear hb1
  go_wp2_with fail
  refine (HU.out _ (HX.out.below hB1)).mono ?_
  rintro e w2 ⟨rfl, hb2⟩
  have hB2 : Below w.heap.size w w2 := below_after (by go_grown) hb2
  have hz2 := hb2.size
  try simp only [World.size_alloc, World.size_setCell, World.size_drew] at hz2
  have hw2 := hB2.size
  clear hb2 hB1
  go_wp2_with fail
  go_ret
  exact ⟨rfl, by go_grown⟩

set_option maxHeartbeats 1600000 in
set_option maxRecDepth 100000 in
theorem less_no (temp a s : Int) (y l : Int) (A : Option Addr) (n c : Nat) (xs : List Rw) (w : World) (hn : xs.length = n) (hbig : n ≤ 9223372036854775807) (hnc : n ≤ c) (hx : Rows? w A xs) (h : (validB xs && useB temp a s) = false) :
    Calls Try.prog 8 #[.slice A n c, .int .i64 temp, .int .i64 a, .int .i64 s, .int .u16 y, .int .u16 l] w fun e w' => e = .returned (.bool true) ∧ Below w.heap.size w w' := by
  have u := fun w h => usable_any temp a s A n c xs w hn hbig h
  rw [h] at u
  have HU := Lib.hid u
  have HX := Lib.hid hx
  clear u h hx hn
  go_enter Try.func8, Try.ntmps8
  go_wp2_with fail
  refine (head_any _).mono ?_
  rintro e w1 ⟨rfl, hb1⟩
  have hB1 : Below w.heap.size w w1 := below_after (by go_grown) hb1
  have hz1 := hb1.size
  try simp only [World.size_alloc, World.size_setCell, World.size_drew] at hz1
  have hw1 := hB1.size
  clear hb1
  go_wp2_with fail
  refine (HU.out _ (HX.out.below hB1)).mono ?_
  rintro e w2 ⟨rfl, hb2⟩
  have hB2 : Below w.heap.size w w2 := below_after (by go_grown) hb2
  have hz2 := hb2.size
  try simp only [World.size_alloc, World.size_setCell, World.size_drew] at hz2
  have hw2 := hB2.size
  clear hb2 hB1
  go_wp2_with fail
  go_ret
  exact ⟨rfl, by go_grown⟩

set_option maxHeartbeats 1600000 in
set_option maxRecDepth 100000 in
theorem first_yes (temp a s : Int) (A : Option Addr) (n c : Nat) (xs : List Rw) (w : World) (hn : xs.length = n) (hbig : n ≤ 9223372036854775807) (hnc : n ≤ c) (hx : Rows? w A xs) (h : (validB xs && useB temp a s) = true) :
    Calls Try.prog 4 #[.slice A n c, .int .i64 temp, .int .i64 a, .int .i64 s] w fun e w' => e = .returned (.bool true) ∧ Below w.heap.size w w' := by
  have u := fun w h => usable_any temp a s A n c xs w hn hbig h
  rw [h] at u
  have f := fun w h => Find_any temp a s A n c xs w hn hbig h
  generalize hP : (findS xs temp a s).1 = P at *
  generalize hT : (findS xs temp a s).2.1 = T at *
  generalize hE : (findS xs temp a s).2.2 = E at *
  have hF : findS xs temp a s = (P, T, E) := by rw [← hP, ← hT, ← hE]
  have h1 := and_left h
  have h2 := and_right h
  have HU := Lib.hid u
  have HF := Lib.hid f
  have HX := Lib.hid hx
  have HN := Lib.hid hn
  have HV := Lib.hid h1
  have HS := Lib.hid h2
  have HQ := Lib.hid hF
  clear u f h h1 h2 hx hn hP hT hE hF
  go_enter Try.func4, Try.ntmps4
  go_wp2_with fail
  refine (head_any _).mono ?_
  rintro e w1 ⟨rfl, hb1⟩
  have hB1 : Below w.heap.size w w1 := below_after (by go_grown) hb1
  have hz1 := hb1.size
  try simp only [World.size_alloc, World.size_setCell, World.size_drew] at hz1
  have hw1 := hB1.size
  clear hb1
  go_wp2_with fail
  refine (HU.out _ (HX.out.below hB1)).mono ?_
  rintro e w2 ⟨rfl, hb2⟩
  have hB2 : Below w.heap.size w w2 := below_after (by go_grown) hb2
  have hz2 := hb2.size
  try simp only [World.size_alloc, World.size_setCell, World.size_drew] at hz2
  have hw2 := hB2.size
  clear hb2 hB1
  go_wp2_with fail
  refine (HF.out _ (HX.out.below hB2)).mono ?_
  rintro e w3 ⟨rfl, hb3⟩
  have hB3 : Below w.heap.size w w3 := below_after (by go_grown) hb3
  have hz3 := hb3.size
  try simp only [World.size_alloc, World.size_setCell, World.size_drew] at hz3
  have hw3 := hB3.size
  clear hb3 hB2
  go_wp2_with fail
  go_loopg [37] (n + 1) (fun g s37 wr => ∃ k : Nat, k ≤ n ∧ g + k = n + 1 ∧ s37 = .int .i64 k ∧ Aside ((xs.take k).find? (Rw.isFor temp a s) = none) ∧ Below w.heap.size w wr)
  case atStart => exact ⟨0, by omega, by omega, rfl, (by show (xs.take 0).find? _ = none; simp), by assumption⟩
  case round =>
    obtain ⟨k, hk, hg, rfl, HB, hBr⟩ := hrel
    have hwr := hBr.size
    by_cases hlt : k < n
    · obtain ⟨r, hr⟩ : ∃ r, xs[k]? = some r := ⟨_, List.getElem?_eq_getElem (by rw [HN.out]; exact hlt)⟩
      have hd := find_take_succ (Rw.isFor temp a s) xs k r hr HB.out
      have f := fun w h => Find_any temp a s A k c (xs.take k) w (by rw [List.length_take, HN.out]; omega) (by omega) h
      rw [findS_none (validB_take HV.out k) HS.out HB.out] at f
      have HFk := Lib.hid f
      obtain ⟨b, off, rfl, hc⟩ := HX.out (by rw [HN.out]; omega)
      obtain ⟨c0, c1, c2, c3, c4, c5⟩ := (hc k r hr).below hBr
      have hb := World.block_lt_of_cell? _ _ c0
      simp only at hb
      have hlt2 : (k : Int) < (n : Int) := by omega
      have hkc : (k : Int) ≤ (c : Int) := by omega
      by_cases hq : r.isFor temp a s = true
      · rw [hq, if_pos rfl] at hd
        have e1 := HQ.out.symm.trans (findS_some HV.out HS.out (find_of_take _ _ _ _ hd))
        simp only [Prod.mk.injEq] at e1
        obtain ⟨rfl, rfl, rfl⟩ := e1
        obtain ⟨q1, q2, q3, q4⟩ := (isFor_iff temp a s r).1 hq
        have HD := Lib.hid hd
        clear hd hc hr hq f
        go_wp2_with fail
        refine (HFk.out _ ((HX.out.take k).below (by go_grown))).mono ?_
        rintro e z1 ⟨rfl, hb1⟩
        have d0 : z1.cell? ⟨wr.heap.size, 0, none⟩ = some (.int .i64 r.lo) := kp hb1 (by go_cell)
        have d1 : z1.cell? ⟨wr.heap.size, 1, none⟩ = some (.int .i64 r.hi) := kp hb1 (by go_cell)
        have d2 : z1.cell? ⟨wr.heap.size, 2, none⟩ = some (.int .i64 r.age) := kp hb1 (by go_cell)
        have d3 : z1.cell? ⟨wr.heap.size, 3, none⟩ = some (.int .i64 r.since) := kp hb1 (by go_cell)
        have d4 : z1.cell? ⟨wr.heap.size, 4, none⟩ = some (.int .i64 r.part) := kp hb1 (by go_cell)
        have d5 : z1.cell? ⟨wr.heap.size, 5, none⟩ = some (.int .i64 r.turn) := kp hb1 (by go_cell)
        have hB1 : Below w.heap.size w z1 := below_after (by go_grown) hb1
        clear hb1
        go_wp2_with fail
        go_ret
        exact ⟨rfl, by go_grown⟩
      · have hnq : ¬ (r.lo ≤ temp ∧ temp ≤ r.hi ∧ a ≤ r.age ∧ s ≤ r.since) := fun h => hq ((isFor_iff temp a s r).2 h)
        rw [if_neg hq] at hd
        have HD := Lib.hid hd
        have HNQ := Lib.hid hnq
        clear hd hc hr hq f hnq
        go_wp2_with fail
        refine (HFk.out _ ((HX.out.take k).below (by go_grown))).mono ?_
        rintro e z1 ⟨rfl, hb1⟩
        have d0 : z1.cell? ⟨wr.heap.size, 0, none⟩ = some (.int .i64 r.lo) := kp hb1 (by go_cell)
        have d1 : z1.cell? ⟨wr.heap.size, 1, none⟩ = some (.int .i64 r.hi) := kp hb1 (by go_cell)
        have d2 : z1.cell? ⟨wr.heap.size, 2, none⟩ = some (.int .i64 r.age) := kp hb1 (by go_cell)
        have d3 : z1.cell? ⟨wr.heap.size, 3, none⟩ = some (.int .i64 r.since) := kp hb1 (by go_cell)
        have d4 : z1.cell? ⟨wr.heap.size, 4, none⟩ = some (.int .i64 r.part) := kp hb1 (by go_cell)
        have d5 : z1.cell? ⟨wr.heap.size, 5, none⟩ = some (.int .i64 r.turn) := kp hb1 (by go_cell)
        have hB1 : Below w.heap.size w z1 := below_after (by go_grown) hb1
        clear hb1
        go_wp2_with fail
        all_goals first
          | (exfalso; have h9 := HNQ.out; omega)
          | (go_roundg (gk - 1)
             case measure => omega
             case rel => exact ⟨k + 1, by omega, by omega, by go_num, HD.out, hB1⟩)
    · have hd : xs.find? (Rw.isFor temp a s) = none := by
        have := HB.out
        rwa [List.take_of_length_le (by rw [HN.out]; omega)] at this
      have e1 := HQ.out.symm.trans (findS_none HV.out HS.out hd)
      simp only [Prod.mk.injEq] at e1
      obtain ⟨rfl, rfl, rfl⟩ := e1
      have hnlt : ¬ ((k : Int) < (n : Int)) := by omega
      clear hd
      go_wp2_with fail
      go_ret
      exact ⟨rfl, by go_grown⟩
set_option maxHeartbeats 1600000 in
set_option maxRecDepth 100000 in
theorem less_yes1 (temp a s y l : Int) (A : Option Addr) (n c : Nat) (xs : List Rw) (w : World) (hn : xs.length = n) (hbig : n ≤ 9223372036854775807) (hnc : n ≤ c) (hx : Rows? w A xs) (hy : 0 ≤ y) (hy2 : y ≤ 65535) (hl : 0 ≤ l) (hl2 : l ≤ 65535) (h : (validB xs && useB temp a s) = true) (hca : 0 < a - y) (hcs : 0 < s - l) :
    Calls Try.prog 8 #[.slice A n c, .int .i64 temp, .int .i64 a, .int .i64 s, .int .u16 y, .int .u16 l] w fun e w' => e = .returned (.bool true) ∧ Below w.heap.size w w' := by
  have u := fun w h => usable_any temp a s A n c xs w hn hbig h
  rw [h] at u
  have h1 := and_left h
  have h2 := and_right h
  have h2b : useB temp (a - y) (s - l) = true := by simp [useB, limB] at h2 ⊢; omega
  obtain ⟨ua, us⟩ := useB_nonneg h2
  have ub : a ≤ 10000 ∧ s ≤ 1000000000 := by simp [useB, limB] at h2; omega
  obtain ⟨ub1, ub2⟩ := ub
  have HU := Lib.hid u
  have HX := Lib.hid hx
  have HN := Lib.hid hn
  have HV := Lib.hid h1
  have HS := Lib.hid h2
  have HS2 := Lib.hid h2b
  clear u h h1 h2 h2b hx hn
  go_enter Try.func8, Try.ntmps8
  go_wp2_with fail
  refine (head_any _).mono ?_
  rintro e w1 ⟨rfl, hb1⟩
  have hB1 : Below w.heap.size w w1 := below_after (by go_grown) hb1
  have hz1 := hb1.size
  try simp only [World.size_alloc, World.size_setCell, World.size_drew] at hz1
  have hw1 := hB1.size
  clear hb1
  go_wp2_with fail
  refine (HU.out _ (HX.out.below hB1)).mono ?_
  rintro e w2 ⟨rfl, hb2⟩
  have hB2 : Below w.heap.size w w2 := below_after (by go_grown) hb2
  have hz2 := hb2.size
  try simp only [World.size_alloc, World.size_setCell, World.size_drew] at hz2
  have hw2 := hB2.size
  clear hb2 hB1
  go_wp2_with fail
  go_loopg [43] (n + 1) (fun g s43 wr => ∃ k : Nat, k ≤ n ∧ g + k = n + 1 ∧ s43 = .int .i64 k ∧ Aside ((xs.take k).find? (Rw.isFor temp a s) = none) ∧ Below w.heap.size w wr)
  case atStart => exact ⟨0, by omega, by omega, rfl, (by show (xs.take 0).find? _ = none; simp), by assumption⟩
  case round =>
    obtain ⟨k, hk, hg, rfl, HB, hBr⟩ := hrel
    have hwr := hBr.size
    by_cases hlt : k < n
    · obtain ⟨r, hr⟩ : ∃ r, xs[k]? = some r := ⟨_, List.getElem?_eq_getElem (by rw [HN.out]; exact hlt)⟩
      have hd := find_take_succ (Rw.isFor temp a s) xs k r hr HB.out
      have hlen : (xs.take (k + 1)).length = k + 1 := by rw [List.length_take, HN.out]; omega
      have f := fun w h => Find_any temp a s A (k + 1) c (xs.take (k + 1)) w hlen (by omega) h
      obtain ⟨b, off, rfl, hc⟩ := HX.out (by rw [HN.out]; omega)
      have hlt2 : (k : Int) < (n : Int) := by omega
      have hkc : (k : Int) + 1 ≤ (c : Int) := by omega
      clear hc
      by_cases hq : r.isFor temp a s = true
      · rw [hq, if_pos rfl] at hd
        rw [findS_some (validB_take HV.out (k + 1)) HS.out hd] at f
        -- a row for the lesser use
        obtain ⟨q1, q2, q3, q4⟩ := (isFor_iff temp a s r).1 hq
        have hq2 : r.isFor temp (a - y) (s - l) = true := (isFor_iff _ _ _ r).2 ⟨q1, q2, by omega, by omega⟩
        obtain ⟨r2, hr2⟩ : ∃ r2, (xs.take (k + 1)).find? (Rw.isFor temp (a - y) (s - l)) = some r2 := by
          cases hf : (xs.take (k + 1)).find? (Rw.isFor temp (a - y) (s - l)) with
          | some r2 => exact ⟨r2, rfl⟩
          | none =>
            rw [List.find?_eq_none] at hf
            exact absurd hq2 (hf r (List.mem_of_find?_eq_some hd))
        have f2 := fun w h => Find_any temp (a - y) (s - l) (some ⟨b, off, none⟩) (k + 1) c (xs.take (k + 1)) w hlen (by omega) h
        have f3 := fun w h h' => same_any temp (a - y) (s - l) (some ⟨b, off, none⟩) (k + 1) c (xs.take (k + 1)) (some ⟨b, off, none⟩) n c xs w hlen (by omega) h HN.out hbig h'
          (by rw [findS_some (validB_take HV.out (k + 1)) HS2.out hr2, findS_some HV.out HS2.out (find_of_take _ _ _ _ hr2)]) (validB_take HV.out (k + 1)) HS2.out
        rw [findS_some (validB_take HV.out (k + 1)) HS2.out hr2] at f2
        have HF1 := Lib.hid f
        have HF2 := Lib.hid f2
        have HF3 := Lib.hid f3
        clear hd hr hq hq2 hr2 f f2 f3 q1 q2 q3 q4 hlen
        go_wp2_with fail
        refine (HF1.out _ ((HX.out.take (k + 1)).below hBr)).mono ?_
        rintro e z1 ⟨rfl, hb1⟩
        have hB1 : Below w.heap.size w z1 := below_after hBr hb1
        clear hb1
        go_wp2_with fail
        refine (HF2.out _ ((HX.out.take (k + 1)).below hB1)).mono ?_
        rintro e z2 ⟨rfl, hb2⟩
        have hB2 : Below w.heap.size w z2 := below_after hB1 hb2
        clear hb2
        go_wp2_with fail
        refine (HF3.out _ ((HX.out.take (k + 1)).below hB2) (HX.out.below hB2)).mono ?_
        rintro e z3 ⟨rfl, hb3⟩
        have hB3 : Below w.heap.size w z3 := below_after hB2 hb3
        clear hb3
        go_wp2_with fail
        go_ret
        exact ⟨rfl, by go_grown⟩
      · rw [if_neg hq] at hd
        rw [findS_none (validB_take HV.out (k + 1)) HS.out hd] at f
        have HF1 := Lib.hid f
        have HD := Lib.hid hd
        clear hd hr hq f hlen
        go_wp2_with fail
        refine (HF1.out _ ((HX.out.take (k + 1)).below hBr)).mono ?_
        rintro e z1 ⟨rfl, hb1⟩
        have hB1 : Below w.heap.size w z1 := below_after hBr hb1
        clear hb1
        go_wp2_with fail
        go_roundg (gk - 1)
        case measure => omega
        case rel => exact ⟨k + 1, by omega, by omega, by go_num, HD.out, hB1⟩
    · have hnlt : ¬ ((k : Int) < (n : Int)) := by omega
      go_wp2_with fail
      go_ret
      exact ⟨rfl, by go_grown⟩
set_option maxHeartbeats 1600000 in
set_option maxRecDepth 100000 in
theorem less_yes2 (temp a s y l : Int) (A : Option Addr) (n c : Nat) (xs : List Rw) (w : World) (hn : xs.length = n) (hbig : n ≤ 9223372036854775807) (hnc : n ≤ c) (hx : Rows? w A xs) (hy : 0 ≤ y) (hy2 : y ≤ 65535) (hl : 0 ≤ l) (hl2 : l ≤ 65535) (h : (validB xs && useB temp a s) = true) (hca : 0 < a - y) (hcs : ¬ 0 < s - l) :
    Calls Try.prog 8 #[.slice A n c, .int .i64 temp, .int .i64 a, .int .i64 s, .int .u16 y, .int .u16 l] w fun e w' => e = .returned (.bool true) ∧ Below w.heap.size w w' := by
  have u := fun w h => usable_any temp a s A n c xs w hn hbig h
  rw [h] at u
  have h1 := and_left h
  have h2 := and_right h
  have h2b : useB temp (a - y) (0) = true := by simp [useB, limB] at h2 ⊢; omega
  obtain ⟨ua, us⟩ := useB_nonneg h2
  have ub : a ≤ 10000 ∧ s ≤ 1000000000 := by simp [useB, limB] at h2; omega
  obtain ⟨ub1, ub2⟩ := ub
  have HU := Lib.hid u
  have HX := Lib.hid hx
  have HN := Lib.hid hn
  have HV := Lib.hid h1
  have HS := Lib.hid h2
  have HS2 := Lib.hid h2b
  clear u h h1 h2 h2b hx hn
  go_enter Try.func8, Try.ntmps8
  go_wp2_with fail
  refine (head_any _).mono ?_
  rintro e w1 ⟨rfl, hb1⟩
  have hB1 : Below w.heap.size w w1 := below_after (by go_grown) hb1
  have hz1 := hb1.size
  try simp only [World.size_alloc, World.size_setCell, World.size_drew] at hz1
  have hw1 := hB1.size
  clear hb1
  go_wp2_with fail
  refine (HU.out _ (HX.out.below hB1)).mono ?_
  rintro e w2 ⟨rfl, hb2⟩
  have hB2 : Below w.heap.size w w2 := below_after (by go_grown) hb2
  have hz2 := hb2.size
  try simp only [World.size_alloc, World.size_setCell, World.size_drew] at hz2
  have hw2 := hB2.size
  clear hb2 hB1
  go_wp2_with fail
  go_loopg [43] (n + 1) (fun g s43 wr => ∃ k : Nat, k ≤ n ∧ g + k = n + 1 ∧ s43 = .int .i64 k ∧ Aside ((xs.take k).find? (Rw.isFor temp a s) = none) ∧ Below w.heap.size w wr)
  case atStart => exact ⟨0, by omega, by omega, rfl, (by show (xs.take 0).find? _ = none; simp), by assumption⟩
  case round =>
    obtain ⟨k, hk, hg, rfl, HB, hBr⟩ := hrel
    have hwr := hBr.size
    by_cases hlt : k < n
    · obtain ⟨r, hr⟩ : ∃ r, xs[k]? = some r := ⟨_, List.getElem?_eq_getElem (by rw [HN.out]; exact hlt)⟩
      have hd := find_take_succ (Rw.isFor temp a s) xs k r hr HB.out
      have hlen : (xs.take (k + 1)).length = k + 1 := by rw [List.length_take, HN.out]; omega
      have f := fun w h => Find_any temp a s A (k + 1) c (xs.take (k + 1)) w hlen (by omega) h
      obtain ⟨b, off, rfl, hc⟩ := HX.out (by rw [HN.out]; omega)
      have hlt2 : (k : Int) < (n : Int) := by omega
      have hkc : (k : Int) + 1 ≤ (c : Int) := by omega
      clear hc
      by_cases hq : r.isFor temp a s = true
      · rw [hq, if_pos rfl] at hd
        rw [findS_some (validB_take HV.out (k + 1)) HS.out hd] at f
        -- a row for the lesser use
        obtain ⟨q1, q2, q3, q4⟩ := (isFor_iff temp a s r).1 hq
        have hq2 : r.isFor temp (a - y) (0) = true := (isFor_iff _ _ _ r).2 ⟨q1, q2, by omega, by omega⟩
        obtain ⟨r2, hr2⟩ : ∃ r2, (xs.take (k + 1)).find? (Rw.isFor temp (a - y) (0)) = some r2 := by
          cases hf : (xs.take (k + 1)).find? (Rw.isFor temp (a - y) (0)) with
          | some r2 => exact ⟨r2, rfl⟩
          | none =>
            rw [List.find?_eq_none] at hf
            exact absurd hq2 (hf r (List.mem_of_find?_eq_some hd))
        have f2 := fun w h => Find_any temp (a - y) (0) (some ⟨b, off, none⟩) (k + 1) c (xs.take (k + 1)) w hlen (by omega) h
        have f3 := fun w h h' => same_any temp (a - y) (0) (some ⟨b, off, none⟩) (k + 1) c (xs.take (k + 1)) (some ⟨b, off, none⟩) n c xs w hlen (by omega) h HN.out hbig h'
          (by rw [findS_some (validB_take HV.out (k + 1)) HS2.out hr2, findS_some HV.out HS2.out (find_of_take _ _ _ _ hr2)]) (validB_take HV.out (k + 1)) HS2.out
        rw [findS_some (validB_take HV.out (k + 1)) HS2.out hr2] at f2
        have HF1 := Lib.hid f
        have HF2 := Lib.hid f2
        have HF3 := Lib.hid f3
        clear hd hr hq hq2 hr2 f f2 f3 q1 q2 q3 q4 hlen
        go_wp2_with fail
        refine (HF1.out _ ((HX.out.take (k + 1)).below hBr)).mono ?_
        rintro e z1 ⟨rfl, hb1⟩
        have hB1 : Below w.heap.size w z1 := below_after hBr hb1
        clear hb1
        go_wp2_with fail
        refine (HF2.out _ ((HX.out.take (k + 1)).below hB1)).mono ?_
        rintro e z2 ⟨rfl, hb2⟩
        have hB2 : Below w.heap.size w z2 := below_after hB1 hb2
        clear hb2
        go_wp2_with fail
        refine (HF3.out _ ((HX.out.take (k + 1)).below hB2) (HX.out.below hB2)).mono ?_
        rintro e z3 ⟨rfl, hb3⟩
        have hB3 : Below w.heap.size w z3 := below_after hB2 hb3
        clear hb3
        go_wp2_with fail
        go_ret
        exact ⟨rfl, by go_grown⟩
      · rw [if_neg hq] at hd
        rw [findS_none (validB_take HV.out (k + 1)) HS.out hd] at f
        have HF1 := Lib.hid f
        have HD := Lib.hid hd
        clear hd hr hq f hlen
        go_wp2_with fail
        refine (HF1.out _ ((HX.out.take (k + 1)).below hBr)).mono ?_
        rintro e z1 ⟨rfl, hb1⟩
        have hB1 : Below w.heap.size w z1 := below_after hBr hb1
        clear hb1
        go_wp2_with fail
        go_roundg (gk - 1)
        case measure => omega
        case rel => exact ⟨k + 1, by omega, by omega, by go_num, HD.out, hB1⟩
    · have hnlt : ¬ ((k : Int) < (n : Int)) := by omega
      go_wp2_with fail
      go_ret
      exact ⟨rfl, by go_grown⟩
set_option maxHeartbeats 1600000 in
set_option maxRecDepth 100000 in
theorem less_yes3 (temp a s y l : Int) (A : Option Addr) (n c : Nat) (xs : List Rw) (w : World) (hn : xs.length = n) (hbig : n ≤ 9223372036854775807) (hnc : n ≤ c) (hx : Rows? w A xs) (hy : 0 ≤ y) (hy2 : y ≤ 65535) (hl : 0 ≤ l) (hl2 : l ≤ 65535) (h : (validB xs && useB temp a s) = true) (hca : ¬ 0 < a - y) (hcs : 0 < s - l) :
    Calls Try.prog 8 #[.slice A n c, .int .i64 temp, .int .i64 a, .int .i64 s, .int .u16 y, .int .u16 l] w fun e w' => e = .returned (.bool true) ∧ Below w.heap.size w w' := by
  have u := fun w h => usable_any temp a s A n c xs w hn hbig h
  rw [h] at u
  have h1 := and_left h
  have h2 := and_right h
  have h2b : useB temp (0) (s - l) = true := by simp [useB, limB] at h2 ⊢; omega
  obtain ⟨ua, us⟩ := useB_nonneg h2
  have ub : a ≤ 10000 ∧ s ≤ 1000000000 := by simp [useB, limB] at h2; omega
  obtain ⟨ub1, ub2⟩ := ub
  have HU := Lib.hid u
  have HX := Lib.hid hx
  have HN := Lib.hid hn
  have HV := Lib.hid h1
  have HS := Lib.hid h2
  have HS2 := Lib.hid h2b
  clear u h h1 h2 h2b hx hn
  go_enter Try.func8, Try.ntmps8
  go_wp2_with fail
  refine (head_any _).mono ?_
  rintro e w1 ⟨rfl, hb1⟩
  have hB1 : Below w.heap.size w w1 := below_after (by go_grown) hb1
  have hz1 := hb1.size
  try simp only [World.size_alloc, World.size_setCell, World.size_drew] at hz1
  have hw1 := hB1.size
  clear hb1
  go_wp2_with fail
  refine (HU.out _ (HX.out.below hB1)).mono ?_
  rintro e w2 ⟨rfl, hb2⟩
  have hB2 : Below w.heap.size w w2 := below_after (by go_grown) hb2
  have hz2 := hb2.size
  try simp only [World.size_alloc, World.size_setCell, World.size_drew] at hz2
  have hw2 := hB2.size
  clear hb2 hB1
  go_wp2_with fail
  go_loopg [43] (n + 1) (fun g s43 wr => ∃ k : Nat, k ≤ n ∧ g + k = n + 1 ∧ s43 = .int .i64 k ∧ Aside ((xs.take k).find? (Rw.isFor temp a s) = none) ∧ Below w.heap.size w wr)
  case atStart => exact ⟨0, by omega, by omega, rfl, (by show (xs.take 0).find? _ = none; simp), by assumption⟩
  case round =>
    obtain ⟨k, hk, hg, rfl, HB, hBr⟩ := hrel
    have hwr := hBr.size
    by_cases hlt : k < n
    · obtain ⟨r, hr⟩ : ∃ r, xs[k]? = some r := ⟨_, List.getElem?_eq_getElem (by rw [HN.out]; exact hlt)⟩
      have hd := find_take_succ (Rw.isFor temp a s) xs k r hr HB.out
      have hlen : (xs.take (k + 1)).length = k + 1 := by rw [List.length_take, HN.out]; omega
      have f := fun w h => Find_any temp a s A (k + 1) c (xs.take (k + 1)) w hlen (by omega) h
      obtain ⟨b, off, rfl, hc⟩ := HX.out (by rw [HN.out]; omega)
      have hlt2 : (k : Int) < (n : Int) := by omega
      have hkc : (k : Int) + 1 ≤ (c : Int) := by omega
      clear hc
      by_cases hq : r.isFor temp a s = true
      · rw [hq, if_pos rfl] at hd
        rw [findS_some (validB_take HV.out (k + 1)) HS.out hd] at f
        -- a row for the lesser use
        obtain ⟨q1, q2, q3, q4⟩ := (isFor_iff temp a s r).1 hq
        have hq2 : r.isFor temp (0) (s - l) = true := (isFor_iff _ _ _ r).2 ⟨q1, q2, by omega, by omega⟩
        obtain ⟨r2, hr2⟩ : ∃ r2, (xs.take (k + 1)).find? (Rw.isFor temp (0) (s - l)) = some r2 := by
          cases hf : (xs.take (k + 1)).find? (Rw.isFor temp (0) (s - l)) with
          | some r2 => exact ⟨r2, rfl⟩
          | none =>
            rw [List.find?_eq_none] at hf
            exact absurd hq2 (hf r (List.mem_of_find?_eq_some hd))
        have f2 := fun w h => Find_any temp (0) (s - l) (some ⟨b, off, none⟩) (k + 1) c (xs.take (k + 1)) w hlen (by omega) h
        have f3 := fun w h h' => same_any temp (0) (s - l) (some ⟨b, off, none⟩) (k + 1) c (xs.take (k + 1)) (some ⟨b, off, none⟩) n c xs w hlen (by omega) h HN.out hbig h'
          (by rw [findS_some (validB_take HV.out (k + 1)) HS2.out hr2, findS_some HV.out HS2.out (find_of_take _ _ _ _ hr2)]) (validB_take HV.out (k + 1)) HS2.out
        rw [findS_some (validB_take HV.out (k + 1)) HS2.out hr2] at f2
        have HF1 := Lib.hid f
        have HF2 := Lib.hid f2
        have HF3 := Lib.hid f3
        clear hd hr hq hq2 hr2 f f2 f3 q1 q2 q3 q4 hlen
        go_wp2_with fail
        refine (HF1.out _ ((HX.out.take (k + 1)).below hBr)).mono ?_
        rintro e z1 ⟨rfl, hb1⟩
        have hB1 : Below w.heap.size w z1 := below_after hBr hb1
        clear hb1
        go_wp2_with fail
        refine (HF2.out _ ((HX.out.take (k + 1)).below hB1)).mono ?_
        rintro e z2 ⟨rfl, hb2⟩
        have hB2 : Below w.heap.size w z2 := below_after hB1 hb2
        clear hb2
        go_wp2_with fail
        refine (HF3.out _ ((HX.out.take (k + 1)).below hB2) (HX.out.below hB2)).mono ?_
        rintro e z3 ⟨rfl, hb3⟩
        have hB3 : Below w.heap.size w z3 := below_after hB2 hb3
        clear hb3
        go_wp2_with fail
        go_ret
        exact ⟨rfl, by go_grown⟩
      · rw [if_neg hq] at hd
        rw [findS_none (validB_take HV.out (k + 1)) HS.out hd] at f
        have HF1 := Lib.hid f
        have HD := Lib.hid hd
        clear hd hr hq f hlen
        go_wp2_with fail
        refine (HF1.out _ ((HX.out.take (k + 1)).below hBr)).mono ?_
        rintro e z1 ⟨rfl, hb1⟩
        have hB1 : Below w.heap.size w z1 := below_after hBr hb1
        clear hb1
        go_wp2_with fail
        go_roundg (gk - 1)
        case measure => omega
        case rel => exact ⟨k + 1, by omega, by omega, by go_num, HD.out, hB1⟩
    · have hnlt : ¬ ((k : Int) < (n : Int)) := by omega
      go_wp2_with fail
      go_ret
      exact ⟨rfl, by go_grown⟩
set_option maxHeartbeats 1600000 in
set_option maxRecDepth 100000 in
theorem less_yes4 (temp a s y l : Int) (A : Option Addr) (n c : Nat) (xs : List Rw) (w : World) (hn : xs.length = n) (hbig : n ≤ 9223372036854775807) (hnc : n ≤ c) (hx : Rows? w A xs) (hy : 0 ≤ y) (hy2 : y ≤ 65535) (hl : 0 ≤ l) (hl2 : l ≤ 65535) (h : (validB xs && useB temp a s) = true) (hca : ¬ 0 < a - y) (hcs : ¬ 0 < s - l) :
    Calls Try.prog 8 #[.slice A n c, .int .i64 temp, .int .i64 a, .int .i64 s, .int .u16 y, .int .u16 l] w fun e w' => e = .returned (.bool true) ∧ Below w.heap.size w w' := by
  have u := fun w h => usable_any temp a s A n c xs w hn hbig h
  rw [h] at u
  have h1 := and_left h
  have h2 := and_right h
  have h2b : useB temp (0) (0) = true := by simp [useB, limB] at h2 ⊢; omega
  obtain ⟨ua, us⟩ := useB_nonneg h2
  have ub : a ≤ 10000 ∧ s ≤ 1000000000 := by simp [useB, limB] at h2; omega
  obtain ⟨ub1, ub2⟩ := ub
  have HU := Lib.hid u
  have HX := Lib.hid hx
  have HN := Lib.hid hn
  have HV := Lib.hid h1
  have HS := Lib.hid h2
  have HS2 := Lib.hid h2b
  clear u h h1 h2 h2b hx hn
  go_enter Try.func8, Try.ntmps8
  go_wp2_with fail
  refine (head_any _).mono ?_
  rintro e w1 ⟨rfl, hb1⟩
  have hB1 : Below w.heap.size w w1 := below_after (by go_grown) hb1
  have hz1 := hb1.size
  try simp only [World.size_alloc, World.size_setCell, World.size_drew] at hz1
  have hw1 := hB1.size
  clear hb1
  go_wp2_with fail
  refine (HU.out _ (HX.out.below hB1)).mono ?_
  rintro e w2 ⟨rfl, hb2⟩
  have hB2 : Below w.heap.size w w2 := below_after (by go_grown) hb2
  have hz2 := hb2.size
  try simp only [World.size_alloc, World.size_setCell, World.size_drew] at hz2
  have hw2 := hB2.size
  clear hb2 hB1
  go_wp2_with fail
  go_loopg [43] (n + 1) (fun g s43 wr => ∃ k : Nat, k ≤ n ∧ g + k = n + 1 ∧ s43 = .int .i64 k ∧ Aside ((xs.take k).find? (Rw.isFor temp a s) = none) ∧ Below w.heap.size w wr)
  case atStart => exact ⟨0, by omega, by omega, rfl, (by show (xs.take 0).find? _ = none; simp), by assumption⟩
  case round =>
    obtain ⟨k, hk, hg, rfl, HB, hBr⟩ := hrel
    have hwr := hBr.size
    by_cases hlt : k < n
    · obtain ⟨r, hr⟩ : ∃ r, xs[k]? = some r := ⟨_, List.getElem?_eq_getElem (by rw [HN.out]; exact hlt)⟩
      have hd := find_take_succ (Rw.isFor temp a s) xs k r hr HB.out
      have hlen : (xs.take (k + 1)).length = k + 1 := by rw [List.length_take, HN.out]; omega
      have f := fun w h => Find_any temp a s A (k + 1) c (xs.take (k + 1)) w hlen (by omega) h
      obtain ⟨b, off, rfl, hc⟩ := HX.out (by rw [HN.out]; omega)
      have hlt2 : (k : Int) < (n : Int) := by omega
      have hkc : (k : Int) + 1 ≤ (c : Int) := by omega
      clear hc
      by_cases hq : r.isFor temp a s = true
      · rw [hq, if_pos rfl] at hd
        rw [findS_some (validB_take HV.out (k + 1)) HS.out hd] at f
        -- a row for the lesser use
        obtain ⟨q1, q2, q3, q4⟩ := (isFor_iff temp a s r).1 hq
        have hq2 : r.isFor temp (0) (0) = true := (isFor_iff _ _ _ r).2 ⟨q1, q2, by omega, by omega⟩
        obtain ⟨r2, hr2⟩ : ∃ r2, (xs.take (k + 1)).find? (Rw.isFor temp (0) (0)) = some r2 := by
          cases hf : (xs.take (k + 1)).find? (Rw.isFor temp (0) (0)) with
          | some r2 => exact ⟨r2, rfl⟩
          | none =>
            rw [List.find?_eq_none] at hf
            exact absurd hq2 (hf r (List.mem_of_find?_eq_some hd))
        have f2 := fun w h => Find_any temp (0) (0) (some ⟨b, off, none⟩) (k + 1) c (xs.take (k + 1)) w hlen (by omega) h
        have f3 := fun w h h' => same_any temp (0) (0) (some ⟨b, off, none⟩) (k + 1) c (xs.take (k + 1)) (some ⟨b, off, none⟩) n c xs w hlen (by omega) h HN.out hbig h'
          (by rw [findS_some (validB_take HV.out (k + 1)) HS2.out hr2, findS_some HV.out HS2.out (find_of_take _ _ _ _ hr2)]) (validB_take HV.out (k + 1)) HS2.out
        rw [findS_some (validB_take HV.out (k + 1)) HS2.out hr2] at f2
        have HF1 := Lib.hid f
        have HF2 := Lib.hid f2
        have HF3 := Lib.hid f3
        clear hd hr hq hq2 hr2 f f2 f3 q1 q2 q3 q4 hlen
        go_wp2_with fail
        refine (HF1.out _ ((HX.out.take (k + 1)).below hBr)).mono ?_
        rintro e z1 ⟨rfl, hb1⟩
        have hB1 : Below w.heap.size w z1 := below_after hBr hb1
        clear hb1
        go_wp2_with fail
        refine (HF2.out _ ((HX.out.take (k + 1)).below hB1)).mono ?_
        rintro e z2 ⟨rfl, hb2⟩
        have hB2 : Below w.heap.size w z2 := below_after hB1 hb2
        clear hb2
        go_wp2_with fail
        refine (HF3.out _ ((HX.out.take (k + 1)).below hB2) (HX.out.below hB2)).mono ?_
        rintro e z3 ⟨rfl, hb3⟩
        have hB3 : Below w.heap.size w z3 := below_after hB2 hb3
        clear hb3
        go_wp2_with fail
        go_ret
        exact ⟨rfl, by go_grown⟩
      · rw [if_neg hq] at hd
        rw [findS_none (validB_take HV.out (k + 1)) HS.out hd] at f
        have HF1 := Lib.hid f
        have HD := Lib.hid hd
        clear hd hr hq f hlen
        go_wp2_with fail
        refine (HF1.out _ ((HX.out.take (k + 1)).below hBr)).mono ?_
        rintro e z1 ⟨rfl, hb1⟩
        have hB1 : Below w.heap.size w z1 := below_after hBr hb1
        clear hb1
        go_wp2_with fail
        go_roundg (gk - 1)
        case measure => omega
        case rel => exact ⟨k + 1, by omega, by omega, by go_num, HD.out, hB1⟩
    · have hnlt : ¬ ((k : Int) < (n : Int)) := by omega
      go_wp2_with fail
      go_ret
      exact ⟨rfl, by go_grown⟩
theorem less_walk (temp a s y l : Int) (A : Option Addr) (n c : Nat) (xs : List Rw) (w : World) (hn : xs.length = n) (hbig : n ≤ 9223372036854775807) (hnc : n ≤ c) (hx : Rows? w A xs) (hy : 0 ≤ y) (hy2 : y ≤ 65535) (hl : 0 ≤ l) (hl2 : l ≤ 65535) :
    Calls Try.prog 8 #[.slice A n c, .int .i64 temp, .int .i64 a, .int .i64 s, .int .u16 y, .int .u16 l] w fun e w' => e = .returned (.bool true) ∧ Below w.heap.size w w' := by
  cases h : (validB xs && useB temp a s)
  · exact less_no temp a s y l A n c xs w hn hbig hnc hx h
  · by_cases h1 : 0 < a - y <;> by_cases h2 : 0 < s - l
    · exact less_yes1 temp a s y l A n c xs w hn hbig hnc hx hy hy2 hl hl2 h h1 h2
    · exact less_yes2 temp a s y l A n c xs w hn hbig hnc hx hy hy2 hl hl2 h h1 h2
    · exact less_yes3 temp a s y l A n c xs w hn hbig hnc hx hy hy2 hl hl2 h h1 h2
    · exact less_yes4 temp a s y l A n c xs w hn hbig hnc hx hy hy2 hl hl2 h h1 h2
theorem first_walk (temp a s : Int) (A : Option Addr) (n c : Nat) (xs : List Rw) (w : World) (hn : xs.length = n) (hbig : n ≤ 9223372036854775807) (hnc : n ≤ c) (hx : Rows? w A xs) :
    Calls Try.prog 4 #[.slice A n c, .int .i64 temp, .int .i64 a, .int .i64 s] w fun e w' => e = .returned (.bool true) ∧ Below w.heap.size w w' := by
  cases h : (validB xs && useB temp a s)
  · exact first_no temp a s A n c xs w hn hbig hnc hx h
  · exact first_yes temp a s A n c xs w hn hbig hnc hx h
end Go.Proofs.Ythkjejikhlcmfaa
