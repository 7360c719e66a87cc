import Derived.Test.YtollpjdnahemeaaQ17
namespace Go.Proofs.Ytollpjdnahemeaa
open Go.RowKit Go.Shelf
set_option linter.unusedSimpArgs false
set_option linter.unusedVariables false
attribute [local go_sem ↓] Go.wp_at_zero Go.wp_at_succ
set_option maxHeartbeats 1600000 in
set_option maxRecDepth 100000 in
theorem ans_err2 (A : Option Addr) (n c : Nat) (xs : List Wt) (ct clo chi cdr dl dh tlo thi sent there back wrong which : Int) (w : World) (hn : xs.length = n) (hx : Wts? w.heap.size w A xs) (h0 : n ≤ 25) (h1 : clkB ct clo chi cdr = true) (h2 : timB tlo thi = true) (h3 : ¬ there < 0) (h4 : ¬ 20000 < there) (h5 : ¬ back < 0) (h6 : ¬ 20000 < back) (h7 : readB sent = true) (hs : (wValid xs && depB dl dh) = true) (hle : ¬ min ((speedP dl dh xs).2 * there / 1000) ((speedP dl dh xs).2 * back / 1000) < max (-(-((speedP dl dh xs).1 * there) / 1000)) (-(-((speedP dl dh xs).1 * back) / 1000))) (hw0 : 0 ≤ which) (hw1 : which < 18446744073709551616)
    (r4 dv d g : Int) (er : wrong.tmod 4 = r4) (ed : tlo + which % (thi - tlo + 1) = dv) (ee : max (-(-((speedP dl dh xs).1 * there) / 1000)) (-(-((speedP dl dh xs).1 * back) / 1000)) + which % (min ((speedP dl dh xs).2 * there / 1000) ((speedP dl dh xs).2 * back / 1000) - max (-(-((speedP dl dh xs).1 * there) / 1000)) (-(-((speedP dl dh xs).1 * back) / 1000)) + 1) = d) (eg : there + back + dv + r4 = g) (hg0 : 0 ≤ g) (hg1 : g ≤ 1000000000) (hin : (decide (-(cdr * g / 1000000) ≤ r4) && decide (r4 ≤ cdr * g / 1000000)) = true) (h2s : twoS xs ct clo chi cdr dl dh sent (sent + g) tlo thi = (0, 0, 1)) (he : 1000000000 < sent + g) : Calls Try.prog 20 #[.slice A n c, .agg #[.int .i64 ct, .int .i64 clo, .int .i64 chi, .int .i64 cdr], .agg #[.int .i64 dl, .int .i64 dh], .agg #[.int .i64 tlo, .int .i64 thi], .int .i64 sent, .int .i64 there, .int .i64 back, .int .i64 wrong, .int .u64 which] w fun e w' => e = .returned (.bool true) ∧ Below w.heap.size w w' := by
  have hr4 : -3 ≤ r4 ∧ r4 ≤ 3 := by rw [← er]; exact tmod4 wrong
  have hr5 : IntKind.i64.wrap r4 = r4 := IntWalk.i64_in _ (by omega)
  have vr := in_range tlo thi which ((timB_iff tlo thi).1 h2).2.1
  rw [ed] at vr
  have HXS := Lib.hid (hxs_of hx)
  have cb := clkB_bounds h1
  have tb := (timB_iff tlo thi).1 h2
  have sb := readB_bounds h7
  have sok := speedP_ok (and_left hs) (and_right hs)
  obtain ⟨o1, o2, o3⟩ := sok
  have hF := fun W => bel (Few_any A n c W)
  rw [show decide (n ≤ 25) = true by simp; omega] at hF
  have HF := Lib.hid hF
  have hA := fun W => RCValid_any ct clo chi cdr W
  rw [h1] at hA
  have HA := Lib.hid hA
  have hB := fun W => RTimes17_any tlo thi W
  rw [h2] at hB
  have HB := Lib.hid hB
  have hC := fun W => bel (RTime_any sent W)
  rw [h7] at hC
  have HC := Lib.hid hC
  have hS := fun W h => Speed_any A n c xs dl dh W hn (by omega) h
  rw [speedS_ok hs] at hS
  generalize (speedP dl dh xs).1 = s1 at *
  generalize (speedP dl dh xs).2 = s2 at *
  have p1 := prod_sp (a := s1) (b := there) (by omega) (by omega) (by omega) (by omega)
  have p2 := prod_sp (a := s1) (b := back) (by omega) (by omega) (by omega) (by omega)
  have p3 := prod_sp (a := s2) (b := there) (by omega) (by omega) (by omega) (by omega)
  have p4 := prod_sp (a := s2) (b := back) (by omega) (by omega) (by omega) (by omega)
  have k1 : IntKind.i64.wrap (s1 * there) = s1 * there := IntWalk.i64_in _ (by omega)
  have k2 : IntKind.i64.wrap (s1 * back) = s1 * back := IntWalk.i64_in _ (by omega)
  have k3 : IntKind.i64.wrap (s2 * there) = s2 * there := IntWalk.i64_in _ (by omega)
  have k4 : IntKind.i64.wrap (s2 * back) = s2 * back := IntWalk.i64_in _ (by omega)
  have hI := fun W => bel (Ceil_any (s1 * there) 1000 W (by omega) (by omega) (by omega) (by omega))
  have hJ := fun W => bel (Ceil_any (s1 * back) 1000 W (by omega) (by omega) (by omega) (by omega))
  have hK := fun W => bel (Floor_any (s2 * there) 1000 W (by omega) (by omega) (by omega) (by omega))
  have hL := fun W => bel (Floor_any (s2 * back) 1000 W (by omega) (by omega) (by omega) (by omega))
  have u1 : 0 ≤ -(-(s1 * there) / 1000) ∧ -(-(s1 * there) / 1000) ≤ 1000000000000 := by omega
  have u2 : 0 ≤ -(-(s1 * back) / 1000) ∧ -(-(s1 * back) / 1000) ≤ 1000000000000 := by omega
  have u3 : 0 ≤ s2 * there / 1000 ∧ s2 * there / 1000 ≤ 1000000000000 := by omega
  have u4 : 0 ≤ s2 * back / 1000 ∧ s2 * back / 1000 ≤ 1000000000000 := by omega
  generalize hp1 : s1 * there = P1 at *
  generalize hp2 : s1 * back = P2 at *
  generalize hp3 : s2 * there = P3 at *
  generalize hp4 : s2 * back = P4 at *
  generalize -(-P1 / 1000) = c1 at *
  generalize -(-P2 / 1000) = c2 at *
  generalize P3 / 1000 = f1 at *
  generalize P4 / 1000 = f2 at *
  have hM := fun W => of17_any (max c1 c2) (min f1 f2) W
  have hN := fun W => in17_any (max c1 c2) (min f1 f2) which W (by omega) (by omega) (by omega) hw0 hw1
  rw [ee] at hN
  have hO := fun W => in17_any tlo thi which W (by omega) (by omega) (by omega) hw0 hw1
  rw [ed] at hO
  have pg := prod_clk (d := cdr) (g := g) (by omega) (by omega) (by omega) (by omega)
  have k5 : (cdr * g).tdiv 1000000 = cdr * g / 1000000 := Int.tdiv_eq_ediv_of_nonneg pg.1
  have k6 : (-(cdr * g)).tdiv 1000000 = -(cdr * g / 1000000) := by rw [Int.neg_tdiv, k5]
  have hq : 0 ≤ cdr * g / 1000000 ∧ cdr * g / 1000000 ≤ 1000000 := by omega
  have hP := fun W => of17_any (-(cdr * g / 1000000)) (cdr * g / 1000000) W
  have hQ := fun W => In_any (-(cdr * g / 1000000)) (cdr * g / 1000000) r4 W
  rw [hin] at hQ
  have k7 : -cdr * g = -(cdr * g) := Int.neg_mul ..
  generalize hcg : cdr * g = Pg at *
  generalize Pg / 1000000 = q9 at *
  have hT := fun W h => Two_any A n c xs ct clo chi cdr dl dh sent (sent + g) tlo thi W hn (by omega) h
  rw [h2s] at hT
  have HS := Lib.hid hS
  have HI := Lib.hid hI
  have HJ := Lib.hid hJ
  have HK := Lib.hid hK
  have HL := Lib.hid hL
  have HM := Lib.hid hM
  have HN := Lib.hid hN
  have HO := Lib.hid hO
  have HP := Lib.hid hP
  have HQ := Lib.hid hQ
  have HT := Lib.hid hT
  clear hx hn hs ee ed hF hA hB hC hS hI hJ hK hL hM hN hO hP hQ hT hin h2s
  go_enter Try.func20, Try.ntmps20
  go_wp2_with fail
  refine (head17_any _).mono ?_
  rintro e w1 ⟨rfl, hb1⟩
  have hB1 : Below w.heap.size w w1 := below_after (by go_grown) hb1
  have hz1 := hb1.size
  try simp only [World.size_alloc, World.size_setCell, World.size_drew] at hz1
  have hw1 := hB1.size
  have c_c0 : w1.cell? ⟨w.heap.size, 0, none⟩ = some (.int .i64 ct) := kp hb1 (by go_cell)
  have c_c1 : w1.cell? ⟨w.heap.size, 1, none⟩ = some (.int .i64 clo) := kp hb1 (by go_cell)
  have c_c2 : w1.cell? ⟨w.heap.size, 2, none⟩ = some (.int .i64 chi) := kp hb1 (by go_cell)
  have c_c3 : w1.cell? ⟨w.heap.size, 3, none⟩ = some (.int .i64 cdr) := kp hb1 (by go_cell)
  have c_d0 : w1.cell? ⟨w.heap.size + 1, 0, none⟩ = some (.int .i64 dl) := kp hb1 (by go_cell)
  have c_d1 : w1.cell? ⟨w.heap.size + 1, 1, none⟩ = some (.int .i64 dh) := kp hb1 (by go_cell)
  have c_y0 : w1.cell? ⟨w.heap.size + 1 + 1, 0, none⟩ = some (.int .i64 tlo) := kp hb1 (by go_cell)
  have c_y1 : w1.cell? ⟨w.heap.size + 1 + 1, 1, none⟩ = some (.int .i64 thi) := kp hb1 (by go_cell)
  clear hb1
  go_wp2_with fail
  refine (HF.out _).mono ?_
  rintro e w2 ⟨rfl, hb2⟩
  have hB2 : Below w.heap.size w w2 := below_after (by go_grown) hb2
  have hz2 := hb2.size
  try simp only [World.size_alloc, World.size_setCell, World.size_drew] at hz2
  have hw2 := hB2.size
  replace c_c0 : w2.cell? ⟨w.heap.size, 0, none⟩ = some (.int .i64 ct) := kp hb2 (by go_cell)
  replace c_c1 : w2.cell? ⟨w.heap.size, 1, none⟩ = some (.int .i64 clo) := kp hb2 (by go_cell)
  replace c_c2 : w2.cell? ⟨w.heap.size, 2, none⟩ = some (.int .i64 chi) := kp hb2 (by go_cell)
  replace c_c3 : w2.cell? ⟨w.heap.size, 3, none⟩ = some (.int .i64 cdr) := kp hb2 (by go_cell)
  replace c_d0 : w2.cell? ⟨w.heap.size + 1, 0, none⟩ = some (.int .i64 dl) := kp hb2 (by go_cell)
  replace c_d1 : w2.cell? ⟨w.heap.size + 1, 1, none⟩ = some (.int .i64 dh) := kp hb2 (by go_cell)
  replace c_y0 : w2.cell? ⟨w.heap.size + 1 + 1, 0, none⟩ = some (.int .i64 tlo) := kp hb2 (by go_cell)
  replace c_y1 : w2.cell? ⟨w.heap.size + 1 + 1, 1, none⟩ = some (.int .i64 thi) := kp hb2 (by go_cell)
  clear hb2 hB1
  go_wp2_with fail
  refine (HA.out _).mono ?_
  rintro e w3 ⟨rfl, hb3⟩
  have hB3 : Below w.heap.size w w3 := below_after (by go_grown) hb3
  have hz3 := hb3.size
  try simp only [World.size_alloc, World.size_setCell, World.size_drew] at hz3
  have hw3 := hB3.size
  replace c_c0 : w3.cell? ⟨w.heap.size, 0, none⟩ = some (.int .i64 ct) := kp hb3 (by go_cell)
  replace c_c1 : w3.cell? ⟨w.heap.size, 1, none⟩ = some (.int .i64 clo) := kp hb3 (by go_cell)
  replace c_c2 : w3.cell? ⟨w.heap.size, 2, none⟩ = some (.int .i64 chi) := kp hb3 (by go_cell)
  replace c_c3 : w3.cell? ⟨w.heap.size, 3, none⟩ = some (.int .i64 cdr) := kp hb3 (by go_cell)
  replace c_d0 : w3.cell? ⟨w.heap.size + 1, 0, none⟩ = some (.int .i64 dl) := kp hb3 (by go_cell)
  replace c_d1 : w3.cell? ⟨w.heap.size + 1, 1, none⟩ = some (.int .i64 dh) := kp hb3 (by go_cell)
  replace c_y0 : w3.cell? ⟨w.heap.size + 1 + 1, 0, none⟩ = some (.int .i64 tlo) := kp hb3 (by go_cell)
  replace c_y1 : w3.cell? ⟨w.heap.size + 1 + 1, 1, none⟩ = some (.int .i64 thi) := kp hb3 (by go_cell)
  clear hb3 hB2
  go_wp2_with fail
  refine (HB.out _).mono ?_
  rintro e w4 ⟨rfl, hb4⟩
  have hB4 : Below w.heap.size w w4 := below_after (by go_grown) hb4
  have hz4 := hb4.size
  try simp only [World.size_alloc, World.size_setCell, World.size_drew] at hz4
  have hw4 := hB4.size
  replace c_c0 : w4.cell? ⟨w.heap.size, 0, none⟩ = some (.int .i64 ct) := kp hb4 (by go_cell)
  replace c_c1 : w4.cell? ⟨w.heap.size, 1, none⟩ = some (.int .i64 clo) := kp hb4 (by go_cell)
  replace c_c2 : w4.cell? ⟨w.heap.size, 2, none⟩ = some (.int .i64 chi) := kp hb4 (by go_cell)
  replace c_c3 : w4.cell? ⟨w.heap.size, 3, none⟩ = some (.int .i64 cdr) := kp hb4 (by go_cell)
  replace c_d0 : w4.cell? ⟨w.heap.size + 1, 0, none⟩ = some (.int .i64 dl) := kp hb4 (by go_cell)
  replace c_d1 : w4.cell? ⟨w.heap.size + 1, 1, none⟩ = some (.int .i64 dh) := kp hb4 (by go_cell)
  replace c_y0 : w4.cell? ⟨w.heap.size + 1 + 1, 0, none⟩ = some (.int .i64 tlo) := kp hb4 (by go_cell)
  replace c_y1 : w4.cell? ⟨w.heap.size + 1 + 1, 1, none⟩ = some (.int .i64 thi) := kp hb4 (by go_cell)
  clear hb4 hB3
  go_wp2_with fail
  refine (HC.out _).mono ?_
  rintro e w5 ⟨rfl, hb5⟩
  have hB5 : Below w.heap.size w w5 := below_after (by go_grown) hb5
  have hz5 := hb5.size
  try simp only [World.size_alloc, World.size_setCell, World.size_drew] at hz5
  have hw5 := hB5.size
  replace c_c0 : w5.cell? ⟨w.heap.size, 0, none⟩ = some (.int .i64 ct) := kp hb5 (by go_cell)
  replace c_c1 : w5.cell? ⟨w.heap.size, 1, none⟩ = some (.int .i64 clo) := kp hb5 (by go_cell)
  replace c_c2 : w5.cell? ⟨w.heap.size, 2, none⟩ = some (.int .i64 chi) := kp hb5 (by go_cell)
  replace c_c3 : w5.cell? ⟨w.heap.size, 3, none⟩ = some (.int .i64 cdr) := kp hb5 (by go_cell)
  replace c_d0 : w5.cell? ⟨w.heap.size + 1, 0, none⟩ = some (.int .i64 dl) := kp hb5 (by go_cell)
  replace c_d1 : w5.cell? ⟨w.heap.size + 1, 1, none⟩ = some (.int .i64 dh) := kp hb5 (by go_cell)
  replace c_y0 : w5.cell? ⟨w.heap.size + 1 + 1, 0, none⟩ = some (.int .i64 tlo) := kp hb5 (by go_cell)
  replace c_y1 : w5.cell? ⟨w.heap.size + 1 + 1, 1, none⟩ = some (.int .i64 thi) := kp hb5 (by go_cell)
  clear hb5 hB4
  go_wp2_with fail
  refine (HS.out _ (HXS.out _ (by go_grown))).mono ?_
  rintro e w6 ⟨rfl, hb6⟩
  have hB6 : Below w.heap.size w w6 := below_after (by go_grown) hb6
  have hz6 := hb6.size
  try simp only [World.size_alloc, World.size_setCell, World.size_drew] at hz6
  have hw6 := hB6.size
  replace c_c0 : w6.cell? ⟨w.heap.size, 0, none⟩ = some (.int .i64 ct) := kp hb6 (by go_cell)
  replace c_c1 : w6.cell? ⟨w.heap.size, 1, none⟩ = some (.int .i64 clo) := kp hb6 (by go_cell)
  replace c_c2 : w6.cell? ⟨w.heap.size, 2, none⟩ = some (.int .i64 chi) := kp hb6 (by go_cell)
  replace c_c3 : w6.cell? ⟨w.heap.size, 3, none⟩ = some (.int .i64 cdr) := kp hb6 (by go_cell)
  replace c_d0 : w6.cell? ⟨w.heap.size + 1, 0, none⟩ = some (.int .i64 dl) := kp hb6 (by go_cell)
  replace c_d1 : w6.cell? ⟨w.heap.size + 1, 1, none⟩ = some (.int .i64 dh) := kp hb6 (by go_cell)
  replace c_y0 : w6.cell? ⟨w.heap.size + 1 + 1, 0, none⟩ = some (.int .i64 tlo) := kp hb6 (by go_cell)
  replace c_y1 : w6.cell? ⟨w.heap.size + 1 + 1, 1, none⟩ = some (.int .i64 thi) := kp hb6 (by go_cell)
  clear hb6 hB5
  go_upto_region 7 with fail
  have x_c0 : (w6.alloc (.cells #[.int .i64 s1, .int .i64 s2] 23)).cell? ⟨w.heap.size, 0, none⟩ = some (.int .i64 ct) := by go_cell
  have x_c1 : (w6.alloc (.cells #[.int .i64 s1, .int .i64 s2] 23)).cell? ⟨w.heap.size, 1, none⟩ = some (.int .i64 clo) := by go_cell
  have x_c2 : (w6.alloc (.cells #[.int .i64 s1, .int .i64 s2] 23)).cell? ⟨w.heap.size, 2, none⟩ = some (.int .i64 chi) := by go_cell
  have x_c3 : (w6.alloc (.cells #[.int .i64 s1, .int .i64 s2] 23)).cell? ⟨w.heap.size, 3, none⟩ = some (.int .i64 cdr) := by go_cell
  have x_d0 : (w6.alloc (.cells #[.int .i64 s1, .int .i64 s2] 23)).cell? ⟨w.heap.size + 1, 0, none⟩ = some (.int .i64 dl) := by go_cell
  have x_d1 : (w6.alloc (.cells #[.int .i64 s1, .int .i64 s2] 23)).cell? ⟨w.heap.size + 1, 1, none⟩ = some (.int .i64 dh) := by go_cell
  have x_y0 : (w6.alloc (.cells #[.int .i64 s1, .int .i64 s2] 23)).cell? ⟨w.heap.size + 1 + 1, 0, none⟩ = some (.int .i64 tlo) := by go_cell
  have x_y1 : (w6.alloc (.cells #[.int .i64 s1, .int .i64 s2] 23)).cell? ⟨w.heap.size + 1 + 1, 1, none⟩ = some (.int .i64 thi) := by go_cell
  have x_s0 : (w6.alloc (.cells #[.int .i64 s1, .int .i64 s2] 23)).cell? ⟨w6.heap.size, 0, none⟩ = some (.int .i64 s1) := by go_cell
  have x_s1 : (w6.alloc (.cells #[.int .i64 s1, .int .i64 s2] 23)).cell? ⟨w6.heap.size, 1, none⟩ = some (.int .i64 s2) := by go_cell
  have hBz : Below w.heap.size w (w6.alloc (.cells #[.int .i64 s1, .int .i64 s2] 23)) := by go_grown
  clear c_c0 c_c1 c_c2 c_c3
  clear c_d0 c_d1
  clear c_y0 c_y1
  clear hB6 hw6 hz6
  generalize (w6.alloc (.cells #[.int .i64 s1, .int .i64 s2] 23)) = z at *
  have c_c0 := x_c0
  have c_c1 := x_c1
  have c_c2 := x_c2
  have c_c3 := x_c3
  clear x_c0 x_c1 x_c2 x_c3
  have lt_c := World.block_lt_of_cell? _ _ c_c0
  simp only at lt_c
  have c_d0 := x_d0
  have c_d1 := x_d1
  clear x_d0 x_d1
  have lt_d := World.block_lt_of_cell? _ _ c_d0
  simp only at lt_d
  have c_y0 := x_y0
  have c_y1 := x_y1
  clear x_y0 x_y1
  have lt_y := World.block_lt_of_cell? _ _ c_y0
  simp only at lt_y
  have c_s0 := x_s0
  have c_s1 := x_s1
  clear x_s0 x_s1
  have lt_s := World.block_lt_of_cell? _ _ c_s0
  simp only at lt_s
  go_upto_region 7 with fail
  have HSZ := Lib.hid (show ∀ w', Below z.heap.size z w' → Below z.heap.size z w' ∧ w'.cell? ⟨w6.heap.size, 0, none⟩ = some (.int .i64 s1) ∧ w'.cell? ⟨w6.heap.size, 1, none⟩ = some (.int .i64 s2) from fun w' h9 => ⟨h9, (h9.cell (p := ⟨w6.heap.size, 0, none⟩) lt_s).trans c_s0, (h9.cell (p := ⟨w6.heap.size, 1, none⟩) lt_s).trans c_s1⟩)
  go_cut [22] (fun sv wx => sv = .int .i64 (max c1 c2) ∧ Below z.heap.size z wx)
  case first =>
    by_cases hm9 : c1 ≤ c2
    · have hv9 : max c1 c2 = c2 := by omega
      go_region_held3 (fun w' => Below z.heap.size z w' ∧ w'.cell? ⟨w6.heap.size, 0, none⟩ = some (.int .i64 s1) ∧ w'.cell? ⟨w6.heap.size, 1, none⟩ = some (.int .i64 s2))
        ((refine HSZ.out _ ?_; (first | (with_reducible assumption) | (go_grown; done) | (exact Below.drew (by go_grown)))))
        (first | ((go_split_ands; (with_reducible refine (HI.out _).mono ?_); rintro e xa ⟨rfl, hb_xa⟩; have hB_xa : Below z.heap.size z xa := below_after (by assumption) hb_xa)) | ((go_split_ands; (with_reducible refine (HJ.out _).mono ?_); rintro e xb ⟨rfl, hb_xb⟩; have hB_xb : Below z.heap.size z xb := below_after (by assumption) hb_xb)))
      all_goals (go_wp2_with fail)
      all_goals first | (exfalso; omega) | (go_meet; refine ⟨by first | (rw [hv9]; done) | (rw [hv9]; congr 1; omega), ?_⟩ <;> first | (go_grown; done) | (exact Below.drew (by go_grown)))
    · have hv9 : max c1 c2 = c1 := by omega
      go_region_held3 (fun w' => Below z.heap.size z w' ∧ w'.cell? ⟨w6.heap.size, 0, none⟩ = some (.int .i64 s1) ∧ w'.cell? ⟨w6.heap.size, 1, none⟩ = some (.int .i64 s2))
        ((refine HSZ.out _ ?_; (first | (with_reducible assumption) | (go_grown; done) | (exact Below.drew (by go_grown)))))
        (first | ((go_split_ands; (with_reducible refine (HI.out _).mono ?_); rintro e xa ⟨rfl, hb_xa⟩; have hB_xa : Below z.heap.size z xa := below_after (by assumption) hb_xa)) | ((go_split_ands; (with_reducible refine (HJ.out _).mono ?_); rintro e xb ⟨rfl, hb_xb⟩; have hB_xb : Below z.heap.size z xb := below_after (by assumption) hb_xb)))
      all_goals (go_wp2_with fail)
      all_goals first | (exfalso; omega) | (go_meet; refine ⟨by first | (rw [hv9]; done) | (rw [hv9]; congr 1; omega), ?_⟩ <;> first | (go_grown; done) | (exact Below.drew (by go_grown)))
  case rest =>
    obtain ⟨rfl, hBc⟩ := hcut
    clear HSZ
    have hBz : Below w.heap.size w wc := below_after hBz hBc
    have c_c0 : wc.cell? ⟨w.heap.size, 0, none⟩ = some (.int .i64 ct) := (hBc.cell (p := ⟨w.heap.size, 0, none⟩) lt_c).trans c_c0
    have c_c1 : wc.cell? ⟨w.heap.size, 1, none⟩ = some (.int .i64 clo) := (hBc.cell (p := ⟨w.heap.size, 1, none⟩) lt_c).trans c_c1
    have c_c2 : wc.cell? ⟨w.heap.size, 2, none⟩ = some (.int .i64 chi) := (hBc.cell (p := ⟨w.heap.size, 2, none⟩) lt_c).trans c_c2
    have c_c3 : wc.cell? ⟨w.heap.size, 3, none⟩ = some (.int .i64 cdr) := (hBc.cell (p := ⟨w.heap.size, 3, none⟩) lt_c).trans c_c3
    have lt_c := World.block_lt_of_cell? _ _ c_c0
    simp only at lt_c
    have c_d0 : wc.cell? ⟨w.heap.size + 1, 0, none⟩ = some (.int .i64 dl) := (hBc.cell (p := ⟨w.heap.size + 1, 0, none⟩) lt_d).trans c_d0
    have c_d1 : wc.cell? ⟨w.heap.size + 1, 1, none⟩ = some (.int .i64 dh) := (hBc.cell (p := ⟨w.heap.size + 1, 1, none⟩) lt_d).trans c_d1
    have lt_d := World.block_lt_of_cell? _ _ c_d0
    simp only at lt_d
    have c_y0 : wc.cell? ⟨w.heap.size + 1 + 1, 0, none⟩ = some (.int .i64 tlo) := (hBc.cell (p := ⟨w.heap.size + 1 + 1, 0, none⟩) lt_y).trans c_y0
    have c_y1 : wc.cell? ⟨w.heap.size + 1 + 1, 1, none⟩ = some (.int .i64 thi) := (hBc.cell (p := ⟨w.heap.size + 1 + 1, 1, none⟩) lt_y).trans c_y1
    have lt_y := World.block_lt_of_cell? _ _ c_y0
    simp only at lt_y
    have c_s0 : wc.cell? ⟨w6.heap.size, 0, none⟩ = some (.int .i64 s1) := (hBc.cell (p := ⟨w6.heap.size, 0, none⟩) lt_s).trans c_s0
    have c_s1 : wc.cell? ⟨w6.heap.size, 1, none⟩ = some (.int .i64 s2) := (hBc.cell (p := ⟨w6.heap.size, 1, none⟩) lt_s).trans c_s1
    have lt_s := World.block_lt_of_cell? _ _ c_s0
    simp only at lt_s
    go_upto_region 8 with fail
    have HSZ := Lib.hid (show ∀ w', Below wc.heap.size wc w' → Below wc.heap.size wc w' ∧ w'.cell? ⟨w6.heap.size, 0, none⟩ = some (.int .i64 s1) ∧ w'.cell? ⟨w6.heap.size, 1, none⟩ = some (.int .i64 s2) from fun w' h9 => ⟨h9, (h9.cell (p := ⟨w6.heap.size, 0, none⟩) lt_s).trans c_s0, (h9.cell (p := ⟨w6.heap.size, 1, none⟩) lt_s).trans c_s1⟩)
    go_cut [23] (fun sv wx => sv = .int .i64 (min f1 f2) ∧ Below wc.heap.size wc wx)
    case first =>
      by_cases hm9 : f1 ≤ f2
      · have hv9 : min f1 f2 = f1 := by omega
        go_region_held3 (fun w' => Below wc.heap.size wc w' ∧ w'.cell? ⟨w6.heap.size, 0, none⟩ = some (.int .i64 s1) ∧ w'.cell? ⟨w6.heap.size, 1, none⟩ = some (.int .i64 s2))
          ((refine HSZ.out _ ?_; (first | (with_reducible assumption) | (go_grown; done) | (exact Below.drew (by go_grown)))))
          (first | ((go_split_ands; (with_reducible refine (HK.out _).mono ?_); rintro e xc ⟨rfl, hb_xc⟩; have hB_xc : Below wc.heap.size wc xc := below_after (by assumption) hb_xc)) | ((go_split_ands; (with_reducible refine (HL.out _).mono ?_); rintro e xd ⟨rfl, hb_xd⟩; have hB_xd : Below wc.heap.size wc xd := below_after (by assumption) hb_xd)))
        all_goals (go_wp2_with fail)
        all_goals first | (exfalso; omega) | (go_meet; refine ⟨by first | (rw [hv9]; done) | (rw [hv9]; congr 1; omega), ?_⟩ <;> first | (go_grown; done) | (exact Below.drew (by go_grown)))
      · have hv9 : min f1 f2 = f2 := by omega
        go_region_held3 (fun w' => Below wc.heap.size wc w' ∧ w'.cell? ⟨w6.heap.size, 0, none⟩ = some (.int .i64 s1) ∧ w'.cell? ⟨w6.heap.size, 1, none⟩ = some (.int .i64 s2))
          ((refine HSZ.out _ ?_; (first | (with_reducible assumption) | (go_grown; done) | (exact Below.drew (by go_grown)))))
          (first | ((go_split_ands; (with_reducible refine (HK.out _).mono ?_); rintro e xc ⟨rfl, hb_xc⟩; have hB_xc : Below wc.heap.size wc xc := below_after (by assumption) hb_xc)) | ((go_split_ands; (with_reducible refine (HL.out _).mono ?_); rintro e xd ⟨rfl, hb_xd⟩; have hB_xd : Below wc.heap.size wc xd := below_after (by assumption) hb_xd)))
        all_goals (go_wp2_with fail)
        all_goals first | (exfalso; omega) | (go_meet; refine ⟨by first | (rw [hv9]; done) | (rw [hv9]; congr 1; omega), ?_⟩ <;> first | (go_grown; done) | (exact Below.drew (by go_grown)))
    case rest =>
      obtain ⟨rfl, hBc⟩ := hcut
      clear HSZ
      have hBz : Below w.heap.size w wc := below_after hBz hBc
      have c_c0 : wc.cell? ⟨w.heap.size, 0, none⟩ = some (.int .i64 ct) := (hBc.cell (p := ⟨w.heap.size, 0, none⟩) lt_c).trans c_c0
      have c_c1 : wc.cell? ⟨w.heap.size, 1, none⟩ = some (.int .i64 clo) := (hBc.cell (p := ⟨w.heap.size, 1, none⟩) lt_c).trans c_c1
      have c_c2 : wc.cell? ⟨w.heap.size, 2, none⟩ = some (.int .i64 chi) := (hBc.cell (p := ⟨w.heap.size, 2, none⟩) lt_c).trans c_c2
      have c_c3 : wc.cell? ⟨w.heap.size, 3, none⟩ = some (.int .i64 cdr) := (hBc.cell (p := ⟨w.heap.size, 3, none⟩) lt_c).trans c_c3
      have lt_c := World.block_lt_of_cell? _ _ c_c0
      simp only at lt_c
      have c_d0 : wc.cell? ⟨w.heap.size + 1, 0, none⟩ = some (.int .i64 dl) := (hBc.cell (p := ⟨w.heap.size + 1, 0, none⟩) lt_d).trans c_d0
      have c_d1 : wc.cell? ⟨w.heap.size + 1, 1, none⟩ = some (.int .i64 dh) := (hBc.cell (p := ⟨w.heap.size + 1, 1, none⟩) lt_d).trans c_d1
      have lt_d := World.block_lt_of_cell? _ _ c_d0
      simp only at lt_d
      have c_y0 : wc.cell? ⟨w.heap.size + 1 + 1, 0, none⟩ = some (.int .i64 tlo) := (hBc.cell (p := ⟨w.heap.size + 1 + 1, 0, none⟩) lt_y).trans c_y0
      have c_y1 : wc.cell? ⟨w.heap.size + 1 + 1, 1, none⟩ = some (.int .i64 thi) := (hBc.cell (p := ⟨w.heap.size + 1 + 1, 1, none⟩) lt_y).trans c_y1
      have lt_y := World.block_lt_of_cell? _ _ c_y0
      simp only at lt_y
      have c_s0 : wc.cell? ⟨w6.heap.size, 0, none⟩ = some (.int .i64 s1) := (hBc.cell (p := ⟨w6.heap.size, 0, none⟩) lt_s).trans c_s0
      have c_s1 : wc.cell? ⟨w6.heap.size, 1, none⟩ = some (.int .i64 s2) := (hBc.cell (p := ⟨w6.heap.size, 1, none⟩) lt_s).trans c_s1
      have lt_s := World.block_lt_of_cell? _ _ c_s0
      simp only at lt_s
      have hB90 := hBz
      have hw90 := hBz.size
      go_wp2_with fail
      refine (HM.out _).mono ?_
      rintro e w91 ⟨rfl, hb91⟩
      have hB91 : Below w.heap.size w w91 := below_after (by go_grown) hb91
      have hz91 := hb91.size
      try simp only [World.size_alloc, World.size_setCell, World.size_drew] at hz91
      have hw91 := hB91.size
      replace c_c0 : w91.cell? ⟨w.heap.size, 0, none⟩ = some (.int .i64 ct) := kp hb91 (by go_cell)
      replace c_c1 : w91.cell? ⟨w.heap.size, 1, none⟩ = some (.int .i64 clo) := kp hb91 (by go_cell)
      replace c_c2 : w91.cell? ⟨w.heap.size, 2, none⟩ = some (.int .i64 chi) := kp hb91 (by go_cell)
      replace c_c3 : w91.cell? ⟨w.heap.size, 3, none⟩ = some (.int .i64 cdr) := kp hb91 (by go_cell)
      replace c_d0 : w91.cell? ⟨w.heap.size + 1, 0, none⟩ = some (.int .i64 dl) := kp hb91 (by go_cell)
      replace c_d1 : w91.cell? ⟨w.heap.size + 1, 1, none⟩ = some (.int .i64 dh) := kp hb91 (by go_cell)
      replace c_y0 : w91.cell? ⟨w.heap.size + 1 + 1, 0, none⟩ = some (.int .i64 tlo) := kp hb91 (by go_cell)
      replace c_y1 : w91.cell? ⟨w.heap.size + 1 + 1, 1, none⟩ = some (.int .i64 thi) := kp hb91 (by go_cell)
      replace c_s0 : w91.cell? ⟨w6.heap.size, 0, none⟩ = some (.int .i64 s1) := kp hb91 (by go_cell)
      replace c_s1 : w91.cell? ⟨w6.heap.size, 1, none⟩ = some (.int .i64 s2) := kp hb91 (by go_cell)
      clear hb91 hB90
      go_wp2_with fail
      refine (HN.out _).mono ?_
      rintro e w92 ⟨rfl, hb92⟩
      have hB92 : Below w.heap.size w w92 := below_after (by go_grown) hb92
      have hz92 := hb92.size
      try simp only [World.size_alloc, World.size_setCell, World.size_drew] at hz92
      have hw92 := hB92.size
      replace c_c0 : w92.cell? ⟨w.heap.size, 0, none⟩ = some (.int .i64 ct) := kp hb92 (by go_cell)
      replace c_c1 : w92.cell? ⟨w.heap.size, 1, none⟩ = some (.int .i64 clo) := kp hb92 (by go_cell)
      replace c_c2 : w92.cell? ⟨w.heap.size, 2, none⟩ = some (.int .i64 chi) := kp hb92 (by go_cell)
      replace c_c3 : w92.cell? ⟨w.heap.size, 3, none⟩ = some (.int .i64 cdr) := kp hb92 (by go_cell)
      replace c_d0 : w92.cell? ⟨w.heap.size + 1, 0, none⟩ = some (.int .i64 dl) := kp hb92 (by go_cell)
      replace c_d1 : w92.cell? ⟨w.heap.size + 1, 1, none⟩ = some (.int .i64 dh) := kp hb92 (by go_cell)
      replace c_y0 : w92.cell? ⟨w.heap.size + 1 + 1, 0, none⟩ = some (.int .i64 tlo) := kp hb92 (by go_cell)
      replace c_y1 : w92.cell? ⟨w.heap.size + 1 + 1, 1, none⟩ = some (.int .i64 thi) := kp hb92 (by go_cell)
      replace c_s0 : w92.cell? ⟨w6.heap.size, 0, none⟩ = some (.int .i64 s1) := kp hb92 (by go_cell)
      replace c_s1 : w92.cell? ⟨w6.heap.size, 1, none⟩ = some (.int .i64 s2) := kp hb92 (by go_cell)
      clear hb92 hB91
      go_wp2_with fail
      refine (HO.out _).mono ?_
      rintro e w93 ⟨rfl, hb93⟩
      have hB93 : Below w.heap.size w w93 := below_after (by go_grown) hb93
      have hz93 := hb93.size
      try simp only [World.size_alloc, World.size_setCell, World.size_drew] at hz93
      have hw93 := hB93.size
      replace c_c0 : w93.cell? ⟨w.heap.size, 0, none⟩ = some (.int .i64 ct) := kp hb93 (by go_cell)
      replace c_c1 : w93.cell? ⟨w.heap.size, 1, none⟩ = some (.int .i64 clo) := kp hb93 (by go_cell)
      replace c_c2 : w93.cell? ⟨w.heap.size, 2, none⟩ = some (.int .i64 chi) := kp hb93 (by go_cell)
      replace c_c3 : w93.cell? ⟨w.heap.size, 3, none⟩ = some (.int .i64 cdr) := kp hb93 (by go_cell)
      replace c_d0 : w93.cell? ⟨w.heap.size + 1, 0, none⟩ = some (.int .i64 dl) := kp hb93 (by go_cell)
      replace c_d1 : w93.cell? ⟨w.heap.size + 1, 1, none⟩ = some (.int .i64 dh) := kp hb93 (by go_cell)
      replace c_y0 : w93.cell? ⟨w.heap.size + 1 + 1, 0, none⟩ = some (.int .i64 tlo) := kp hb93 (by go_cell)
      replace c_y1 : w93.cell? ⟨w.heap.size + 1 + 1, 1, none⟩ = some (.int .i64 thi) := kp hb93 (by go_cell)
      replace c_s0 : w93.cell? ⟨w6.heap.size, 0, none⟩ = some (.int .i64 s1) := kp hb93 (by go_cell)
      replace c_s1 : w93.cell? ⟨w6.heap.size, 1, none⟩ = some (.int .i64 s2) := kp hb93 (by go_cell)
      clear hb93 hB92
      go_wp2_with fail
      refine (HP.out _).mono ?_
      rintro e w94 ⟨rfl, hb94⟩
      have hB94 : Below w.heap.size w w94 := below_after (by go_grown) hb94
      have hz94 := hb94.size
      try simp only [World.size_alloc, World.size_setCell, World.size_drew] at hz94
      have hw94 := hB94.size
      replace c_c0 : w94.cell? ⟨w.heap.size, 0, none⟩ = some (.int .i64 ct) := kp hb94 (by go_cell)
      replace c_c1 : w94.cell? ⟨w.heap.size, 1, none⟩ = some (.int .i64 clo) := kp hb94 (by go_cell)
      replace c_c2 : w94.cell? ⟨w.heap.size, 2, none⟩ = some (.int .i64 chi) := kp hb94 (by go_cell)
      replace c_c3 : w94.cell? ⟨w.heap.size, 3, none⟩ = some (.int .i64 cdr) := kp hb94 (by go_cell)
      replace c_d0 : w94.cell? ⟨w.heap.size + 1, 0, none⟩ = some (.int .i64 dl) := kp hb94 (by go_cell)
      replace c_d1 : w94.cell? ⟨w.heap.size + 1, 1, none⟩ = some (.int .i64 dh) := kp hb94 (by go_cell)
      replace c_y0 : w94.cell? ⟨w.heap.size + 1 + 1, 0, none⟩ = some (.int .i64 tlo) := kp hb94 (by go_cell)
      replace c_y1 : w94.cell? ⟨w.heap.size + 1 + 1, 1, none⟩ = some (.int .i64 thi) := kp hb94 (by go_cell)
      replace c_s0 : w94.cell? ⟨w6.heap.size, 0, none⟩ = some (.int .i64 s1) := kp hb94 (by go_cell)
      replace c_s1 : w94.cell? ⟨w6.heap.size, 1, none⟩ = some (.int .i64 s2) := kp hb94 (by go_cell)
      clear hb94 hB93
      go_wp2_with fail
      refine (HQ.out _).mono ?_
      rintro e w95 ⟨rfl, hb95⟩
      have hB95 : Below w.heap.size w w95 := below_after (by go_grown) hb95
      have hz95 := hb95.size
      try simp only [World.size_alloc, World.size_setCell, World.size_drew] at hz95
      have hw95 := hB95.size
      replace c_c0 : w95.cell? ⟨w.heap.size, 0, none⟩ = some (.int .i64 ct) := kp hb95 (by go_cell)
      replace c_c1 : w95.cell? ⟨w.heap.size, 1, none⟩ = some (.int .i64 clo) := kp hb95 (by go_cell)
      replace c_c2 : w95.cell? ⟨w.heap.size, 2, none⟩ = some (.int .i64 chi) := kp hb95 (by go_cell)
      replace c_c3 : w95.cell? ⟨w.heap.size, 3, none⟩ = some (.int .i64 cdr) := kp hb95 (by go_cell)
      replace c_d0 : w95.cell? ⟨w.heap.size + 1, 0, none⟩ = some (.int .i64 dl) := kp hb95 (by go_cell)
      replace c_d1 : w95.cell? ⟨w.heap.size + 1, 1, none⟩ = some (.int .i64 dh) := kp hb95 (by go_cell)
      replace c_y0 : w95.cell? ⟨w.heap.size + 1 + 1, 0, none⟩ = some (.int .i64 tlo) := kp hb95 (by go_cell)
      replace c_y1 : w95.cell? ⟨w.heap.size + 1 + 1, 1, none⟩ = some (.int .i64 thi) := kp hb95 (by go_cell)
      replace c_s0 : w95.cell? ⟨w6.heap.size, 0, none⟩ = some (.int .i64 s1) := kp hb95 (by go_cell)
      replace c_s1 : w95.cell? ⟨w6.heap.size, 1, none⟩ = some (.int .i64 s2) := kp hb95 (by go_cell)
      clear hb95 hB94
      go_wp2_with fail
      refine (HT.out _ (HXS.out _ (by go_grown))).mono ?_
      rintro e w96 ⟨rfl, hb96⟩
      have hB96 : Below w.heap.size w w96 := below_after (by go_grown) hb96
      have hz96 := hb96.size
      try simp only [World.size_alloc, World.size_setCell, World.size_drew] at hz96
      have hw96 := hB96.size
      replace c_c0 : w96.cell? ⟨w.heap.size, 0, none⟩ = some (.int .i64 ct) := kp hb96 (by go_cell)
      replace c_c1 : w96.cell? ⟨w.heap.size, 1, none⟩ = some (.int .i64 clo) := kp hb96 (by go_cell)
      replace c_c2 : w96.cell? ⟨w.heap.size, 2, none⟩ = some (.int .i64 chi) := kp hb96 (by go_cell)
      replace c_c3 : w96.cell? ⟨w.heap.size, 3, none⟩ = some (.int .i64 cdr) := kp hb96 (by go_cell)
      replace c_d0 : w96.cell? ⟨w.heap.size + 1, 0, none⟩ = some (.int .i64 dl) := kp hb96 (by go_cell)
      replace c_d1 : w96.cell? ⟨w.heap.size + 1, 1, none⟩ = some (.int .i64 dh) := kp hb96 (by go_cell)
      replace c_y0 : w96.cell? ⟨w.heap.size + 1 + 1, 0, none⟩ = some (.int .i64 tlo) := kp hb96 (by go_cell)
      replace c_y1 : w96.cell? ⟨w.heap.size + 1 + 1, 1, none⟩ = some (.int .i64 thi) := kp hb96 (by go_cell)
      replace c_s0 : w96.cell? ⟨w6.heap.size, 0, none⟩ = some (.int .i64 s1) := kp hb96 (by go_cell)
      replace c_s1 : w96.cell? ⟨w6.heap.size, 1, none⟩ = some (.int .i64 s2) := kp hb96 (by go_cell)
      clear hb96 hB95
      go_wp2_with fail
      go_ret
      exact ⟨rfl, by go_grown⟩
set_option maxHeartbeats 1600000 in
set_option maxRecDepth 100000 in
theorem ans_ok (A : Option Addr) (n c : Nat) (xs : List Wt) (ct clo chi cdr dl dh tlo thi sent there back wrong which : Int) (w : World) (hn : xs.length = n) (hx : Wts? w.heap.size w A xs) (h0 : n ≤ 25) (h1 : clkB ct clo chi cdr = true) (h2 : timB tlo thi = true) (h3 : ¬ there < 0) (h4 : ¬ 20000 < there) (h5 : ¬ back < 0) (h6 : ¬ 20000 < back) (h7 : readB sent = true) (hs : (wValid xs && depB dl dh) = true) (hle : ¬ min ((speedP dl dh xs).2 * there / 1000) ((speedP dl dh xs).2 * back / 1000) < max (-(-((speedP dl dh xs).1 * there) / 1000)) (-(-((speedP dl dh xs).1 * back) / 1000))) (hw0 : 0 ≤ which) (hw1 : which < 18446744073709551616)
    (r4 dv d g : Int) (er : wrong.tmod 4 = r4) (ed : tlo + which % (thi - tlo + 1) = dv) (ee : max (-(-((speedP dl dh xs).1 * there) / 1000)) (-(-((speedP dl dh xs).1 * back) / 1000)) + which % (min ((speedP dl dh xs).2 * there / 1000) ((speedP dl dh xs).2 * back / 1000) - max (-(-((speedP dl dh xs).1 * there) / 1000)) (-(-((speedP dl dh xs).1 * back) / 1000)) + 1) = d) (eg : there + back + dv + r4 = g) (hg0 : 0 ≤ g) (hg1 : g ≤ 1000000000) (hin : (decide (-(cdr * g / 1000000) ≤ r4) && decide (r4 ≤ cdr * g / 1000000)) = true) (y1 y2 : Int) (h2s : twoS xs ct clo chi cdr dl dh sent (sent + g) tlo thi = (y1, y2, 0)) (hd1 : y1 ≤ d) (hd2 : d ≤ y2) : Calls Try.prog 20 #[.slice A n c, .agg #[.int .i64 ct, .int .i64 clo, .int .i64 chi, .int .i64 cdr], .agg #[.int .i64 dl, .int .i64 dh], .agg #[.int .i64 tlo, .int .i64 thi], .int .i64 sent, .int .i64 there, .int .i64 back, .int .i64 wrong, .int .u64 which] w fun e w' => e = .returned (.bool true) ∧ Below w.heap.size w w' := by
  have hr4 : -3 ≤ r4 ∧ r4 ≤ 3 := by rw [← er]; exact tmod4 wrong
  have hr5 : IntKind.i64.wrap r4 = r4 := IntWalk.i64_in _ (by omega)
  have vr := in_range tlo thi which ((timB_iff tlo thi).1 h2).2.1
  rw [ed] at vr
  have HXS := Lib.hid (hxs_of hx)
  have cb := clkB_bounds h1
  have tb := (timB_iff tlo thi).1 h2
  have sb := readB_bounds h7
  have sok := speedP_ok (and_left hs) (and_right hs)
  obtain ⟨o1, o2, o3⟩ := sok
  have hF := fun W => bel (Few_any A n c W)
  rw [show decide (n ≤ 25) = true by simp; omega] at hF
  have HF := Lib.hid hF
  have hA := fun W => RCValid_any ct clo chi cdr W
  rw [h1] at hA
  have HA := Lib.hid hA
  have hB := fun W => RTimes17_any tlo thi W
  rw [h2] at hB
  have HB := Lib.hid hB
  have hC := fun W => bel (RTime_any sent W)
  rw [h7] at hC
  have HC := Lib.hid hC
  have hS := fun W h => Speed_any A n c xs dl dh W hn (by omega) h
  rw [speedS_ok hs] at hS
  generalize (speedP dl dh xs).1 = s1 at *
  generalize (speedP dl dh xs).2 = s2 at *
  have p1 := prod_sp (a := s1) (b := there) (by omega) (by omega) (by omega) (by omega)
  have p2 := prod_sp (a := s1) (b := back) (by omega) (by omega) (by omega) (by omega)
  have p3 := prod_sp (a := s2) (b := there) (by omega) (by omega) (by omega) (by omega)
  have p4 := prod_sp (a := s2) (b := back) (by omega) (by omega) (by omega) (by omega)
  have k1 : IntKind.i64.wrap (s1 * there) = s1 * there := IntWalk.i64_in _ (by omega)
  have k2 : IntKind.i64.wrap (s1 * back) = s1 * back := IntWalk.i64_in _ (by omega)
  have k3 : IntKind.i64.wrap (s2 * there) = s2 * there := IntWalk.i64_in _ (by omega)
  have k4 : IntKind.i64.wrap (s2 * back) = s2 * back := IntWalk.i64_in _ (by omega)
  have hI := fun W => bel (Ceil_any (s1 * there) 1000 W (by omega) (by omega) (by omega) (by omega))
  have hJ := fun W => bel (Ceil_any (s1 * back) 1000 W (by omega) (by omega) (by omega) (by omega))
  have hK := fun W => bel (Floor_any (s2 * there) 1000 W (by omega) (by omega) (by omega) (by omega))
  have hL := fun W => bel (Floor_any (s2 * back) 1000 W (by omega) (by omega) (by omega) (by omega))
  have u1 : 0 ≤ -(-(s1 * there) / 1000) ∧ -(-(s1 * there) / 1000) ≤ 1000000000000 := by omega
  have u2 : 0 ≤ -(-(s1 * back) / 1000) ∧ -(-(s1 * back) / 1000) ≤ 1000000000000 := by omega
  have u3 : 0 ≤ s2 * there / 1000 ∧ s2 * there / 1000 ≤ 1000000000000 := by omega
  have u4 : 0 ≤ s2 * back / 1000 ∧ s2 * back / 1000 ≤ 1000000000000 := by omega
  generalize hp1 : s1 * there = P1 at *
  generalize hp2 : s1 * back = P2 at *
  generalize hp3 : s2 * there = P3 at *
  generalize hp4 : s2 * back = P4 at *
  generalize -(-P1 / 1000) = c1 at *
  generalize -(-P2 / 1000) = c2 at *
  generalize P3 / 1000 = f1 at *
  generalize P4 / 1000 = f2 at *
  have hM := fun W => of17_any (max c1 c2) (min f1 f2) W
  have hN := fun W => in17_any (max c1 c2) (min f1 f2) which W (by omega) (by omega) (by omega) hw0 hw1
  rw [ee] at hN
  have hO := fun W => in17_any tlo thi which W (by omega) (by omega) (by omega) hw0 hw1
  rw [ed] at hO
  have pg := prod_clk (d := cdr) (g := g) (by omega) (by omega) (by omega) (by omega)
  have k5 : (cdr * g).tdiv 1000000 = cdr * g / 1000000 := Int.tdiv_eq_ediv_of_nonneg pg.1
  have k6 : (-(cdr * g)).tdiv 1000000 = -(cdr * g / 1000000) := by rw [Int.neg_tdiv, k5]
  have hq : 0 ≤ cdr * g / 1000000 ∧ cdr * g / 1000000 ≤ 1000000 := by omega
  have hP := fun W => of17_any (-(cdr * g / 1000000)) (cdr * g / 1000000) W
  have hQ := fun W => In_any (-(cdr * g / 1000000)) (cdr * g / 1000000) r4 W
  rw [hin] at hQ
  have k7 : -cdr * g = -(cdr * g) := Int.neg_mul ..
  generalize hcg : cdr * g = Pg at *
  generalize Pg / 1000000 = q9 at *
  have hT := fun W h => Two_any A n c xs ct clo chi cdr dl dh sent (sent + g) tlo thi W hn (by omega) h
  rw [h2s] at hT
  have hU := fun W => In_any y1 y2 d W
  rw [show (decide (y1 ≤ d) && decide (d ≤ y2)) = true by simp; omega] at hU
  have HS := Lib.hid hS
  have HI := Lib.hid hI
  have HJ := Lib.hid hJ
  have HK := Lib.hid hK
  have HL := Lib.hid hL
  have HM := Lib.hid hM
  have HN := Lib.hid hN
  have HO := Lib.hid hO
  have HP := Lib.hid hP
  have HQ := Lib.hid hQ
  have HT := Lib.hid hT
  have HU := Lib.hid hU
  clear hx hn hs ee ed hF hA hB hC hS hI hJ hK hL hM hN hO hP hQ hT hU hin h2s
  go_enter Try.func20, Try.ntmps20
  go_wp2_with fail
  refine (head17_any _).mono ?_
  rintro e w1 ⟨rfl, hb1⟩
  have hB1 : Below w.heap.size w w1 := below_after (by go_grown) hb1
  have hz1 := hb1.size
  try simp only [World.size_alloc, World.size_setCell, World.size_drew] at hz1
  have hw1 := hB1.size
  have c_c0 : w1.cell? ⟨w.heap.size, 0, none⟩ = some (.int .i64 ct) := kp hb1 (by go_cell)
  have c_c1 : w1.cell? ⟨w.heap.size, 1, none⟩ = some (.int .i64 clo) := kp hb1 (by go_cell)
  have c_c2 : w1.cell? ⟨w.heap.size, 2, none⟩ = some (.int .i64 chi) := kp hb1 (by go_cell)
  have c_c3 : w1.cell? ⟨w.heap.size, 3, none⟩ = some (.int .i64 cdr) := kp hb1 (by go_cell)
  have c_d0 : w1.cell? ⟨w.heap.size + 1, 0, none⟩ = some (.int .i64 dl) := kp hb1 (by go_cell)
  have c_d1 : w1.cell? ⟨w.heap.size + 1, 1, none⟩ = some (.int .i64 dh) := kp hb1 (by go_cell)
  have c_y0 : w1.cell? ⟨w.heap.size + 1 + 1, 0, none⟩ = some (.int .i64 tlo) := kp hb1 (by go_cell)
  have c_y1 : w1.cell? ⟨w.heap.size + 1 + 1, 1, none⟩ = some (.int .i64 thi) := kp hb1 (by go_cell)
  clear hb1
  go_wp2_with fail
  refine (HF.out _).mono ?_
  rintro e w2 ⟨rfl, hb2⟩
  have hB2 : Below w.heap.size w w2 := below_after (by go_grown) hb2
  have hz2 := hb2.size
  try simp only [World.size_alloc, World.size_setCell, World.size_drew] at hz2
  have hw2 := hB2.size
  replace c_c0 : w2.cell? ⟨w.heap.size, 0, none⟩ = some (.int .i64 ct) := kp hb2 (by go_cell)
  replace c_c1 : w2.cell? ⟨w.heap.size, 1, none⟩ = some (.int .i64 clo) := kp hb2 (by go_cell)
  replace c_c2 : w2.cell? ⟨w.heap.size, 2, none⟩ = some (.int .i64 chi) := kp hb2 (by go_cell)
  replace c_c3 : w2.cell? ⟨w.heap.size, 3, none⟩ = some (.int .i64 cdr) := kp hb2 (by go_cell)
  replace c_d0 : w2.cell? ⟨w.heap.size + 1, 0, none⟩ = some (.int .i64 dl) := kp hb2 (by go_cell)
  replace c_d1 : w2.cell? ⟨w.heap.size + 1, 1, none⟩ = some (.int .i64 dh) := kp hb2 (by go_cell)
  replace c_y0 : w2.cell? ⟨w.heap.size + 1 + 1, 0, none⟩ = some (.int .i64 tlo) := kp hb2 (by go_cell)
  replace c_y1 : w2.cell? ⟨w.heap.size + 1 + 1, 1, none⟩ = some (.int .i64 thi) := kp hb2 (by go_cell)
  clear hb2 hB1
  go_wp2_with fail
  refine (HA.out _).mono ?_
  rintro e w3 ⟨rfl, hb3⟩
  have hB3 : Below w.heap.size w w3 := below_after (by go_grown) hb3
  have hz3 := hb3.size
  try simp only [World.size_alloc, World.size_setCell, World.size_drew] at hz3
  have hw3 := hB3.size
  replace c_c0 : w3.cell? ⟨w.heap.size, 0, none⟩ = some (.int .i64 ct) := kp hb3 (by go_cell)
  replace c_c1 : w3.cell? ⟨w.heap.size, 1, none⟩ = some (.int .i64 clo) := kp hb3 (by go_cell)
  replace c_c2 : w3.cell? ⟨w.heap.size, 2, none⟩ = some (.int .i64 chi) := kp hb3 (by go_cell)
  replace c_c3 : w3.cell? ⟨w.heap.size, 3, none⟩ = some (.int .i64 cdr) := kp hb3 (by go_cell)
  replace c_d0 : w3.cell? ⟨w.heap.size + 1, 0, none⟩ = some (.int .i64 dl) := kp hb3 (by go_cell)
  replace c_d1 : w3.cell? ⟨w.heap.size + 1, 1, none⟩ = some (.int .i64 dh) := kp hb3 (by go_cell)
  replace c_y0 : w3.cell? ⟨w.heap.size + 1 + 1, 0, none⟩ = some (.int .i64 tlo) := kp hb3 (by go_cell)
  replace c_y1 : w3.cell? ⟨w.heap.size + 1 + 1, 1, none⟩ = some (.int .i64 thi) := kp hb3 (by go_cell)
  clear hb3 hB2
  go_wp2_with fail
  refine (HB.out _).mono ?_
  rintro e w4 ⟨rfl, hb4⟩
  have hB4 : Below w.heap.size w w4 := below_after (by go_grown) hb4
  have hz4 := hb4.size
  try simp only [World.size_alloc, World.size_setCell, World.size_drew] at hz4
  have hw4 := hB4.size
  replace c_c0 : w4.cell? ⟨w.heap.size, 0, none⟩ = some (.int .i64 ct) := kp hb4 (by go_cell)
  replace c_c1 : w4.cell? ⟨w.heap.size, 1, none⟩ = some (.int .i64 clo) := kp hb4 (by go_cell)
  replace c_c2 : w4.cell? ⟨w.heap.size, 2, none⟩ = some (.int .i64 chi) := kp hb4 (by go_cell)
  replace c_c3 : w4.cell? ⟨w.heap.size, 3, none⟩ = some (.int .i64 cdr) := kp hb4 (by go_cell)
  replace c_d0 : w4.cell? ⟨w.heap.size + 1, 0, none⟩ = some (.int .i64 dl) := kp hb4 (by go_cell)
  replace c_d1 : w4.cell? ⟨w.heap.size + 1, 1, none⟩ = some (.int .i64 dh) := kp hb4 (by go_cell)
  replace c_y0 : w4.cell? ⟨w.heap.size + 1 + 1, 0, none⟩ = some (.int .i64 tlo) := kp hb4 (by go_cell)
  replace c_y1 : w4.cell? ⟨w.heap.size + 1 + 1, 1, none⟩ = some (.int .i64 thi) := kp hb4 (by go_cell)
  clear hb4 hB3
  go_wp2_with fail
  refine (HC.out _).mono ?_
  rintro e w5 ⟨rfl, hb5⟩
  have hB5 : Below w.heap.size w w5 := below_after (by go_grown) hb5
  have hz5 := hb5.size
  try simp only [World.size_alloc, World.size_setCell, World.size_drew] at hz5
  have hw5 := hB5.size
  replace c_c0 : w5.cell? ⟨w.heap.size, 0, none⟩ = some (.int .i64 ct) := kp hb5 (by go_cell)
  replace c_c1 : w5.cell? ⟨w.heap.size, 1, none⟩ = some (.int .i64 clo) := kp hb5 (by go_cell)
  replace c_c2 : w5.cell? ⟨w.heap.size, 2, none⟩ = some (.int .i64 chi) := kp hb5 (by go_cell)
  replace c_c3 : w5.cell? ⟨w.heap.size, 3, none⟩ = some (.int .i64 cdr) := kp hb5 (by go_cell)
  replace c_d0 : w5.cell? ⟨w.heap.size + 1, 0, none⟩ = some (.int .i64 dl) := kp hb5 (by go_cell)
  replace c_d1 : w5.cell? ⟨w.heap.size + 1, 1, none⟩ = some (.int .i64 dh) := kp hb5 (by go_cell)
  replace c_y0 : w5.cell? ⟨w.heap.size + 1 + 1, 0, none⟩ = some (.int .i64 tlo) := kp hb5 (by go_cell)
  replace c_y1 : w5.cell? ⟨w.heap.size + 1 + 1, 1, none⟩ = some (.int .i64 thi) := kp hb5 (by go_cell)
  clear hb5 hB4
  go_wp2_with fail
  refine (HS.out _ (HXS.out _ (by go_grown))).mono ?_
  rintro e w6 ⟨rfl, hb6⟩
  have hB6 : Below w.heap.size w w6 := below_after (by go_grown) hb6
  have hz6 := hb6.size
  try simp only [World.size_alloc, World.size_setCell, World.size_drew] at hz6
  have hw6 := hB6.size
  replace c_c0 : w6.cell? ⟨w.heap.size, 0, none⟩ = some (.int .i64 ct) := kp hb6 (by go_cell)
  replace c_c1 : w6.cell? ⟨w.heap.size, 1, none⟩ = some (.int .i64 clo) := kp hb6 (by go_cell)
  replace c_c2 : w6.cell? ⟨w.heap.size, 2, none⟩ = some (.int .i64 chi) := kp hb6 (by go_cell)
  replace c_c3 : w6.cell? ⟨w.heap.size, 3, none⟩ = some (.int .i64 cdr) := kp hb6 (by go_cell)
  replace c_d0 : w6.cell? ⟨w.heap.size + 1, 0, none⟩ = some (.int .i64 dl) := kp hb6 (by go_cell)
  replace c_d1 : w6.cell? ⟨w.heap.size + 1, 1, none⟩ = some (.int .i64 dh) := kp hb6 (by go_cell)
  replace c_y0 : w6.cell? ⟨w.heap.size + 1 + 1, 0, none⟩ = some (.int .i64 tlo) := kp hb6 (by go_cell)
  replace c_y1 : w6.cell? ⟨w.heap.size + 1 + 1, 1, none⟩ = some (.int .i64 thi) := kp hb6 (by go_cell)
  clear hb6 hB5
  go_upto_region 7 with fail
  have x_c0 : (w6.alloc (.cells #[.int .i64 s1, .int .i64 s2] 23)).cell? ⟨w.heap.size, 0, none⟩ = some (.int .i64 ct) := by go_cell
  have x_c1 : (w6.alloc (.cells #[.int .i64 s1, .int .i64 s2] 23)).cell? ⟨w.heap.size, 1, none⟩ = some (.int .i64 clo) := by go_cell
  have x_c2 : (w6.alloc (.cells #[.int .i64 s1, .int .i64 s2] 23)).cell? ⟨w.heap.size, 2, none⟩ = some (.int .i64 chi) := by go_cell
  have x_c3 : (w6.alloc (.cells #[.int .i64 s1, .int .i64 s2] 23)).cell? ⟨w.heap.size, 3, none⟩ = some (.int .i64 cdr) := by go_cell
  have x_d0 : (w6.alloc (.cells #[.int .i64 s1, .int .i64 s2] 23)).cell? ⟨w.heap.size + 1, 0, none⟩ = some (.int .i64 dl) := by go_cell
  have x_d1 : (w6.alloc (.cells #[.int .i64 s1, .int .i64 s2] 23)).cell? ⟨w.heap.size + 1, 1, none⟩ = some (.int .i64 dh) := by go_cell
  have x_y0 : (w6.alloc (.cells #[.int .i64 s1, .int .i64 s2] 23)).cell? ⟨w.heap.size + 1 + 1, 0, none⟩ = some (.int .i64 tlo) := by go_cell
  have x_y1 : (w6.alloc (.cells #[.int .i64 s1, .int .i64 s2] 23)).cell? ⟨w.heap.size + 1 + 1, 1, none⟩ = some (.int .i64 thi) := by go_cell
  have x_s0 : (w6.alloc (.cells #[.int .i64 s1, .int .i64 s2] 23)).cell? ⟨w6.heap.size, 0, none⟩ = some (.int .i64 s1) := by go_cell
  have x_s1 : (w6.alloc (.cells #[.int .i64 s1, .int .i64 s2] 23)).cell? ⟨w6.heap.size, 1, none⟩ = some (.int .i64 s2) := by go_cell
  have hBz : Below w.heap.size w (w6.alloc (.cells #[.int .i64 s1, .int .i64 s2] 23)) := by go_grown
  clear c_c0 c_c1 c_c2 c_c3
  clear c_d0 c_d1
  clear c_y0 c_y1
  clear hB6 hw6 hz6
  generalize (w6.alloc (.cells #[.int .i64 s1, .int .i64 s2] 23)) = z at *
  have c_c0 := x_c0
  have c_c1 := x_c1
  have c_c2 := x_c2
  have c_c3 := x_c3
  clear x_c0 x_c1 x_c2 x_c3
  have lt_c := World.block_lt_of_cell? _ _ c_c0
  simp only at lt_c
  have c_d0 := x_d0
  have c_d1 := x_d1
  clear x_d0 x_d1
  have lt_d := World.block_lt_of_cell? _ _ c_d0
  simp only at lt_d
  have c_y0 := x_y0
  have c_y1 := x_y1
  clear x_y0 x_y1
  have lt_y := World.block_lt_of_cell? _ _ c_y0
  simp only at lt_y
  have c_s0 := x_s0
  have c_s1 := x_s1
  clear x_s0 x_s1
  have lt_s := World.block_lt_of_cell? _ _ c_s0
  simp only at lt_s
  go_upto_region 7 with fail
  have HSZ := Lib.hid (show ∀ w', Below z.heap.size z w' → Below z.heap.size z w' ∧ w'.cell? ⟨w6.heap.size, 0, none⟩ = some (.int .i64 s1) ∧ w'.cell? ⟨w6.heap.size, 1, none⟩ = some (.int .i64 s2) from fun w' h9 => ⟨h9, (h9.cell (p := ⟨w6.heap.size, 0, none⟩) lt_s).trans c_s0, (h9.cell (p := ⟨w6.heap.size, 1, none⟩) lt_s).trans c_s1⟩)
  go_cut [22] (fun sv wx => sv = .int .i64 (max c1 c2) ∧ Below z.heap.size z wx)
  case first =>
    by_cases hm9 : c1 ≤ c2
    · have hv9 : max c1 c2 = c2 := by omega
      go_region_held3 (fun w' => Below z.heap.size z w' ∧ w'.cell? ⟨w6.heap.size, 0, none⟩ = some (.int .i64 s1) ∧ w'.cell? ⟨w6.heap.size, 1, none⟩ = some (.int .i64 s2))
        ((refine HSZ.out _ ?_; (first | (with_reducible assumption) | (go_grown; done) | (exact Below.drew (by go_grown)))))
        (first | ((go_split_ands; (with_reducible refine (HI.out _).mono ?_); rintro e xa ⟨rfl, hb_xa⟩; have hB_xa : Below z.heap.size z xa := below_after (by assumption) hb_xa)) | ((go_split_ands; (with_reducible refine (HJ.out _).mono ?_); rintro e xb ⟨rfl, hb_xb⟩; have hB_xb : Below z.heap.size z xb := below_after (by assumption) hb_xb)))
      all_goals (go_wp2_with fail)
      all_goals first | (exfalso; omega) | (go_meet; refine ⟨by first | (rw [hv9]; done) | (rw [hv9]; congr 1; omega), ?_⟩ <;> first | (go_grown; done) | (exact Below.drew (by go_grown)))
    · have hv9 : max c1 c2 = c1 := by omega
      go_region_held3 (fun w' => Below z.heap.size z w' ∧ w'.cell? ⟨w6.heap.size, 0, none⟩ = some (.int .i64 s1) ∧ w'.cell? ⟨w6.heap.size, 1, none⟩ = some (.int .i64 s2))
        ((refine HSZ.out _ ?_; (first | (with_reducible assumption) | (go_grown; done) | (exact Below.drew (by go_grown)))))
        (first | ((go_split_ands; (with_reducible refine (HI.out _).mono ?_); rintro e xa ⟨rfl, hb_xa⟩; have hB_xa : Below z.heap.size z xa := below_after (by assumption) hb_xa)) | ((go_split_ands; (with_reducible refine (HJ.out _).mono ?_); rintro e xb ⟨rfl, hb_xb⟩; have hB_xb : Below z.heap.size z xb := below_after (by assumption) hb_xb)))
      all_goals (go_wp2_with fail)
      all_goals first | (exfalso; omega) | (go_meet; refine ⟨by first | (rw [hv9]; done) | (rw [hv9]; congr 1; omega), ?_⟩ <;> first | (go_grown; done) | (exact Below.drew (by go_grown)))
  case rest =>
    obtain ⟨rfl, hBc⟩ := hcut
    clear HSZ
    have hBz : Below w.heap.size w wc := below_after hBz hBc
    have c_c0 : wc.cell? ⟨w.heap.size, 0, none⟩ = some (.int .i64 ct) := (hBc.cell (p := ⟨w.heap.size, 0, none⟩) lt_c).trans c_c0
    have c_c1 : wc.cell? ⟨w.heap.size, 1, none⟩ = some (.int .i64 clo) := (hBc.cell (p := ⟨w.heap.size, 1, none⟩) lt_c).trans c_c1
    have c_c2 : wc.cell? ⟨w.heap.size, 2, none⟩ = some (.int .i64 chi) := (hBc.cell (p := ⟨w.heap.size, 2, none⟩) lt_c).trans c_c2
    have c_c3 : wc.cell? ⟨w.heap.size, 3, none⟩ = some (.int .i64 cdr) := (hBc.cell (p := ⟨w.heap.size, 3, none⟩) lt_c).trans c_c3
    have lt_c := World.block_lt_of_cell? _ _ c_c0
    simp only at lt_c
    have c_d0 : wc.cell? ⟨w.heap.size + 1, 0, none⟩ = some (.int .i64 dl) := (hBc.cell (p := ⟨w.heap.size + 1, 0, none⟩) lt_d).trans c_d0
    have c_d1 : wc.cell? ⟨w.heap.size + 1, 1, none⟩ = some (.int .i64 dh) := (hBc.cell (p := ⟨w.heap.size + 1, 1, none⟩) lt_d).trans c_d1
    have lt_d := World.block_lt_of_cell? _ _ c_d0
    simp only at lt_d
    have c_y0 : wc.cell? ⟨w.heap.size + 1 + 1, 0, none⟩ = some (.int .i64 tlo) := (hBc.cell (p := ⟨w.heap.size + 1 + 1, 0, none⟩) lt_y).trans c_y0
    have c_y1 : wc.cell? ⟨w.heap.size + 1 + 1, 1, none⟩ = some (.int .i64 thi) := (hBc.cell (p := ⟨w.heap.size + 1 + 1, 1, none⟩) lt_y).trans c_y1
    have lt_y := World.block_lt_of_cell? _ _ c_y0
    simp only at lt_y
    have c_s0 : wc.cell? ⟨w6.heap.size, 0, none⟩ = some (.int .i64 s1) := (hBc.cell (p := ⟨w6.heap.size, 0, none⟩) lt_s).trans c_s0
    have c_s1 : wc.cell? ⟨w6.heap.size, 1, none⟩ = some (.int .i64 s2) := (hBc.cell (p := ⟨w6.heap.size, 1, none⟩) lt_s).trans c_s1
    have lt_s := World.block_lt_of_cell? _ _ c_s0
    simp only at lt_s
    go_upto_region 8 with fail
    have HSZ := Lib.hid (show ∀ w', Below wc.heap.size wc w' → Below wc.heap.size wc w' ∧ w'.cell? ⟨w6.heap.size, 0, none⟩ = some (.int .i64 s1) ∧ w'.cell? ⟨w6.heap.size, 1, none⟩ = some (.int .i64 s2) from fun w' h9 => ⟨h9, (h9.cell (p := ⟨w6.heap.size, 0, none⟩) lt_s).trans c_s0, (h9.cell (p := ⟨w6.heap.size, 1, none⟩) lt_s).trans c_s1⟩)
    go_cut [23] (fun sv wx => sv = .int .i64 (min f1 f2) ∧ Below wc.heap.size wc wx)
    case first =>
      by_cases hm9 : f1 ≤ f2
      · have hv9 : min f1 f2 = f1 := by omega
        go_region_held3 (fun w' => Below wc.heap.size wc w' ∧ w'.cell? ⟨w6.heap.size, 0, none⟩ = some (.int .i64 s1) ∧ w'.cell? ⟨w6.heap.size, 1, none⟩ = some (.int .i64 s2))
          ((refine HSZ.out _ ?_; (first | (with_reducible assumption) | (go_grown; done) | (exact Below.drew (by go_grown)))))
          (first | ((go_split_ands; (with_reducible refine (HK.out _).mono ?_); rintro e xc ⟨rfl, hb_xc⟩; have hB_xc : Below wc.heap.size wc xc := below_after (by assumption) hb_xc)) | ((go_split_ands; (with_reducible refine (HL.out _).mono ?_); rintro e xd ⟨rfl, hb_xd⟩; have hB_xd : Below wc.heap.size wc xd := below_after (by assumption) hb_xd)))
        all_goals (go_wp2_with fail)
        all_goals first | (exfalso; omega) | (go_meet; refine ⟨by first | (rw [hv9]; done) | (rw [hv9]; congr 1; omega), ?_⟩ <;> first | (go_grown; done) | (exact Below.drew (by go_grown)))
      · have hv9 : min f1 f2 = f2 := by omega
        go_region_held3 (fun w' => Below wc.heap.size wc w' ∧ w'.cell? ⟨w6.heap.size, 0, none⟩ = some (.int .i64 s1) ∧ w'.cell? ⟨w6.heap.size, 1, none⟩ = some (.int .i64 s2))
          ((refine HSZ.out _ ?_; (first | (with_reducible assumption) | (go_grown; done) | (exact Below.drew (by go_grown)))))
          (first | ((go_split_ands; (with_reducible refine (HK.out _).mono ?_); rintro e xc ⟨rfl, hb_xc⟩; have hB_xc : Below wc.heap.size wc xc := below_after (by assumption) hb_xc)) | ((go_split_ands; (with_reducible refine (HL.out _).mono ?_); rintro e xd ⟨rfl, hb_xd⟩; have hB_xd : Below wc.heap.size wc xd := below_after (by assumption) hb_xd)))
        all_goals (go_wp2_with fail)
        all_goals first | (exfalso; omega) | (go_meet; refine ⟨by first | (rw [hv9]; done) | (rw [hv9]; congr 1; omega), ?_⟩ <;> first | (go_grown; done) | (exact Below.drew (by go_grown)))
    case rest =>
      obtain ⟨rfl, hBc⟩ := hcut
      clear HSZ
      have hBz : Below w.heap.size w wc := below_after hBz hBc
      have c_c0 : wc.cell? ⟨w.heap.size, 0, none⟩ = some (.int .i64 ct) := (hBc.cell (p := ⟨w.heap.size, 0, none⟩) lt_c).trans c_c0
      have c_c1 : wc.cell? ⟨w.heap.size, 1, none⟩ = some (.int .i64 clo) := (hBc.cell (p := ⟨w.heap.size, 1, none⟩) lt_c).trans c_c1
      have c_c2 : wc.cell? ⟨w.heap.size, 2, none⟩ = some (.int .i64 chi) := (hBc.cell (p := ⟨w.heap.size, 2, none⟩) lt_c).trans c_c2
      have c_c3 : wc.cell? ⟨w.heap.size, 3, none⟩ = some (.int .i64 cdr) := (hBc.cell (p := ⟨w.heap.size, 3, none⟩) lt_c).trans c_c3
      have lt_c := World.block_lt_of_cell? _ _ c_c0
      simp only at lt_c
      have c_d0 : wc.cell? ⟨w.heap.size + 1, 0, none⟩ = some (.int .i64 dl) := (hBc.cell (p := ⟨w.heap.size + 1, 0, none⟩) lt_d).trans c_d0
      have c_d1 : wc.cell? ⟨w.heap.size + 1, 1, none⟩ = some (.int .i64 dh) := (hBc.cell (p := ⟨w.heap.size + 1, 1, none⟩) lt_d).trans c_d1
      have lt_d := World.block_lt_of_cell? _ _ c_d0
      simp only at lt_d
      have c_y0 : wc.cell? ⟨w.heap.size + 1 + 1, 0, none⟩ = some (.int .i64 tlo) := (hBc.cell (p := ⟨w.heap.size + 1 + 1, 0, none⟩) lt_y).trans c_y0
      have c_y1 : wc.cell? ⟨w.heap.size + 1 + 1, 1, none⟩ = some (.int .i64 thi) := (hBc.cell (p := ⟨w.heap.size + 1 + 1, 1, none⟩) lt_y).trans c_y1
      have lt_y := World.block_lt_of_cell? _ _ c_y0
      simp only at lt_y
      have c_s0 : wc.cell? ⟨w6.heap.size, 0, none⟩ = some (.int .i64 s1) := (hBc.cell (p := ⟨w6.heap.size, 0, none⟩) lt_s).trans c_s0
      have c_s1 : wc.cell? ⟨w6.heap.size, 1, none⟩ = some (.int .i64 s2) := (hBc.cell (p := ⟨w6.heap.size, 1, none⟩) lt_s).trans c_s1
      have lt_s := World.block_lt_of_cell? _ _ c_s0
      simp only at lt_s
      have hB90 := hBz
      have hw90 := hBz.size
      go_wp2_with fail
      refine (HM.out _).mono ?_
      rintro e w91 ⟨rfl, hb91⟩
      have hB91 : Below w.heap.size w w91 := below_after (by go_grown) hb91
      have hz91 := hb91.size
      try simp only [World.size_alloc, World.size_setCell, World.size_drew] at hz91
      have hw91 := hB91.size
      replace c_c0 : w91.cell? ⟨w.heap.size, 0, none⟩ = some (.int .i64 ct) := kp hb91 (by go_cell)
      replace c_c1 : w91.cell? ⟨w.heap.size, 1, none⟩ = some (.int .i64 clo) := kp hb91 (by go_cell)
      replace c_c2 : w91.cell? ⟨w.heap.size, 2, none⟩ = some (.int .i64 chi) := kp hb91 (by go_cell)
      replace c_c3 : w91.cell? ⟨w.heap.size, 3, none⟩ = some (.int .i64 cdr) := kp hb91 (by go_cell)
      replace c_d0 : w91.cell? ⟨w.heap.size + 1, 0, none⟩ = some (.int .i64 dl) := kp hb91 (by go_cell)
      replace c_d1 : w91.cell? ⟨w.heap.size + 1, 1, none⟩ = some (.int .i64 dh) := kp hb91 (by go_cell)
      replace c_y0 : w91.cell? ⟨w.heap.size + 1 + 1, 0, none⟩ = some (.int .i64 tlo) := kp hb91 (by go_cell)
      replace c_y1 : w91.cell? ⟨w.heap.size + 1 + 1, 1, none⟩ = some (.int .i64 thi) := kp hb91 (by go_cell)
      replace c_s0 : w91.cell? ⟨w6.heap.size, 0, none⟩ = some (.int .i64 s1) := kp hb91 (by go_cell)
      replace c_s1 : w91.cell? ⟨w6.heap.size, 1, none⟩ = some (.int .i64 s2) := kp hb91 (by go_cell)
      clear hb91 hB90
      go_wp2_with fail
      refine (HN.out _).mono ?_
      rintro e w92 ⟨rfl, hb92⟩
      have hB92 : Below w.heap.size w w92 := below_after (by go_grown) hb92
      have hz92 := hb92.size
      try simp only [World.size_alloc, World.size_setCell, World.size_drew] at hz92
      have hw92 := hB92.size
      replace c_c0 : w92.cell? ⟨w.heap.size, 0, none⟩ = some (.int .i64 ct) := kp hb92 (by go_cell)
      replace c_c1 : w92.cell? ⟨w.heap.size, 1, none⟩ = some (.int .i64 clo) := kp hb92 (by go_cell)
      replace c_c2 : w92.cell? ⟨w.heap.size, 2, none⟩ = some (.int .i64 chi) := kp hb92 (by go_cell)
      replace c_c3 : w92.cell? ⟨w.heap.size, 3, none⟩ = some (.int .i64 cdr) := kp hb92 (by go_cell)
      replace c_d0 : w92.cell? ⟨w.heap.size + 1, 0, none⟩ = some (.int .i64 dl) := kp hb92 (by go_cell)
      replace c_d1 : w92.cell? ⟨w.heap.size + 1, 1, none⟩ = some (.int .i64 dh) := kp hb92 (by go_cell)
      replace c_y0 : w92.cell? ⟨w.heap.size + 1 + 1, 0, none⟩ = some (.int .i64 tlo) := kp hb92 (by go_cell)
      replace c_y1 : w92.cell? ⟨w.heap.size + 1 + 1, 1, none⟩ = some (.int .i64 thi) := kp hb92 (by go_cell)
      replace c_s0 : w92.cell? ⟨w6.heap.size, 0, none⟩ = some (.int .i64 s1) := kp hb92 (by go_cell)
      replace c_s1 : w92.cell? ⟨w6.heap.size, 1, none⟩ = some (.int .i64 s2) := kp hb92 (by go_cell)
      clear hb92 hB91
      go_wp2_with fail
      refine (HO.out _).mono ?_
      rintro e w93 ⟨rfl, hb93⟩
      have hB93 : Below w.heap.size w w93 := below_after (by go_grown) hb93
      have hz93 := hb93.size
      try simp only [World.size_alloc, World.size_setCell, World.size_drew] at hz93
      have hw93 := hB93.size
      replace c_c0 : w93.cell? ⟨w.heap.size, 0, none⟩ = some (.int .i64 ct) := kp hb93 (by go_cell)
      replace c_c1 : w93.cell? ⟨w.heap.size, 1, none⟩ = some (.int .i64 clo) := kp hb93 (by go_cell)
      replace c_c2 : w93.cell? ⟨w.heap.size, 2, none⟩ = some (.int .i64 chi) := kp hb93 (by go_cell)
      replace c_c3 : w93.cell? ⟨w.heap.size, 3, none⟩ = some (.int .i64 cdr) := kp hb93 (by go_cell)
      replace c_d0 : w93.cell? ⟨w.heap.size + 1, 0, none⟩ = some (.int .i64 dl) := kp hb93 (by go_cell)
      replace c_d1 : w93.cell? ⟨w.heap.size + 1, 1, none⟩ = some (.int .i64 dh) := kp hb93 (by go_cell)
      replace c_y0 : w93.cell? ⟨w.heap.size + 1 + 1, 0, none⟩ = some (.int .i64 tlo) := kp hb93 (by go_cell)
      replace c_y1 : w93.cell? ⟨w.heap.size + 1 + 1, 1, none⟩ = some (.int .i64 thi) := kp hb93 (by go_cell)
      replace c_s0 : w93.cell? ⟨w6.heap.size, 0, none⟩ = some (.int .i64 s1) := kp hb93 (by go_cell)
      replace c_s1 : w93.cell? ⟨w6.heap.size, 1, none⟩ = some (.int .i64 s2) := kp hb93 (by go_cell)
      clear hb93 hB92
      go_wp2_with fail
      refine (HP.out _).mono ?_
      rintro e w94 ⟨rfl, hb94⟩
      have hB94 : Below w.heap.size w w94 := below_after (by go_grown) hb94
      have hz94 := hb94.size
      try simp only [World.size_alloc, World.size_setCell, World.size_drew] at hz94
      have hw94 := hB94.size
      replace c_c0 : w94.cell? ⟨w.heap.size, 0, none⟩ = some (.int .i64 ct) := kp hb94 (by go_cell)
      replace c_c1 : w94.cell? ⟨w.heap.size, 1, none⟩ = some (.int .i64 clo) := kp hb94 (by go_cell)
      replace c_c2 : w94.cell? ⟨w.heap.size, 2, none⟩ = some (.int .i64 chi) := kp hb94 (by go_cell)
      replace c_c3 : w94.cell? ⟨w.heap.size, 3, none⟩ = some (.int .i64 cdr) := kp hb94 (by go_cell)
      replace c_d0 : w94.cell? ⟨w.heap.size + 1, 0, none⟩ = some (.int .i64 dl) := kp hb94 (by go_cell)
      replace c_d1 : w94.cell? ⟨w.heap.size + 1, 1, none⟩ = some (.int .i64 dh) := kp hb94 (by go_cell)
      replace c_y0 : w94.cell? ⟨w.heap.size + 1 + 1, 0, none⟩ = some (.int .i64 tlo) := kp hb94 (by go_cell)
      replace c_y1 : w94.cell? ⟨w.heap.size + 1 + 1, 1, none⟩ = some (.int .i64 thi) := kp hb94 (by go_cell)
      replace c_s0 : w94.cell? ⟨w6.heap.size, 0, none⟩ = some (.int .i64 s1) := kp hb94 (by go_cell)
      replace c_s1 : w94.cell? ⟨w6.heap.size, 1, none⟩ = some (.int .i64 s2) := kp hb94 (by go_cell)
      clear hb94 hB93
      go_wp2_with fail
      refine (HQ.out _).mono ?_
      rintro e w95 ⟨rfl, hb95⟩
      have hB95 : Below w.heap.size w w95 := below_after (by go_grown) hb95
      have hz95 := hb95.size
      try simp only [World.size_alloc, World.size_setCell, World.size_drew] at hz95
      have hw95 := hB95.size
      replace c_c0 : w95.cell? ⟨w.heap.size, 0, none⟩ = some (.int .i64 ct) := kp hb95 (by go_cell)
      replace c_c1 : w95.cell? ⟨w.heap.size, 1, none⟩ = some (.int .i64 clo) := kp hb95 (by go_cell)
      replace c_c2 : w95.cell? ⟨w.heap.size, 2, none⟩ = some (.int .i64 chi) := kp hb95 (by go_cell)
      replace c_c3 : w95.cell? ⟨w.heap.size, 3, none⟩ = some (.int .i64 cdr) := kp hb95 (by go_cell)
      replace c_d0 : w95.cell? ⟨w.heap.size + 1, 0, none⟩ = some (.int .i64 dl) := kp hb95 (by go_cell)
      replace c_d1 : w95.cell? ⟨w.heap.size + 1, 1, none⟩ = some (.int .i64 dh) := kp hb95 (by go_cell)
      replace c_y0 : w95.cell? ⟨w.heap.size + 1 + 1, 0, none⟩ = some (.int .i64 tlo) := kp hb95 (by go_cell)
      replace c_y1 : w95.cell? ⟨w.heap.size + 1 + 1, 1, none⟩ = some (.int .i64 thi) := kp hb95 (by go_cell)
      replace c_s0 : w95.cell? ⟨w6.heap.size, 0, none⟩ = some (.int .i64 s1) := kp hb95 (by go_cell)
      replace c_s1 : w95.cell? ⟨w6.heap.size, 1, none⟩ = some (.int .i64 s2) := kp hb95 (by go_cell)
      clear hb95 hB94
      go_wp2_with fail
      refine (HT.out _ (HXS.out _ (by go_grown))).mono ?_
      rintro e w96 ⟨rfl, hb96⟩
      have hB96 : Below w.heap.size w w96 := below_after (by go_grown) hb96
      have hz96 := hb96.size
      try simp only [World.size_alloc, World.size_setCell, World.size_drew] at hz96
      have hw96 := hB96.size
      replace c_c0 : w96.cell? ⟨w.heap.size, 0, none⟩ = some (.int .i64 ct) := kp hb96 (by go_cell)
      replace c_c1 : w96.cell? ⟨w.heap.size, 1, none⟩ = some (.int .i64 clo) := kp hb96 (by go_cell)
      replace c_c2 : w96.cell? ⟨w.heap.size, 2, none⟩ = some (.int .i64 chi) := kp hb96 (by go_cell)
      replace c_c3 : w96.cell? ⟨w.heap.size, 3, none⟩ = some (.int .i64 cdr) := kp hb96 (by go_cell)
      replace c_d0 : w96.cell? ⟨w.heap.size + 1, 0, none⟩ = some (.int .i64 dl) := kp hb96 (by go_cell)
      replace c_d1 : w96.cell? ⟨w.heap.size + 1, 1, none⟩ = some (.int .i64 dh) := kp hb96 (by go_cell)
      replace c_y0 : w96.cell? ⟨w.heap.size + 1 + 1, 0, none⟩ = some (.int .i64 tlo) := kp hb96 (by go_cell)
      replace c_y1 : w96.cell? ⟨w.heap.size + 1 + 1, 1, none⟩ = some (.int .i64 thi) := kp hb96 (by go_cell)
      replace c_s0 : w96.cell? ⟨w6.heap.size, 0, none⟩ = some (.int .i64 s1) := kp hb96 (by go_cell)
      replace c_s1 : w96.cell? ⟨w6.heap.size, 1, none⟩ = some (.int .i64 s2) := kp hb96 (by go_cell)
      clear hb96 hB95
      go_wp2_with fail
      refine (HU.out _).mono ?_
      rintro e w97 ⟨rfl, hb97⟩
      have hB97 : Below w.heap.size w w97 := below_after (by go_grown) hb97
      have hz97 := hb97.size
      try simp only [World.size_alloc, World.size_setCell, World.size_drew] at hz97
      have hw97 := hB97.size
      replace c_c0 : w97.cell? ⟨w.heap.size, 0, none⟩ = some (.int .i64 ct) := kp hb97 (by go_cell)
      replace c_c1 : w97.cell? ⟨w.heap.size, 1, none⟩ = some (.int .i64 clo) := kp hb97 (by go_cell)
      replace c_c2 : w97.cell? ⟨w.heap.size, 2, none⟩ = some (.int .i64 chi) := kp hb97 (by go_cell)
      replace c_c3 : w97.cell? ⟨w.heap.size, 3, none⟩ = some (.int .i64 cdr) := kp hb97 (by go_cell)
      replace c_d0 : w97.cell? ⟨w.heap.size + 1, 0, none⟩ = some (.int .i64 dl) := kp hb97 (by go_cell)
      replace c_d1 : w97.cell? ⟨w.heap.size + 1, 1, none⟩ = some (.int .i64 dh) := kp hb97 (by go_cell)
      replace c_y0 : w97.cell? ⟨w.heap.size + 1 + 1, 0, none⟩ = some (.int .i64 tlo) := kp hb97 (by go_cell)
      replace c_y1 : w97.cell? ⟨w.heap.size + 1 + 1, 1, none⟩ = some (.int .i64 thi) := kp hb97 (by go_cell)
      replace c_s0 : w97.cell? ⟨w6.heap.size, 0, none⟩ = some (.int .i64 s1) := kp hb97 (by go_cell)
      replace c_s1 : w97.cell? ⟨w6.heap.size, 1, none⟩ = some (.int .i64 s2) := kp hb97 (by go_cell)
      have c_x0 : w97.cell? ⟨w96.heap.size, 0, none⟩ = some (.int .i64 y1) := kp hb97 (by go_cell)
      have c_x1 : w97.cell? ⟨w96.heap.size, 1, none⟩ = some (.int .i64 y2) := kp hb97 (by go_cell)
      clear hb97 hB96
      go_wp2_with fail
      go_ret
      exact ⟨rfl, by go_grown⟩
end Go.Proofs.Ytollpjdnahemeaa
