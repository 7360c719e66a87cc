import Derived.Test.YthkjejikhlcmfaaT7
import Derived.Deep.RegionHeld3
import Derived.Deep.DeepCutAuto
import Derived.Deep.DrawnRows
import Derived.BigRegion
namespace Go.Proofs.Ythkjejikhlcmfaa
open Go.RowKit
set_option linter.unusedSimpArgs false
set_option linter.unusedVariables false
attribute [local go_sem ↓] Go.wp_at_zero Go.wp_at_succ

theorem step_append_rows {ops : Array Oper} {o : Oper} {a : Act} {K : Act → World → Prop} {Q : Exit → Act → World → Prop} {E : Prop} (w : World) (hgd : o.guard = none) (s x : Operand)
    (ho : o.op = .call { callee := .builtin .append, args := #[s, x], argTypes := #[22, 22] }) (base : Nat) (v : Value) (n : Nat) (xs : List Rw) (hs : a.eval s = v) (hown : w.ownsRow base 32 6 v n (flat xs))
    (ad : Addr) (m c : Nat) (ys : List Rw) (hx : a.eval x = .slice (some ad) m c) (hl : ys.length = m) (hr : Rows? w (some ad) ys) (hb : n + m ≤ 2000000000000) (hbase : base ≤ w.heap.size)
    (h : ∀ v' w', w'.ownsRow base 32 6 v' (n + m) (flat (xs ++ ys)) → w.grownBy w' v.ownBlock → (v'.ownBlock = v.ownBlock ∨ v'.ownBlock = some w.heap.size) → K (a.put o.dst v') w') :
    if Region.wanted o (yielded ops a.tmps) = true then Oper.wp Try.prog o a w K Q else E := by
  obtain ⟨i0, hi, hz0, hz1, hz2⟩ := info_parts rowInfo
  have hw : Region.wanted o (yielded ops a.tmps) = true := by simp [Region.wanted, hgd]
  rw [if_pos hw]
  obtain ⟨v', w', hrun, h2, h3, _, h5⟩ := run_append_own_at (P := Try.prog) w base 22 o.type 32 i0 _ 6 48 Try.underlying22 hi hz0 hz1 hz2 rfl (by omega) v n (flat xs) hown ad m c (flat ys) (by rw [flat_len, hl]) hr.news flat_one (by unfold maxLen; omega) (by omega) hbase
  unfold Oper.wp execOp
  simp only [ho, resolve, invoke, builtin, Sem.run_bind, Sem.run_pure, Result.andThen_ok, List.map_toArray, List.map_cons, List.map_nil, hs, hx, hrun]
  exact h v' w' (by rw [flat_app]; exact h2) h3 h5
theorem step_append_rows2 {ops : Array Oper} {o : Oper} {a : Act} {K : Act → World → Prop} {Q : Exit → Act → World → Prop} {E : Prop} (w : World) (hgd : o.guard = none) (s x : Operand)
    (ho : o.op = .call { callee := .builtin .append, args := #[s, x], argTypes := #[22, 22] }) (base : Nat) (v : Value) (n : Nat) (xs : List Rw) (hs : a.eval s = v) (hown : w.ownsRow base 32 6 v n (flat xs))
    (A : Option Addr) (hA : A ≠ none) (m c : Nat) (ys : List Rw) (hx : a.eval x = .slice A m c) (hl : ys.length = m) (hr : Rows? w A ys) (hb : n + m ≤ 2000000000000) (hbase : base ≤ w.heap.size)
    (h : ∀ v' w', w'.ownsRow base 32 6 v' (n + m) (flat (xs ++ ys)) → w.grownBy w' v.ownBlock → (v'.ownBlock = v.ownBlock ∨ v'.ownBlock = some w.heap.size) → K (a.put o.dst v') w') :
    if Region.wanted o (yielded ops a.tmps) = true then Oper.wp Try.prog o a w K Q else E := by
  cases A with
  | none => exact absurd rfl hA
  | some ad => exact step_append_rows w hgd s x ho base v n xs hs hown ad m c ys hx hl hr hb hbase h
theorem cover_find (p : Rw → Bool) (pre suf : List Rw) (x y : Rw) (hx : x ∈ pre) (h : p y = true → p x = true) : (pre ++ y :: suf).find? p = (pre ++ suf).find? p := by
  rw [List.find?_append, List.find?_append]
  cases hf : pre.find? p with
  | some r => rfl
  | none =>
    rw [List.find?_eq_none] at hf
    have : p y = false := by
      cases hy : p y with
      | false => rfl
      | true => exact absurd (h hy) (hf x hx)
    simp [List.find?_cons, this]
theorem cover_valid {pre suf : List Rw} {y : Rw} (h : validB (pre ++ y :: suf) = true) : validB (pre ++ suf) = true := by
  simp only [validB, Bool.and_eq_true, decide_eq_true_eq, List.all_eq_true, List.length_append, List.length_cons, List.mem_append, List.mem_cons] at h ⊢
  exact ⟨by omega, fun x hx => h.2 x (by rcases hx with h1 | h1 <;> simp [h1])⟩
theorem Rows?.drop {w : World} {b off : Nat} {xs : List Rw} (h : Rows? w (some ⟨b, off, none⟩) xs) (k : Nat) : Rows? w (some ⟨b, off + k * 6, none⟩) (xs.drop k) := fun hn => by
  rw [List.length_drop] at hn
  obtain ⟨b', off', e, hc⟩ := h (by omega)
  cases e
  refine ⟨_, _, rfl, fun i r hr => ?_⟩
  rw [List.getElem?_drop] at hr
  have := hc (k + i) r hr
  rwa [show off + (k + i) * 6 = off + k * 6 + i * 6 by omega] at this

set_option maxHeartbeats 800000 in
set_option maxRecDepth 100000 in
theorem covered_mid (temp a s p q : Int) (b off n c i j : Nat) (xs pre suf : List Rw) (w : World) (hn : xs.length = n) (hnc : n ≤ c) (hx : Rows? w (some ⟨b, off, none⟩) xs) (hp0 : 0 ≤ p) (hp1 : p ≤ 255) (hq0 : 0 ≤ q) (hq1 : q ≤ 255)
    (hj : q % ((n : Int) - 1) = (j : Int)) (hj2 : j + 1 < n) (hi : p % (1 + (j : Int)) = (i : Int)) (hi2 : i ≤ j) (hn50 : n ≤ 50) (h : (validB xs && useB temp a s) = true) (x y : Rw) (e1 : xs[i]? = some x) (ex : xs = pre ++ y :: suf) (hp : pre.length = j + 1) (hc1 : x.lo ≤ y.lo) (hc2 : y.hi ≤ x.hi) (hc3 : y.age ≤ x.age) (hc4 : y.since ≤ x.since) :
    Calls Try.prog 6 #[.slice (some ⟨b, off, none⟩) n c, .int .u8 p, .int .u8 q, .int .i64 temp, .int .i64 a, .int .i64 s] w fun e w' => e = .returned (.bool true) ∧ Below w.heap.size w w' := by
  have e2 : xs[j + 1]? = some y := by subst ex; rw [List.getElem?_append_right (by omega), hp]; simp
  have u := fun W h => usable_any temp a s (some ⟨b, off, none⟩) n c xs W hn (by omega) h
  rw [h] at u
  have hxp : ∀ W, Below w.heap.size w W → Rows? W (some ⟨b, off, none⟩) pre := fun W hW => by
    have := (hx.below hW).take (j + 1)
    rwa [ex, List.take_left' hp] at this
  have HXP := Lib.hid hxp
  have hsl : suf.length = n - (1 + j + 1) := by rw [← hn, ex, List.length_append, hp, List.length_cons]; omega
  have hxs : ∀ W, Below w.heap.size w W → Rows? W (if c = 1 + j + 1 then some ⟨b, off, none⟩ else some ⟨b, off + (1 + j + 1) * 6, none⟩) suf := fun W hW => by
    split
    · intro hpos; omega
    · have := (hx.below hW).drop (1 + j + 1)
      rwa [show xs.drop (1 + j + 1) = suf by rw [ex, show pre ++ y :: suf = (pre ++ [y]) ++ suf by simp]; exact List.drop_left' (by simp [hp]; omega)] at this
  have HXS := Lib.hid hxs
  have HSL := Lib.hid hsl
  have sm := fun c9 C m k W (hm : (pre ++ suf).length = m) (hm2 : m ≤ 9223372036854775807) h1 h2 => same_any temp a s (some ⟨b, off, none⟩) n c9 xs C m k (pre ++ suf) W hn (by omega) h1 hm hm2 h2 (by
    have hv := and_left h
    have hv2 : validB (pre ++ suf) = true := by rw [ex] at hv; exact cover_valid hv
    have hxm : x ∈ pre := by
      rw [ex, List.getElem?_append_left (by omega)] at e1
      exact List.mem_of_getElem? e1
    have hf : xs.find? (Rw.isFor temp a s) = (pre ++ suf).find? (Rw.isFor temp a s) := by
      rw [ex]
      exact cover_find _ pre suf x y hxm (fun hy => by
        have a2 := (isFor_iff temp a s y).1 hy
        exact (isFor_iff temp a s x).2 (by omega))
    simp only [findS, hv, hv2, hf]) (and_left h) (and_right h)
  have HS := Lib.hid sm
  clear hxp hxs hsl sm
  have HU := Lib.hid u
  have HX := Lib.hid hx
  have HN := Lib.hid hn
  have HE1 := Lib.hid e1
  have HE2 := Lib.hid e2
  have HEX := Lib.hid ex
  have HP := Lib.hid hp
  have hn2 : (2 : Int) ≤ (n : Int) := by omega
  clear u hx hn h e1 e2 ex hp
  go_enter Try.func6, Try.ntmps6
  go_wp2_with fail
  refine (head_any _).mono ?_
  rintro e w1 ⟨rfl, hb1⟩
  have hz1 := hb1.size
  have HX1 := Lib.hid (HX.out.below hb1)
  go_wp2_with fail
  refine (HU.out _ HX1.out).mono ?_
  rintro e w2 ⟨rfl, hb2⟩
  have hB2 : Below w.heap.size w w2 := below_after hb1 hb2
  have hz2 := hB2.size
  clear hb1 hb2
  have hx2 := HX.out.below hB2
  obtain ⟨b', off', hbo, hc⟩ := hx2 (by rw [HN.out]; omega)
  cases hbo
  obtain ⟨t0, t1, t2, t3, t4, t5⟩ := hc i x HE1.out
  have hc2 := hc (j + 1) y HE2.out
  rw [show (j + 1) * 6 = (1 + j) * 6 by omega] at hc2
  obtain ⟨u0, u1, u2, u3, u4, u5⟩ := hc2
  clear hc hx2
  have i1 : (0 : Int) ≤ 1 + (j : Int) := by omega
  have i2 : 1 + (j : Int) < (n : Int) := by omega
  have i3 : (0 : Int) ≤ (i : Int) := by omega
  have i4 : (i : Int) < (n : Int) := by omega
  have i5 : 1 + (j : Int) ≤ (c : Int) := by omega
  have wr1 : p.tmod (1 + (j : Int)) = (i : Int) := by rw [Int.tmod_eq_emod_of_nonneg hp0]; exact hi
  have tn : (1 + (j : Int)).toNat = 1 + j := by omega
  have ne0 : ((1 + (j : Int)) == 0) = false := by simp; omega
  have ne1 : ¬ (1 + (j : Int) = 0) := by omega
  have wr2 : IntKind.i64.wrap (i : Int) = (i : Int) := IntWalk.i64_in _ (by omega)
  go_upto_region 5 with fail
  go_cut [15, 16] (fun s15 s16 wx => ∃ g1 g2 : Nat, s15 = .pointer (some ⟨g1, 0, none⟩) ∧ s16 = .pointer (some ⟨g2, 0, none⟩) ∧ Below w.heap.size w wx ∧ RowAt wx g1 0 x ∧ RowAt wx g2 0 y)
  case first =>
    go_region
    all_goals (go_wp2_with fail)
    all_goals go_meet
    all_goals (refine ⟨_, _, rfl, rfl, by go_grown, ⟨?_, ?_, ?_, ?_, ?_, ?_⟩, ⟨?_, ?_, ?_, ?_, ?_, ?_⟩⟩ <;> first | go_cell | (go_simp; done))
  case rest =>
    obtain ⟨g1, g2, rfl, rfl, hBc, hxx, hyy⟩ := hcut
    obtain ⟨c0, c1, c2, c3, c4, c5⟩ := hxx
    obtain ⟨d0, d1, d2, d3, d4, d5⟩ := hyy
    have hzc := hBc.size
    clear t0 t1 t2 t3 t4 t5 u0 u1 u2 u3 u4 u5
    go_wp2_with fail
    have HO := Lib.hid (own_empty wc.drew w.heap.size hzc)
    have k1 : (0 : Int) ≤ 1 + (j : Int) + 1 := by omega
    have k2 : 1 + (j : Int) + 1 ≤ (n : Int) := by omega
    have k3 : (n : Int) ≤ (c : Int) := by omega
    have k4 : (1 + (j : Int) + 1).toNat = 1 + j + 1 := by omega
    have k5 : IntKind.i64.wrap (1 + (j : Int) + 1) = 1 + (j : Int) + 1 := IntWalk.i64_in _ (by omega)
    go_region_held3 (fun w' => Below w.heap.size w w')
      (first | (with_reducible assumption) | (go_grown; done) | (exact Below.drew (by go_grown)))
      (first
        | ((refine step_append_rows _ (by rfl) (.tmp 80) (.tmp 83) (by rfl) w.heap.size (.slice (some ⟨wc.heap.size, 0, none⟩) 0 0) 0 [] (by rfl) HO.out ⟨b, off, none⟩ (1 + j) c pre (by rfl) (by rw [HP.out]; omega) (HXP.out _ (by assumption)) (by omega) (by simp; omega) ?_; intro v1 w3 hown1 hg1 hat1; have hB9 : Below w.heap.size w w3 := Below.grown (by assumption) hg1 (by simp; omega) (by intro k hk; simp only [Value.ownBlock, Option.some.injEq] at hk; omega)))
        | ((refine step_append_rows2 _ (by rfl) (.tmp 84) (.tmp 88) (by rfl) w.heap.size v1 (1 + j) pre (by rfl) (by simpa using hown1) (if c = 1 + j + 1 then some ⟨b, off, none⟩ else some ⟨b, off + (1 + j + 1) * 6, none⟩) (by split <;> simp) (n - (1 + j + 1)) (c - (1 + j + 1)) suf (by rfl) HSL.out (HXS.out _ (by assumption)) (by omega) hB9.size ?_; intro v2 w4 hown2 hg2 hat2; have hB10 : Below w.heap.size w w4 := Below.grown (by assumption) hg2 hB9.size (fun k hk => (hown1.lt k hk).1))))
    obtain ⟨C, k, rfl, hlen, hnk, hr4⟩ := Rows?.of_own hown2
    have HR4 := Lib.hid hr4
    have hz4 := hB10.size
    clear hown1 hown2 hg1 hg2 hat1 hat2 hr4 hlen
    go_wp2_with fail
    all_goals
      (with_reducible refine (HS.out _ C _ k _ (by have g1 := HP.out; have g2 := HSL.out; rw [List.length_append]; omega) (by omega) (HX.out.below hB10) HR4.out).mono ?_)
      rintro e w5 ⟨rfl, hb5⟩
      have hB5 : Below w.heap.size w w5 := below_after hB10 hb5
      clear hb5
      go_wp2_with fail
      go_ret
      exact ⟨rfl, by assumption⟩

set_option maxHeartbeats 800000 in
set_option maxRecDepth 100000 in
theorem covered_out (temp a s p q : Int) (b off n c i j : Nat) (xs pre suf : List Rw) (w : World) (hn : xs.length = n) (hnc : n ≤ c) (hx : Rows? w (some ⟨b, off, none⟩) xs) (hp0 : 0 ≤ p) (hp1 : p ≤ 255) (hq0 : 0 ≤ q) (hq1 : q ≤ 255)
    (hj : q % ((n : Int) - 1) = (j : Int)) (hj2 : j + 1 < n) (hi : p % (1 + (j : Int)) = (i : Int)) (hi2 : i ≤ j) (hn50 : n ≤ 50) (h : (validB xs && useB temp a s) = true) (x y : Rw) (e1 : xs[i]? = some x) (ex : xs = pre ++ y :: suf) (hp : pre.length = j + 1) (hnc9 : ¬ (x.lo ≤ y.lo ∧ y.hi ≤ x.hi ∧ y.age ≤ x.age ∧ y.since ≤ x.since)) :
    Calls Try.prog 6 #[.slice (some ⟨b, off, none⟩) n c, .int .u8 p, .int .u8 q, .int .i64 temp, .int .i64 a, .int .i64 s] w fun e w' => e = .returned (.bool true) ∧ Below w.heap.size w w' := by
  have e2 : xs[j + 1]? = some y := by subst ex; rw [List.getElem?_append_right (by omega), hp]; simp
  have u := fun W h => usable_any temp a s (some ⟨b, off, none⟩) n c xs W hn (by omega) h
  rw [h] at u
  have HNC := Lib.hid hnc9
  clear hnc9
  have HU := Lib.hid u
  have HX := Lib.hid hx
  have HN := Lib.hid hn
  have HE1 := Lib.hid e1
  have HE2 := Lib.hid e2
  have HEX := Lib.hid ex
  have HP := Lib.hid hp
  have hn2 : (2 : Int) ≤ (n : Int) := by omega
  clear u hx hn h e1 e2 ex hp
  go_enter Try.func6, Try.ntmps6
  go_wp2_with fail
  refine (head_any _).mono ?_
  rintro e w1 ⟨rfl, hb1⟩
  have hz1 := hb1.size
  have HX1 := Lib.hid (HX.out.below hb1)
  go_wp2_with fail
  refine (HU.out _ HX1.out).mono ?_
  rintro e w2 ⟨rfl, hb2⟩
  have hB2 : Below w.heap.size w w2 := below_after hb1 hb2
  have hz2 := hB2.size
  clear hb1 hb2
  have hx2 := HX.out.below hB2
  obtain ⟨b', off', hbo, hc⟩ := hx2 (by rw [HN.out]; omega)
  cases hbo
  obtain ⟨t0, t1, t2, t3, t4, t5⟩ := hc i x HE1.out
  have hc2 := hc (j + 1) y HE2.out
  rw [show (j + 1) * 6 = (1 + j) * 6 by omega] at hc2
  obtain ⟨u0, u1, u2, u3, u4, u5⟩ := hc2
  clear hc hx2
  have i1 : (0 : Int) ≤ 1 + (j : Int) := by omega
  have i2 : 1 + (j : Int) < (n : Int) := by omega
  have i3 : (0 : Int) ≤ (i : Int) := by omega
  have i4 : (i : Int) < (n : Int) := by omega
  have i5 : 1 + (j : Int) ≤ (c : Int) := by omega
  have wr1 : p.tmod (1 + (j : Int)) = (i : Int) := by rw [Int.tmod_eq_emod_of_nonneg hp0]; exact hi
  have tn : (1 + (j : Int)).toNat = 1 + j := by omega
  have ne0 : ((1 + (j : Int)) == 0) = false := by simp; omega
  have ne1 : ¬ (1 + (j : Int) = 0) := by omega
  have wr2 : IntKind.i64.wrap (i : Int) = (i : Int) := IntWalk.i64_in _ (by omega)
  go_upto_region 5 with fail
  go_cut [15, 16] (fun s15 s16 wx => ∃ g1 g2 : Nat, s15 = .pointer (some ⟨g1, 0, none⟩) ∧ s16 = .pointer (some ⟨g2, 0, none⟩) ∧ Below w.heap.size w wx ∧ RowAt wx g1 0 x ∧ RowAt wx g2 0 y)
  case first =>
    go_region
    all_goals (go_wp2_with fail)
    all_goals go_meet
    all_goals (refine ⟨_, _, rfl, rfl, by go_grown, ⟨?_, ?_, ?_, ?_, ?_, ?_⟩, ⟨?_, ?_, ?_, ?_, ?_, ?_⟩⟩ <;> first | go_cell | (go_simp; done))
  case rest =>
    obtain ⟨g1, g2, rfl, rfl, hBc, hxx, hyy⟩ := hcut
    obtain ⟨c0, c1, c2, c3, c4, c5⟩ := hxx
    obtain ⟨d0, d1, d2, d3, d4, d5⟩ := hyy
    have hzc := hBc.size
    clear t0 t1 t2 t3 t4 t5 u0 u1 u2 u3 u4 u5
    go_wp2_with fail
    all_goals first
      | (exfalso; have h9 := HNC.out; omega)
      | (go_ret; exact ⟨rfl, by assumption⟩)

set_option maxHeartbeats 800000 in
set_option maxRecDepth 100000 in
theorem covered_un (temp a s p q : Int) (A : Option Addr) (n c : Nat) (xs : List Rw) (w : World) (hn : xs.length = n) (hbig : n ≤ 9223372036854775807) (hx : Rows? w A xs) (B : Bool) (hB : (validB xs && useB temp a s) = B) (hs : B = false ∨ (n : Int) < 2) :
    Calls Try.prog 6 #[.slice A n c, .int .u8 p, .int .u8 q, .int .i64 temp, .int .i64 a, .int .i64 s] w fun e w' => e = .returned (.bool true) ∧ Below w.heap.size w w' := by
  have u := fun W h => usable_any temp a s A n c xs W hn hbig h
  rw [hB] at u
  have HU := Lib.hid u
  have HX := Lib.hid hx
  clear u hx hn hB
  rcases hs with rfl | hs
  · go_enter Try.func6, Try.ntmps6
    go_wp2_with fail
    refine (head_any _).mono ?_
    rintro e w1 ⟨rfl, hb1⟩
    have HX1 := Lib.hid (HX.out.below hb1)
    go_wp2_with fail
    refine (HU.out _ HX1.out).mono ?_
    rintro e w2 ⟨rfl, hb2⟩
    have hB2 : Below w.heap.size w w2 := below_after hb1 hb2
    clear hb1 hb2
    go_wp2_with fail
    go_ret
    exact ⟨rfl, by assumption⟩
  · cases B
    · go_enter Try.func6, Try.ntmps6
      go_wp2_with fail
      refine (head_any _).mono ?_
      rintro e w1 ⟨rfl, hb1⟩
      have HX1 := Lib.hid (HX.out.below hb1)
      go_wp2_with fail
      refine (HU.out _ HX1.out).mono ?_
      rintro e w2 ⟨rfl, hb2⟩
      have hB2 : Below w.heap.size w w2 := below_after hb1 hb2
      clear hb1 hb2
      go_wp2_with fail
      go_ret
      exact ⟨rfl, by assumption⟩
    · go_enter Try.func6, Try.ntmps6
      go_wp2_with fail
      refine (head_any _).mono ?_
      rintro e w1 ⟨rfl, hb1⟩
      have HX1 := Lib.hid (HX.out.below hb1)
      go_wp2_with fail
      refine (HU.out _ HX1.out).mono ?_
      rintro e w2 ⟨rfl, hb2⟩
      have hB2 : Below w.heap.size w w2 := below_after hb1 hb2
      clear hb1 hb2
      go_wp2_with fail
      go_ret
      exact ⟨rfl, by assumption⟩

theorem split1 : ∀ (xs : List Rw) (j : Nat), j < xs.length → ∃ pre y suf, xs = pre ++ y :: suf ∧ pre.length = j
  | y :: suf, 0, _ => ⟨[], y, suf, rfl, rfl⟩
  | r :: xs, j + 1, h => by
    obtain ⟨pre, y, suf, e, hp⟩ := split1 xs j (by simpa using h)
    exact ⟨r :: pre, y, suf, by rw [e]; rfl, by simp [hp]⟩
  | [], j, h => by simp at h
theorem covered_walk (temp a s p q : Int) (A : Option Addr) (n c : Nat) (xs : List Rw) (w : World) (hn : xs.length = n) (hbig : n ≤ 9223372036854775807) (hnc : n ≤ c) (hx : Rows? w A xs) (hp0 : 0 ≤ p) (hp1 : p ≤ 255) (hq0 : 0 ≤ q) (hq1 : q ≤ 255) :
    Calls Try.prog 6 #[.slice A n c, .int .u8 p, .int .u8 q, .int .i64 temp, .int .i64 a, .int .i64 s] w fun e w' => e = .returned (.bool true) ∧ Below w.heap.size w w' := by
  by_cases h2 : (n : Int) < 2
  · exact covered_un temp a s p q A n c xs w hn hbig hx _ rfl (.inr h2)
  · cases h : (validB xs && useB temp a s)
    · exact covered_un temp a s p q A n c xs w hn hbig hx _ h (.inl rfl)
    · have hv := and_left h
      have h50 : n ≤ 50 := by simp only [validB, Bool.and_eq_true, decide_eq_true_eq] at hv; omega
      have m1 : 0 ≤ q % ((n : Int) - 1) := Int.emod_nonneg _ (by omega)
      have m2 : q % ((n : Int) - 1) < (n : Int) - 1 := Int.emod_lt_of_pos _ (by omega)
      have hj : q % ((n : Int) - 1) = ((q % ((n : Int) - 1)).toNat : Int) := (Int.toNat_of_nonneg m1).symm
      generalize (q % ((n : Int) - 1)).toNat = j at hj
      have m3 : 0 ≤ p % (1 + (j : Int)) := Int.emod_nonneg _ (by omega)
      have m4 : p % (1 + (j : Int)) < 1 + (j : Int) := Int.emod_lt_of_pos _ (by omega)
      have hi : p % (1 + (j : Int)) = ((p % (1 + (j : Int))).toNat : Int) := (Int.toNat_of_nonneg m3).symm
      generalize (p % (1 + (j : Int))).toNat = i at hi
      obtain ⟨pre, y, suf, ex, hp⟩ := split1 xs (j + 1) (by omega)
      obtain ⟨b, off, rfl, _⟩ := hx (by omega)
      have e1 : xs[i]? = some (xs[i]'(by omega)) := List.getElem?_eq_getElem _
      generalize xs[i]'(by omega) = x at e1
      by_cases hc : x.lo ≤ y.lo ∧ y.hi ≤ x.hi ∧ y.age ≤ x.age ∧ y.since ≤ x.since
      · exact covered_mid temp a s p q b off n c i j xs pre suf w hn hnc hx hp0 hp1 hq0 hq1 hj (by omega) hi (by omega) h50 h x y e1 ex hp hc.1 hc.2.1 hc.2.2.1 hc.2.2.2
      · exact covered_out temp a s p q b off n c i j xs pre suf w hn hnc hx hp0 hp1 hq0 hq1 hj (by omega) hi (by omega) h50 h x y e1 ex hp hc
end Go.Proofs.Ythkjejikhlcmfaa
