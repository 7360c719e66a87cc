import Derived.Test.YthkjejikhlcmfaaT6
import Derived.Maps.AppendAt
import Derived.Laws.AppendOwnNone
import Derived.Laws.OwnMore
import Derived.Deep.AppendLies
namespace Go.Proofs.Ythkjejikhlcmfaa
open Go.RowKit
set_option linter.unusedSimpArgs false
set_option linter.unusedVariables false

theorem rowInfo : (Try.prog.info? 32).map (fun i => (i.zero, i.size, i.bytes)) = some (some (.agg #[.int .i64 0, .int .i64 0, .int .i64 0, .int .i64 0, .int .i64 0, .int .i64 0]), 6, 48) := by kernel_rfl
/-- the cells of rows, one behind the other -/
def flat : List Rw → List Value
  | [] => []
  | r :: xs => r.cs ++ flat xs
theorem flat_len : ∀ xs : List Rw, (flat xs).length = xs.length * 6
  | [] => rfl
  | r :: xs => by simp only [flat, List.length_append, flat_len xs, List.length_cons]; simp [Rw.cs]; omega
theorem flat_app : ∀ xs ys : List Rw, flat (xs ++ ys) = flat xs ++ flat ys
  | [], ys => rfl
  | r :: xs, ys => by simp only [List.cons_append, flat, flat_app xs ys, List.append_assoc]
theorem cs_len (r : Rw) : r.cs.length = 6 := rfl
theorem flat_at : ∀ (xs : List Rw) (i : Nat) (r : Rw) (k : Nat), xs[i]? = some r → k < 6 → (flat xs)[i * 6 + k]? = r.cs[k]?
  | [], i, r, k, h, _ => by simp at h
  | r' :: xs, 0, r, k, h, hk => by
    simp only [List.getElem?_cons_zero, Option.some.injEq] at h
    subst h
    simp only [flat, Nat.zero_mul, Nat.zero_add]
    rw [List.getElem?_append_left (by rw [cs_len]; exact hk)]
  | r' :: xs, i + 1, r, k, h, hk => by
    simp only [List.getElem?_cons_succ] at h
    simp only [flat]
    rw [List.getElem?_append_right (by rw [cs_len]; omega), cs_len, show (i + 1) * 6 + k - 6 = i * 6 + k by omega]
    exact flat_at xs i r k h hk
theorem flat_one {xs : List Rw} : ∀ u ∈ flat xs, u.oneCell' = true := by
  induction xs with
  | nil => intro u h; simp [flat] at h
  | cons r xs ih =>
    intro u h
    simp only [flat, List.mem_append] at h
    rcases h with h | h
    · simp only [Rw.cs, List.mem_cons, List.not_mem_nil, or_false] at h
      rcases h with rfl | rfl | rfl | rfl | rfl | rfl <;> rfl
    · exact ih u h
theorem rowAt_iff {w : World} {b o : Nat} {r : Rw} : RowAt w b o r ↔ ∀ k, k < 6 → w.cell? ⟨b, o + k, none⟩ = r.cs[k]? := by
  constructor
  · rintro ⟨h0, h1, h2, h3, h4, h5⟩ k hk
    match k, hk with
    | 0, _ => exact h0
    | 1, _ => exact h1
    | 2, _ => exact h2
    | 3, _ => exact h3
    | 4, _ => exact h4
    | 5, _ => exact h5
  · intro h
    exact ⟨h 0 (by omega), h 1 (by omega), h 2 (by omega), h 3 (by omega), h 4 (by omega), h 5 (by omega)⟩
theorem addP (b off j : Nat) : (⟨b, off, none⟩ : Addr).add j = ⟨b, off + j, none⟩ := by
  unfold Addr.add
  split
  · rename_i h; subst h; rfl
  · rfl
/-- rows that a slice holds, as cells to be appended -/
theorem Rows?.news {w : World} {ad : Addr} {xs : List Rw} (h : Rows? w (some ad) xs) : ∀ j u, (flat xs)[j]? = some u → w.cell? (ad.add j) = some u := by
  intro j u hu
  have hl := (List.getElem?_eq_some_iff.1 hu).1
  rw [flat_len] at hl
  obtain ⟨b, off, e, hc⟩ := h (by omega)
  cases e
  have hi : j / 6 < xs.length := by omega
  have hr := hc (j / 6) _ (List.getElem?_eq_getElem hi)
  have h1 := rowAt_iff.1 hr (j % 6) (Nat.mod_lt _ (by omega))
  have h2 := flat_at xs (j / 6) _ (j % 6) (List.getElem?_eq_getElem hi) (Nat.mod_lt _ (by omega))
  rw [show j / 6 * 6 + j % 6 = j by omega] at h2
  rw [addP, show off + j = off + j / 6 * 6 + j % 6 by omega, h1, ← h2, hu]
theorem Rows?.of_own {w : World} {base n : Nat} {v : Value} {xs : List Rw} (h : w.ownsRow base 32 6 v n (flat xs)) : ∃ A c, v = .slice A n c ∧ xs.length = n ∧ n ≤ c ∧ Rows? w A xs := by
  have hl : xs.length = n := by
    have := h.1
    rw [flat_len] at this; omega
  rcases h.2 with ⟨rfl, rfl⟩ | ⟨g, cap, cur, rfl, hb, hh, hnc, _, hsz, ht⟩
  · exact ⟨none, 0, rfl, hl, Nat.le_refl _, fun hp => by omega⟩
  · refine ⟨some ⟨g, 0, none⟩, cap, rfl, hl, hnc, fun _ => ⟨g, 0, rfl, fun i r hr => ?_⟩⟩
    rw [rowAt_iff]
    intro k hk
    have h2 := flat_at xs i r k hr hk
    have hin : (flat xs)[i * 6 + k]? = some (r.cs[k]'(by rw [cs_len]; exact hk)) := by rw [h2]; exact List.getElem?_eq_getElem _
    have h3 := h.cells (g := g) rfl _ _ hin
    rw [addP] at h3
    rw [show 0 + i * 6 + k = 0 + (i * 6 + k) by omega, h3, ← h2, hin]

theorem own_empty (w : World) (base : Nat) (h : base ≤ w.heap.size) : (w.alloc (.cells #[] 32)).ownsRow base 32 6 (.slice (some ⟨w.heap.size, 0, none⟩) 0 0) 0 (flat []) :=
  ⟨rfl, .inr ⟨w.heap.size, 0, #[], rfl, h, heap_alloc_new w _, Nat.le_refl _, Nat.zero_le _, rfl, rfl⟩⟩
/-- append of rows onto a row of the call's own, the source nil or not -/
theorem wpList_append_rows {ops : Array Oper} {rest : List Oper} {o : Oper} {a : Act} {Q : Exit → Act → World → Prop} (w : World) (hgd : o.guard = none) (s x : Operand)
    (ho : o.op = .call { callee := .builtin .append, args := #[s, x], argTypes := #[22, 22] }) (base : Nat) (v : Value) (n : Nat) (xs : List Rw) (hs : a.eval s = v) (hown : w.ownsRow base 32 6 v n (flat xs))
    (A : Option Addr) (m c : Nat) (ys : List Rw) (hx : a.eval x = .slice A m c) (hn : A = none → m = 0 ∧ c = 0) (hl : ys.length = m) (hr : Rows? w A ys) (hb : n + m ≤ 2000000000000) (hbase : base ≤ w.heap.size)
    (h : ∀ v' w', w'.ownsRow base 32 6 v' (n + m) (flat (xs ++ ys)) → w.grownBy w' v.ownBlock → (v'.ownBlock = v.ownBlock ∨ v'.ownBlock = some w.heap.size) → wpList Try.prog ops Q rest (a.put o.dst v') w') :
    wpList Try.prog ops Q (o :: rest) a w := by
  obtain ⟨i0, hi, hz0, hz1, hz2⟩ := info_parts rowInfo
  cases A with
  | none =>
    obtain ⟨rfl, rfl⟩ := hn rfl
    have hy : ys = [] := List.eq_nil_of_length_eq_zero hl
    subst hy
    exact wpList_append_own_none hgd s x 22 ho base 32 i0 6 Try.underlying22 hi v n (flat xs) hs hown hx (h v w (by simpa using hown) (World.grownBy.refl w _) (.inl rfl))
  | some ad =>
    refine wpList_append_own_at w hgd s x 22 ho base 32 i0 _ 6 48 Try.underlying22 hi hz0 hz1 hz2 rfl (by omega) v n (flat xs) hs hown ad m c (flat ys) hx (by rw [flat_len, hl]) hr.news flat_one (by unfold maxLen; omega) (by omega) hbase ?_
    intro v' w' h1 h2 _ h4
    exact h v' w' (by rw [flat_app]; exact h1) h2 h4
theorem validB_app {xs ys : List Rw} (h : validB (xs ++ ys) = true) : validB xs = true ∧ validB ys = true := by
  simp only [validB, Bool.and_eq_true, decide_eq_true_eq, List.all_eq_true, List.length_append, List.mem_append] at h ⊢
  exact ⟨⟨by omega, fun x hx => h.2 x (.inl hx)⟩, ⟨by omega, fun x hx => h.2 x (.inr hx)⟩⟩

set_option maxHeartbeats 1600000 in
set_option maxRecDepth 100000 in
theorem further_no (temp a s : Int) (A : Option Addr) (n c : Nat) (xs : List Rw) (B : Option Addr) (m d : Nat) (ys : List Rw) (w : World) (hn : xs.length = n) (hnc : n ≤ c) (hx : Rows? w A xs) (hA : A = none → n = 0 ∧ c = 0) (hm : ys.length = m) (hmc : m ≤ d) (hy : Rows? w B ys) (hB : B = none → m = 0 ∧ d = 0) (hbig : n + m ≤ 1100000) (h : (validB (xs ++ ys) && useB temp a s) = false) :
    Calls Try.prog 5 #[.slice A n c, .slice B m d, .int .i64 temp, .int .i64 a, .int .i64 s] w fun e w' => e = .returned (.bool true) ∧ Below w.heap.size w w' := by
  have hl : (xs ++ ys).length = n + m := by rw [List.length_append, hn, hm]
  have u := fun C k W h => usable_any temp a s C (n + m) k (xs ++ ys) W hl (by omega) h
  rw [h] at u
  clear h
  have HU := Lib.hid u
  have HX := Lib.hid hx
  have HY := Lib.hid hy
  have HN := Lib.hid hn
  have HM := Lib.hid hm
  have HA := Lib.hid hA
  have HB := Lib.hid hB
  clear u hx hy hn hm hA hB hl
  go_enter Try.func5, Try.ntmps5
  go_wp2_with fail
  refine (head_any _).mono ?_
  rintro e w1 ⟨rfl, hb1⟩
  have hz1 := hb1.size
  have ha1 : Below w.heap.size w (w1.alloc (.cells #[] 32)) := hb1.alloc hz1 _
  have HXa := Lib.hid (HX.out.below ha1)
  have HO := Lib.hid (own_empty w1 w.heap.size hz1)
  go_wp2_with (at_builtin; go_must (refine wpList_append_rows _ (by rfl) (.tmp 17) (.tmp 18) (by rfl) w.heap.size _ 0 [] (by rfl) HO.out A n c xs (by rfl) HA.out HN.out HXa.out (by omega) (by simp; omega) ?_))
  intro v1 w2 hown1 hg1 hat1
  have hB2 : Below w.heap.size w w2 := ha1.grown hg1 (by simp; omega) (by intro k hk; simp only [Value.ownBlock, Option.some.injEq] at hk; omega)
  have hob1 : ∀ k, v1.ownBlock = some k → w.heap.size ≤ k := fun k hk => (hown1.lt k hk).1
  have HO1 := Lib.hid hown1
  have HG1 := Lib.hid hob1
  have HYa := Lib.hid (HY.out.below hB2)
  have hz2 := hB2.size
  clear hown1 hg1 hat1 hob1 ha1
  try simp only [Nat.zero_add, List.nil_append] at HO1
  go_wp2_with (at_builtin; go_must (refine wpList_append_rows _ (by rfl) (.tmp 19) (.tmp 20) (by rfl) w.heap.size v1 n xs (by rfl) HO1.out B m d ys (by rfl) HB.out HM.out HYa.out (by omega) hz2 ?_))
  intro v2 w3 hown2 hg2 hat2
  have hB3 : Below w.heap.size w w3 := hB2.grown hg2 hz2 HG1.out
  obtain ⟨C, k, rfl, hlen, hnk, hr3⟩ := Rows?.of_own hown2
  have HR3 := Lib.hid hr3
  have hz3 := hB3.size
  clear hown2 hg2 hat2 hr3 hlen hb1
  go_wp2_with fail
  refine (HU.out C k _ HR3.out).mono ?_
  rintro e w4 ⟨rfl, hb4⟩
  have hB4 : Below w.heap.size w w4 := below_after hB3 hb4
  have HR4 := Lib.hid (HR3.out.below hb4)
  clear hb4
  go_wp2_with fail
  go_ret
  exact ⟨rfl, by assumption⟩

set_option maxHeartbeats 1600000 in
set_option maxRecDepth 100000 in
theorem further_in (temp a s : Int) (A : Option Addr) (n c : Nat) (xs : List Rw) (B : Option Addr) (m d : Nat) (ys : List Rw) (w : World) (hn : xs.length = n) (hnc : n ≤ c) (hx : Rows? w A xs) (hA : A = none → n = 0 ∧ c = 0) (hm : ys.length = m) (hmc : m ≤ d) (hy : Rows? w B ys) (hB : B = none → m = 0 ∧ d = 0) (hbig : n + m ≤ 1100000) (h : (validB (xs ++ ys) && useB temp a s) = true) (r : Rw) (hf : xs.find? (Rw.isFor temp a s) = some r) :
    Calls Try.prog 5 #[.slice A n c, .slice B m d, .int .i64 temp, .int .i64 a, .int .i64 s] w fun e w' => e = .returned (.bool true) ∧ Below w.heap.size w w' := by
  have hl : (xs ++ ys).length = n + m := by rw [List.length_append, hn, hm]
  have u := fun C k W h => usable_any temp a s C (n + m) k (xs ++ ys) W hl (by omega) h
  rw [h] at u
  have f := fun W h => Find_any temp a s A n c xs W hn (by omega) h
  rw [findS_some (validB_app (and_left h)).1 (and_right h) hf] at f
  have g := fun C k W h1 h2 => same_any temp a s A n c xs C (n + m) k (xs ++ ys) W hn (by omega) h1 hl (by omega) h2 (by rw [findS_some (validB_app (and_left h)).1 (and_right h) hf, findS_some (and_left h) (and_right h) (by rw [List.find?_append, hf]; rfl)]) (validB_app (and_left h)).1 (and_right h)
  have HF := Lib.hid f
  have HS := Lib.hid g
  clear h f g hf
  have HU := Lib.hid u
  have HX := Lib.hid hx
  have HY := Lib.hid hy
  have HN := Lib.hid hn
  have HM := Lib.hid hm
  have HA := Lib.hid hA
  have HB := Lib.hid hB
  clear u hx hy hn hm hA hB hl
  go_enter Try.func5, Try.ntmps5
  go_wp2_with fail
  refine (head_any _).mono ?_
  rintro e w1 ⟨rfl, hb1⟩
  have hz1 := hb1.size
  have ha1 : Below w.heap.size w (w1.alloc (.cells #[] 32)) := hb1.alloc hz1 _
  have HXa := Lib.hid (HX.out.below ha1)
  have HO := Lib.hid (own_empty w1 w.heap.size hz1)
  go_wp2_with (at_builtin; go_must (refine wpList_append_rows _ (by rfl) (.tmp 17) (.tmp 18) (by rfl) w.heap.size _ 0 [] (by rfl) HO.out A n c xs (by rfl) HA.out HN.out HXa.out (by omega) (by simp; omega) ?_))
  intro v1 w2 hown1 hg1 hat1
  have hB2 : Below w.heap.size w w2 := ha1.grown hg1 (by simp; omega) (by intro k hk; simp only [Value.ownBlock, Option.some.injEq] at hk; omega)
  have hob1 : ∀ k, v1.ownBlock = some k → w.heap.size ≤ k := fun k hk => (hown1.lt k hk).1
  have HO1 := Lib.hid hown1
  have HG1 := Lib.hid hob1
  have HYa := Lib.hid (HY.out.below hB2)
  have hz2 := hB2.size
  clear hown1 hg1 hat1 hob1 ha1
  try simp only [Nat.zero_add, List.nil_append] at HO1
  go_wp2_with (at_builtin; go_must (refine wpList_append_rows _ (by rfl) (.tmp 19) (.tmp 20) (by rfl) w.heap.size v1 n xs (by rfl) HO1.out B m d ys (by rfl) HB.out HM.out HYa.out (by omega) hz2 ?_))
  intro v2 w3 hown2 hg2 hat2
  have hB3 : Below w.heap.size w w3 := hB2.grown hg2 hz2 HG1.out
  obtain ⟨C, k, rfl, hlen, hnk, hr3⟩ := Rows?.of_own hown2
  have HR3 := Lib.hid hr3
  have hz3 := hB3.size
  clear hown2 hg2 hat2 hr3 hlen hb1
  go_wp2_with fail
  refine (HU.out C k _ HR3.out).mono ?_
  rintro e w4 ⟨rfl, hb4⟩
  have hB4 : Below w.heap.size w w4 := below_after hB3 hb4
  have HR4 := Lib.hid (HR3.out.below hb4)
  clear hb4
  go_wp2_with fail
  refine (HF.out _ (HX.out.below hB4)).mono ?_
  rintro e w5 ⟨rfl, hb5⟩
  have hB5 : Below w.heap.size w w5 := below_after hB4 hb5
  have HR5 := Lib.hid (HR4.out.below hb5)
  clear hb5
  go_wp2_with fail
  refine (HS.out _ _ _ (HX.out.below hB5) HR5.out).mono ?_
  rintro e w6 ⟨rfl, hb6⟩
  have hB6 : Below w.heap.size w w6 := below_after hB5 hb6
  clear hb6
  go_wp2_with fail
  go_ret
  exact ⟨rfl, by assumption⟩

set_option maxHeartbeats 1600000 in
set_option maxRecDepth 100000 in
theorem further_out (temp a s : Int) (A : Option Addr) (n c : Nat) (xs : List Rw) (B : Option Addr) (m d : Nat) (ys : List Rw) (w : World) (hn : xs.length = n) (hnc : n ≤ c) (hx : Rows? w A xs) (hA : A = none → n = 0 ∧ c = 0) (hm : ys.length = m) (hmc : m ≤ d) (hy : Rows? w B ys) (hB : B = none → m = 0 ∧ d = 0) (hbig : n + m ≤ 1100000) (h : (validB (xs ++ ys) && useB temp a s) = true) (hf : xs.find? (Rw.isFor temp a s) = none) :
    Calls Try.prog 5 #[.slice A n c, .slice B m d, .int .i64 temp, .int .i64 a, .int .i64 s] w fun e w' => e = .returned (.bool true) ∧ Below w.heap.size w w' := by
  have hl : (xs ++ ys).length = n + m := by rw [List.length_append, hn, hm]
  have u := fun C k W h => usable_any temp a s C (n + m) k (xs ++ ys) W hl (by omega) h
  rw [h] at u
  have f := fun W h => Find_any temp a s A n c xs W hn (by omega) h
  rw [findS_none (validB_app (and_left h)).1 (and_right h) hf] at f
  have e9 : findS ys temp a s = findS (xs ++ ys) temp a s := by
    have e8 : (xs ++ ys).find? (Rw.isFor temp a s) = ys.find? (Rw.isFor temp a s) := by rw [List.find?_append, hf]; rfl
    simp only [findS, and_left h, and_right h, (validB_app (and_left h)).2, e8]
  have g := fun C k W h1 h2 => same_any temp a s B m d ys C (n + m) k (xs ++ ys) W hm (by omega) h1 hl (by omega) h2 e9 (validB_app (and_left h)).2 (and_right h)
  have HF := Lib.hid f
  have HS := Lib.hid g
  clear h f g hf e9
  have HU := Lib.hid u
  have HX := Lib.hid hx
  have HY := Lib.hid hy
  have HN := Lib.hid hn
  have HM := Lib.hid hm
  have HA := Lib.hid hA
  have HB := Lib.hid hB
  clear u hx hy hn hm hA hB hl
  go_enter Try.func5, Try.ntmps5
  go_wp2_with fail
  refine (head_any _).mono ?_
  rintro e w1 ⟨rfl, hb1⟩
  have hz1 := hb1.size
  have ha1 : Below w.heap.size w (w1.alloc (.cells #[] 32)) := hb1.alloc hz1 _
  have HXa := Lib.hid (HX.out.below ha1)
  have HO := Lib.hid (own_empty w1 w.heap.size hz1)
  go_wp2_with (at_builtin; go_must (refine wpList_append_rows _ (by rfl) (.tmp 17) (.tmp 18) (by rfl) w.heap.size _ 0 [] (by rfl) HO.out A n c xs (by rfl) HA.out HN.out HXa.out (by omega) (by simp; omega) ?_))
  intro v1 w2 hown1 hg1 hat1
  have hB2 : Below w.heap.size w w2 := ha1.grown hg1 (by simp; omega) (by intro k hk; simp only [Value.ownBlock, Option.some.injEq] at hk; omega)
  have hob1 : ∀ k, v1.ownBlock = some k → w.heap.size ≤ k := fun k hk => (hown1.lt k hk).1
  have HO1 := Lib.hid hown1
  have HG1 := Lib.hid hob1
  have HYa := Lib.hid (HY.out.below hB2)
  have hz2 := hB2.size
  clear hown1 hg1 hat1 hob1 ha1
  try simp only [Nat.zero_add, List.nil_append] at HO1
  go_wp2_with (at_builtin; go_must (refine wpList_append_rows _ (by rfl) (.tmp 19) (.tmp 20) (by rfl) w.heap.size v1 n xs (by rfl) HO1.out B m d ys (by rfl) HB.out HM.out HYa.out (by omega) hz2 ?_))
  intro v2 w3 hown2 hg2 hat2
  have hB3 : Below w.heap.size w w3 := hB2.grown hg2 hz2 HG1.out
  obtain ⟨C, k, rfl, hlen, hnk, hr3⟩ := Rows?.of_own hown2
  have HR3 := Lib.hid hr3
  have hz3 := hB3.size
  clear hown2 hg2 hat2 hr3 hlen hb1
  go_wp2_with fail
  refine (HU.out C k _ HR3.out).mono ?_
  rintro e w4 ⟨rfl, hb4⟩
  have hB4 : Below w.heap.size w w4 := below_after hB3 hb4
  have HR4 := Lib.hid (HR3.out.below hb4)
  clear hb4
  go_wp2_with fail
  refine (HF.out _ (HX.out.below hB4)).mono ?_
  rintro e w5 ⟨rfl, hb5⟩
  have hB5 : Below w.heap.size w w5 := below_after hB4 hb5
  have HR5 := Lib.hid (HR4.out.below hb5)
  clear hb5
  go_wp2_with fail
  refine (HS.out _ _ _ (HY.out.below hB5) HR5.out).mono ?_
  rintro e w6 ⟨rfl, hb6⟩
  have hB6 : Below w.heap.size w w6 := below_after hB5 hb6
  clear hb6
  go_wp2_with fail
  go_ret
  exact ⟨rfl, by assumption⟩

theorem further_walk (temp a s : Int) (A : Option Addr) (n c : Nat) (xs : List Rw) (B : Option Addr) (m d : Nat) (ys : List Rw) (w : World) (hn : xs.length = n) (hnc : n ≤ c) (hx : Rows? w A xs) (hA : A = none → n = 0 ∧ c = 0) (hm : ys.length = m) (hmc : m ≤ d) (hy : Rows? w B ys) (hB : B = none → m = 0 ∧ d = 0) (hbig : n + m ≤ 1100000) :
    Calls Try.prog 5 #[.slice A n c, .slice B m d, .int .i64 temp, .int .i64 a, .int .i64 s] w fun e w' => e = .returned (.bool true) ∧ Below w.heap.size w w' := by
  cases h : (validB (xs ++ ys) && useB temp a s)
  · exact further_no temp a s A n c xs B m d ys w hn hnc hx hA hm hmc hy hB hbig h
  · cases hf : xs.find? (Rw.isFor temp a s) with
    | none => exact further_out temp a s A n c xs B m d ys w hn hnc hx hA hm hmc hy hB hbig h hf
    | some r => exact further_in temp a s A n c xs B m d ys w hn hnc hx hA hm hmc hy hB hbig h r hf
end Go.Proofs.Ythkjejikhlcmfaa
