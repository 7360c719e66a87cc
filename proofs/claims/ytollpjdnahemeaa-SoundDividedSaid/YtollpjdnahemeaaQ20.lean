import Derived.Test.YtollpjdnahemeaaQ16
import Derived.Maps.AppendAt
import Derived.Laws.AppendOwnNone
import Derived.Laws.OwnMore
import Derived.Deep.AppendLies
namespace Go.Proofs.Ytollpjdnahemeaa
open Go.RowKit Go.Shelf
set_option linter.unusedSimpArgs false
set_option linter.unusedVariables false
attribute [local go_sem ↓] Go.wp_at_zero Go.wp_at_succ
theorem wtInfo : (Try.prog.info? 68).map (fun i => (i.zero, i.size, i.bytes)) = some (some (.agg #[.int .i64 0, .int .i64 0, .int .i64 0]), 3, 24) := by kernel_rfl
/-- the cells of rows, one behind the other -/
def flatW : List Wt → List Value
  | [] => []
  | r :: xs => r.cs ++ flatW xs
theorem flatW_len : ∀ xs : List Wt, (flatW xs).length = xs.length * 3
  | [] => rfl
  | r :: xs => by simp only [flatW, List.length_append, flatW_len xs, List.length_cons]; simp [Wt.cs]; omega
theorem flatW_app : ∀ xs ys : List Wt, flatW (xs ++ ys) = flatW xs ++ flatW ys
  | [], ys => rfl
  | r :: xs, ys => by simp only [List.cons_append, flatW, flatW_app xs ys, List.append_assoc]
theorem wcs_len (r : Wt) : r.cs.length = 3 := rfl
theorem flatW_at : ∀ (xs : List Wt) (i : Nat) (r : Wt) (k : Nat), xs[i]? = some r → k < 3 → (flatW xs)[i * 3 + k]? = r.cs[k]?
  | [], i, r, k, h, _ => by simp at h
  | r' :: xs, 0, r, k, h, hk => by
    simp only [List.getElem?_cons_zero, Option.some.injEq] at h
    subst h
    simp only [flatW, Nat.zero_mul, Nat.zero_add]
    rw [List.getElem?_append_left (by rw [wcs_len]; exact hk)]
  | r' :: xs, i + 1, r, k, h, hk => by
    simp only [List.getElem?_cons_succ] at h
    simp only [flatW]
    rw [List.getElem?_append_right (by rw [wcs_len]; omega), wcs_len, show (i + 1) * 3 + k - 3 = i * 3 + k by omega]
    exact flatW_at xs i r k h hk
theorem flatW_one {xs : List Wt} : ∀ u ∈ flatW xs, u.oneCell' = true := by
  induction xs with
  | nil => intro u h; simp [flatW] at h
  | cons r xs ih =>
    intro u h
    simp only [flatW, List.mem_append] at h
    rcases h with h | h
    · simp only [Wt.cs, List.mem_cons, List.not_mem_nil, or_false] at h
      rcases h with rfl | rfl | rfl <;> rfl
    · exact ih u h
theorem wtAt_iff {w : World} {b o : Nat} {r : Wt} : WtAt w b o r ↔ ∀ k, k < 3 → w.cell? ⟨b, o + k, none⟩ = r.cs[k]? := by
  constructor
  · rintro ⟨h0, h1, h2⟩ k hk
    match k, hk with
    | 0, _ => exact h0
    | 1, _ => exact h1
    | 2, _ => exact h2
  · intro h
    exact ⟨h 0 (by omega), h 1 (by omega), h 2 (by omega)⟩
theorem wts_news {n₀ : Nat} {w : World} {ad : Addr} {xs : List Wt} (h : Wts? n₀ w (some ad) xs) : ∀ j u, (flatW xs)[j]? = some u → w.cell? (ad.add j) = some u := by
  intro j u hu
  have hl := (List.getElem?_eq_some_iff.1 hu).1
  rw [flatW_len] at hl
  obtain ⟨b, off, e, _, hc⟩ := h (by omega)
  cases e
  have hi : j / 3 < xs.length := by omega
  have hr := hc (j / 3) _ (List.getElem?_eq_getElem hi)
  have h1 := wtAt_iff.1 hr (j % 3) (Nat.mod_lt _ (by omega))
  have h2 := flatW_at xs (j / 3) _ (j % 3) (List.getElem?_eq_getElem hi) (Nat.mod_lt _ (by omega))
  rw [show j / 3 * 3 + j % 3 = j by omega] at h2
  rw [addQ, show off + j = off + j / 3 * 3 + j % 3 by omega, h1, ← h2, hu]
theorem wts_of_own {w : World} {base n : Nat} {v : Value} {xs : List Wt} (h : w.ownsRow base 68 3 v n (flatW xs)) : ∃ A c, v = .slice A n c ∧ xs.length = n ∧ n ≤ c ∧ Wts? w.heap.size w A xs := by
  have hl : xs.length = n := by
    have := h.1
    rw [flatW_len] at this; omega
  rcases h.2 with ⟨rfl, rfl⟩ | ⟨g, cap, cur, rfl, hb, hh, hnc, _, hsz, ht⟩
  · exact ⟨none, 0, rfl, hl, Nat.le_refl _, fun hp => by omega⟩
  · refine ⟨some ⟨g, 0, none⟩, cap, rfl, hl, hnc, fun _ => ⟨g, 0, rfl, (Array.getElem?_eq_some_iff.1 hh).1, fun i r hr => ?_⟩⟩
    rw [wtAt_iff]
    intro k hk
    have h2 := flatW_at xs i r k hr hk
    have hin : (flatW xs)[i * 3 + k]? = some (r.cs[k]'(by rw [wcs_len]; exact hk)) := by rw [h2]; exact List.getElem?_eq_getElem _
    have h3 := h.cells (g := g) rfl _ _ hin
    rw [addQ] at h3
    rw [show 0 + i * 3 + k = 0 + (i * 3 + k) by omega, h3, ← h2, hin]
theorem heap_new68 (w : World) (o : Obj) : (w.alloc o).heap[w.heap.size]? = some o := World.alloc_heap_new w o
theorem own_emptyW (w : World) (base : Nat) (h : base ≤ w.heap.size) : (w.alloc (.cells #[] 68)).ownsRow base 68 3 (.slice (some ⟨w.heap.size, 0, none⟩) 0 0) 0 (flatW []) :=
  ⟨rfl, .inr ⟨w.heap.size, 0, #[], rfl, h, heap_new68 w _, Nat.le_refl _, Nat.zero_le _, rfl, rfl⟩⟩
/-- append of rows onto a row of the call's own, the source nil or not -/
theorem wpList_append_waters {ops : Array Oper} {rest : List Oper} {o : Oper} {a : Act} {Q : Exit → Act → World → Prop} (w : World) (hgd : o.guard = none) (s x : Operand)
    (ho : o.op = .call { callee := .builtin .append, args := #[s, x], argTypes := #[60, 60] }) (base n₀ : Nat) (v : Value) (n : Nat) (xs : List Wt) (hs : a.eval s = v) (hown : w.ownsRow base 68 3 v n (flatW xs))
    (A : Option Addr) (m c : Nat) (ys : List Wt) (hx : a.eval x = .slice A m c) (hn : A = none → m = 0 ∧ c = 0) (hl : ys.length = m) (hr : Wts? n₀ w A ys) (hb : n + m ≤ 2000000000000) (hbase : base ≤ w.heap.size)
    (h : ∀ v' w', w'.ownsRow base 68 3 v' (n + m) (flatW (xs ++ ys)) → w.grownBy w' v.ownBlock → (v'.ownBlock = v.ownBlock ∨ v'.ownBlock = some w.heap.size) → wpList Try.prog ops Q rest (a.put o.dst v') w') :
    wpList Try.prog ops Q (o :: rest) a w := by
  obtain ⟨i0, hi, hz0, hz1, hz2⟩ := info_parts wtInfo
  cases A with
  | none =>
    obtain ⟨rfl, rfl⟩ := hn rfl
    have hy : ys = [] := List.eq_nil_of_length_eq_zero hl
    subst hy
    exact wpList_append_own_none hgd s x 60 ho base 68 i0 3 Try.underlying60 hi v n (flatW xs) hs hown hx (h v w (by simpa using hown) (World.grownBy.refl w _) (.inl rfl))
  | some ad =>
    refine wpList_append_own_at w hgd s x 60 ho base 68 i0 _ 3 24 Try.underlying60 hi hz0 hz1 hz2 rfl (by omega) v n (flatW xs) hs hown ad m c (flatW ys) hx (by rw [flatW_len, hl]) (wts_news hr) flatW_one (by unfold maxLen; omega) (by omega) hbase ?_
    intro v' w' h1 h2 _ h4
    exact h v' w' (by rw [flatW_app]; exact h1) h2 h4

theorem lay_app : ∀ (pre rest : List Wt) (fr : Int), lay fr (pre ++ rest) = lay fr pre ++ lay (lastT fr pre) rest
  | [], rest, fr => rfl
  | x :: pre, rest, fr => by simp [lay, lastT, lay_app pre rest x.til]
theorem frm_pre (pre rest : List Wt) : frm (pre ++ rest) pre.length = lastT 0 pre := by
  by_cases h : pre = []
  · subst h; rfl
  · have hl : pre.length ≠ 0 := fun e => h (List.eq_nil_of_length_eq_zero e)
    rw [lastT_frm pre 0 h, frm, if_neg hl, List.getElem?_append_left (by omega)]
theorem frm_all (xs : List Wt) : frm xs xs.length = lastT 0 xs := by have := frm_pre xs []; simpa using this
theorem lastT_app : ∀ (pre rest : List Wt) (fr : Int), lastT fr (pre ++ rest) = lastT (lastT fr pre) rest
  | [], rest, fr => rfl
  | x :: pre, rest, fr => by simp [lastT, lastT_app pre rest x.til]
theorem div_valid {pre suf : List Wt} {x : Wt} {at9 : Int} (h1 : lastT 0 pre < at9) (h2 : at9 < x.til) (hl : (pre ++ x :: suf).length ≤ 19) (hv : wValid (pre ++ x :: suf) = true) : wValid (pre ++ ⟨at9, x.lo, x.hi⟩ :: x :: suf) = true := by
  obtain ⟨v1, v2, v3, v4⟩ := (wValid_iff _).1 hv
  rw [frm_all, lastT_app] at v3
  refine (wValid_iff _).2 ⟨by simp; omega, by simp at hl ⊢; omega, ?_, ?_⟩
  · rw [frm_all, lastT_app]; exact v3
  · intro p hp
    rw [lay_app] at hp v4
    simp only [lay, List.mem_append, List.mem_cons] at hp v4
    have hx := (okP_iff _).1 (v4 (lastT 0 pre, x) (.inr (.inl rfl)))
    simp only at hx
    rcases hp with hp | rfl | rfl | hp
    · exact v4 p (.inl hp)
    · exact (okP_iff _).2 (by simp only; omega)
    · exact (okP_iff _).2 (by simp only; omega)
    · exact v4 p (.inr (.inr hp))
theorem div_speed {pre suf : List Wt} {x : Wt} {at9 dl dh : Int} (h1 : lastT 0 pre < at9) (h2 : at9 < x.til) (hl : (pre ++ x :: suf).length ≤ 19) (hv : wValid (pre ++ x :: suf) = true) (hd : depB dl dh = true) : speedP dl dh (pre ++ ⟨at9, x.lo, x.hi⟩ :: x :: suf) = speedP dl dh (pre ++ x :: suf) := by
  have hv2 := div_valid h1 h2 hl hv
  have d := (depB_iff dl dh).1 hd
  refine (speedP_box hv2 hd).unique (speedP_box hv hd) fun q => ?_
  simp only [mem_tl]
  rw [lay_app, lay_app]
  simp only [lay, List.mem_append, List.mem_cons]
  constructor
  · rintro ⟨p, hp | rfl | rfl | hp, e1, e2, e3⟩
    · exact ⟨p, .inl hp, e1, e2, e3⟩
    · exact ⟨(lastT 0 pre, x), .inr (.inl rfl), by simp only at e1 ⊢; omega, e2, e3⟩
    · exact ⟨(lastT 0 pre, x), .inr (.inl rfl), e1, by simp only at e2 ⊢; omega, e3⟩
    · exact ⟨p, .inr (.inr hp), e1, e2, e3⟩
  · rintro ⟨p, hp | rfl | hp, e1, e2, e3⟩
    · exact ⟨p, .inl hp, e1, e2, e3⟩
    · simp only at e1 e2
      by_cases hc : dl ≤ at9
      · exact ⟨(lastT 0 pre, ⟨at9, x.lo, x.hi⟩), .inr (.inl rfl), hc, e2, e3⟩
      · exact ⟨(at9, x), .inr (.inr (.inl rfl)), e1, by simp only; omega, e3⟩
    · exact ⟨p, .inr (.inr (.inr hp)), e1, e2, e3⟩
theorem div_speedS {pre suf : List Wt} {x : Wt} {at9 dl dh : Int} (h1 : lastT 0 pre < at9) (h2 : at9 < x.til) (hl : (pre ++ x :: suf).length ≤ 19) (hv : wValid (pre ++ x :: suf) = true) : speedS (pre ++ ⟨at9, x.lo, x.hi⟩ :: x :: suf) dl dh = speedS (pre ++ x :: suf) dl dh := by
  unfold speedS
  rw [hv, div_valid h1 h2 hl hv]
  cases hd : depB dl dh with
  | false => rfl
  | true => rw [div_speed h1 h2 hl hv hd]
theorem div_twoS {pre suf : List Wt} {x : Wt} {at9 ct clo chi cdr dl dh sent got tlo thi : Int} (h1 : lastT 0 pre < at9) (h2 : at9 < x.til) (hl : (pre ++ x :: suf).length ≤ 19) (hv : wValid (pre ++ x :: suf) = true) : twoS (pre ++ ⟨at9, x.lo, x.hi⟩ :: x :: suf) ct clo chi cdr dl dh sent got tlo thi = twoS (pre ++ x :: suf) ct clo chi cdr dl dh sent got tlo thi := by
  unfold twoS twoB
  rw [hv, div_valid h1 h2 hl hv]
  cases hd : depB dl dh with
  | false => simp
  | true => rw [div_speed h1 h2 hl hv hd]
set_option maxHeartbeats 1600000 in
set_option maxRecDepth 100000 in
theorem div_many (A : Option Addr) (n c : Nat) (xs : List Wt) (q at9 ct clo chi cdr dl dh tlo thi sent got : Int) (w : World) (h19 : 19 < n) : Calls Try.prog 22 #[.slice A n c, .int .u8 q, .int .i64 at9, .agg #[.int .i64 ct, .int .i64 clo, .int .i64 chi, .int .i64 cdr], .agg #[.int .i64 dl, .int .i64 dh], .agg #[.int .i64 tlo, .int .i64 thi], .int .i64 sent, .int .i64 got] w fun e w' => e = .returned (.bool true) ∧ Below w.heap.size w w' := by
  have h9 : (19 : Int) < (n : Int) := by omega
  go_enter Try.func22, Try.ntmps22
  go_wp2_with fail
  refine (head17_any _).mono ?_
  rintro e w1 ⟨rfl, hb1⟩
  have hB1 : Below w.heap.size w w1 := below_after (by go_grown) hb1
  have hz1 := hb1.size
  try simp only [World.size_alloc, World.size_setCell, World.size_drew] at hz1
  have hw1 := hB1.size
  have c_c0 : w1.cell? ⟨w.heap.size, 0, none⟩ = some (.int .i64 ct) := kp hb1 (by go_cell)
  have c_c1 : w1.cell? ⟨w.heap.size, 1, none⟩ = some (.int .i64 clo) := kp hb1 (by go_cell)
  have c_c2 : w1.cell? ⟨w.heap.size, 2, none⟩ = some (.int .i64 chi) := kp hb1 (by go_cell)
  have c_c3 : w1.cell? ⟨w.heap.size, 3, none⟩ = some (.int .i64 cdr) := kp hb1 (by go_cell)
  have c_d0 : w1.cell? ⟨w.heap.size + 1, 0, none⟩ = some (.int .i64 dl) := kp hb1 (by go_cell)
  have c_d1 : w1.cell? ⟨w.heap.size + 1, 1, none⟩ = some (.int .i64 dh) := kp hb1 (by go_cell)
  have c_y0 : w1.cell? ⟨w.heap.size + 1 + 1, 0, none⟩ = some (.int .i64 tlo) := kp hb1 (by go_cell)
  have c_y1 : w1.cell? ⟨w.heap.size + 1 + 1, 1, none⟩ = some (.int .i64 thi) := kp hb1 (by go_cell)
  clear hb1
  go_wp2_with fail
  go_ret
  exact ⟨rfl, by go_grown⟩
set_option maxHeartbeats 1600000 in
set_option maxRecDepth 100000 in
theorem div_inv (A : Option Addr) (n c : Nat) (xs : List Wt) (q at9 ct clo chi cdr dl dh tlo thi sent got : Int) (w : World) (hn : xs.length = n) (hx : Wts? w.heap.size w A xs) (h19 : n ≤ 19) (hv : wValid xs = false) : Calls Try.prog 22 #[.slice A n c, .int .u8 q, .int .i64 at9, .agg #[.int .i64 ct, .int .i64 clo, .int .i64 chi, .int .i64 cdr], .agg #[.int .i64 dl, .int .i64 dh], .agg #[.int .i64 tlo, .int .i64 thi], .int .i64 sent, .int .i64 got] w fun e w' => e = .returned (.bool true) ∧ Below w.heap.size w w' := by
  have HXS := Lib.hid (hxs_of hx)
  have h9 : ¬ ((19 : Int) < (n : Int)) := by omega
  have hV := fun W h => RValid17_any A n c xs W hn h
  rw [hv] at hV
  have HV := Lib.hid hV
  clear hx hn hV
  go_enter Try.func22, Try.ntmps22
  go_wp2_with fail
  refine (head17_any _).mono ?_
  rintro e w1 ⟨rfl, hb1⟩
  have hB1 : Below w.heap.size w w1 := below_after (by go_grown) hb1
  have hz1 := hb1.size
  try simp only [World.size_alloc, World.size_setCell, World.size_drew] at hz1
  have hw1 := hB1.size
  have c_c0 : w1.cell? ⟨w.heap.size, 0, none⟩ = some (.int .i64 ct) := kp hb1 (by go_cell)
  have c_c1 : w1.cell? ⟨w.heap.size, 1, none⟩ = some (.int .i64 clo) := kp hb1 (by go_cell)
  have c_c2 : w1.cell? ⟨w.heap.size, 2, none⟩ = some (.int .i64 chi) := kp hb1 (by go_cell)
  have c_c3 : w1.cell? ⟨w.heap.size, 3, none⟩ = some (.int .i64 cdr) := kp hb1 (by go_cell)
  have c_d0 : w1.cell? ⟨w.heap.size + 1, 0, none⟩ = some (.int .i64 dl) := kp hb1 (by go_cell)
  have c_d1 : w1.cell? ⟨w.heap.size + 1, 1, none⟩ = some (.int .i64 dh) := kp hb1 (by go_cell)
  have c_y0 : w1.cell? ⟨w.heap.size + 1 + 1, 0, none⟩ = some (.int .i64 tlo) := kp hb1 (by go_cell)
  have c_y1 : w1.cell? ⟨w.heap.size + 1 + 1, 1, none⟩ = some (.int .i64 thi) := kp hb1 (by go_cell)
  clear hb1
  go_wp2_with fail
  refine (HV.out _ (HXS.out _ (by go_grown))).mono ?_
  rintro e w2 ⟨rfl, hb2⟩
  have hB2 : Below w.heap.size w w2 := below_after (by go_grown) hb2
  have hz2 := hb2.size
  try simp only [World.size_alloc, World.size_setCell, World.size_drew] at hz2
  have hw2 := hB2.size
  replace c_c0 : w2.cell? ⟨w.heap.size, 0, none⟩ = some (.int .i64 ct) := kp hb2 (by go_cell)
  replace c_c1 : w2.cell? ⟨w.heap.size, 1, none⟩ = some (.int .i64 clo) := kp hb2 (by go_cell)
  replace c_c2 : w2.cell? ⟨w.heap.size, 2, none⟩ = some (.int .i64 chi) := kp hb2 (by go_cell)
  replace c_c3 : w2.cell? ⟨w.heap.size, 3, none⟩ = some (.int .i64 cdr) := kp hb2 (by go_cell)
  replace c_d0 : w2.cell? ⟨w.heap.size + 1, 0, none⟩ = some (.int .i64 dl) := kp hb2 (by go_cell)
  replace c_d1 : w2.cell? ⟨w.heap.size + 1, 1, none⟩ = some (.int .i64 dh) := kp hb2 (by go_cell)
  replace c_y0 : w2.cell? ⟨w.heap.size + 1 + 1, 0, none⟩ = some (.int .i64 tlo) := kp hb2 (by go_cell)
  replace c_y1 : w2.cell? ⟨w.heap.size + 1 + 1, 1, none⟩ = some (.int .i64 thi) := kp hb2 (by go_cell)
  clear hb2 hB1
  go_wp2_with fail
  go_ret
  exact ⟨rfl, by go_grown⟩
set_option maxHeartbeats 1600000 in
set_option maxRecDepth 100000 in
theorem div_z_lo (b off n c : Nat) (xs pre : List Wt) (q at9 ct clo chi cdr dl dh tlo thi sent got : Int) (w : World) (hn : xs.length = n) (hnc : n ≤ c) (hx : Wts? w.heap.size w (some ⟨b, off, none⟩) xs) (h19 : n ≤ 19) (hv : wValid xs = true) (hq0 : 0 ≤ q) (hq1 : q ≤ 255)  (hq : q.tmod (n : Int) = (0 : Int)) (hp : pre.length = 0) (suf : List Wt) (x : Wt) (ex : xs = pre ++ x :: suf) (ha : at9 ≤ 0) : Calls Try.prog 22 #[.slice (some ⟨b, off, none⟩) n c, .int .u8 q, .int .i64 at9, .agg #[.int .i64 ct, .int .i64 clo, .int .i64 chi, .int .i64 cdr], .agg #[.int .i64 dl, .int .i64 dh], .agg #[.int .i64 tlo, .int .i64 thi], .int .i64 sent, .int .i64 got] w fun e w' => e = .returned (.bool true) ∧ Below w.heap.size w w' := by
  have HXS := Lib.hid (hxs_of hx)
  obtain ⟨b', off', hbo, hlt, hcs⟩ := hx (by rw [ex]; simp; omega)
  cases hbo
  have ex1 : xs[0]? = some x := by subst ex; rw [List.getElem?_append_right (by omega), hp]; simp
  have i0 : 0 < n := by rw [← hn]; exact (List.getElem?_eq_some_iff.1 ex1).1
  have rx := hcs 0 x ex1
  have n0 : ¬ ((n : Int) = 0) := by omega
  have n1 : ((n : Int) == 0) = false := by simp; omega
  have j1 : (0 : Int) ≤ (0 : Int) := by omega
  have j2 : (0 : Int) < (n : Int) := by omega
  have j3 : (0 : Int) ≤ (c : Int) := by omega
  have j4 : ((0 : Int)).toNat = 0 := by omega
  have j5 : ¬ (c = 0) := by omega
  have j6 : (n : Int) ≤ (c : Int) := by omega
  have j7 : (0 : Int) ≤ (n : Int) := by omega
  have h9 : ¬ ((19 : Int) < (n : Int)) := by omega
  have hV := fun W h => RValid17_any (some ⟨b, off, none⟩) n c xs W hn h
  rw [hv] at hV
  have HV := Lib.hid hV
  clear hx hn hV hcs ex ex1
  go_enter Try.func22, Try.ntmps22
  go_wp2_with fail
  refine (head17_any _).mono ?_
  rintro e w1 ⟨rfl, hb1⟩
  have hB1 : Below w.heap.size w w1 := below_after (by go_grown) hb1
  have hz1 := hb1.size
  try simp only [World.size_alloc, World.size_setCell, World.size_drew] at hz1
  have hw1 := hB1.size
  have c_c0 : w1.cell? ⟨w.heap.size, 0, none⟩ = some (.int .i64 ct) := kp hb1 (by go_cell)
  have c_c1 : w1.cell? ⟨w.heap.size, 1, none⟩ = some (.int .i64 clo) := kp hb1 (by go_cell)
  have c_c2 : w1.cell? ⟨w.heap.size, 2, none⟩ = some (.int .i64 chi) := kp hb1 (by go_cell)
  have c_c3 : w1.cell? ⟨w.heap.size, 3, none⟩ = some (.int .i64 cdr) := kp hb1 (by go_cell)
  have c_d0 : w1.cell? ⟨w.heap.size + 1, 0, none⟩ = some (.int .i64 dl) := kp hb1 (by go_cell)
  have c_d1 : w1.cell? ⟨w.heap.size + 1, 1, none⟩ = some (.int .i64 dh) := kp hb1 (by go_cell)
  have c_y0 : w1.cell? ⟨w.heap.size + 1 + 1, 0, none⟩ = some (.int .i64 tlo) := kp hb1 (by go_cell)
  have c_y1 : w1.cell? ⟨w.heap.size + 1 + 1, 1, none⟩ = some (.int .i64 thi) := kp hb1 (by go_cell)
  clear hb1
  go_wp2_with fail
  refine (HV.out _ (HXS.out _ (by go_grown))).mono ?_
  rintro e w2 ⟨rfl, hb2⟩
  have hB2 : Below w.heap.size w w2 := below_after (by go_grown) hb2
  have hz2 := hb2.size
  try simp only [World.size_alloc, World.size_setCell, World.size_drew] at hz2
  have hw2 := hB2.size
  replace c_c0 : w2.cell? ⟨w.heap.size, 0, none⟩ = some (.int .i64 ct) := kp hb2 (by go_cell)
  replace c_c1 : w2.cell? ⟨w.heap.size, 1, none⟩ = some (.int .i64 clo) := kp hb2 (by go_cell)
  replace c_c2 : w2.cell? ⟨w.heap.size, 2, none⟩ = some (.int .i64 chi) := kp hb2 (by go_cell)
  replace c_c3 : w2.cell? ⟨w.heap.size, 3, none⟩ = some (.int .i64 cdr) := kp hb2 (by go_cell)
  replace c_d0 : w2.cell? ⟨w.heap.size + 1, 0, none⟩ = some (.int .i64 dl) := kp hb2 (by go_cell)
  replace c_d1 : w2.cell? ⟨w.heap.size + 1, 1, none⟩ = some (.int .i64 dh) := kp hb2 (by go_cell)
  replace c_y0 : w2.cell? ⟨w.heap.size + 1 + 1, 0, none⟩ = some (.int .i64 tlo) := kp hb2 (by go_cell)
  replace c_y1 : w2.cell? ⟨w.heap.size + 1 + 1, 1, none⟩ = some (.int .i64 thi) := kp hb2 (by go_cell)
  clear hb2 hB1
  obtain ⟨x0, x1, x2⟩ := rx.upto hB2 hlt
  simp only [Nat.zero_mul, Nat.add_zero] at x0 x1 x2
  go_wp2_with fail
  go_ret
  exact ⟨rfl, by go_grown⟩
set_option maxHeartbeats 1600000 in
set_option maxRecDepth 100000 in
theorem div_z_hi (b off n c : Nat) (xs pre : List Wt) (q at9 ct clo chi cdr dl dh tlo thi sent got : Int) (w : World) (hn : xs.length = n) (hnc : n ≤ c) (hx : Wts? w.heap.size w (some ⟨b, off, none⟩) xs) (h19 : n ≤ 19) (hv : wValid xs = true) (hq0 : 0 ≤ q) (hq1 : q ≤ 255)  (hq : q.tmod (n : Int) = (0 : Int)) (hp : pre.length = 0) (suf : List Wt) (x : Wt) (ex : xs = pre ++ x :: suf) (ha : ¬ at9 ≤ 0) (hb : x.til ≤ at9) : Calls Try.prog 22 #[.slice (some ⟨b, off, none⟩) n c, .int .u8 q, .int .i64 at9, .agg #[.int .i64 ct, .int .i64 clo, .int .i64 chi, .int .i64 cdr], .agg #[.int .i64 dl, .int .i64 dh], .agg #[.int .i64 tlo, .int .i64 thi], .int .i64 sent, .int .i64 got] w fun e w' => e = .returned (.bool true) ∧ Below w.heap.size w w' := by
  have HXS := Lib.hid (hxs_of hx)
  obtain ⟨b', off', hbo, hlt, hcs⟩ := hx (by rw [ex]; simp; omega)
  cases hbo
  have ex1 : xs[0]? = some x := by subst ex; rw [List.getElem?_append_right (by omega), hp]; simp
  have i0 : 0 < n := by rw [← hn]; exact (List.getElem?_eq_some_iff.1 ex1).1
  have rx := hcs 0 x ex1
  have n0 : ¬ ((n : Int) = 0) := by omega
  have n1 : ((n : Int) == 0) = false := by simp; omega
  have j1 : (0 : Int) ≤ (0 : Int) := by omega
  have j2 : (0 : Int) < (n : Int) := by omega
  have j3 : (0 : Int) ≤ (c : Int) := by omega
  have j4 : ((0 : Int)).toNat = 0 := by omega
  have j5 : ¬ (c = 0) := by omega
  have j6 : (n : Int) ≤ (c : Int) := by omega
  have j7 : (0 : Int) ≤ (n : Int) := by omega
  have h9 : ¬ ((19 : Int) < (n : Int)) := by omega
  have hV := fun W h => RValid17_any (some ⟨b, off, none⟩) n c xs W hn h
  rw [hv] at hV
  have HV := Lib.hid hV
  clear hx hn hV hcs ex ex1
  go_enter Try.func22, Try.ntmps22
  go_wp2_with fail
  refine (head17_any _).mono ?_
  rintro e w1 ⟨rfl, hb1⟩
  have hB1 : Below w.heap.size w w1 := below_after (by go_grown) hb1
  have hz1 := hb1.size
  try simp only [World.size_alloc, World.size_setCell, World.size_drew] at hz1
  have hw1 := hB1.size
  have c_c0 : w1.cell? ⟨w.heap.size, 0, none⟩ = some (.int .i64 ct) := kp hb1 (by go_cell)
  have c_c1 : w1.cell? ⟨w.heap.size, 1, none⟩ = some (.int .i64 clo) := kp hb1 (by go_cell)
  have c_c2 : w1.cell? ⟨w.heap.size, 2, none⟩ = some (.int .i64 chi) := kp hb1 (by go_cell)
  have c_c3 : w1.cell? ⟨w.heap.size, 3, none⟩ = some (.int .i64 cdr) := kp hb1 (by go_cell)
  have c_d0 : w1.cell? ⟨w.heap.size + 1, 0, none⟩ = some (.int .i64 dl) := kp hb1 (by go_cell)
  have c_d1 : w1.cell? ⟨w.heap.size + 1, 1, none⟩ = some (.int .i64 dh) := kp hb1 (by go_cell)
  have c_y0 : w1.cell? ⟨w.heap.size + 1 + 1, 0, none⟩ = some (.int .i64 tlo) := kp hb1 (by go_cell)
  have c_y1 : w1.cell? ⟨w.heap.size + 1 + 1, 1, none⟩ = some (.int .i64 thi) := kp hb1 (by go_cell)
  clear hb1
  go_wp2_with fail
  refine (HV.out _ (HXS.out _ (by go_grown))).mono ?_
  rintro e w2 ⟨rfl, hb2⟩
  have hB2 : Below w.heap.size w w2 := below_after (by go_grown) hb2
  have hz2 := hb2.size
  try simp only [World.size_alloc, World.size_setCell, World.size_drew] at hz2
  have hw2 := hB2.size
  replace c_c0 : w2.cell? ⟨w.heap.size, 0, none⟩ = some (.int .i64 ct) := kp hb2 (by go_cell)
  replace c_c1 : w2.cell? ⟨w.heap.size, 1, none⟩ = some (.int .i64 clo) := kp hb2 (by go_cell)
  replace c_c2 : w2.cell? ⟨w.heap.size, 2, none⟩ = some (.int .i64 chi) := kp hb2 (by go_cell)
  replace c_c3 : w2.cell? ⟨w.heap.size, 3, none⟩ = some (.int .i64 cdr) := kp hb2 (by go_cell)
  replace c_d0 : w2.cell? ⟨w.heap.size + 1, 0, none⟩ = some (.int .i64 dl) := kp hb2 (by go_cell)
  replace c_d1 : w2.cell? ⟨w.heap.size + 1, 1, none⟩ = some (.int .i64 dh) := kp hb2 (by go_cell)
  replace c_y0 : w2.cell? ⟨w.heap.size + 1 + 1, 0, none⟩ = some (.int .i64 tlo) := kp hb2 (by go_cell)
  replace c_y1 : w2.cell? ⟨w.heap.size + 1 + 1, 1, none⟩ = some (.int .i64 thi) := kp hb2 (by go_cell)
  clear hb2 hB1
  obtain ⟨x0, x1, x2⟩ := rx.upto hB2 hlt
  simp only [Nat.zero_mul, Nat.add_zero] at x0 x1 x2
  go_wp2_with fail
  go_ret
  exact ⟨rfl, by go_grown⟩
set_option maxHeartbeats 1600000 in
set_option maxRecDepth 100000 in
theorem div_z_go (b off n c : Nat) (xs pre : List Wt) (q at9 ct clo chi cdr dl dh tlo thi sent got : Int) (w : World) (hn : xs.length = n) (hnc : n ≤ c) (hx : Wts? w.heap.size w (some ⟨b, off, none⟩) xs) (h19 : n ≤ 19) (hv : wValid xs = true) (hq0 : 0 ≤ q) (hq1 : q ≤ 255)  (hq : q.tmod (n : Int) = (0 : Int)) (hp : pre.length = 0) (suf : List Wt) (x : Wt) (ex : xs = pre ++ x :: suf) (hfr : lastT 0 pre = 0) (ha : 0 < at9) (hb : at9 < x.til) : Calls Try.prog 22 #[.slice (some ⟨b, off, none⟩) n c, .int .u8 q, .int .i64 at9, .agg #[.int .i64 ct, .int .i64 clo, .int .i64 chi, .int .i64 cdr], .agg #[.int .i64 dl, .int .i64 dh], .agg #[.int .i64 tlo, .int .i64 thi], .int .i64 sent, .int .i64 got] w fun e w' => e = .returned (.bool true) ∧ Below w.heap.size w w' := by
  have ha2 : ¬ at9 ≤ 0 := by omega
  have hb2 : ¬ x.til ≤ at9 := by omega
  have HXS := Lib.hid (hxs_of hx)
  obtain ⟨b', off', hbo, hlt, hcs⟩ := hx (by rw [ex]; simp; omega)
  cases hbo
  have ex1 : xs[0]? = some x := by subst ex; rw [List.getElem?_append_right (by omega), hp]; simp
  have i0 : 0 < n := by rw [← hn]; exact (List.getElem?_eq_some_iff.1 ex1).1
  have rx := hcs 0 x ex1
  have n0 : ¬ ((n : Int) = 0) := by omega
  have n1 : ((n : Int) == 0) = false := by simp; omega
  have j1 : (0 : Int) ≤ (0 : Int) := by omega
  have j2 : (0 : Int) < (n : Int) := by omega
  have j3 : (0 : Int) ≤ (c : Int) := by omega
  have j4 : ((0 : Int)).toNat = 0 := by omega
  have j5 : ¬ (c = 0) := by omega
  have j6 : (n : Int) ≤ (c : Int) := by omega
  have j7 : (0 : Int) ≤ (n : Int) := by omega
  have h9 : ¬ ((19 : Int) < (n : Int)) := by omega
  have hV := fun W h => RValid17_any (some ⟨b, off, none⟩) n c xs W hn h
  rw [hv] at hV
  have HV := Lib.hid hV
  have hl19 : (pre ++ x :: suf).length ≤ 19 := by rw [← ex, hn]; exact h19
  have hvx := hv
  rw [ex] at hvx
  have hpl : ∀ W, Below w.heap.size w W → Wts? w.heap.size W (some ⟨b, off, none⟩) pre := fun W hW => fun h0 => ⟨b, off, rfl, hlt, fun i r hr => (hcs i r (by rw [ex, List.getElem?_append_left (List.getElem?_eq_some_iff.1 hr).1]; exact hr)).upto hW hlt⟩
  have hsl : ∀ W, Below w.heap.size w W → Wts? w.heap.size W (some ⟨b, off + 0 * 3, none⟩) (x :: suf) := fun W hW => fun h0 => ⟨b, off + 0 * 3, rfl, hlt, fun i r hr => by
    have h9 := (hcs (0 + i) r (by rw [ex, List.getElem?_append_right (by omega), hp, show 0 + i - 0 = i by omega]; exact hr)).upto hW hlt
    rwa [show off + (0 + i) * 3 = off + 0 * 3 + i * 3 by omega] at h9⟩
  have hsn : (x :: suf).length = n - 0 := by have h9 := hn; rw [ex, List.length_append, hp] at h9; omega
  have hA := fun W h => Speed_any (some ⟨b, off, none⟩) n c xs dl dh W hn (by omega) h
  have hB := fun C L k9 W hL h9 h => Speed_any C L k9 (pre ++ (⟨at9, x.lo, x.hi⟩ : Wt) :: x :: suf) dl dh W hL h9 h
  rw [div_speedS (by rw [hfr]; exact ha) hb hl19 hvx, ← ex] at hB
  have hC := fun W h => Two_any (some ⟨b, off, none⟩) n c xs ct clo chi cdr dl dh sent got tlo thi W hn (by omega) h
  have hD := fun C L k9 W hL h9 h => Two_any C L k9 (pre ++ (⟨at9, x.lo, x.hi⟩ : Wt) :: x :: suf) ct clo chi cdr dl dh sent got tlo thi W hL h9 h
  rw [div_twoS (by rw [hfr]; exact ha) hb hl19 hvx, ← ex] at hD
  have hE := fun C L k9 W hL h => SValid_any C L k9 (pre ++ (⟨at9, x.lo, x.hi⟩ : Wt) :: x :: suf) W hL h
  rw [div_valid (by rw [hfr]; exact ha) hb hl19 hvx] at hE
  generalize speedS xs dl dh = P at hA hB
  obtain ⟨P1, P2, P3⟩ := P
  generalize twoS xs ct clo chi cdr dl dh sent got tlo thi = R at hC hD
  obtain ⟨R1, R2, R3⟩ := R
  simp only at hA hB hC hD
  have HA := Lib.hid hA
  have HB := Lib.hid hB
  have HC := Lib.hid hC
  have HD := Lib.hid hD
  have HE := Lib.hid hE
  have HPL := Lib.hid hpl
  have HSL := Lib.hid hsl
  have HSN := Lib.hid hsn
  have HP := Lib.hid hp
  clear hx hn hV hcs ex ex1 hpl hsl hsn hA hB hC hD hE hvx hl19 hp hfr
  go_enter Try.func22, Try.ntmps22
  go_wp2_with fail
  refine (head17_any _).mono ?_
  rintro e w1 ⟨rfl, hb1⟩
  have hB1 : Below w.heap.size w w1 := below_after (by go_grown) hb1
  have hz1 := hb1.size
  try simp only [World.size_alloc, World.size_setCell, World.size_drew] at hz1
  have hw1 := hB1.size
  have c_c0 : w1.cell? ⟨w.heap.size, 0, none⟩ = some (.int .i64 ct) := kp hb1 (by go_cell)
  have c_c1 : w1.cell? ⟨w.heap.size, 1, none⟩ = some (.int .i64 clo) := kp hb1 (by go_cell)
  have c_c2 : w1.cell? ⟨w.heap.size, 2, none⟩ = some (.int .i64 chi) := kp hb1 (by go_cell)
  have c_c3 : w1.cell? ⟨w.heap.size, 3, none⟩ = some (.int .i64 cdr) := kp hb1 (by go_cell)
  have c_d0 : w1.cell? ⟨w.heap.size + 1, 0, none⟩ = some (.int .i64 dl) := kp hb1 (by go_cell)
  have c_d1 : w1.cell? ⟨w.heap.size + 1, 1, none⟩ = some (.int .i64 dh) := kp hb1 (by go_cell)
  have c_y0 : w1.cell? ⟨w.heap.size + 1 + 1, 0, none⟩ = some (.int .i64 tlo) := kp hb1 (by go_cell)
  have c_y1 : w1.cell? ⟨w.heap.size + 1 + 1, 1, none⟩ = some (.int .i64 thi) := kp hb1 (by go_cell)
  clear hb1
  go_wp2_with fail
  refine (HV.out _ (HXS.out _ (by go_grown))).mono ?_
  rintro e w2 ⟨rfl, hb2⟩
  have hB2 : Below w.heap.size w w2 := below_after (by go_grown) hb2
  have hz2 := hb2.size
  try simp only [World.size_alloc, World.size_setCell, World.size_drew] at hz2
  have hw2 := hB2.size
  replace c_c0 : w2.cell? ⟨w.heap.size, 0, none⟩ = some (.int .i64 ct) := kp hb2 (by go_cell)
  replace c_c1 : w2.cell? ⟨w.heap.size, 1, none⟩ = some (.int .i64 clo) := kp hb2 (by go_cell)
  replace c_c2 : w2.cell? ⟨w.heap.size, 2, none⟩ = some (.int .i64 chi) := kp hb2 (by go_cell)
  replace c_c3 : w2.cell? ⟨w.heap.size, 3, none⟩ = some (.int .i64 cdr) := kp hb2 (by go_cell)
  replace c_d0 : w2.cell? ⟨w.heap.size + 1, 0, none⟩ = some (.int .i64 dl) := kp hb2 (by go_cell)
  replace c_d1 : w2.cell? ⟨w.heap.size + 1, 1, none⟩ = some (.int .i64 dh) := kp hb2 (by go_cell)
  replace c_y0 : w2.cell? ⟨w.heap.size + 1 + 1, 0, none⟩ = some (.int .i64 tlo) := kp hb2 (by go_cell)
  replace c_y1 : w2.cell? ⟨w.heap.size + 1 + 1, 1, none⟩ = some (.int .i64 thi) := kp hb2 (by go_cell)
  clear hb2 hB1
  obtain ⟨x0, x1, x2⟩ := rx.upto hB2 hlt
  simp only [Nat.zero_mul, Nat.add_zero] at x0 x1 x2
  have lt_c := World.block_lt_of_cell? _ _ c_c0
  simp only at lt_c
  have lt_d := World.block_lt_of_cell? _ _ c_d0
  simp only at lt_d
  have lt_y := World.block_lt_of_cell? _ _ c_y0
  simp only at lt_y
  have ha1 : Below w2.heap.size w2 (w2.alloc (.cells #[] 68)) := (Below.refl _ w2).alloc (Nat.le_refl _) _
  have HO := Lib.hid (own_emptyW w2 w2.heap.size (Nat.le_refl _))
  have HPa := Lib.hid (HPL.out _ (hB2.trans (ha1.mono hB2.size)))
  go_wp2_with (at_builtin; go_must (refine wpList_append_waters _ (by rfl) (.tmp 61) (.tmp 64) (by rfl) w2.heap.size w.heap.size _ 0 [] (by rfl) HO.out (some ⟨b, off, none⟩) 0 c pre (by rfl) (by simp) HP.out HPa.out (by omega) (by simp) ?_))
  intro v1 w3 hown1 hg1 hat1
  have hB3 : Below w2.heap.size w2 w3 := ha1.grown hg1 (by simp) (by intro k9 hk9; simp only [Value.ownBlock, Option.some.injEq] at hk9; omega)
  have hob1 : ∀ k9, v1.ownBlock = some k9 → w2.heap.size ≤ k9 := fun k9 hk9 => (hown1.lt k9 hk9).1
  try simp only [Nat.zero_add, List.nil_append] at hown1
  have HO1 := Lib.hid hown1
  have HG1 := Lib.hid hob1
  have hz3 := hB3.size
  clear hown1 hg1 hat1 hob1 ha1 HO HPa
  have x0 : w3.cell? ⟨b, off, none⟩ = some (.int .i64 x.til) := (hB3.cell (p := ⟨b, off, none⟩) (by simp only; omega)).trans x0
  have x1 : w3.cell? ⟨b, off + 1, none⟩ = some (.int .i64 x.lo) := (hB3.cell (p := ⟨b, off + 1, none⟩) (by simp only; omega)).trans x1
  have x2 : w3.cell? ⟨b, off + 2, none⟩ = some (.int .i64 x.hi) := (hB3.cell (p := ⟨b, off + 2, none⟩) (by simp only; omega)).trans x2
  have hY : Wts? (w3.heap.size + 1) (w3.alloc (.cells #[.int .i64 at9, .int .i64 x.lo, .int .i64 x.hi] 68)) (some ⟨w3.heap.size, 0, none⟩) [(⟨at9, x.lo, x.hi⟩ : Wt)] := by
    have h9 : Wts? (w3.alloc (.cells #[.int .i64 at9, .int .i64 x.lo, .int .i64 x.hi] 68)).heap.size (w3.alloc (.cells #[.int .i64 at9, .int .i64 x.lo, .int .i64 x.hi] 68)) (some ⟨w3.heap.size, 0, none⟩) [(⟨at9, x.lo, x.hi⟩ : Wt)] := wts1 (by simp) ⟨by go_cell, by go_cell, by go_cell⟩
    simpa using h9
  have HY := Lib.hid hY
  clear hY
  have hB3a : Below w2.heap.size w2 (w3.alloc (.cells #[.int .i64 at9, .int .i64 x.lo, .int .i64 x.hi] 68)) := hB3.alloc hz3 _
  go_wp2_with (at_builtin; go_must (refine wpList_append_waters _ (by rfl) (.tmp 66) (.tmp 74) (by rfl) w2.heap.size (w3.heap.size + 1) v1 0 pre (by rfl) (HO1.out.alloc _) (some ⟨w3.heap.size, 0, none⟩) 1 1 [(⟨at9, x.lo, x.hi⟩ : Wt)] (by rfl) (by simp) rfl HY.out (by omega) hB3a.size ?_))
  intro v2 w4 hown2 hg2 hat2
  have hB4 : Below w2.heap.size w2 w4 := hB3a.grown hg2 hB3a.size HG1.out
  have hob2 : ∀ k9, v2.ownBlock = some k9 → w2.heap.size ≤ k9 := fun k9 hk9 => (hown2.lt k9 hk9).1
  have HO2 := Lib.hid hown2
  have HG2 := Lib.hid hob2
  have hz4 := hB4.size
  have HSa := Lib.hid (HSL.out _ (hB2.trans (hB4.mono hB2.size)))
  clear hown2 hg2 hat2 hob2 HO1 HG1 HY
  have HSb := HSa.out
  simp only [Nat.zero_mul, Nat.add_zero] at HSb
  have HSa := Lib.hid HSb
  have hsn2 := HSN.out
  have HSN := Lib.hid (show (x :: suf).length = n by omega)
  go_wp2_with (at_builtin; go_must (refine wpList_append_waters _ (by rfl) (.tmp 76) (.tmp 79) (by rfl) w2.heap.size w.heap.size v2 (0 + 1) (pre ++ [(⟨at9, x.lo, x.hi⟩ : Wt)]) (by rfl) HO2.out (some ⟨b, off, none⟩) n c (x :: suf) (by rfl) (by simp) HSN.out HSa.out (by omega) hz4 ?_))
  intro v3 w5 hown3 hg3 hat3
  have hB5 : Below w2.heap.size w2 w5 := hB4.grown hg3 hz4 HG2.out
  obtain ⟨C, k9, rfl, hlen, hnk, hr3⟩ := wts_of_own hown3
  have hz5 := hB5.size
  have HR3 := Lib.hid hr3
  have HLEN := Lib.hid hlen
  have hL9 : 1 + n ≤ 1000000 := by omega
  clear hown3 hg3 hat3 hr3 hlen HO2 HG2 x0 x1 x2
  generalize 1 + n = L at *
  have c_c0 : w5.cell? ⟨w.heap.size, 0, none⟩ = some (.int .i64 ct) := (hB5.cell (p := ⟨w.heap.size, 0, none⟩) lt_c).trans c_c0
  have c_c1 : w5.cell? ⟨w.heap.size, 1, none⟩ = some (.int .i64 clo) := (hB5.cell (p := ⟨w.heap.size, 1, none⟩) lt_c).trans c_c1
  have c_c2 : w5.cell? ⟨w.heap.size, 2, none⟩ = some (.int .i64 chi) := (hB5.cell (p := ⟨w.heap.size, 2, none⟩) lt_c).trans c_c2
  have c_c3 : w5.cell? ⟨w.heap.size, 3, none⟩ = some (.int .i64 cdr) := (hB5.cell (p := ⟨w.heap.size, 3, none⟩) lt_c).trans c_c3
  have c_d0 : w5.cell? ⟨w.heap.size + 1, 0, none⟩ = some (.int .i64 dl) := (hB5.cell (p := ⟨w.heap.size + 1, 0, none⟩) lt_d).trans c_d0
  have c_d1 : w5.cell? ⟨w.heap.size + 1, 1, none⟩ = some (.int .i64 dh) := (hB5.cell (p := ⟨w.heap.size + 1, 1, none⟩) lt_d).trans c_d1
  have c_y0 : w5.cell? ⟨w.heap.size + 1 + 1, 0, none⟩ = some (.int .i64 tlo) := (hB5.cell (p := ⟨w.heap.size + 1 + 1, 0, none⟩) lt_y).trans c_y0
  have c_y1 : w5.cell? ⟨w.heap.size + 1 + 1, 1, none⟩ = some (.int .i64 thi) := (hB5.cell (p := ⟨w.heap.size + 1 + 1, 1, none⟩) lt_y).trans c_y1
  have hB95 : Below w.heap.size w w5 := hB2.trans (hB5.mono hB2.size)
  have hw95 := hB95.size
  clear hB2 hB3 hB3a hB4 hB5
  have hR0 : Below w5.heap.size w5 w5 := Below.refl _ _
  go_wp2_with fail
  refine (HA.out _ (HXS.out _ (by go_grown))).mono ?_
  rintro e w96 ⟨rfl, hb96⟩
  have hB96 : Below w.heap.size w w96 := below_after (by go_grown) hb96
  have hz96 := hb96.size
  try simp only [World.size_alloc, World.size_setCell, World.size_drew] at hz96
  have hw96 := hB96.size
  replace c_c0 : w96.cell? ⟨w.heap.size, 0, none⟩ = some (.int .i64 ct) := kp hb96 (by go_cell)
  replace c_c1 : w96.cell? ⟨w.heap.size, 1, none⟩ = some (.int .i64 clo) := kp hb96 (by go_cell)
  replace c_c2 : w96.cell? ⟨w.heap.size, 2, none⟩ = some (.int .i64 chi) := kp hb96 (by go_cell)
  replace c_c3 : w96.cell? ⟨w.heap.size, 3, none⟩ = some (.int .i64 cdr) := kp hb96 (by go_cell)
  replace c_d0 : w96.cell? ⟨w.heap.size + 1, 0, none⟩ = some (.int .i64 dl) := kp hb96 (by go_cell)
  replace c_d1 : w96.cell? ⟨w.heap.size + 1, 1, none⟩ = some (.int .i64 dh) := kp hb96 (by go_cell)
  replace c_y0 : w96.cell? ⟨w.heap.size + 1 + 1, 0, none⟩ = some (.int .i64 tlo) := kp hb96 (by go_cell)
  replace c_y1 : w96.cell? ⟨w.heap.size + 1 + 1, 1, none⟩ = some (.int .i64 thi) := kp hb96 (by go_cell)
  have hR96 : Below w5.heap.size w5 w96 := below_after (by go_grown) hb96
  clear hb96 hB95
  go_wp2_with fail
  refine (HB.out C L k9 _ HLEN.out hL9 ((HR3.out.upto (show Below w5.heap.size w5 _ by go_grown)).mono (show w5.heap.size ≤ _ by go_size))).mono ?_
  rintro e w97 ⟨rfl, hb97⟩
  have hB97 : Below w.heap.size w w97 := below_after (by go_grown) hb97
  have hz97 := hb97.size
  try simp only [World.size_alloc, World.size_setCell, World.size_drew] at hz97
  have hw97 := hB97.size
  replace c_c0 : w97.cell? ⟨w.heap.size, 0, none⟩ = some (.int .i64 ct) := kp hb97 (by go_cell)
  replace c_c1 : w97.cell? ⟨w.heap.size, 1, none⟩ = some (.int .i64 clo) := kp hb97 (by go_cell)
  replace c_c2 : w97.cell? ⟨w.heap.size, 2, none⟩ = some (.int .i64 chi) := kp hb97 (by go_cell)
  replace c_c3 : w97.cell? ⟨w.heap.size, 3, none⟩ = some (.int .i64 cdr) := kp hb97 (by go_cell)
  replace c_d0 : w97.cell? ⟨w.heap.size + 1, 0, none⟩ = some (.int .i64 dl) := kp hb97 (by go_cell)
  replace c_d1 : w97.cell? ⟨w.heap.size + 1, 1, none⟩ = some (.int .i64 dh) := kp hb97 (by go_cell)
  replace c_y0 : w97.cell? ⟨w.heap.size + 1 + 1, 0, none⟩ = some (.int .i64 tlo) := kp hb97 (by go_cell)
  replace c_y1 : w97.cell? ⟨w.heap.size + 1 + 1, 1, none⟩ = some (.int .i64 thi) := kp hb97 (by go_cell)
  have f_s0 : w97.frozen? ⟨w96.heap.size, 0, none⟩ = false := kf hb97 (by go_simp) (by go_simp)
  have f_s1 : w97.frozen? ⟨w96.heap.size, 1, none⟩ = false := kf hb97 (by go_simp) (by go_simp)
  have c_s0 : w97.cell? ⟨w96.heap.size, 0, none⟩ = some (.int .i64 P1) := kp hb97 (by go_cell)
  have c_s1 : w97.cell? ⟨w96.heap.size, 1, none⟩ = some (.int .i64 P2) := kp hb97 (by go_cell)
  have hR97 : Below w5.heap.size w5 w97 := below_after (by go_grown) hb97
  clear hb97 hB96
  go_wp2_with fail
  refine (HC.out _ (HXS.out _ (by go_grown))).mono ?_
  rintro e w98 ⟨rfl, hb98⟩
  have hB98 : Below w.heap.size w w98 := below_after (by go_grown) hb98
  have hz98 := hb98.size
  try simp only [World.size_alloc, World.size_setCell, World.size_drew] at hz98
  have hw98 := hB98.size
  replace c_c0 : w98.cell? ⟨w.heap.size, 0, none⟩ = some (.int .i64 ct) := kp hb98 (by go_cell)
  replace c_c1 : w98.cell? ⟨w.heap.size, 1, none⟩ = some (.int .i64 clo) := kp hb98 (by go_cell)
  replace c_c2 : w98.cell? ⟨w.heap.size, 2, none⟩ = some (.int .i64 chi) := kp hb98 (by go_cell)
  replace c_c3 : w98.cell? ⟨w.heap.size, 3, none⟩ = some (.int .i64 cdr) := kp hb98 (by go_cell)
  replace c_d0 : w98.cell? ⟨w.heap.size + 1, 0, none⟩ = some (.int .i64 dl) := kp hb98 (by go_cell)
  replace c_d1 : w98.cell? ⟨w.heap.size + 1, 1, none⟩ = some (.int .i64 dh) := kp hb98 (by go_cell)
  replace c_y0 : w98.cell? ⟨w.heap.size + 1 + 1, 0, none⟩ = some (.int .i64 tlo) := kp hb98 (by go_cell)
  replace c_y1 : w98.cell? ⟨w.heap.size + 1 + 1, 1, none⟩ = some (.int .i64 thi) := kp hb98 (by go_cell)
  replace f_s0 : w98.frozen? ⟨w96.heap.size, 0, none⟩ = false := kf hb98 (by go_simp) (by go_simp)
  replace f_s1 : w98.frozen? ⟨w96.heap.size, 1, none⟩ = false := kf hb98 (by go_simp) (by go_simp)
  replace c_s0 : w98.cell? ⟨w96.heap.size, 0, none⟩ = some (.int .i64 P1) := kp hb98 (by go_cell)
  replace c_s1 : w98.cell? ⟨w96.heap.size, 1, none⟩ = some (.int .i64 P2) := kp hb98 (by go_cell)
  have f_u0 : w98.frozen? ⟨w97.heap.size, 0, none⟩ = false := kf hb98 (by go_simp) (by go_simp)
  have f_u1 : w98.frozen? ⟨w97.heap.size, 1, none⟩ = false := kf hb98 (by go_simp) (by go_simp)
  have c_u0 : w98.cell? ⟨w97.heap.size, 0, none⟩ = some (.int .i64 P1) := kp hb98 (by go_cell)
  have c_u1 : w98.cell? ⟨w97.heap.size, 1, none⟩ = some (.int .i64 P2) := kp hb98 (by go_cell)
  have hR98 : Below w5.heap.size w5 w98 := below_after (by go_grown) hb98
  clear hb98 hB97
  go_wp2_with fail
  refine (HD.out C L k9 _ HLEN.out hL9 ((HR3.out.upto (show Below w5.heap.size w5 _ by go_grown)).mono (show w5.heap.size ≤ _ by go_size))).mono ?_
  rintro e w99 ⟨rfl, hb99⟩
  have hB99 : Below w.heap.size w w99 := below_after (by go_grown) hb99
  have hz99 := hb99.size
  try simp only [World.size_alloc, World.size_setCell, World.size_drew] at hz99
  have hw99 := hB99.size
  replace c_c0 : w99.cell? ⟨w.heap.size, 0, none⟩ = some (.int .i64 ct) := kp hb99 (by go_cell)
  replace c_c1 : w99.cell? ⟨w.heap.size, 1, none⟩ = some (.int .i64 clo) := kp hb99 (by go_cell)
  replace c_c2 : w99.cell? ⟨w.heap.size, 2, none⟩ = some (.int .i64 chi) := kp hb99 (by go_cell)
  replace c_c3 : w99.cell? ⟨w.heap.size, 3, none⟩ = some (.int .i64 cdr) := kp hb99 (by go_cell)
  replace c_d0 : w99.cell? ⟨w.heap.size + 1, 0, none⟩ = some (.int .i64 dl) := kp hb99 (by go_cell)
  replace c_d1 : w99.cell? ⟨w.heap.size + 1, 1, none⟩ = some (.int .i64 dh) := kp hb99 (by go_cell)
  replace c_y0 : w99.cell? ⟨w.heap.size + 1 + 1, 0, none⟩ = some (.int .i64 tlo) := kp hb99 (by go_cell)
  replace c_y1 : w99.cell? ⟨w.heap.size + 1 + 1, 1, none⟩ = some (.int .i64 thi) := kp hb99 (by go_cell)
  replace f_s0 : w99.frozen? ⟨w96.heap.size, 0, none⟩ = false := kf hb99 (by go_simp) (by go_simp)
  replace f_s1 : w99.frozen? ⟨w96.heap.size, 1, none⟩ = false := kf hb99 (by go_simp) (by go_simp)
  replace c_s0 : w99.cell? ⟨w96.heap.size, 0, none⟩ = some (.int .i64 R1) := kp hb99 (by go_cell)
  replace c_s1 : w99.cell? ⟨w96.heap.size, 1, none⟩ = some (.int .i64 R2) := kp hb99 (by go_cell)
  replace f_u0 : w99.frozen? ⟨w97.heap.size, 0, none⟩ = false := kf hb99 (by go_simp) (by go_simp)
  replace f_u1 : w99.frozen? ⟨w97.heap.size, 1, none⟩ = false := kf hb99 (by go_simp) (by go_simp)
  replace c_u0 : w99.cell? ⟨w97.heap.size, 0, none⟩ = some (.int .i64 P1) := kp hb99 (by go_cell)
  replace c_u1 : w99.cell? ⟨w97.heap.size, 1, none⟩ = some (.int .i64 P2) := kp hb99 (by go_cell)
  have hR99 : Below w5.heap.size w5 w99 := below_after (by go_grown) hb99
  clear hb99 hB98
  go_wp2_with fail
  refine (HE.out C L k9 _ HLEN.out ((HR3.out.upto (show Below w5.heap.size w5 _ by go_grown)).mono (show w5.heap.size ≤ _ by go_size))).mono ?_
  rintro e w100 ⟨rfl, hb100⟩
  have hB100 : Below w.heap.size w w100 := below_after (by go_grown) hb100
  have hz100 := hb100.size
  try simp only [World.size_alloc, World.size_setCell, World.size_drew] at hz100
  have hw100 := hB100.size
  replace c_c0 : w100.cell? ⟨w.heap.size, 0, none⟩ = some (.int .i64 ct) := kp hb100 (by go_cell)
  replace c_c1 : w100.cell? ⟨w.heap.size, 1, none⟩ = some (.int .i64 clo) := kp hb100 (by go_cell)
  replace c_c2 : w100.cell? ⟨w.heap.size, 2, none⟩ = some (.int .i64 chi) := kp hb100 (by go_cell)
  replace c_c3 : w100.cell? ⟨w.heap.size, 3, none⟩ = some (.int .i64 cdr) := kp hb100 (by go_cell)
  replace c_d0 : w100.cell? ⟨w.heap.size + 1, 0, none⟩ = some (.int .i64 dl) := kp hb100 (by go_cell)
  replace c_d1 : w100.cell? ⟨w.heap.size + 1, 1, none⟩ = some (.int .i64 dh) := kp hb100 (by go_cell)
  replace c_y0 : w100.cell? ⟨w.heap.size + 1 + 1, 0, none⟩ = some (.int .i64 tlo) := kp hb100 (by go_cell)
  replace c_y1 : w100.cell? ⟨w.heap.size + 1 + 1, 1, none⟩ = some (.int .i64 thi) := kp hb100 (by go_cell)
  replace f_s0 : w100.frozen? ⟨w96.heap.size, 0, none⟩ = false := kf hb100 (by go_simp) (by go_simp)
  replace f_s1 : w100.frozen? ⟨w96.heap.size, 1, none⟩ = false := kf hb100 (by go_simp) (by go_simp)
  replace c_s0 : w100.cell? ⟨w96.heap.size, 0, none⟩ = some (.int .i64 R1) := kp hb100 (by go_cell)
  replace c_s1 : w100.cell? ⟨w96.heap.size, 1, none⟩ = some (.int .i64 R2) := kp hb100 (by go_cell)
  replace f_u0 : w100.frozen? ⟨w97.heap.size, 0, none⟩ = false := kf hb100 (by go_simp) (by go_simp)
  replace f_u1 : w100.frozen? ⟨w97.heap.size, 1, none⟩ = false := kf hb100 (by go_simp) (by go_simp)
  replace c_u0 : w100.cell? ⟨w97.heap.size, 0, none⟩ = some (.int .i64 R1) := kp hb100 (by go_cell)
  replace c_u1 : w100.cell? ⟨w97.heap.size, 1, none⟩ = some (.int .i64 R2) := kp hb100 (by go_cell)
  have hR100 : Below w5.heap.size w5 w100 := below_after (by go_grown) hb100
  clear hb100 hB99
  go_wp2_with fail
  go_ret
  exact ⟨rfl, by go_grown⟩
set_option maxHeartbeats 1600000 in
set_option maxRecDepth 100000 in
theorem div_s_lo (b off n c : Nat) (xs pre : List Wt) (q at9 ct clo chi cdr dl dh tlo thi sent got : Int) (w : World) (hn : xs.length = n) (hnc : n ≤ c) (hx : Wts? w.heap.size w (some ⟨b, off, none⟩) xs) (h19 : n ≤ 19) (hv : wValid xs = true) (hq0 : 0 ≤ q) (hq1 : q ≤ 255) (k : Nat) (hq : q.tmod (n : Int) = ((k : Int) + 1)) (hp : pre.length = k + 1) (y : Wt) (hy : pre[k]? = some y) (suf : List Wt) (x : Wt) (ex : xs = pre ++ x :: suf) (ha : at9 ≤ y.til) : Calls Try.prog 22 #[.slice (some ⟨b, off, none⟩) n c, .int .u8 q, .int .i64 at9, .agg #[.int .i64 ct, .int .i64 clo, .int .i64 chi, .int .i64 cdr], .agg #[.int .i64 dl, .int .i64 dh], .agg #[.int .i64 tlo, .int .i64 thi], .int .i64 sent, .int .i64 got] w fun e w' => e = .returned (.bool true) ∧ Below w.heap.size w w' := by
  have HXS := Lib.hid (hxs_of hx)
  obtain ⟨b', off', hbo, hlt, hcs⟩ := hx (by rw [ex]; simp; omega)
  cases hbo
  have ex1 : xs[(k + 1)]? = some x := by subst ex; rw [List.getElem?_append_right (by omega), hp]; simp
  have i0 : (k + 1) < n := by rw [← hn]; exact (List.getElem?_eq_some_iff.1 ex1).1
  have rx := hcs (k + 1) x ex1
  have ex2 : xs[k]? = some y := by subst ex; rw [List.getElem?_append_left (by omega)]; exact hy
  have ry := hcs k y ex2
  have n0 : ¬ ((n : Int) = 0) := by omega
  have n1 : ((n : Int) == 0) = false := by simp; omega
  have j1 : (0 : Int) ≤ ((k : Int) + 1) := by omega
  have j2 : ((k : Int) + 1) < (n : Int) := by omega
  have j3 : ((k : Int) + 1) ≤ (c : Int) := by omega
  have j4 : (((k : Int) + 1)).toNat = (k + 1) := by omega
  have j5 : ¬ (c = (k + 1)) := by omega
  have j6 : (n : Int) ≤ (c : Int) := by omega
  have j7 : ((k : Int) + 1) ≤ (n : Int) := by omega
  have j8 : IntKind.i64.wrap (k : Int) = (k : Int) := IntWalk.i64_in _ (by omega)
  have j9 : (k : Int) < (n : Int) := by omega
  have h9 : ¬ ((19 : Int) < (n : Int)) := by omega
  have hV := fun W h => RValid17_any (some ⟨b, off, none⟩) n c xs W hn h
  rw [hv] at hV
  have HV := Lib.hid hV
  clear hx hn hV hcs ex ex1 ex2
  go_enter Try.func22, Try.ntmps22
  go_wp2_with fail
  refine (head17_any _).mono ?_
  rintro e w1 ⟨rfl, hb1⟩
  have hB1 : Below w.heap.size w w1 := below_after (by go_grown) hb1
  have hz1 := hb1.size
  try simp only [World.size_alloc, World.size_setCell, World.size_drew] at hz1
  have hw1 := hB1.size
  have c_c0 : w1.cell? ⟨w.heap.size, 0, none⟩ = some (.int .i64 ct) := kp hb1 (by go_cell)
  have c_c1 : w1.cell? ⟨w.heap.size, 1, none⟩ = some (.int .i64 clo) := kp hb1 (by go_cell)
  have c_c2 : w1.cell? ⟨w.heap.size, 2, none⟩ = some (.int .i64 chi) := kp hb1 (by go_cell)
  have c_c3 : w1.cell? ⟨w.heap.size, 3, none⟩ = some (.int .i64 cdr) := kp hb1 (by go_cell)
  have c_d0 : w1.cell? ⟨w.heap.size + 1, 0, none⟩ = some (.int .i64 dl) := kp hb1 (by go_cell)
  have c_d1 : w1.cell? ⟨w.heap.size + 1, 1, none⟩ = some (.int .i64 dh) := kp hb1 (by go_cell)
  have c_y0 : w1.cell? ⟨w.heap.size + 1 + 1, 0, none⟩ = some (.int .i64 tlo) := kp hb1 (by go_cell)
  have c_y1 : w1.cell? ⟨w.heap.size + 1 + 1, 1, none⟩ = some (.int .i64 thi) := kp hb1 (by go_cell)
  clear hb1
  go_wp2_with fail
  refine (HV.out _ (HXS.out _ (by go_grown))).mono ?_
  rintro e w2 ⟨rfl, hb2⟩
  have hB2 : Below w.heap.size w w2 := below_after (by go_grown) hb2
  have hz2 := hb2.size
  try simp only [World.size_alloc, World.size_setCell, World.size_drew] at hz2
  have hw2 := hB2.size
  replace c_c0 : w2.cell? ⟨w.heap.size, 0, none⟩ = some (.int .i64 ct) := kp hb2 (by go_cell)
  replace c_c1 : w2.cell? ⟨w.heap.size, 1, none⟩ = some (.int .i64 clo) := kp hb2 (by go_cell)
  replace c_c2 : w2.cell? ⟨w.heap.size, 2, none⟩ = some (.int .i64 chi) := kp hb2 (by go_cell)
  replace c_c3 : w2.cell? ⟨w.heap.size, 3, none⟩ = some (.int .i64 cdr) := kp hb2 (by go_cell)
  replace c_d0 : w2.cell? ⟨w.heap.size + 1, 0, none⟩ = some (.int .i64 dl) := kp hb2 (by go_cell)
  replace c_d1 : w2.cell? ⟨w.heap.size + 1, 1, none⟩ = some (.int .i64 dh) := kp hb2 (by go_cell)
  replace c_y0 : w2.cell? ⟨w.heap.size + 1 + 1, 0, none⟩ = some (.int .i64 tlo) := kp hb2 (by go_cell)
  replace c_y1 : w2.cell? ⟨w.heap.size + 1 + 1, 1, none⟩ = some (.int .i64 thi) := kp hb2 (by go_cell)
  clear hb2 hB1
  obtain ⟨x0, x1, x2⟩ := rx.upto hB2 hlt
  obtain ⟨y0, _, _⟩ := ry.upto hB2 hlt
  go_wp2_with fail
  go_ret
  exact ⟨rfl, by go_grown⟩
set_option maxHeartbeats 1600000 in
set_option maxRecDepth 100000 in
theorem div_s_hi (b off n c : Nat) (xs pre : List Wt) (q at9 ct clo chi cdr dl dh tlo thi sent got : Int) (w : World) (hn : xs.length = n) (hnc : n ≤ c) (hx : Wts? w.heap.size w (some ⟨b, off, none⟩) xs) (h19 : n ≤ 19) (hv : wValid xs = true) (hq0 : 0 ≤ q) (hq1 : q ≤ 255) (k : Nat) (hq : q.tmod (n : Int) = ((k : Int) + 1)) (hp : pre.length = k + 1) (y : Wt) (hy : pre[k]? = some y) (suf : List Wt) (x : Wt) (ex : xs = pre ++ x :: suf) (ha : ¬ at9 ≤ y.til) (hb : x.til ≤ at9) : Calls Try.prog 22 #[.slice (some ⟨b, off, none⟩) n c, .int .u8 q, .int .i64 at9, .agg #[.int .i64 ct, .int .i64 clo, .int .i64 chi, .int .i64 cdr], .agg #[.int .i64 dl, .int .i64 dh], .agg #[.int .i64 tlo, .int .i64 thi], .int .i64 sent, .int .i64 got] w fun e w' => e = .returned (.bool true) ∧ Below w.heap.size w w' := by
  have HXS := Lib.hid (hxs_of hx)
  obtain ⟨b', off', hbo, hlt, hcs⟩ := hx (by rw [ex]; simp; omega)
  cases hbo
  have ex1 : xs[(k + 1)]? = some x := by subst ex; rw [List.getElem?_append_right (by omega), hp]; simp
  have i0 : (k + 1) < n := by rw [← hn]; exact (List.getElem?_eq_some_iff.1 ex1).1
  have rx := hcs (k + 1) x ex1
  have ex2 : xs[k]? = some y := by subst ex; rw [List.getElem?_append_left (by omega)]; exact hy
  have ry := hcs k y ex2
  have n0 : ¬ ((n : Int) = 0) := by omega
  have n1 : ((n : Int) == 0) = false := by simp; omega
  have j1 : (0 : Int) ≤ ((k : Int) + 1) := by omega
  have j2 : ((k : Int) + 1) < (n : Int) := by omega
  have j3 : ((k : Int) + 1) ≤ (c : Int) := by omega
  have j4 : (((k : Int) + 1)).toNat = (k + 1) := by omega
  have j5 : ¬ (c = (k + 1)) := by omega
  have j6 : (n : Int) ≤ (c : Int) := by omega
  have j7 : ((k : Int) + 1) ≤ (n : Int) := by omega
  have j8 : IntKind.i64.wrap (k : Int) = (k : Int) := IntWalk.i64_in _ (by omega)
  have j9 : (k : Int) < (n : Int) := by omega
  have h9 : ¬ ((19 : Int) < (n : Int)) := by omega
  have hV := fun W h => RValid17_any (some ⟨b, off, none⟩) n c xs W hn h
  rw [hv] at hV
  have HV := Lib.hid hV
  clear hx hn hV hcs ex ex1 ex2
  go_enter Try.func22, Try.ntmps22
  go_wp2_with fail
  refine (head17_any _).mono ?_
  rintro e w1 ⟨rfl, hb1⟩
  have hB1 : Below w.heap.size w w1 := below_after (by go_grown) hb1
  have hz1 := hb1.size
  try simp only [World.size_alloc, World.size_setCell, World.size_drew] at hz1
  have hw1 := hB1.size
  have c_c0 : w1.cell? ⟨w.heap.size, 0, none⟩ = some (.int .i64 ct) := kp hb1 (by go_cell)
  have c_c1 : w1.cell? ⟨w.heap.size, 1, none⟩ = some (.int .i64 clo) := kp hb1 (by go_cell)
  have c_c2 : w1.cell? ⟨w.heap.size, 2, none⟩ = some (.int .i64 chi) := kp hb1 (by go_cell)
  have c_c3 : w1.cell? ⟨w.heap.size, 3, none⟩ = some (.int .i64 cdr) := kp hb1 (by go_cell)
  have c_d0 : w1.cell? ⟨w.heap.size + 1, 0, none⟩ = some (.int .i64 dl) := kp hb1 (by go_cell)
  have c_d1 : w1.cell? ⟨w.heap.size + 1, 1, none⟩ = some (.int .i64 dh) := kp hb1 (by go_cell)
  have c_y0 : w1.cell? ⟨w.heap.size + 1 + 1, 0, none⟩ = some (.int .i64 tlo) := kp hb1 (by go_cell)
  have c_y1 : w1.cell? ⟨w.heap.size + 1 + 1, 1, none⟩ = some (.int .i64 thi) := kp hb1 (by go_cell)
  clear hb1
  go_wp2_with fail
  refine (HV.out _ (HXS.out _ (by go_grown))).mono ?_
  rintro e w2 ⟨rfl, hb2⟩
  have hB2 : Below w.heap.size w w2 := below_after (by go_grown) hb2
  have hz2 := hb2.size
  try simp only [World.size_alloc, World.size_setCell, World.size_drew] at hz2
  have hw2 := hB2.size
  replace c_c0 : w2.cell? ⟨w.heap.size, 0, none⟩ = some (.int .i64 ct) := kp hb2 (by go_cell)
  replace c_c1 : w2.cell? ⟨w.heap.size, 1, none⟩ = some (.int .i64 clo) := kp hb2 (by go_cell)
  replace c_c2 : w2.cell? ⟨w.heap.size, 2, none⟩ = some (.int .i64 chi) := kp hb2 (by go_cell)
  replace c_c3 : w2.cell? ⟨w.heap.size, 3, none⟩ = some (.int .i64 cdr) := kp hb2 (by go_cell)
  replace c_d0 : w2.cell? ⟨w.heap.size + 1, 0, none⟩ = some (.int .i64 dl) := kp hb2 (by go_cell)
  replace c_d1 : w2.cell? ⟨w.heap.size + 1, 1, none⟩ = some (.int .i64 dh) := kp hb2 (by go_cell)
  replace c_y0 : w2.cell? ⟨w.heap.size + 1 + 1, 0, none⟩ = some (.int .i64 tlo) := kp hb2 (by go_cell)
  replace c_y1 : w2.cell? ⟨w.heap.size + 1 + 1, 1, none⟩ = some (.int .i64 thi) := kp hb2 (by go_cell)
  clear hb2 hB1
  obtain ⟨x0, x1, x2⟩ := rx.upto hB2 hlt
  obtain ⟨y0, _, _⟩ := ry.upto hB2 hlt
  go_wp2_with fail
  go_ret
  exact ⟨rfl, by go_grown⟩
set_option maxHeartbeats 1600000 in
set_option maxRecDepth 100000 in
theorem div_s_go (b off n c : Nat) (xs pre : List Wt) (q at9 ct clo chi cdr dl dh tlo thi sent got : Int) (w : World) (hn : xs.length = n) (hnc : n ≤ c) (hx : Wts? w.heap.size w (some ⟨b, off, none⟩) xs) (h19 : n ≤ 19) (hv : wValid xs = true) (hq0 : 0 ≤ q) (hq1 : q ≤ 255) (k : Nat) (hq : q.tmod (n : Int) = ((k : Int) + 1)) (hp : pre.length = k + 1) (y : Wt) (hy : pre[k]? = some y) (suf : List Wt) (x : Wt) (ex : xs = pre ++ x :: suf) (hfr : lastT 0 pre = y.til) (ha : y.til < at9) (hb : at9 < x.til) : Calls Try.prog 22 #[.slice (some ⟨b, off, none⟩) n c, .int .u8 q, .int .i64 at9, .agg #[.int .i64 ct, .int .i64 clo, .int .i64 chi, .int .i64 cdr], .agg #[.int .i64 dl, .int .i64 dh], .agg #[.int .i64 tlo, .int .i64 thi], .int .i64 sent, .int .i64 got] w fun e w' => e = .returned (.bool true) ∧ Below w.heap.size w w' := by
  have ha2 : ¬ at9 ≤ y.til := by omega
  have hb2 : ¬ x.til ≤ at9 := by omega
  have HXS := Lib.hid (hxs_of hx)
  obtain ⟨b', off', hbo, hlt, hcs⟩ := hx (by rw [ex]; simp; omega)
  cases hbo
  have ex1 : xs[(k + 1)]? = some x := by subst ex; rw [List.getElem?_append_right (by omega), hp]; simp
  have i0 : (k + 1) < n := by rw [← hn]; exact (List.getElem?_eq_some_iff.1 ex1).1
  have rx := hcs (k + 1) x ex1
  have ex2 : xs[k]? = some y := by subst ex; rw [List.getElem?_append_left (by omega)]; exact hy
  have ry := hcs k y ex2
  have n0 : ¬ ((n : Int) = 0) := by omega
  have n1 : ((n : Int) == 0) = false := by simp; omega
  have j1 : (0 : Int) ≤ ((k : Int) + 1) := by omega
  have j2 : ((k : Int) + 1) < (n : Int) := by omega
  have j3 : ((k : Int) + 1) ≤ (c : Int) := by omega
  have j4 : (((k : Int) + 1)).toNat = (k + 1) := by omega
  have j5 : ¬ (c = (k + 1)) := by omega
  have j6 : (n : Int) ≤ (c : Int) := by omega
  have j7 : ((k : Int) + 1) ≤ (n : Int) := by omega
  have j8 : IntKind.i64.wrap (k : Int) = (k : Int) := IntWalk.i64_in _ (by omega)
  have j9 : (k : Int) < (n : Int) := by omega
  have h9 : ¬ ((19 : Int) < (n : Int)) := by omega
  have hV := fun W h => RValid17_any (some ⟨b, off, none⟩) n c xs W hn h
  rw [hv] at hV
  have HV := Lib.hid hV
  have hl19 : (pre ++ x :: suf).length ≤ 19 := by rw [← ex, hn]; exact h19
  have hvx := hv
  rw [ex] at hvx
  have hpl : ∀ W, Below w.heap.size w W → Wts? w.heap.size W (some ⟨b, off, none⟩) pre := fun W hW => fun h0 => ⟨b, off, rfl, hlt, fun i r hr => (hcs i r (by rw [ex, List.getElem?_append_left (List.getElem?_eq_some_iff.1 hr).1]; exact hr)).upto hW hlt⟩
  have hsl : ∀ W, Below w.heap.size w W → Wts? w.heap.size W (some ⟨b, off + (k + 1) * 3, none⟩) (x :: suf) := fun W hW => fun h0 => ⟨b, off + (k + 1) * 3, rfl, hlt, fun i r hr => by
    have h9 := (hcs ((k + 1) + i) r (by rw [ex, List.getElem?_append_right (by omega), hp, show (k + 1) + i - (k + 1) = i by omega]; exact hr)).upto hW hlt
    rwa [show off + ((k + 1) + i) * 3 = off + (k + 1) * 3 + i * 3 by omega] at h9⟩
  have hsn : (x :: suf).length = n - (k + 1) := by have h9 := hn; rw [ex, List.length_append, hp] at h9; omega
  have hA := fun W h => Speed_any (some ⟨b, off, none⟩) n c xs dl dh W hn (by omega) h
  have hB := fun C L k9 W hL h9 h => Speed_any C L k9 (pre ++ (⟨at9, x.lo, x.hi⟩ : Wt) :: x :: suf) dl dh W hL h9 h
  rw [div_speedS (by rw [hfr]; exact ha) hb hl19 hvx, ← ex] at hB
  have hC := fun W h => Two_any (some ⟨b, off, none⟩) n c xs ct clo chi cdr dl dh sent got tlo thi W hn (by omega) h
  have hD := fun C L k9 W hL h9 h => Two_any C L k9 (pre ++ (⟨at9, x.lo, x.hi⟩ : Wt) :: x :: suf) ct clo chi cdr dl dh sent got tlo thi W hL h9 h
  rw [div_twoS (by rw [hfr]; exact ha) hb hl19 hvx, ← ex] at hD
  have hE := fun C L k9 W hL h => SValid_any C L k9 (pre ++ (⟨at9, x.lo, x.hi⟩ : Wt) :: x :: suf) W hL h
  rw [div_valid (by rw [hfr]; exact ha) hb hl19 hvx] at hE
  generalize speedS xs dl dh = P at hA hB
  obtain ⟨P1, P2, P3⟩ := P
  generalize twoS xs ct clo chi cdr dl dh sent got tlo thi = R at hC hD
  obtain ⟨R1, R2, R3⟩ := R
  simp only at hA hB hC hD
  have HA := Lib.hid hA
  have HB := Lib.hid hB
  have HC := Lib.hid hC
  have HD := Lib.hid hD
  have HE := Lib.hid hE
  have HPL := Lib.hid hpl
  have HSL := Lib.hid hsl
  have HSN := Lib.hid hsn
  have HP := Lib.hid hp
  clear hx hn hV hcs ex ex1 hpl hsl hsn hA hB hC hD hE hvx hl19 hp hfr ex2
  go_enter Try.func22, Try.ntmps22
  go_wp2_with fail
  refine (head17_any _).mono ?_
  rintro e w1 ⟨rfl, hb1⟩
  have hB1 : Below w.heap.size w w1 := below_after (by go_grown) hb1
  have hz1 := hb1.size
  try simp only [World.size_alloc, World.size_setCell, World.size_drew] at hz1
  have hw1 := hB1.size
  have c_c0 : w1.cell? ⟨w.heap.size, 0, none⟩ = some (.int .i64 ct) := kp hb1 (by go_cell)
  have c_c1 : w1.cell? ⟨w.heap.size, 1, none⟩ = some (.int .i64 clo) := kp hb1 (by go_cell)
  have c_c2 : w1.cell? ⟨w.heap.size, 2, none⟩ = some (.int .i64 chi) := kp hb1 (by go_cell)
  have c_c3 : w1.cell? ⟨w.heap.size, 3, none⟩ = some (.int .i64 cdr) := kp hb1 (by go_cell)
  have c_d0 : w1.cell? ⟨w.heap.size + 1, 0, none⟩ = some (.int .i64 dl) := kp hb1 (by go_cell)
  have c_d1 : w1.cell? ⟨w.heap.size + 1, 1, none⟩ = some (.int .i64 dh) := kp hb1 (by go_cell)
  have c_y0 : w1.cell? ⟨w.heap.size + 1 + 1, 0, none⟩ = some (.int .i64 tlo) := kp hb1 (by go_cell)
  have c_y1 : w1.cell? ⟨w.heap.size + 1 + 1, 1, none⟩ = some (.int .i64 thi) := kp hb1 (by go_cell)
  clear hb1
  go_wp2_with fail
  refine (HV.out _ (HXS.out _ (by go_grown))).mono ?_
  rintro e w2 ⟨rfl, hb2⟩
  have hB2 : Below w.heap.size w w2 := below_after (by go_grown) hb2
  have hz2 := hb2.size
  try simp only [World.size_alloc, World.size_setCell, World.size_drew] at hz2
  have hw2 := hB2.size
  replace c_c0 : w2.cell? ⟨w.heap.size, 0, none⟩ = some (.int .i64 ct) := kp hb2 (by go_cell)
  replace c_c1 : w2.cell? ⟨w.heap.size, 1, none⟩ = some (.int .i64 clo) := kp hb2 (by go_cell)
  replace c_c2 : w2.cell? ⟨w.heap.size, 2, none⟩ = some (.int .i64 chi) := kp hb2 (by go_cell)
  replace c_c3 : w2.cell? ⟨w.heap.size, 3, none⟩ = some (.int .i64 cdr) := kp hb2 (by go_cell)
  replace c_d0 : w2.cell? ⟨w.heap.size + 1, 0, none⟩ = some (.int .i64 dl) := kp hb2 (by go_cell)
  replace c_d1 : w2.cell? ⟨w.heap.size + 1, 1, none⟩ = some (.int .i64 dh) := kp hb2 (by go_cell)
  replace c_y0 : w2.cell? ⟨w.heap.size + 1 + 1, 0, none⟩ = some (.int .i64 tlo) := kp hb2 (by go_cell)
  replace c_y1 : w2.cell? ⟨w.heap.size + 1 + 1, 1, none⟩ = some (.int .i64 thi) := kp hb2 (by go_cell)
  clear hb2 hB1
  obtain ⟨x0, x1, x2⟩ := rx.upto hB2 hlt
  obtain ⟨y0, _, _⟩ := ry.upto hB2 hlt
  have lt_c := World.block_lt_of_cell? _ _ c_c0
  simp only at lt_c
  have lt_d := World.block_lt_of_cell? _ _ c_d0
  simp only at lt_d
  have lt_y := World.block_lt_of_cell? _ _ c_y0
  simp only at lt_y
  have ha1 : Below w2.heap.size w2 (w2.alloc (.cells #[] 68)) := (Below.refl _ w2).alloc (Nat.le_refl _) _
  have HO := Lib.hid (own_emptyW w2 w2.heap.size (Nat.le_refl _))
  have HPa := Lib.hid (HPL.out _ (hB2.trans (ha1.mono hB2.size)))
  go_wp2_with (at_builtin; go_must (refine wpList_append_waters _ (by rfl) (.tmp 61) (.tmp 64) (by rfl) w2.heap.size w.heap.size _ 0 [] (by rfl) HO.out (some ⟨b, off, none⟩) (k + 1) c pre (by rfl) (by simp) HP.out HPa.out (by omega) (by simp) ?_))
  intro v1 w3 hown1 hg1 hat1
  have hB3 : Below w2.heap.size w2 w3 := ha1.grown hg1 (by simp) (by intro k9 hk9; simp only [Value.ownBlock, Option.some.injEq] at hk9; omega)
  have hob1 : ∀ k9, v1.ownBlock = some k9 → w2.heap.size ≤ k9 := fun k9 hk9 => (hown1.lt k9 hk9).1
  try simp only [Nat.zero_add, List.nil_append] at hown1
  have HO1 := Lib.hid hown1
  have HG1 := Lib.hid hob1
  have hz3 := hB3.size
  clear hown1 hg1 hat1 hob1 ha1 HO HPa
  have x0 : w3.cell? ⟨b, off + (k + 1) * 3, none⟩ = some (.int .i64 x.til) := (hB3.cell (p := ⟨b, off + (k + 1) * 3, none⟩) (by simp only; omega)).trans x0
  have x1 : w3.cell? ⟨b, off + (k + 1) * 3 + 1, none⟩ = some (.int .i64 x.lo) := (hB3.cell (p := ⟨b, off + (k + 1) * 3 + 1, none⟩) (by simp only; omega)).trans x1
  have x2 : w3.cell? ⟨b, off + (k + 1) * 3 + 2, none⟩ = some (.int .i64 x.hi) := (hB3.cell (p := ⟨b, off + (k + 1) * 3 + 2, none⟩) (by simp only; omega)).trans x2
  have hY : Wts? (w3.heap.size + 1) (w3.alloc (.cells #[.int .i64 at9, .int .i64 x.lo, .int .i64 x.hi] 68)) (some ⟨w3.heap.size, 0, none⟩) [(⟨at9, x.lo, x.hi⟩ : Wt)] := by
    have h9 : Wts? (w3.alloc (.cells #[.int .i64 at9, .int .i64 x.lo, .int .i64 x.hi] 68)).heap.size (w3.alloc (.cells #[.int .i64 at9, .int .i64 x.lo, .int .i64 x.hi] 68)) (some ⟨w3.heap.size, 0, none⟩) [(⟨at9, x.lo, x.hi⟩ : Wt)] := wts1 (by simp) ⟨by go_cell, by go_cell, by go_cell⟩
    simpa using h9
  have HY := Lib.hid hY
  clear hY
  have hB3a : Below w2.heap.size w2 (w3.alloc (.cells #[.int .i64 at9, .int .i64 x.lo, .int .i64 x.hi] 68)) := hB3.alloc hz3 _
  go_wp2_with (at_builtin; go_must (refine wpList_append_waters _ (by rfl) (.tmp 66) (.tmp 74) (by rfl) w2.heap.size (w3.heap.size + 1) v1 (k + 1) pre (by rfl) (HO1.out.alloc _) (some ⟨w3.heap.size, 0, none⟩) 1 1 [(⟨at9, x.lo, x.hi⟩ : Wt)] (by rfl) (by simp) rfl HY.out (by omega) hB3a.size ?_))
  intro v2 w4 hown2 hg2 hat2
  have hB4 : Below w2.heap.size w2 w4 := hB3a.grown hg2 hB3a.size HG1.out
  have hob2 : ∀ k9, v2.ownBlock = some k9 → w2.heap.size ≤ k9 := fun k9 hk9 => (hown2.lt k9 hk9).1
  have HO2 := Lib.hid hown2
  have HG2 := Lib.hid hob2
  have hz4 := hB4.size
  have HSa := Lib.hid (HSL.out _ (hB2.trans (hB4.mono hB2.size)))
  clear hown2 hg2 hat2 hob2 HO1 HG1 HY
  go_wp2_with (at_builtin; go_must (refine wpList_append_waters _ (by rfl) (.tmp 76) (.tmp 79) (by rfl) w2.heap.size w.heap.size v2 ((k + 1) + 1) (pre ++ [(⟨at9, x.lo, x.hi⟩ : Wt)]) (by rfl) HO2.out (some ⟨b, off + (k + 1) * 3, none⟩) (n - (k + 1)) (c - (k + 1)) (x :: suf) (by rfl) (by simp) HSN.out HSa.out (by omega) hz4 ?_))
  intro v3 w5 hown3 hg3 hat3
  have hB5 : Below w2.heap.size w2 w5 := hB4.grown hg3 hz4 HG2.out
  obtain ⟨C, k9, rfl, hlen, hnk, hr3⟩ := wts_of_own hown3
  have hz5 := hB5.size
  have HR3 := Lib.hid hr3
  have HLEN := Lib.hid hlen
  have hL9 : (k + 1) + 1 + (n - (k + 1)) ≤ 1000000 := by omega
  clear hown3 hg3 hat3 hr3 hlen HO2 HG2 x0 x1 x2
  generalize (k + 1) + 1 + (n - (k + 1)) = L at *
  have c_c0 : w5.cell? ⟨w.heap.size, 0, none⟩ = some (.int .i64 ct) := (hB5.cell (p := ⟨w.heap.size, 0, none⟩) lt_c).trans c_c0
  have c_c1 : w5.cell? ⟨w.heap.size, 1, none⟩ = some (.int .i64 clo) := (hB5.cell (p := ⟨w.heap.size, 1, none⟩) lt_c).trans c_c1
  have c_c2 : w5.cell? ⟨w.heap.size, 2, none⟩ = some (.int .i64 chi) := (hB5.cell (p := ⟨w.heap.size, 2, none⟩) lt_c).trans c_c2
  have c_c3 : w5.cell? ⟨w.heap.size, 3, none⟩ = some (.int .i64 cdr) := (hB5.cell (p := ⟨w.heap.size, 3, none⟩) lt_c).trans c_c3
  have c_d0 : w5.cell? ⟨w.heap.size + 1, 0, none⟩ = some (.int .i64 dl) := (hB5.cell (p := ⟨w.heap.size + 1, 0, none⟩) lt_d).trans c_d0
  have c_d1 : w5.cell? ⟨w.heap.size + 1, 1, none⟩ = some (.int .i64 dh) := (hB5.cell (p := ⟨w.heap.size + 1, 1, none⟩) lt_d).trans c_d1
  have c_y0 : w5.cell? ⟨w.heap.size + 1 + 1, 0, none⟩ = some (.int .i64 tlo) := (hB5.cell (p := ⟨w.heap.size + 1 + 1, 0, none⟩) lt_y).trans c_y0
  have c_y1 : w5.cell? ⟨w.heap.size + 1 + 1, 1, none⟩ = some (.int .i64 thi) := (hB5.cell (p := ⟨w.heap.size + 1 + 1, 1, none⟩) lt_y).trans c_y1
  have hB95 : Below w.heap.size w w5 := hB2.trans (hB5.mono hB2.size)
  have hw95 := hB95.size
  clear hB2 hB3 hB3a hB4 hB5
  have hR0 : Below w5.heap.size w5 w5 := Below.refl _ _
  go_wp2_with fail
  refine (HA.out _ (HXS.out _ (by go_grown))).mono ?_
  rintro e w96 ⟨rfl, hb96⟩
  have hB96 : Below w.heap.size w w96 := below_after (by go_grown) hb96
  have hz96 := hb96.size
  try simp only [World.size_alloc, World.size_setCell, World.size_drew] at hz96
  have hw96 := hB96.size
  replace c_c0 : w96.cell? ⟨w.heap.size, 0, none⟩ = some (.int .i64 ct) := kp hb96 (by go_cell)
  replace c_c1 : w96.cell? ⟨w.heap.size, 1, none⟩ = some (.int .i64 clo) := kp hb96 (by go_cell)
  replace c_c2 : w96.cell? ⟨w.heap.size, 2, none⟩ = some (.int .i64 chi) := kp hb96 (by go_cell)
  replace c_c3 : w96.cell? ⟨w.heap.size, 3, none⟩ = some (.int .i64 cdr) := kp hb96 (by go_cell)
  replace c_d0 : w96.cell? ⟨w.heap.size + 1, 0, none⟩ = some (.int .i64 dl) := kp hb96 (by go_cell)
  replace c_d1 : w96.cell? ⟨w.heap.size + 1, 1, none⟩ = some (.int .i64 dh) := kp hb96 (by go_cell)
  replace c_y0 : w96.cell? ⟨w.heap.size + 1 + 1, 0, none⟩ = some (.int .i64 tlo) := kp hb96 (by go_cell)
  replace c_y1 : w96.cell? ⟨w.heap.size + 1 + 1, 1, none⟩ = some (.int .i64 thi) := kp hb96 (by go_cell)
  have hR96 : Below w5.heap.size w5 w96 := below_after (by go_grown) hb96
  clear hb96 hB95
  go_wp2_with fail
  refine (HB.out C L k9 _ HLEN.out hL9 ((HR3.out.upto (show Below w5.heap.size w5 _ by go_grown)).mono (show w5.heap.size ≤ _ by go_size))).mono ?_
  rintro e w97 ⟨rfl, hb97⟩
  have hB97 : Below w.heap.size w w97 := below_after (by go_grown) hb97
  have hz97 := hb97.size
  try simp only [World.size_alloc, World.size_setCell, World.size_drew] at hz97
  have hw97 := hB97.size
  replace c_c0 : w97.cell? ⟨w.heap.size, 0, none⟩ = some (.int .i64 ct) := kp hb97 (by go_cell)
  replace c_c1 : w97.cell? ⟨w.heap.size, 1, none⟩ = some (.int .i64 clo) := kp hb97 (by go_cell)
  replace c_c2 : w97.cell? ⟨w.heap.size, 2, none⟩ = some (.int .i64 chi) := kp hb97 (by go_cell)
  replace c_c3 : w97.cell? ⟨w.heap.size, 3, none⟩ = some (.int .i64 cdr) := kp hb97 (by go_cell)
  replace c_d0 : w97.cell? ⟨w.heap.size + 1, 0, none⟩ = some (.int .i64 dl) := kp hb97 (by go_cell)
  replace c_d1 : w97.cell? ⟨w.heap.size + 1, 1, none⟩ = some (.int .i64 dh) := kp hb97 (by go_cell)
  replace c_y0 : w97.cell? ⟨w.heap.size + 1 + 1, 0, none⟩ = some (.int .i64 tlo) := kp hb97 (by go_cell)
  replace c_y1 : w97.cell? ⟨w.heap.size + 1 + 1, 1, none⟩ = some (.int .i64 thi) := kp hb97 (by go_cell)
  have f_s0 : w97.frozen? ⟨w96.heap.size, 0, none⟩ = false := kf hb97 (by go_simp) (by go_simp)
  have f_s1 : w97.frozen? ⟨w96.heap.size, 1, none⟩ = false := kf hb97 (by go_simp) (by go_simp)
  have c_s0 : w97.cell? ⟨w96.heap.size, 0, none⟩ = some (.int .i64 P1) := kp hb97 (by go_cell)
  have c_s1 : w97.cell? ⟨w96.heap.size, 1, none⟩ = some (.int .i64 P2) := kp hb97 (by go_cell)
  have hR97 : Below w5.heap.size w5 w97 := below_after (by go_grown) hb97
  clear hb97 hB96
  go_wp2_with fail
  refine (HC.out _ (HXS.out _ (by go_grown))).mono ?_
  rintro e w98 ⟨rfl, hb98⟩
  have hB98 : Below w.heap.size w w98 := below_after (by go_grown) hb98
  have hz98 := hb98.size
  try simp only [World.size_alloc, World.size_setCell, World.size_drew] at hz98
  have hw98 := hB98.size
  replace c_c0 : w98.cell? ⟨w.heap.size, 0, none⟩ = some (.int .i64 ct) := kp hb98 (by go_cell)
  replace c_c1 : w98.cell? ⟨w.heap.size, 1, none⟩ = some (.int .i64 clo) := kp hb98 (by go_cell)
  replace c_c2 : w98.cell? ⟨w.heap.size, 2, none⟩ = some (.int .i64 chi) := kp hb98 (by go_cell)
  replace c_c3 : w98.cell? ⟨w.heap.size, 3, none⟩ = some (.int .i64 cdr) := kp hb98 (by go_cell)
  replace c_d0 : w98.cell? ⟨w.heap.size + 1, 0, none⟩ = some (.int .i64 dl) := kp hb98 (by go_cell)
  replace c_d1 : w98.cell? ⟨w.heap.size + 1, 1, none⟩ = some (.int .i64 dh) := kp hb98 (by go_cell)
  replace c_y0 : w98.cell? ⟨w.heap.size + 1 + 1, 0, none⟩ = some (.int .i64 tlo) := kp hb98 (by go_cell)
  replace c_y1 : w98.cell? ⟨w.heap.size + 1 + 1, 1, none⟩ = some (.int .i64 thi) := kp hb98 (by go_cell)
  replace f_s0 : w98.frozen? ⟨w96.heap.size, 0, none⟩ = false := kf hb98 (by go_simp) (by go_simp)
  replace f_s1 : w98.frozen? ⟨w96.heap.size, 1, none⟩ = false := kf hb98 (by go_simp) (by go_simp)
  replace c_s0 : w98.cell? ⟨w96.heap.size, 0, none⟩ = some (.int .i64 P1) := kp hb98 (by go_cell)
  replace c_s1 : w98.cell? ⟨w96.heap.size, 1, none⟩ = some (.int .i64 P2) := kp hb98 (by go_cell)
  have f_u0 : w98.frozen? ⟨w97.heap.size, 0, none⟩ = false := kf hb98 (by go_simp) (by go_simp)
  have f_u1 : w98.frozen? ⟨w97.heap.size, 1, none⟩ = false := kf hb98 (by go_simp) (by go_simp)
  have c_u0 : w98.cell? ⟨w97.heap.size, 0, none⟩ = some (.int .i64 P1) := kp hb98 (by go_cell)
  have c_u1 : w98.cell? ⟨w97.heap.size, 1, none⟩ = some (.int .i64 P2) := kp hb98 (by go_cell)
  have hR98 : Below w5.heap.size w5 w98 := below_after (by go_grown) hb98
  clear hb98 hB97
  go_wp2_with fail
  refine (HD.out C L k9 _ HLEN.out hL9 ((HR3.out.upto (show Below w5.heap.size w5 _ by go_grown)).mono (show w5.heap.size ≤ _ by go_size))).mono ?_
  rintro e w99 ⟨rfl, hb99⟩
  have hB99 : Below w.heap.size w w99 := below_after (by go_grown) hb99
  have hz99 := hb99.size
  try simp only [World.size_alloc, World.size_setCell, World.size_drew] at hz99
  have hw99 := hB99.size
  replace c_c0 : w99.cell? ⟨w.heap.size, 0, none⟩ = some (.int .i64 ct) := kp hb99 (by go_cell)
  replace c_c1 : w99.cell? ⟨w.heap.size, 1, none⟩ = some (.int .i64 clo) := kp hb99 (by go_cell)
  replace c_c2 : w99.cell? ⟨w.heap.size, 2, none⟩ = some (.int .i64 chi) := kp hb99 (by go_cell)
  replace c_c3 : w99.cell? ⟨w.heap.size, 3, none⟩ = some (.int .i64 cdr) := kp hb99 (by go_cell)
  replace c_d0 : w99.cell? ⟨w.heap.size + 1, 0, none⟩ = some (.int .i64 dl) := kp hb99 (by go_cell)
  replace c_d1 : w99.cell? ⟨w.heap.size + 1, 1, none⟩ = some (.int .i64 dh) := kp hb99 (by go_cell)
  replace c_y0 : w99.cell? ⟨w.heap.size + 1 + 1, 0, none⟩ = some (.int .i64 tlo) := kp hb99 (by go_cell)
  replace c_y1 : w99.cell? ⟨w.heap.size + 1 + 1, 1, none⟩ = some (.int .i64 thi) := kp hb99 (by go_cell)
  replace f_s0 : w99.frozen? ⟨w96.heap.size, 0, none⟩ = false := kf hb99 (by go_simp) (by go_simp)
  replace f_s1 : w99.frozen? ⟨w96.heap.size, 1, none⟩ = false := kf hb99 (by go_simp) (by go_simp)
  replace c_s0 : w99.cell? ⟨w96.heap.size, 0, none⟩ = some (.int .i64 R1) := kp hb99 (by go_cell)
  replace c_s1 : w99.cell? ⟨w96.heap.size, 1, none⟩ = some (.int .i64 R2) := kp hb99 (by go_cell)
  replace f_u0 : w99.frozen? ⟨w97.heap.size, 0, none⟩ = false := kf hb99 (by go_simp) (by go_simp)
  replace f_u1 : w99.frozen? ⟨w97.heap.size, 1, none⟩ = false := kf hb99 (by go_simp) (by go_simp)
  replace c_u0 : w99.cell? ⟨w97.heap.size, 0, none⟩ = some (.int .i64 P1) := kp hb99 (by go_cell)
  replace c_u1 : w99.cell? ⟨w97.heap.size, 1, none⟩ = some (.int .i64 P2) := kp hb99 (by go_cell)
  have hR99 : Below w5.heap.size w5 w99 := below_after (by go_grown) hb99
  clear hb99 hB98
  go_wp2_with fail
  refine (HE.out C L k9 _ HLEN.out ((HR3.out.upto (show Below w5.heap.size w5 _ by go_grown)).mono (show w5.heap.size ≤ _ by go_size))).mono ?_
  rintro e w100 ⟨rfl, hb100⟩
  have hB100 : Below w.heap.size w w100 := below_after (by go_grown) hb100
  have hz100 := hb100.size
  try simp only [World.size_alloc, World.size_setCell, World.size_drew] at hz100
  have hw100 := hB100.size
  replace c_c0 : w100.cell? ⟨w.heap.size, 0, none⟩ = some (.int .i64 ct) := kp hb100 (by go_cell)
  replace c_c1 : w100.cell? ⟨w.heap.size, 1, none⟩ = some (.int .i64 clo) := kp hb100 (by go_cell)
  replace c_c2 : w100.cell? ⟨w.heap.size, 2, none⟩ = some (.int .i64 chi) := kp hb100 (by go_cell)
  replace c_c3 : w100.cell? ⟨w.heap.size, 3, none⟩ = some (.int .i64 cdr) := kp hb100 (by go_cell)
  replace c_d0 : w100.cell? ⟨w.heap.size + 1, 0, none⟩ = some (.int .i64 dl) := kp hb100 (by go_cell)
  replace c_d1 : w100.cell? ⟨w.heap.size + 1, 1, none⟩ = some (.int .i64 dh) := kp hb100 (by go_cell)
  replace c_y0 : w100.cell? ⟨w.heap.size + 1 + 1, 0, none⟩ = some (.int .i64 tlo) := kp hb100 (by go_cell)
  replace c_y1 : w100.cell? ⟨w.heap.size + 1 + 1, 1, none⟩ = some (.int .i64 thi) := kp hb100 (by go_cell)
  replace f_s0 : w100.frozen? ⟨w96.heap.size, 0, none⟩ = false := kf hb100 (by go_simp) (by go_simp)
  replace f_s1 : w100.frozen? ⟨w96.heap.size, 1, none⟩ = false := kf hb100 (by go_simp) (by go_simp)
  replace c_s0 : w100.cell? ⟨w96.heap.size, 0, none⟩ = some (.int .i64 R1) := kp hb100 (by go_cell)
  replace c_s1 : w100.cell? ⟨w96.heap.size, 1, none⟩ = some (.int .i64 R2) := kp hb100 (by go_cell)
  replace f_u0 : w100.frozen? ⟨w97.heap.size, 0, none⟩ = false := kf hb100 (by go_simp) (by go_simp)
  replace f_u1 : w100.frozen? ⟨w97.heap.size, 1, none⟩ = false := kf hb100 (by go_simp) (by go_simp)
  replace c_u0 : w100.cell? ⟨w97.heap.size, 0, none⟩ = some (.int .i64 R1) := kp hb100 (by go_cell)
  replace c_u1 : w100.cell? ⟨w97.heap.size, 1, none⟩ = some (.int .i64 R2) := kp hb100 (by go_cell)
  have hR100 : Below w5.heap.size w5 w100 := below_after (by go_grown) hb100
  clear hb100 hB99
  go_wp2_with fail
  go_ret
  exact ⟨rfl, by go_grown⟩
theorem split2 : ∀ (xs : List Wt) (j : Nat), j < xs.length → ∃ pre y suf, xs = pre ++ y :: suf ∧ pre.length = j
  | y :: suf, 0, _ => ⟨[], y, suf, rfl, rfl⟩
  | r :: xs, j + 1, h => by
    obtain ⟨pre, y, suf, e, hp⟩ := split2 xs j (by simpa using h)
    exact ⟨r :: pre, y, suf, by rw [e]; rfl, by simp [hp]⟩
  | [], j, h => by simp at h
theorem div_walk (A : Option Addr) (n c : Nat) (xs : List Wt) (q at9 ct clo chi cdr dl dh tlo thi sent got : Int) (w : World) (hn : xs.length = n) (hnc : n ≤ c) (hx : Wts? w.heap.size w A xs) (hq0 : 0 ≤ q) (hq1 : q ≤ 255) : Calls Try.prog 22 #[.slice A n c, .int .u8 q, .int .i64 at9, .agg #[.int .i64 ct, .int .i64 clo, .int .i64 chi, .int .i64 cdr], .agg #[.int .i64 dl, .int .i64 dh], .agg #[.int .i64 tlo, .int .i64 thi], .int .i64 sent, .int .i64 got] w fun e w' => e = .returned (.bool true) ∧ Below w.heap.size w w' := by
  by_cases h19 : n ≤ 19
  · cases hv : wValid xs with
    | false => exact div_inv A n c xs q at9 ct clo chi cdr dl dh tlo thi sent got w hn hx h19 hv
    | true =>
      have v0 := ((wValid_iff xs).1 hv).1
      have m1 : 0 ≤ q % (n : Int) := Int.emod_nonneg _ (by omega)
      have m2 : q % (n : Int) < (n : Int) := Int.emod_lt_of_pos _ (by omega)
      have hq : q.tmod (n : Int) = ((q % (n : Int)).toNat : Int) := by rw [Int.tmod_eq_emod_of_nonneg hq0]; exact (Int.toNat_of_nonneg m1).symm
      have hj : (q % (n : Int)).toNat < n := by omega
      generalize (q % (n : Int)).toNat = j at hq hj
      obtain ⟨pre, x, suf, ex, hp⟩ := split2 xs j (by omega)
      obtain ⟨b, off, rfl, _⟩ := hx (by omega)
      have hfr : frm xs j = lastT 0 pre := by rw [ex, ← hp]; exact frm_pre pre _
      cases j with
      | zero =>
        have hf0 : lastT 0 pre = 0 := by rw [← hfr]; rfl
        by_cases ha : at9 ≤ 0
        · exact div_z_lo b off n c xs pre q at9 ct clo chi cdr dl dh tlo thi sent got w hn hnc hx h19 hv hq0 hq1 hq hp suf x ex ha
        · by_cases hb : x.til ≤ at9
          · exact div_z_hi b off n c xs pre q at9 ct clo chi cdr dl dh tlo thi sent got w hn hnc hx h19 hv hq0 hq1 hq hp suf x ex ha hb
          · exact div_z_go b off n c xs pre q at9 ct clo chi cdr dl dh tlo thi sent got w hn hnc hx h19 hv hq0 hq1 hq hp suf x ex hf0 (by omega) (by omega)
      | succ k =>
        obtain ⟨y, hy⟩ : ∃ y, pre[k]? = some y := ⟨_, List.getElem?_eq_getElem (by omega)⟩
        have hf0 : lastT 0 pre = y.til := by
          rw [← hfr, frm_succ (x := y) (by rw [ex, List.getElem?_append_left (by omega)]; exact hy)]
        have hq' : q.tmod (n : Int) = (k : Int) + 1 := by rw [hq]; omega
        by_cases ha : at9 ≤ y.til
        · exact div_s_lo b off n c xs pre q at9 ct clo chi cdr dl dh tlo thi sent got w hn hnc hx h19 hv hq0 hq1 k hq' hp y hy suf x ex ha
        · by_cases hb : x.til ≤ at9
          · exact div_s_hi b off n c xs pre q at9 ct clo chi cdr dl dh tlo thi sent got w hn hnc hx h19 hv hq0 hq1 k hq' hp y hy suf x ex ha hb
          · exact div_s_go b off n c xs pre q at9 ct clo chi cdr dl dh tlo thi sent got w hn hnc hx h19 hv hq0 hq1 k hq' hp y hy suf x ex hf0 (by omega) (by omega)
  · exact div_many A n c xs q at9 ct clo chi cdr dl dh tlo thi sent got w (by omega)
end Go.Proofs.Ytollpjdnahemeaa
