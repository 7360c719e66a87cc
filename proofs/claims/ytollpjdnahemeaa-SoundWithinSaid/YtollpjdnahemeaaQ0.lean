import Derived.Test.YtollpjdnahemeaaC1
namespace Go.Proofs.Ytollpjdnahemeaa
open Go.RowKit
set_option linter.unusedSimpArgs false
set_option linter.unusedVariables false

/-- a layer of the water -/
structure Wt where
  til : Int
  lo : Int
  hi : Int
deriving DecidableEq, Inhabited
def Wt.cs (r : Wt) : List Value := [.int .i64 r.til, .int .i64 r.lo, .int .i64 r.hi]
abbrev Wt.val (r : Wt) : Value := .agg #[.int .i64 r.til, .int .i64 r.lo, .int .i64 r.hi]

/-- the layers, each with the depth at which it begins -/
def lay : Int → List Wt → List (Int × Wt)
  | _, [] => []
  | fr, x :: xs => (fr, x) :: lay x.til xs
/-- the depth at which layer k begins -/
def frm (xs : List Wt) (k : Nat) : Int := if k = 0 then 0 else (xs[k - 1]?.map Wt.til).getD 0
theorem lay_length : ∀ (fr : Int) (xs : List Wt), (lay fr xs).length = xs.length
  | _, [] => rfl
  | fr, x :: xs => by simp [lay, lay_length x.til xs]
theorem lay_get : ∀ (xs : List Wt) (fr : Int) (k : Nat), (lay fr xs)[k]? = xs[k]?.map fun x => ((if k = 0 then fr else (xs[k - 1]?.map Wt.til).getD 0), x)
  | [], fr, k => by simp [lay]
  | x :: xs, fr, 0 => rfl
  | x :: xs, fr, k + 1 => by
    have h := lay_get xs x.til k
    simp only [lay, List.getElem?_cons_succ, h, Nat.add_sub_cancel, Nat.add_one_ne_zero, if_false]
    cases k with
    | zero => simp
    | succ k => simp
theorem lay_at {xs : List Wt} {k : Nat} {x : Wt} (h : xs[k]? = some x) : (lay 0 xs)[k]? = some (frm xs k, x) := by rw [lay_get, h]; rfl
theorem frm_succ {xs : List Wt} {k : Nat} {x : Wt} (h : xs[k]? = some x) : frm xs (k + 1) = x.til := by simp [frm, h]
theorem mem_lay {xs : List Wt} {p : Int × Wt} (h : p ∈ lay 0 xs) : ∃ k, k < xs.length ∧ xs[k]? = some p.2 ∧ p.1 = frm xs k := by
  obtain ⟨k, hk, e⟩ := List.getElem_of_mem h
  rw [lay_length] at hk
  have h1 : xs[k]? = some (xs[k]'hk) := List.getElem?_eq_getElem _
  have h2 := lay_at h1
  rw [List.getElem?_eq_getElem (by rw [lay_length]; exact hk), e] at h2
  cases h2
  exact ⟨k, hk, h1, rfl⟩
theorem lay_mem {xs : List Wt} {k : Nat} {x : Wt} (h : xs[k]? = some x) : (frm xs k, x) ∈ lay 0 xs := List.mem_of_getElem? (lay_at h)

def okP (p : Int × Wt) : Bool := decide (p.1 < p.2.til) && decide (1 ≤ p.2.lo) && decide (p.2.lo ≤ p.2.hi) && decide (p.2.hi ≤ 20000)
def tchP (dlo dhi : Int) (p : Int × Wt) : Bool := decide (dlo ≤ p.2.til) && decide (p.1 ≤ dhi)
def wValid (xs : List Wt) : Bool := decide (0 < xs.length) && decide (xs.length ≤ 20) && decide (frm xs xs.length = 100000) && (lay 0 xs).all okP
def depB (lo hi : Int) : Bool := decide (0 ≤ lo) && decide (lo ≤ hi) && decide (hi ≤ 100000)
def timB (lo hi : Int) : Bool := decide (0 ≤ lo) && decide (lo ≤ hi) && decide (hi ≤ 1000000000)
theorem okP_iff (p : Int × Wt) : okP p = true ↔ (p.1 < p.2.til ∧ 1 ≤ p.2.lo ∧ p.2.lo ≤ p.2.hi ∧ p.2.hi ≤ 20000) := by simp [okP]; omega
theorem tchP_iff (dlo dhi : Int) (p : Int × Wt) : tchP dlo dhi p = true ↔ (dlo ≤ p.2.til ∧ p.1 ≤ dhi) := by simp [tchP]
theorem depB_iff (lo hi : Int) : depB lo hi = true ↔ (0 ≤ lo ∧ lo ≤ hi ∧ hi ≤ 100000) := by simp [depB]; omega
theorem timB_iff (lo hi : Int) : timB lo hi = true ↔ (0 ≤ lo ∧ lo ≤ hi ∧ hi ≤ 1000000000) := by simp [timB]; omega
theorem wValid_iff (xs : List Wt) : wValid xs = true ↔ (0 < xs.length ∧ xs.length ≤ 20 ∧ frm xs xs.length = 100000 ∧ ∀ p ∈ lay 0 xs, okP p = true) := by
  simp only [wValid, Bool.and_eq_true, decide_eq_true_eq, List.all_eq_true]
  constructor
  · rintro ⟨⟨⟨a, b⟩, c⟩, d⟩; exact ⟨a, b, c, d⟩
  · rintro ⟨a, b, c, d⟩; exact ⟨⟨⟨a, b⟩, c⟩, d⟩

/-- the least span that has all others -/
def stepS (o s : Int × Int) : Int × Int := if o.2 = 0 then s else (min o.1 s.1, max o.2 s.2)
def sp1 (l : List (Int × Int)) : Int × Int := l.foldl stepS (0, 0)
def SpOk (s : Int × Int) : Prop := 1 ≤ s.1 ∧ s.1 ≤ s.2 ∧ s.2 ≤ 20000
def IsBox (l : List (Int × Int)) (r : Int × Int) : Prop := (∀ s ∈ l, r.1 ≤ s.1 ∧ s.2 ≤ r.2) ∧ (∃ s ∈ l, s.1 = r.1) ∧ (∃ s ∈ l, s.2 = r.2)
theorem stepS_ok {o s : Int × Int} (ho : SpOk o) (hs : SpOk s) : stepS o s = (min o.1 s.1, max o.2 s.2) := by
  unfold stepS; rw [if_neg]; unfold SpOk at *; omega
theorem stepS_keeps {o s : Int × Int} (ho : SpOk o) (hs : SpOk s) : SpOk (stepS o s) := by
  rw [stepS_ok ho hs]; unfold SpOk at *; simp only; omega
theorem fold_box : ∀ (l : List (Int × Int)) (o : Int × Int), SpOk o → (∀ s ∈ l, SpOk s) → IsBox (o :: l) (l.foldl stepS o)
  | [], o, ho, _ => ⟨by simp, ⟨o, by simp, rfl⟩, ⟨o, by simp, rfl⟩⟩
  | s :: l, o, ho, hl => by
    have hs := hl s (by simp)
    obtain ⟨h1, ⟨a, ha, ea⟩, ⟨b, hb, eb⟩⟩ := fold_box l (stepS o s) (stepS_keeps ho hs) (fun t ht => hl t (by simp [ht]))
    rw [List.foldl_cons]
    generalize l.foldl stepS (stepS o s) = r at *
    have e := stepS_ok ho hs
    have h0 := h1 _ (List.mem_cons_self ..)
    rw [e] at h0 ha hb
    refine ⟨?_, ?_, ?_⟩
    · intro t ht
      simp only [List.mem_cons] at ht
      rcases ht with rfl | rfl | ht
      · have g1 := h0.1
        have g2 := h0.2
        simp only at g1 g2
        constructor <;> omega
      · have g1 := h0.1
        have g2 := h0.2
        simp only at g1 g2
        constructor <;> omega
      · exact h1 t (by simp [ht])
    · simp only [List.mem_cons] at ha
      rcases ha with rfl | ha
      · simp only at ea
        by_cases hc : o.1 ≤ s.1
        · exact ⟨o, by simp, by omega⟩
        · exact ⟨s, by simp, by omega⟩
      · exact ⟨a, by simp [ha], ea⟩
    · simp only [List.mem_cons] at hb
      rcases hb with rfl | hb
      · simp only at eb
        by_cases hc : s.2 ≤ o.2
        · exact ⟨o, by simp, by omega⟩
        · exact ⟨s, by simp, by omega⟩
      · exact ⟨b, by simp [hb], eb⟩
theorem sp1_cons (s : Int × Int) (l : List (Int × Int)) : sp1 (s :: l) = l.foldl stepS s := by simp [sp1, stepS]
theorem sp1_box {l : List (Int × Int)} (hn : l ≠ []) (h : ∀ s ∈ l, SpOk s) : IsBox l (sp1 l) := by
  cases l with
  | nil => exact absurd rfl hn
  | cons s l => rw [sp1_cons]; exact fold_box l s (h s (by simp)) (fun t ht => h t (by simp [ht]))
theorem IsBox.ok {l : List (Int × Int)} {r : Int × Int} (hb : IsBox l r) (h : ∀ s ∈ l, SpOk s) : SpOk r := by
  obtain ⟨h1, ⟨a, ha, ea⟩, ⟨b, hb, eb⟩⟩ := hb
  have g1 := h1 a ha
  have g2 := h a ha
  have g3 := h b hb
  unfold SpOk at *
  omega
theorem IsBox.within {l l' : List (Int × Int)} {r r' : Int × Int} (hb : IsBox l r) (hb' : IsBox l' r') (h : ∀ s ∈ l, s ∈ l') : r'.1 ≤ r.1 ∧ r.2 ≤ r'.2 := by
  obtain ⟨h1, ⟨a, ha, ea⟩, ⟨b, hb, eb⟩⟩ := hb
  have g1 := hb'.1 a (h a ha)
  have g2 := hb'.1 b (h b hb)
  omega
theorem IsBox.unique {l l' : List (Int × Int)} {r r' : Int × Int} (hb : IsBox l r) (hb' : IsBox l' r') (h : ∀ s, s ∈ l ↔ s ∈ l') : r = r' := by
  have g1 := hb.within hb' (fun s hs => (h s).1 hs)
  have g2 := hb'.within hb (fun s hs => (h s).2 hs)
  exact Prod.ext (by omega) (by omega)

/-- the speeds of the layers that depths touch -/
def spOf (p : Int × Wt) : Int × Int := (p.2.lo, p.2.hi)
def tl (dlo dhi : Int) (ls : List (Int × Wt)) : List (Int × Int) := (ls.filter (tchP dlo dhi)).map spOf
def speedP (dlo dhi : Int) (xs : List Wt) : Int × Int := sp1 (tl dlo dhi (lay 0 xs))
theorem mem_tl {dlo dhi : Int} {ls : List (Int × Wt)} {s : Int × Int} : s ∈ tl dlo dhi ls ↔ ∃ p, p ∈ ls ∧ dlo ≤ p.2.til ∧ p.1 ≤ dhi ∧ s = (p.2.lo, p.2.hi) := by
  simp only [tl, List.mem_map, List.mem_filter, tchP_iff, spOf]
  constructor
  · rintro ⟨p, ⟨h1, h2, h3⟩, rfl⟩; exact ⟨p, h1, h2, h3, rfl⟩
  · rintro ⟨p, h1, h2, h3, rfl⟩; exact ⟨p, ⟨h1, h2, h3⟩, rfl⟩
theorem tl_snoc_hit (dlo dhi : Int) (pre : List (Int × Wt)) (p : Int × Wt) (h : tchP dlo dhi p = true) : tl dlo dhi (pre ++ [p]) = tl dlo dhi pre ++ [(p.2.lo, p.2.hi)] := by simp [tl, h, spOf]
theorem tl_snoc_miss (dlo dhi : Int) (pre : List (Int × Wt)) (p : Int × Wt) (h : tchP dlo dhi p = false) : tl dlo dhi (pre ++ [p]) = tl dlo dhi pre := by simp [tl, h]
theorem tl_length (dlo dhi : Int) (ls : List (Int × Wt)) : (tl dlo dhi ls).length ≤ ls.length := by simp only [tl, List.length_map]; exact List.length_filter_le _ _
def lastT : Int → List Wt → Int
  | fr, [] => fr
  | _, x :: xs => lastT x.til xs
theorem lastT_frm : ∀ (xs : List Wt) (fr : Int), xs ≠ [] → lastT fr xs = (xs[xs.length - 1]?.map Wt.til).getD 0
  | [], fr, h => absurd rfl h
  | [x], fr, _ => rfl
  | x :: y :: xs, fr, _ => by
    have := lastT_frm (y :: xs) x.til (by simp)
    simp only [lastT, List.length_cons, Nat.add_sub_cancel, List.getElem?_cons_succ] at this ⊢
    exact this
theorem touch_some : ∀ (xs : List Wt) (fr d : Int), fr ≤ d → d ≤ lastT fr xs → xs ≠ [] → ∃ p ∈ lay fr xs, p.1 ≤ d ∧ d ≤ p.2.til
  | [], fr, d, _, _, h => absurd rfl h
  | x :: xs, fr, d, h1, h2, _ => by
    by_cases hd : d ≤ x.til
    · exact ⟨(fr, x), by simp [lay], h1, hd⟩
    · cases xs with
      | nil => exact absurd h2 hd
      | cons y ys =>
        obtain ⟨p, hp, h3⟩ := touch_some (y :: ys) x.til d (by omega) h2 (by simp)
        exact ⟨p, by rw [lay]; exact List.mem_cons_of_mem _ hp, h3⟩
theorem tl_ok {xs : List Wt} {dlo dhi : Int} (hv : wValid xs = true) : ∀ s ∈ tl dlo dhi (lay 0 xs), SpOk s := by
  intro s hs
  obtain ⟨p, hp, _, _, rfl⟩ := mem_tl.1 hs
  have := (okP_iff p).1 (((wValid_iff xs).1 hv).2.2.2 p hp)
  unfold SpOk; simp only; omega
theorem tl_ne {xs : List Wt} {dlo dhi : Int} (hv : wValid xs = true) (hd : depB dlo dhi = true) : tl dlo dhi (lay 0 xs) ≠ [] := by
  have v := (wValid_iff xs).1 hv
  have d := (depB_iff dlo dhi).1 hd
  have hne : xs ≠ [] := by intro e; rw [e] at v; simp at v
  have hl : lastT 0 xs = 100000 := by
    rw [lastT_frm xs 0 hne, ← v.2.2.1, frm, if_neg (by omega)]
  obtain ⟨p, hp, h1, h2⟩ := touch_some xs 0 dlo d.1 (by omega) hne
  intro e
  have hm : (p.2.lo, p.2.hi) ∈ tl dlo dhi (lay 0 xs) := mem_tl.2 ⟨p, hp, h2, by omega, rfl⟩
  rw [e] at hm
  exact absurd hm (by simp)
theorem speedP_box {xs : List Wt} {dlo dhi : Int} (hv : wValid xs = true) (hd : depB dlo dhi = true) : IsBox (tl dlo dhi (lay 0 xs)) (speedP dlo dhi xs) := sp1_box (tl_ne hv hd) (tl_ok hv)
theorem speedP_ok {xs : List Wt} {dlo dhi : Int} (hv : wValid xs = true) (hd : depB dlo dhi = true) : SpOk (speedP dlo dhi xs) := (speedP_box hv hd).ok (tl_ok hv)

/-- what the functions return -/
def speedS (xs : List Wt) (dlo dhi : Int) : Int × Int × Int := if wValid xs && depB dlo dhi then ((speedP dlo dhi xs).1, (speedP dlo dhi xs).2, 0) else (0, 0, 1)
def distsS (slo shi tlo thi by9 : Int) : Int × Int × Int := if 100000 < (shi * thi + (by9 - 1)) / by9 then (0, 0, 3) else (slo * tlo / by9, (shi * thi + (by9 - 1)) / by9, 0)
def distS (xs : List Wt) (dlo dhi tlo thi : Int) : Int × Int × Int := if wValid xs && depB dlo dhi && timB tlo thi then distsS (speedP dlo dhi xs).1 (speedP dlo dhi xs).2 tlo thi 1000 else (0, 0, 1)
def wrS (dr g : Int) : Int := (dr * g + 999999) / 1000000
def twoB (xs : List Wt) (ct clo chi cdr dlo dhi sent got tlo thi : Int) : Bool := wValid xs && depB dlo dhi && clkB ct clo chi cdr && readB sent && readB got && decide (sent ≤ got) && timB tlo thi
def twoR (sp : Int × Int) (dr g tlo thi : Int) : Int × Int × Int :=
  if g + wrS dr g - tlo < 0 then (0, 0, 4) else distsS sp.1 sp.2 (max (max (g - wrS dr g) 0 - thi) 0) (g + wrS dr g - tlo) 2000
def twoS (xs : List Wt) (ct clo chi cdr dlo dhi sent got tlo thi : Int) : Int × Int × Int :=
  if twoB xs ct clo chi cdr dlo dhi sent got tlo thi then twoR (speedP dlo dhi xs) cdr (got - sent) tlo thi else (0, 0, 1)
end Go.Proofs.Ytollpjdnahemeaa
