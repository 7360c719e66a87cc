import Derived.Test.YtnhdnkeiijiiaaaGreatA17
import Derived.BigRegion
namespace Go.Proofs.YtnhdnkeiijiiaaaGreat
open Go.RowKit Go.Shelf
set_option linter.unusedSimpArgs false
set_option linter.unusedVariables false
attribute [local go_sem ↓] Go.wp_at_zero Go.wp_at_succ
/-- the box so far -/
def loF (a : Pt) (r : List Pt) : Pt := ⟨min a.x (minL Pt.x r), min a.y (minL Pt.y r)⟩
def hiF (a : Pt) (r : List Pt) : Pt := ⟨max a.x (maxL Pt.x r), max a.y (maxL Pt.y r)⟩
def loS : List (List Pt) → Pt
  | [] => ⟨0, 0⟩
  | r :: rs => rs.foldl loF ⟨minL Pt.x r, minL Pt.y r⟩
def hiS : List (List Pt) → Pt
  | [] => ⟨0, 0⟩
  | r :: rs => rs.foldl hiF ⟨maxL Pt.x r, maxL Pt.y r⟩
theorem loS_snoc (l : List (List Pt)) (r : List Pt) : loS (l ++ [r]) = loF (if l = [] then ⟨minL Pt.x r, minL Pt.y r⟩ else loS l) r := by
  cases l with
  | nil => simp [loS, loF]
  | cons a l => simp [loS]
theorem hiS_snoc (l : List (List Pt)) (r : List Pt) : hiS (l ++ [r]) = hiF (if l = [] then ⟨maxL Pt.x r, maxL Pt.y r⟩ else hiS l) r := by
  cases l with
  | nil => simp [hiS, hiF]
  | cons a l => simp [hiS]
theorem put2 {W : World} {B t : Nat} {a b c d : Value} (h : W.heap[B]? = some (.cells #[a, b] t (0, 0))) : ((W.setCell ⟨B, 0, none⟩ c).setCell ⟨B, 1, none⟩ d).heap[B]? = some (.cells #[c, d] t (0, 0)) :=
  heap_setCell_same _ B 1 _ t _ (heap_setCell_same W B 0 _ t _ h)
theorem put2_other {W : World} {B k : Nat} {c d : Value} {o : Obj} (h : W.heap[k]? = some o) (hn : k ≠ B) : ((W.setCell ⟨B, 0, none⟩ c).setCell ⟨B, 1, none⟩ d).heap[k]? = some o :=
  (Below.heap_setCell _ ⟨B, 1, none⟩ _ _ hn).trans ((Below.heap_setCell _ ⟨B, 0, none⟩ _ _ hn).trans h)
theorem put2_below {W w : World} {B n₀ : Nat} {c d : Value} (h : Below n₀ w W) (hn : n₀ ≤ B) : Below n₀ w ((W.setCell ⟨B, 0, none⟩ c).setCell ⟨B, 1, none⟩ d) :=
  (h.setCell (p := ⟨B, 0, none⟩) hn _).setCell (p := ⟨B, 1, none⟩) hn _
theorem cells2 {W : World} {B t : Nat} {a b : Value} (h : W.heap[B]? = some (.cells #[a, b] t (0, 0))) : W.cell? ⟨B, 0, none⟩ = some a ∧ W.cell? ⟨B, 1, none⟩ = some b ∧ W.frozen? ⟨B, 0, none⟩ = false ∧ W.frozen? ⟨B, 1, none⟩ = false := by
  simp [World.cell?, World.frozen?, h]
set_option maxHeartbeats 3200000 in
set_option maxRecDepth 100000 in
theorem rBox_ok (A : Option Addr) (n c : Nat) (rs : List (List Pt)) (w : World) (hn : rs.length = n) (hx : Reg? w.heap.size w A rs) (hv : regB rs = true) :
    Calls Tryz.prog 21 #[.slice A n c] w fun e w' => e = .returned (.tuple #[(loS rs).val, (hiS rs).val, .bool (decide (0 < n)), .int .i64 0]) ∧ Below w.heap.size w w' := by
  obtain ⟨h32, hvv⟩ := regB_iff.1 hv
  have hI : Oks64 rs := fun r hr => ok64_of_pl (pl_of_valid (hvv r hr))
  have v1 := fun W (hB : Below w.heap.size w W) => rValid_any A n c rs W hn (by omega) (hx.later hB) hI
  rw [hv] at v1
  have hnI : (n : Int) ≤ 32 := by omega
  have V1 := Lib.hid v1
  have HX := Lib.hid hx
  have HN := Lib.hid hn
  have HV := Lib.hid hvv
  have HI := Lib.hid hI
  clear v1 hx hn hv hvv hI
  go_enter Tryz.func21, Tryz.ntmps21
  go_wp2_with fail
  refine (V1.out _ (by go_grown)).mono ?_
  rintro e w1 ⟨rfl, hb1⟩
  have hB1 : Below w.heap.size w w1 := below_after (by go_grown) hb1
  have k0 : w1.heap[w.heap.size]? = some (.cells #[.int .i64 0, .int .i64 0] 23 (0, 0)) := (hb1.block _ (by simp; omega)).trans (alloc_old (alloc_at rfl))
  have k1 : w1.heap[w.heap.size + 1]? = some (.cells #[.int .i64 0, .int .i64 0] 23 (0, 0)) := (hb1.block _ (by simp)).trans (alloc_at (by simp))
  have hz1 := hb1.size
  simp only [World.size_alloc] at hz1
  clear hb1
  go_wp2_with fail
  go_loopg [18] (n + 1) (fun g s18 wr => ∃ k : Nat, k ≤ n ∧ g + k = n + 1 ∧ s18 = .int .i64 k ∧ Below w.heap.size w wr ∧ w.heap.size + 2 ≤ wr.heap.size ∧
    wr.heap[w.heap.size]? = some (.cells #[.int .i64 (loS (rs.take k)).x, .int .i64 (loS (rs.take k)).y] 23 (0, 0)) ∧ wr.heap[w.heap.size + 1]? = some (.cells #[.int .i64 (hiS (rs.take k)).x, .int .i64 (hiS (rs.take k)).y] 23 (0, 0)))
  case atStart => exact ⟨0, by omega, by omega, rfl, hB1, hz1, k0, k1⟩
  case round =>
    clear hB1 k0 k1 hz1
    obtain ⟨k, hk, hg, rfl, hBr, hsz, t0, t1⟩ := hrel
    by_cases hlt : k < n
    · obtain ⟨b, off, rfl, hlt0, Ai, ci, hcell, hpt⟩ := HX.out.at (i := k) (by rw [HN.out]; exact hlt)
      have hgk := at_some (d := []) (xs := rs) (i := k) (by rw [HN.out]; exact hlt)
      have hrm := List.mem_of_getElem? hgk
      replace hcell := (hBr.cell (p := ⟨b, off + k, none⟩) hlt0).trans hcell
      have hv := hBox_ok Ai _ ci (rs.getD k []) wr rfl ((hpt.upto hBr).mono hBr.size) (HI.out _ hrm) (HV.out _ hrm)
      have htk : rs.take (k + 1) = rs.take k ++ [rs.getD k []] := by rw [List.take_add_one, hgk]; rfl
      have hlo := loS_snoc (rs.take k) (rs.getD k [])
      have hhi := hiS_snoc (rs.take k) (rs.getD k [])
      rw [← htk] at hlo hhi
      have hemp : rs.take k = [] ↔ k = 0 := by
        rw [List.take_eq_nil_iff]
        constructor
        · rintro (h | h)
          · exact h
          · have := HN.out; rw [h] at this; simp at this; omega
        · exact .inl
      have hlt2 : (k : Int) < (n : Int) := by omega
      have hk0 : (0 : Int) ≤ (k : Int) := by omega
      simp only [loF, hiF] at hlo hhi
      generalize (rs.getD k []).length = ql at *
      generalize minL Pt.x (rs.getD k []) = lx at *
      generalize minL Pt.y (rs.getD k []) = ly at *
      generalize maxL Pt.x (rs.getD k []) = hx at *
      generalize maxL Pt.y (rs.getD k []) = hy at *
      have HV9 := Lib.hid hv
      clear hv hpt hgk hrm htk
      by_cases hk00 : k = 0
      · subst hk00
        simp only [Nat.add_zero] at hcell
        have e0 : rs.take 0 = [] := List.take_zero
        rw [if_pos (hemp.2 rfl)] at hlo hhi
        dsimp only at hlo hhi
        rw [Int.min_self, Int.min_self] at hlo
        rw [Int.max_self, Int.max_self] at hhi
        have HL := Lib.hid (And.intro hlo hhi)
        rw [e0] at t0 t1
        clear hlo hhi hemp
        go_wp2_with fail
        refine HV9.out.mono ?_
        rintro e w2 ⟨rfl, hb2⟩
        have hB2 : Below w.heap.size w w2 := hBr.trans (hb2.mono hBr.size)
        have u0 := (hb2.block _ (Array.getElem?_eq_some_iff.1 t0).1).trans t0
        have u1 := (hb2.block _ (Array.getElem?_eq_some_iff.1 t1).1).trans t1
        have hs2 : w.heap.size + 2 ≤ w2.heap.size := Nat.le_trans hsz hb2.size
        clear hb2 t0 t1 hcell hBr hsz
        go_wp2_with fail
        obtain ⟨W3, hW3⟩ : ∃ W3, (w2.alloc (.cells #[.int .i64 lx, .int .i64 ly] 23)).alloc (.cells #[.int .i64 hx, .int .i64 hy] 23) = W3 := ⟨_, rfl⟩
        have y0 : W3.heap[w.heap.size]? = some (.cells #[.int .i64 0, .int .i64 0] 23 (0, 0)) := by rw [← hW3]; exact alloc_old (alloc_old u0)
        have y1 : W3.heap[w.heap.size + 1]? = some (.cells #[.int .i64 0, .int .i64 0] 23 (0, 0)) := by rw [← hW3]; exact alloc_old (alloc_old u1)
        have y2 : W3.heap[w2.heap.size]? = some (.cells #[.int .i64 lx, .int .i64 ly] 23 (0, 0)) := by rw [← hW3]; exact alloc_old (alloc_at rfl)
        have y3 : W3.heap[w2.heap.size + 1]? = some (.cells #[.int .i64 hx, .int .i64 hy] 23 (0, 0)) := by rw [← hW3]; exact alloc_at (by simp)
        have hB3 : Below w.heap.size w W3 := by rw [← hW3]; exact hB2.trans (Below.mono (by go_grown) hB2.size)
        rw [hW3]
        obtain ⟨a0, a1, a2, a3⟩ := cells2 y0
        obtain ⟨b0, b1, b2, b3⟩ := cells2 y1
        obtain ⟨d0, d1, -, -⟩ := cells2 y2
        obtain ⟨e0, e1, -, -⟩ := cells2 y3
        have hne1 : ¬ w.heap.size = w2.heap.size := by omega
        have hne2 : ¬ w.heap.size + 1 = w2.heap.size := by omega
        clear hW3 u0 u1 hB2
        go_region
        obtain ⟨Y, hY⟩ : ∃ Y, ((((W3.setCell ⟨w.heap.size, 0, none⟩ (.int .i64 lx)).setCell ⟨w.heap.size, 1, none⟩ (.int .i64 ly)).setCell ⟨w.heap.size + 1, 0, none⟩ (.int .i64 hx)).setCell ⟨w.heap.size + 1, 1, none⟩ (.int .i64 hy)).drew = Y := ⟨_, rfl⟩
        have z0 : Y.heap[w.heap.size]? = some (.cells #[.int .i64 lx, .int .i64 ly] 23 (0, 0)) := by rw [← hY]; exact put2_other (put2 y0) (by omega)
        have z1 : Y.heap[w.heap.size + 1]? = some (.cells #[.int .i64 hx, .int .i64 hy] 23 (0, 0)) := by rw [← hY]; exact put2 (put2_other y1 (by omega))
        have z2 : Y.heap[w2.heap.size]? = some (.cells #[.int .i64 lx, .int .i64 ly] 23 (0, 0)) := by rw [← hY]; exact put2_other (put2_other y2 (by omega)) (by omega)
        have z3 : Y.heap[w2.heap.size + 1]? = some (.cells #[.int .i64 hx, .int .i64 hy] 23 (0, 0)) := by rw [← hY]; exact put2_other (put2_other y3 (by omega)) (by omega)
        have hBY : Below w.heap.size w Y := by rw [← hY]; exact Below.drew (put2_below (put2_below hB3 (Nat.le_refl _)) (by omega))
        rw [hY]
        clear hY y0 y1 y2 y3 a0 a1 a2 a3 b0 b1 b2 b3 d0 d1 e0 e1 hB3
        obtain ⟨a0, a1, a2, a3⟩ := cells2 z0
        obtain ⟨b0, b1, b2, b3⟩ := cells2 z1
        obtain ⟨d0, d1, -, -⟩ := cells2 z2
        obtain ⟨e0, e1, -, -⟩ := cells2 z3
        have HZ := Lib.hid (And.intro z0 (And.intro z1 hBY))
        have hYs : w.heap.size + 2 ≤ Y.heap.size := by have := (Array.getElem?_eq_some_iff.1 z3).1; omega
        clear z0 z1 z2 z3 hBY
        go_wp2_with fail
        go_roundg (gk - 1)
        case measure => omega
        case rel =>
          obtain ⟨z0, z1, hBY⟩ := HZ.out
          obtain ⟨hl1, hl2⟩ := HL.out
          simp only [Nat.zero_add] at hl1 hl2
          exact ⟨1, by omega, by omega, rfl, put2_below (put2_below hBY (Nat.le_refl _)) (by omega), by simp only [World.size_setCell]; exact hYs, by rw [hl1]; exact put2_other (put2 z0) (by omega), by rw [hl2]; exact put2 (put2_other z1 (by omega))⟩
      · have hk9 : ¬ ((k : Int) = 0) := by omega
        have e9 : ((k : Int) == 0) = false := by simp; omega
        rw [if_neg (fun h => hk00 (hemp.1 h))] at hlo hhi
        have HL := Lib.hid (And.intro hlo hhi)
        clear hlo hhi hemp
        generalize loS (rs.take k) = lo at *
        generalize hiS (rs.take k) = hi at *
        obtain ⟨lo0, lo1⟩ := lo
        obtain ⟨hi0, hi1⟩ := hi
        dsimp only at t0 t1
        go_wp2_with fail
        refine HV9.out.mono ?_
        rintro e w2 ⟨rfl, hb2⟩
        have hB2 : Below w.heap.size w w2 := hBr.trans (hb2.mono hBr.size)
        have u0 := (hb2.block _ (Array.getElem?_eq_some_iff.1 t0).1).trans t0
        have u1 := (hb2.block _ (Array.getElem?_eq_some_iff.1 t1).1).trans t1
        have hs2 : w.heap.size + 2 ≤ w2.heap.size := Nat.le_trans hsz hb2.size
        obtain ⟨Y, hY⟩ : ∃ Y, (w2.alloc (.cells #[.int .i64 lx, .int .i64 ly] 23)).alloc (.cells #[.int .i64 hx, .int .i64 hy] 23) = Y := ⟨_, rfl⟩
        have z0 : Y.heap[w.heap.size]? = some (.cells #[.int .i64 lo0, .int .i64 lo1] 23 (0, 0)) := by rw [← hY]; exact alloc_old (alloc_old u0)
        have z1 : Y.heap[w.heap.size + 1]? = some (.cells #[.int .i64 hi0, .int .i64 hi1] 23 (0, 0)) := by rw [← hY]; exact alloc_old (alloc_old u1)
        have z2 : Y.heap[w2.heap.size]? = some (.cells #[.int .i64 lx, .int .i64 ly] 23 (0, 0)) := by rw [← hY]; exact alloc_old (alloc_at rfl)
        have z3 : Y.heap[w2.heap.size + 1]? = some (.cells #[.int .i64 hx, .int .i64 hy] 23 (0, 0)) := by rw [← hY]; exact alloc_at (by simp)
        have hBY : Below w.heap.size w Y := by rw [← hY]; exact hB2.trans (Below.mono (by go_grown) hB2.size)
        have HY := Lib.hid (And.intro hY (And.intro z0 (And.intro z1 (And.intro z2 (And.intro z3 hBY)))))
        clear hb2 t0 t1 u0 u1 hcell hBr hsz hB2 hY z0 z1 z2 z3 hBY
        go_upto_region 9 with fail
        obtain ⟨hY, z0, z1, z2, z3, hBY⟩ := HY.out
        rw [hY]
        obtain ⟨a0, a1, a2, a3⟩ := cells2 z0
        obtain ⟨b0, b1, b2, b3⟩ := cells2 z1
        obtain ⟨d0, d1, -, -⟩ := cells2 z2
        obtain ⟨e0, e1, -, -⟩ := cells2 z3
        have HZ := Lib.hid (And.intro z0 (And.intro z1 hBY))
        have hYs : w.heap.size + 2 ≤ Y.heap.size := by have := (Array.getElem?_eq_some_iff.1 z3).1; omega
        have hne1 : ¬ w.heap.size = w2.heap.size := by omega
        have hne2 : ¬ w.heap.size + 1 = w2.heap.size := by omega
        clear z0 z1 z2 z3 hBY hY HY
        go_wp2_with fail
        go_roundg (gk - 1)
        case measure => omega
        case rel =>
          obtain ⟨z0, z1, hBY⟩ := HZ.out
          exact ⟨k + 1, by omega, by omega, by go_num, put2_below (put2_below hBY (Nat.le_refl _)) (by omega), by simp only [World.size_setCell]; exact hYs, by rw [HL.out.1]; exact put2_other (put2 z0) (by omega), by rw [HL.out.2]; exact put2 (put2_other z1 (by omega))⟩
    · obtain rfl : k = n := by omega
      have hnlt : ¬ ((k : Int) < (k : Int)) := by omega
      rw [List.take_of_length_le (by rw [HN.out]; omega)] at t0 t1
      obtain ⟨lo, hlo⟩ : ∃ lo, loS rs = lo := ⟨_, rfl⟩
      obtain ⟨hi, hhi⟩ : ∃ hi, hiS rs = hi := ⟨_, rfl⟩
      obtain ⟨D, hD⟩ : ∃ D, decide (0 < k) = D := ⟨_, rfl⟩
      rw [hlo] at t0
      rw [hhi] at t1
      obtain ⟨lo0, lo1⟩ := lo
      obtain ⟨hi0, hi1⟩ := hi
      dsimp only at t0 t1
      obtain ⟨a0, a1, a2, a3⟩ := cells2 t0
      obtain ⟨b0, b1, b2, b3⟩ := cells2 t1
      have hd : decide ((0 : Int) < (k : Int)) = D := by rw [← hD]; simp
      have HEQ := Lib.hid (And.intro hlo (And.intro hhi hD))
      clear hlo hhi
      have HT := Lib.hid (And.intro t0 (And.intro t1 hBr))
      clear t0 t1 hBr HX V1
      go_wp2_with fail
      go_region
      go_wp2_with fail
      obtain ⟨t0, t1, hBr⟩ := HT.out
      obtain ⟨Y, hY⟩ : ∃ Y, ((((wr.setCell ⟨w.heap.size, 0, none⟩ (.int .i64 lo0)).setCell ⟨w.heap.size, 1, none⟩ (.int .i64 lo1)).setCell ⟨w.heap.size + 1, 0, none⟩ (.int .i64 hi0)).setCell ⟨w.heap.size + 1, 1, none⟩ (.int .i64 hi1)).drew = Y := ⟨_, rfl⟩
      have z0 : Y.heap[w.heap.size]? = some (.cells #[.int .i64 lo0, .int .i64 lo1] 23 (0, 0)) := by rw [← hY]; exact put2_other (put2 t0) (by omega)
      have z1 : Y.heap[w.heap.size + 1]? = some (.cells #[.int .i64 hi0, .int .i64 hi1] 23 (0, 0)) := by rw [← hY]; exact put2 (put2_other t1 (by omega))
      have hBY : Below w.heap.size w Y := by rw [← hY]; exact Below.drew (put2_below (put2_below hBr (Nat.le_refl _)) (by omega))
      rw [hY]
      obtain ⟨c0, c1, -, -⟩ := cells2 z0
      obtain ⟨c2, c3, -, -⟩ := cells2 z1
      refine bodyPost_ret (v := .tuple #[Pt.val ⟨lo0, lo1⟩, Pt.val ⟨hi0, hi1⟩, .bool D, .int .i64 0]) ?_ rfl ⟨by rw [HEQ.out.1, HEQ.out.2.1, HEQ.out.2.2], hBY⟩
      simp [results, Tryz.f21, go_sem, c0, c1, c2, c3, Pt.val]
end Go.Proofs.YtnhdnkeiijiiaaaGreat
namespace Go.Proofs.YtnhdnkeiijiiaaaGreat
open Go.RowKit Go.Shelf
set_option linter.unusedSimpArgs false
set_option linter.unusedVariables false
attribute [local go_sem ↓] Go.wp_at_zero Go.wp_at_succ
theorem fold_min {α : Type} (g : α → Int) : ∀ (l : List α) (a : Int), (l.foldl (fun m x => min m (g x)) a ≤ a ∧ ∀ x ∈ l, l.foldl (fun m x => min m (g x)) a ≤ g x) ∧ ∀ L, L ≤ a → (∀ x ∈ l, L ≤ g x) → L ≤ l.foldl (fun m x => min m (g x)) a
  | [], a => ⟨⟨Int.le_refl _, fun x h => by simp at h⟩, fun L h _ => h⟩
  | b :: l, a => by
    obtain ⟨⟨h1, h2⟩, h3⟩ := fold_min g l (min a (g b))
    refine ⟨⟨by simp only [List.foldl_cons]; omega, fun x hx => ?_⟩, fun L h k => ?_⟩
    · rcases List.mem_cons.1 hx with rfl | hx
      · simp only [List.foldl_cons]; omega
      · exact h2 x hx
    · exact h3 L (by have := k b (by simp); omega) fun x hx => k x (List.mem_cons_of_mem _ hx)
theorem fold_max {α : Type} (g : α → Int) : ∀ (l : List α) (a : Int), (a ≤ l.foldl (fun m x => max m (g x)) a ∧ ∀ x ∈ l, g x ≤ l.foldl (fun m x => max m (g x)) a) ∧ ∀ L, a ≤ L → (∀ x ∈ l, g x ≤ L) → l.foldl (fun m x => max m (g x)) a ≤ L
  | [], a => ⟨⟨Int.le_refl _, fun x h => by simp at h⟩, fun L h _ => h⟩
  | b :: l, a => by
    obtain ⟨⟨h1, h2⟩, h3⟩ := fold_max g l (max a (g b))
    refine ⟨⟨by simp only [List.foldl_cons]; omega, fun x hx => ?_⟩, fun L h k => ?_⟩
    · rcases List.mem_cons.1 hx with rfl | hx
      · simp only [List.foldl_cons]; omega
      · exact h2 x hx
    · exact h3 L (by have := k b (by simp); omega) fun x hx => k x (List.mem_cons_of_mem _ hx)
theorem fold_lo (l : List (List Pt)) : ∀ a : Pt, l.foldl loF a = ⟨l.foldl (fun m r => min m (minL Pt.x r)) a.x, l.foldl (fun m r => min m (minL Pt.y r)) a.y⟩ := by
  induction l with
  | nil => intro a; rfl
  | cons r l ih => intro a; simp only [List.foldl_cons, ih]; rfl
theorem fold_hi (l : List (List Pt)) : ∀ a : Pt, l.foldl hiF a = ⟨l.foldl (fun m r => max m (maxL Pt.x r)) a.x, l.foldl (fun m r => max m (maxL Pt.y r)) a.y⟩ := by
  induction l with
  | nil => intro a; rfl
  | cons r l ih => intro a; simp only [List.foldl_cons, ih]; rfl
theorem minL_bd (f : Pt → Int) {xs : List Pt} (hne : xs ≠ []) : (∀ p ∈ xs, minL f xs ≤ f p) ∧ ∀ L, (∀ p ∈ xs, L ≤ f p) → L ≤ minL f xs := by
  obtain ⟨⟨h1, h2⟩, h3⟩ := fold_min f xs (f (xs.getD 0 default))
  have hm : xs.getD 0 default ∈ xs := at_mem (by cases xs with | nil => exact absurd rfl hne | cons _ _ => simp)
  exact ⟨h2, fun L h => h3 L (h _ hm) h⟩
theorem maxL_bd (f : Pt → Int) {xs : List Pt} (hne : xs ≠ []) : (∀ p ∈ xs, f p ≤ maxL f xs) ∧ ∀ L, (∀ p ∈ xs, f p ≤ L) → maxL f xs ≤ L := by
  obtain ⟨⟨h1, h2⟩, h3⟩ := fold_max f xs (f (xs.getD 0 default))
  have hm : xs.getD 0 default ∈ xs := at_mem (by cases xs with | nil => exact absurd rfl hne | cons _ _ => simp)
  exact ⟨h2, fun L h => h3 L (h _ hm) h⟩
theorem loS_eq (r : List Pt) (rs : List (List Pt)) : loS (r :: rs) = ⟨rs.foldl (fun m r => min m (minL Pt.x r)) (minL Pt.x r), rs.foldl (fun m r => min m (minL Pt.y r)) (minL Pt.y r)⟩ := fold_lo rs _
theorem hiS_eq (r : List Pt) (rs : List (List Pt)) : hiS (r :: rs) = ⟨rs.foldl (fun m r => max m (maxL Pt.x r)) (maxL Pt.x r), rs.foldl (fun m r => max m (maxL Pt.y r)) (maxL Pt.y r)⟩ := fold_hi rs _
/-- the box has each corner -/
theorem box_has {rs : List (List Pt)} (hne : ∀ r ∈ rs, r ≠ []) {r : List Pt} (hr : r ∈ rs) {p : Pt} (hp : p ∈ r) : InBox (loS rs) (hiS rs) p := by
  match rs, hne, hr with
  | a :: l, hne, hr =>
    rw [loS_eq, hiS_eq]
    obtain ⟨⟨x1, x2⟩, -⟩ := fold_min (minL Pt.x) l (minL Pt.x a)
    obtain ⟨⟨y1, y2⟩, -⟩ := fold_min (minL Pt.y) l (minL Pt.y a)
    obtain ⟨⟨u1, u2⟩, -⟩ := fold_max (maxL Pt.x) l (maxL Pt.x a)
    obtain ⟨⟨v1, v2⟩, -⟩ := fold_max (maxL Pt.y) l (maxL Pt.y a)
    have a1 := (minL_bd Pt.x (hne r hr)).1 p hp
    have a2 := (minL_bd Pt.y (hne r hr)).1 p hp
    have a3 := (maxL_bd Pt.x (hne r hr)).1 p hp
    have a4 := (maxL_bd Pt.y (hne r hr)).1 p hp
    unfold InBox
    dsimp only
    rcases List.mem_cons.1 hr with rfl | hr
    · omega
    · have := x2 r hr; have := y2 r hr; have := u2 r hr; have := v2 r hr
      omega
/-- a box that has each corner has the box -/
theorem box_in {rs : List (List Pt)} (h0 : rs ≠ []) (hne : ∀ r ∈ rs, r ≠ []) {lo hi : Pt} (hb : ∀ r ∈ rs, ∀ p ∈ r, InBox lo hi p) :
    lo.x ≤ (loS rs).x ∧ lo.y ≤ (loS rs).y ∧ (hiS rs).x ≤ hi.x ∧ (hiS rs).y ≤ hi.y := by
  match rs, h0, hne, hb with
  | a :: l, _, hne, hb =>
    rw [loS_eq, hiS_eq]
    dsimp only
    have g : ∀ r ∈ a :: l, lo.x ≤ minL Pt.x r ∧ lo.y ≤ minL Pt.y r ∧ maxL Pt.x r ≤ hi.x ∧ maxL Pt.y r ≤ hi.y := fun r hr =>
      ⟨(minL_bd Pt.x (hne r hr)).2 _ fun p hp => by have := hb r hr p hp; unfold InBox at this; omega, (minL_bd Pt.y (hne r hr)).2 _ fun p hp => by have := hb r hr p hp; unfold InBox at this; omega,
        (maxL_bd Pt.x (hne r hr)).2 _ fun p hp => by have := hb r hr p hp; unfold InBox at this; omega, (maxL_bd Pt.y (hne r hr)).2 _ fun p hp => by have := hb r hr p hp; unfold InBox at this; omega⟩
    exact ⟨(fold_min (minL Pt.x) l _).2 _ (g a (by simp)).1 fun r hr => (g r (List.mem_cons_of_mem _ hr)).1, (fold_min (minL Pt.y) l _).2 _ (g a (by simp)).2.1 fun r hr => (g r (List.mem_cons_of_mem _ hr)).2.1,
      (fold_max (maxL Pt.x) l _).2 _ (g a (by simp)).2.2.1 fun r hr => (g r (List.mem_cons_of_mem _ hr)).2.2.1, (fold_max (maxL Pt.y) l _).2 _ (g a (by simp)).2.2.2 fun r hr => (g r (List.mem_cons_of_mem _ hr)).2.2.2⟩
theorem valid_ne {r : List Pt} (h : validB r = true) : r ≠ [] := by intro e; have := (len_of_valid h).1; rw [e] at this; simp at this
theorem box_bd {rs : List (List Pt)} (hv : ∀ r ∈ rs, validB r = true) : (-500000 ≤ (loS rs).x ∧ (loS rs).x ≤ 500000 ∧ -500000 ≤ (loS rs).y ∧ (loS rs).y ≤ 500000) ∧ (-500000 ≤ (hiS rs).x ∧ (hiS rs).x ≤ 500000 ∧ -500000 ≤ (hiS rs).y ∧ (hiS rs).y ≤ 500000) := by
  match rs, hv with
  | [], _ => simp [loS, hiS]
  | a :: l, hv =>
    have hne : ∀ r ∈ a :: l, r ≠ [] := fun r hr => valid_ne (hv r hr)
    have h1 := box_in (by simp) hne (lo := ⟨-500000, -500000⟩) (hi := ⟨500000, 500000⟩) fun r hr p hp => valid_pl (hv r hr) p hp
    obtain ⟨p, hp⟩ := List.exists_mem_of_ne_nil _ (hne a (by simp))
    have h2 := box_has hne (show a ∈ a :: l by simp) hp
    have h3 := valid_pl (hv a (by simp)) p hp
    unfold InBox at h2 h3
    dsimp only at h1 h3
    omega
/-- what Near keeps -/
theorem near_keeps {rs : List (List Pt)} {q y : Pt} {lo hi : Int} (hv : ∀ r ∈ rs, validB r = true) (h : ringErr q lo hi = 0) (h1 : (rs.any fun r => insB r y) = true) (h2 : (decide (lo * lo ≤ sqS q y) && decide (sqS q y ≤ hi * hi)) = true) :
    ((regMeetS rs (tidiedS (ringL q lo hi))).any fun r => insB r y) = true := by
  simp only [Bool.and_eq_true, decide_eq_true_eq] at h2
  exact (has_any (regMeet_valid hv)).2 (regMeet_Has hv (tidied_valid (ringL_valid h)) (by simp [Pt.q]) ((has_any hv).1 h1) (ring_has h h2.1 h2.2))
theorem near_box {rs ys : List (List Pt)} (hv : ∀ r ∈ rs, validB r = true) (h0 : regMeetS rs ys ≠ []) :
    (loS rs).x ≤ (loS (regMeetS rs ys)).x ∧ (loS rs).y ≤ (loS (regMeetS rs ys)).y ∧ (hiS (regMeetS rs ys)).x ≤ (hiS rs).x ∧ (hiS (regMeetS rs ys)).y ≤ (hiS rs).y :=
  box_in h0 (fun r hr => valid_ne (regMeet_valid hv r hr)) (regMeet_box hv fun p hp c hc => box_has (fun r hr => valid_ne (hv r hr)) hp hc)
end Go.Proofs.YtnhdnkeiijiiaaaGreat
namespace Go.Proofs.YtnhdnkeiijiiaaaGreat
open Go.RowKit Go.Shelf
set_option linter.unusedSimpArgs false
set_option linter.unusedVariables false
attribute [local go_sem ↓] Go.wp_at_zero Go.wp_at_succ
theorem ringErr_ne1 {q : Pt} {lo hi : Int} (h1 : distB lo hi = true) (h2 : plB q = true) : ringErr q lo hi ≠ 1 := by
  unfold ringErr
  rw [h1, h2]
  simp only [Bool.and_self, if_true]
  split <;> decide
theorem two_cells {W : World} {a b c d : Value} {t : TypeId} : let Z := (W.alloc (.cells #[a, b] t)).alloc (.cells #[c, d] t)
    Z.cell? ⟨W.heap.size, 0, none⟩ = some a ∧ Z.cell? ⟨W.heap.size, 1, none⟩ = some b ∧ Z.cell? ⟨W.heap.size + 1, 0, none⟩ = some c ∧ Z.cell? ⟨W.heap.size + 1, 1, none⟩ = some d := by
  refine ⟨?_, ?_, ?_, ?_⟩ <;> go_cell
set_option maxHeartbeats 3200000 in
set_option maxRecDepth 100000 in
theorem ringNear_walk (A : Option Addr) (n c : Nat) (rs : List (List Pt)) (xx xy lo hi yx yy : Int) (w : World) (hn : rs.length = n) (hbig : n ≤ 9223372036854775807) (hx : Reg? w.heap.size w A rs) (hI : Oks64 rs) (hL : Short rs) (hq : I64 xx ∧ I64 xy) :
    Calls Tryz.prog 6 #[.slice A n c, .agg #[.int .i64 xx, .int .i64 xy], .agg #[.int .i64 lo, .int .i64 hi], .agg #[.int .i64 yx, .int .i64 yy]] w fun e w' => e = .returned (.bool true) ∧ Below w.heap.size w w' := by
  have v1 := fun W => head_any W
  have vU : ∀ W, Below w.heap.size w W → Calls Tryz.prog 15 #[.slice A n c, .agg #[.int .i64 xx, .int .i64 xy], .agg #[.int .i64 lo, .int .i64 hi]] W (RetB (n ≤ 4 ∧ regB rs = true ∧ plB ⟨xx, xy⟩ = true ∧ distB lo hi = true) W) := fun W hB => usable_any A n c rs ⟨xx, xy⟩ lo hi W hn (hx.later hB) hL
  have vP : ∀ W, Calls Tryz.prog 10 #[.agg #[.int .i64 yx, .int .i64 yy]] W _ := fun W => RPlace_any ⟨yx, yy⟩ W
  have vN : ∀ W, Below w.heap.size w W → Calls Tryz.prog 20 #[.slice A n c, .agg #[.int .i64 xx, .int .i64 xy], .agg #[.int .i64 lo, .int .i64 hi]] W (RetRegIf W.heap.size W (nearErr rs ⟨xx, xy⟩ lo hi) (regMeetS rs (tidiedS (ringL ⟨xx, xy⟩ lo hi)))) := fun W hB => Near_any A n c rs ⟨xx, xy⟩ lo hi W hn hbig (hx.later hB) hI hq
  have V1 := Lib.hid v1
  have VU := Lib.hid vU
  have VN := Lib.hid vN
  have HX := Lib.hid (And.intro hn hx)
  clear v1 vU vN hx hI hL hq hn
  go_enter Tryz.func6, Tryz.ntmps6
  go_wp2_with fail
  refine (V1.out _).mono ?_
  rintro e w1 ⟨rfl, hb1⟩
  have hB1 : Below w.heap.size w w1 := below_after (by go_grown) hb1
  have c0 : w1.cell? ⟨w.heap.size, 0, none⟩ = some (.int .i64 xx) := kp hb1 (by go_cell)
  have c1 : w1.cell? ⟨w.heap.size, 1, none⟩ = some (.int .i64 xy) := kp hb1 (by go_cell)
  have c2 : w1.cell? ⟨w.heap.size + 1, 0, none⟩ = some (.int .i64 lo) := kp hb1 (by go_cell)
  have c3 : w1.cell? ⟨w.heap.size + 1, 1, none⟩ = some (.int .i64 hi) := kp hb1 (by go_cell)
  have c4 : w1.cell? ⟨w.heap.size + 1 + 1, 0, none⟩ = some (.int .i64 yx) := kp hb1 (by go_cell)
  have c5 : w1.cell? ⟨w.heap.size + 1 + 1, 1, none⟩ = some (.int .i64 yy) := kp hb1 (by go_cell)
  clear hb1
  go_wp2_with fail
  refine (VU.out _ hB1).mono ?_
  rintro e w2 ⟨bu, rfl, hu, hb2⟩
  have hB2 : Below w.heap.size w w2 := hB1.trans (hb2.mono hB1.size)
  replace c0 := kp hb2 c0
  replace c1 := kp hb2 c1
  replace c2 := kp hb2 c2
  replace c3 := kp hb2 c3
  replace c4 := kp hb2 c4
  replace c5 := kp hb2 c5
  have HU := Lib.hid hu
  clear hb2 hB1 hu VU
  cases bu with
  | false =>
    clear vP
    go_wp2_with fail
    go_ret
    exact ⟨rfl, hB2⟩
  | true =>
    obtain ⟨h4, hreg, hpl, hdist⟩ := HU.out rfl
    have hvv := (regB_iff.1 hreg).2
    have hE0 : nearErr rs ⟨xx, xy⟩ lo hi = ringErr ⟨xx, xy⟩ lo hi := by simp [nearErr, hreg]
    have hEv := ringErr_vals ⟨xx, xy⟩ lo hi
    have hE1 := ringErr_ne1 hdist hpl
    have hkeep := fun (h : ringErr ⟨xx, xy⟩ lo hi = 0) => near_keeps (y := ⟨yx, yy⟩) hvv h
    have hbox := fun h0 => near_box (ys := tidiedS (ringL ⟨xx, xy⟩ lo hi)) hvv h0
    have hbd := box_bd hvv
    have hsreg : regB (regMeetS rs (tidiedS (ringL ⟨xx, xy⟩ lo hi))) = true := regB_iff.2 ⟨tidied_len _, regMeet_valid hvv⟩
    obtain ⟨dd1, dd2, dd3⟩ := distB_iff.1 hdist
    rw [hE0] at VN
    generalize ringErr ⟨xx, xy⟩ lo hi = E at *
    generalize regMeetS rs (tidiedS (ringL ⟨xx, xy⟩ lo hi)) = S at *
    have hn := HX.out.1
    obtain ⟨PY, hPY⟩ : ∃ b, plB ⟨yx, yy⟩ = b := ⟨_, rfl⟩
    rw [hPY] at vP
    have VP := Lib.hid vP
    clear vP HU
    go_wp2_with fail
    refine (VP.out _).mono ?_
    rintro e w3 ⟨rfl, hb3⟩
    have hB3 : Below w.heap.size w w3 := hB2.trans (hb3.mono hB2.size)
    replace c0 := kp hb3 c0
    replace c1 := kp hb3 c1
    replace c2 := kp hb3 c2
    replace c3 := kp hb3 c3
    replace c4 := kp hb3 c4
    replace c5 := kp hb3 c5
    clear hb3 hB2
    cases PY with
    | false =>
      clear hkeep hbox hbd hEv hE1
      go_wp2_with fail
      go_ret
      exact ⟨rfl, hB3⟩
    | true =>
      have hnl : Nr ⟨yx, yy⟩ := nr_of_pl hPY
      have vI : ∀ W, Below w.heap.size w W → Calls Tryz.prog 19 #[.slice A n c, .agg #[.int .i64 yx, .int .i64 yy]] W _ := fun W hB => RIn_any A n c rs ⟨yx, yy⟩ W hn (by omega) (HX.out.2.later hB) hvv hnl
      have vW : ∀ W, Calls Tryz.prog 11 #[.agg #[.int .i64 xx, .int .i64 xy], .agg #[.int .i64 yx, .int .i64 yy], .agg #[.int .i64 lo, .int .i64 hi]] W _ := fun W => RWithin_any ⟨xx, xy⟩ ⟨yx, yy⟩ lo hi W (nr_of_pl hpl) hnl (by omega) (by omega) (by omega) (by omega)
      have vB : ∀ W, Below w.heap.size w W → Calls Tryz.prog 21 #[.slice A n c] W _ := fun W hB => rBox_ok A n c rs W hn (HX.out.2.later hB) hreg
      have vH : ∀ A n c W, S.length = n → Reg? W.heap.size W A S → Calls Tryz.prog 13 #[.slice A n c, .agg #[.int .i64 yx, .int .i64 yy]] W _ := fun A n c W hn hg => rHas_told A n c S ⟨yx, yy⟩ W hn (by have := (regB_iff.1 hsreg).1; omega) hg fun r h => ok64_of_pl (pl_of_valid ((regB_iff.1 hsreg).2 r h))
      have vS : ∀ A n c W, S.length = n → Reg? W.heap.size W A S → Calls Tryz.prog 21 #[.slice A n c] W _ := fun A n c W hn hg => rBox_ok A n c S W hn hg hsreg
      rw [hsreg, hPY] at vH
      simp only [Bool.and_self, Bool.true_and, if_true] at vH
      have hS0 : S ≠ [] ↔ decide (0 < S.length) = true := by cases S <;> simp
      have hrsbd := hbd
      generalize (S.any fun r => insB r ⟨yx, yy⟩) = IS at *
      generalize (rs.any fun r => insB r ⟨yx, yy⟩) = IR at *
      generalize loS S = ls at *
      generalize hiS S = hs at *
      generalize loS rs = lr at *
      generalize hiS rs = hr at *
      obtain ⟨lsx, lsy⟩ := ls
      obtain ⟨hsx, hsy⟩ := hs
      obtain ⟨lrx, lry⟩ := lr
      obtain ⟨hrx, hry⟩ := hr
      simp only [Pt.val] at vB vS
      dsimp only at hbox hbd
      obtain ⟨L, hL⟩ : ∃ L, S.length = L := ⟨_, rfl⟩
      rw [hL] at hS0
      have VI := Lib.hid vI
      have VW := Lib.hid vW
      have VB := Lib.hid vB
      have VH := Lib.hid vH
      have VS := Lib.hid vS
      have HL := Lib.hid hL
      have HBOX := Lib.hid (fun h => hbox (hS0.2 h))
      have HBD := Lib.hid hbd
      have HKEEP := Lib.hid hkeep
      have HE1 := Lib.hid (And.intro hEv hE1)
      clear vI vW vB vH vS hL hbox hbd hkeep hrsbd hEv hE1 hS0 hnl hPY hpl hreg hdist hvv hsreg dd1 dd2 dd3 h4 hn
      go_wp2_with fail
      refine (VN.out _ hB3).mono ?_
      rintro e w4 (⟨h0, v4, rfl, ho4, hb4⟩ | ⟨h0, rfl, hb4⟩)
      rotate_left 1
      · have hB4 : Below w.heap.size w w4 := hB3.trans (hb4.mono hB3.size)
        rcases HE1.out.1 with h | h | h
        · exact absurd h h0
        · exact absurd h HE1.out.2
        · subst h
          clear hb4 c0 c1 c2 c3 c4 c5
          go_wp2_with fail
          go_ret
          exact ⟨rfl, hB4⟩
      · subst h0
        have hB4 : Below w.heap.size w w4 := hB3.trans (hb4.mono hB3.size)
        replace c0 := kp hb4 c0
        replace c1 := kp hb4 c1
        replace c2 := kp hb4 c2
        replace c3 := kp hb4 c3
        replace c4 := kp hb4 c4
        replace c5 := kp hb4 c5
        obtain ⟨A2, k2, rfl, -, -, -, hreg4⟩ := ho4.slice
        rw [HL.out]
        have HR4 := Lib.hid hreg4
        clear hb4 hB3 ho4 hreg4
        go_wp2_with fail
        refine (VH.out A2 L k2 _ HL.out HR4.out).mono ?_
        rintro e w5 ⟨rfl, hb5⟩
        have hB5 : Below w.heap.size w w5 := hB4.trans (hb5.mono hB4.size)
        replace c0 := kp hb5 c0
        replace c1 := kp hb5 c1
        replace c2 := kp hb5 c2
        replace c3 := kp hb5 c3
        replace c4 := kp hb5 c4
        replace c5 := kp hb5 c5
        replace HR4 := Lib.hid (HR4.out.later hb5)
        clear hb5 hB4
        go_wp2_with fail
        refine (VS.out A2 L k2 _ HL.out HR4.out).mono ?_
        rintro e w6 ⟨rfl, hb6⟩
        have hB6 : Below w.heap.size w w6 := hB5.trans (hb6.mono hB5.size)
        replace c0 := kp hb6 c0
        replace c1 := kp hb6 c1
        replace c2 := kp hb6 c2
        replace c3 := kp hb6 c3
        replace c4 := kp hb6 c4
        replace c5 := kp hb6 c5
        clear hb6 hB5 HR4
        obtain ⟨D, hD⟩ : ∃ b, decide (0 < L) = b := ⟨_, rfl⟩
        rw [hD] at HBOX ⊢
        go_wp2_with fail
        have hbA : Below w6.heap.size w6 ((w6.alloc (.cells #[.int .i64 lsx, .int .i64 lsy] 23)).alloc (.cells #[.int .i64 hsx, .int .i64 hsy] 23)) := by go_grown
        obtain ⟨s0, s1, s2, s3⟩ := two_cells (t := 23) (W := w6) (a := .int .i64 lsx) (b := .int .i64 lsy) (c := .int .i64 hsx) (d := .int .i64 hsy)
        have hBA := hB6.trans (hbA.mono hB6.size)
        replace c0 := kp hbA c0
        replace c1 := kp hbA c1
        replace c2 := kp hbA c2
        replace c3 := kp hbA c3
        replace c4 := kp hbA c4
        replace c5 := kp hbA c5
        clear hbA hB6
        generalize ((w6.alloc (.cells #[.int .i64 lsx, .int .i64 lsy] 23)).alloc (.cells #[.int .i64 hsx, .int .i64 hsy] 23)) = Z at *
        generalize w6.heap.size = B8 at *
        refine (VI.out _ hBA).mono ?_
        rintro e w7 ⟨rfl, hb7⟩
        have hB7 : Below w.heap.size w w7 := hBA.trans (hb7.mono hBA.size)
        replace c0 := kp hb7 c0
        replace c1 := kp hb7 c1
        replace c2 := kp hb7 c2
        replace c3 := kp hb7 c3
        replace c4 := kp hb7 c4
        replace c5 := kp hb7 c5
        replace s0 := kp hb7 s0
        replace s1 := kp hb7 s1
        replace s2 := kp hb7 s2
        replace s3 := kp hb7 s3
        clear hb7 hBA
        cases IR with
        | false =>
          clear c0 c1 c2 c3 c4 c5
          clear HKEEP
          go_wp2_with fail
          refine (VB.out _ hB7).mono ?_
          rintro e w9 ⟨rfl, hb9⟩
          have hB9 : Below w.heap.size w w9 := hB7.trans (hb9.mono hB7.size)
          replace s0 := kp hb9 s0
          replace s1 := kp hb9 s1
          replace s2 := kp hb9 s2
          replace s3 := kp hb9 s3
          clear hb9 hB7
          have hbC : Below w9.heap.size w9 ((w9.alloc (.cells #[.int .i64 lrx, .int .i64 lry] 23)).alloc (.cells #[.int .i64 hrx, .int .i64 hry] 23)) := by go_grown
          obtain ⟨z0, z1, z2, z3⟩ := two_cells (t := 23) (W := w9) (a := .int .i64 lrx) (b := .int .i64 lry) (c := .int .i64 hrx) (d := .int .i64 hry)
          replace s0 := kp hbC s0
          replace s1 := kp hbC s1
          replace s2 := kp hbC s2
          replace s3 := kp hbC s3
          have hBC := hB9.trans (hbC.mono hB9.size)
          clear hbC hB9
          cases D with
          | false =>
            go_wp2_with fail
            go_ret
            exact ⟨rfl, hBC⟩
          | true =>
            obtain ⟨b1, b2, b3, b4⟩ := HBOX.out rfl
            obtain ⟨⟨d1, d2, d3, d4⟩, e1, e2, e3, e4⟩ := HBD.out
            have p1 : IntKind.i64.wrap (lrx - 1) = lrx - 1 := IntWalk.i64_in _ (by omega)
            have p2 : IntKind.i64.wrap (lry - 1) = lry - 1 := IntWalk.i64_in _ (by omega)
            have p3 : IntKind.i64.wrap (hrx + 1) = hrx + 1 := IntWalk.i64_in _ (by omega)
            have p4 : IntKind.i64.wrap (hry + 1) = hry + 1 := IntWalk.i64_in _ (by omega)
            have k1 : lrx - 1 ≤ lsx := by omega
            have k2 : lry - 1 ≤ lsy := by omega
            have k3 : hsx ≤ hrx + 1 := by omega
            have k4 : hsy ≤ hry + 1 := by omega
            have g1 : decide (lrx - 1 ≤ lsx) = true := decide_eq_true k1
            have g2 : decide (lry - 1 ≤ lsy) = true := decide_eq_true k2
            have g3 : decide (hsx ≤ hrx + 1) = true := decide_eq_true k3
            have g4 : decide (hsy ≤ hry + 1) = true := decide_eq_true k4
            clear b1 b2 b3 b4 d1 d2 d3 d4 e1 e2 e3 e4
            go_wp2_with fail
            go_ret
            exact ⟨rfl, hBC⟩
        | true =>
          have hk := HKEEP.out (by first | rfl | trivial) rfl
          obtain ⟨WI, hW⟩ : ∃ b, (decide (lo * lo ≤ sqS ⟨xx, xy⟩ ⟨yx, yy⟩) && decide (sqS ⟨xx, xy⟩ ⟨yx, yy⟩ ≤ hi * hi)) = b := ⟨_, rfl⟩
          rw [hW] at hk VW
          clear hW HKEEP
          go_wp2_with fail
          refine (VW.out _).mono ?_
          rintro e w8 ⟨rfl, hb8⟩
          have hB8 : Below w.heap.size w w8 := hB7.trans (hb8.mono hB7.size)
          replace s0 := kp hb8 s0
          replace s1 := kp hb8 s1
          replace s2 := kp hb8 s2
          replace s3 := kp hb8 s3
          clear hb8 hB7 c0 c1 c2 c3 c4 c5
          cases WI with
          | false =>
            clear hk
            go_wp2_with fail
            refine (VB.out _ hB8).mono ?_
            rintro e w9 ⟨rfl, hb9⟩
            have hB9 : Below w.heap.size w w9 := hB8.trans (hb9.mono hB8.size)
            replace s0 := kp hb9 s0
            replace s1 := kp hb9 s1
            replace s2 := kp hb9 s2
            replace s3 := kp hb9 s3
            clear hb9 hB8
            have hbC : Below w9.heap.size w9 ((w9.alloc (.cells #[.int .i64 lrx, .int .i64 lry] 23)).alloc (.cells #[.int .i64 hrx, .int .i64 hry] 23)) := by go_grown
            obtain ⟨z0, z1, z2, z3⟩ := two_cells (t := 23) (W := w9) (a := .int .i64 lrx) (b := .int .i64 lry) (c := .int .i64 hrx) (d := .int .i64 hry)
            replace s0 := kp hbC s0
            replace s1 := kp hbC s1
            replace s2 := kp hbC s2
            replace s3 := kp hbC s3
            have hBC := hB9.trans (hbC.mono hB9.size)
            clear hbC hB9
            cases D with
            | false =>
              go_wp2_with fail
              go_ret
              exact ⟨rfl, hBC⟩
            | true =>
              obtain ⟨b1, b2, b3, b4⟩ := HBOX.out rfl
              obtain ⟨⟨d1, d2, d3, d4⟩, e1, e2, e3, e4⟩ := HBD.out
              have p1 : IntKind.i64.wrap (lrx - 1) = lrx - 1 := IntWalk.i64_in _ (by omega)
              have p2 : IntKind.i64.wrap (lry - 1) = lry - 1 := IntWalk.i64_in _ (by omega)
              have p3 : IntKind.i64.wrap (hrx + 1) = hrx + 1 := IntWalk.i64_in _ (by omega)
              have p4 : IntKind.i64.wrap (hry + 1) = hry + 1 := IntWalk.i64_in _ (by omega)
              have k1 : lrx - 1 ≤ lsx := by omega
              have k2 : lry - 1 ≤ lsy := by omega
              have k3 : hsx ≤ hrx + 1 := by omega
              have k4 : hsy ≤ hry + 1 := by omega
              have g1 : decide (lrx - 1 ≤ lsx) = true := decide_eq_true k1
              have g2 : decide (lry - 1 ≤ lsy) = true := decide_eq_true k2
              have g3 : decide (hsx ≤ hrx + 1) = true := decide_eq_true k3
              have g4 : decide (hsy ≤ hry + 1) = true := decide_eq_true k4
              clear b1 b2 b3 b4 d1 d2 d3 d4 e1 e2 e3 e4
              go_wp2_with fail
              go_ret
              exact ⟨rfl, hBC⟩
          | true =>
            obtain rfl := hk rfl
            clear hk
            go_wp2_with fail
            refine (VB.out _ hB8).mono ?_
            rintro e w9 ⟨rfl, hb9⟩
            have hB9 : Below w.heap.size w w9 := hB8.trans (hb9.mono hB8.size)
            replace s0 := kp hb9 s0
            replace s1 := kp hb9 s1
            replace s2 := kp hb9 s2
            replace s3 := kp hb9 s3
            clear hb9 hB8
            have hbC : Below w9.heap.size w9 ((w9.alloc (.cells #[.int .i64 lrx, .int .i64 lry] 23)).alloc (.cells #[.int .i64 hrx, .int .i64 hry] 23)) := by go_grown
            obtain ⟨z0, z1, z2, z3⟩ := two_cells (t := 23) (W := w9) (a := .int .i64 lrx) (b := .int .i64 lry) (c := .int .i64 hrx) (d := .int .i64 hry)
            replace s0 := kp hbC s0
            replace s1 := kp hbC s1
            replace s2 := kp hbC s2
            replace s3 := kp hbC s3
            have hBC := hB9.trans (hbC.mono hB9.size)
            clear hbC hB9
            cases D with
            | false =>
              go_wp2_with fail
              go_ret
              exact ⟨rfl, hBC⟩
            | true =>
              obtain ⟨b1, b2, b3, b4⟩ := HBOX.out rfl
              obtain ⟨⟨d1, d2, d3, d4⟩, e1, e2, e3, e4⟩ := HBD.out
              have p1 : IntKind.i64.wrap (lrx - 1) = lrx - 1 := IntWalk.i64_in _ (by omega)
              have p2 : IntKind.i64.wrap (lry - 1) = lry - 1 := IntWalk.i64_in _ (by omega)
              have p3 : IntKind.i64.wrap (hrx + 1) = hrx + 1 := IntWalk.i64_in _ (by omega)
              have p4 : IntKind.i64.wrap (hry + 1) = hry + 1 := IntWalk.i64_in _ (by omega)
              have k1 : lrx - 1 ≤ lsx := by omega
              have k2 : lry - 1 ≤ lsy := by omega
              have k3 : hsx ≤ hrx + 1 := by omega
              have k4 : hsy ≤ hry + 1 := by omega
              have g1 : decide (lrx - 1 ≤ lsx) = true := decide_eq_true k1
              have g2 : decide (lry - 1 ≤ lsy) = true := decide_eq_true k2
              have g3 : decide (hsx ≤ hrx + 1) = true := decide_eq_true k3
              have g4 : decide (hsy ≤ hry + 1) = true := decide_eq_true k4
              clear b1 b2 b3 b4 d1 d2 d3 d4 e1 e2 e3 e4
              go_wp2_with fail
              go_ret
              exact ⟨rfl, hBC⟩
end Go.Proofs.YtnhdnkeiijiiaaaGreat
