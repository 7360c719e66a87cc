import Derived.Test.YtollpjdnahemeaaS1
import Derived.WalkSpells
namespace Go.Proofs.Ytollpjdnahemeaa
open Go.RowKit

set_option maxHeartbeats 400000 in
theorem contains2_any (b : Nat) (l0 h0 l1 h1 : Int) (w : World) (hb : b < w.heap.size) (c0 : w.cell? ⟨b, 0, none⟩ = some (.int .i64 l0)) (c1 : w.cell? ⟨b, 1, none⟩ = some (.int .i64 h0))
    (c2 : w.cell? ⟨b, 2, none⟩ = some (.int .i64 l1)) (c3 : w.cell? ⟨b, 3, none⟩ = some (.int .i64 h1)) :
    Calls Try.prog 94 #[.slice (some ⟨b, 0, none⟩) 2 2, .func (.func 95) #[] #[]] w fun e w' => e = .returned (.bool (!(vld l0 h0 && vld l1 h1))) ∧ Below w.heap.size w w' := by
  have H := Lib.hid (idx2_any b l0 h0 l1 h1 w hb c0 c1 c2 c3)
  clear c0 c1 c2 c3
  go_enter Try.func94, Try.ntmps94
  go_wp2_with (go_at_call 101; refine H.out.mono ?_; rintro e w' ⟨rfl, hb'⟩)
  all_goals
    go_ret
    refine ⟨ret_bool ?_, hb'⟩
    simp [*]

set_option maxHeartbeats 400000 in
theorem valid2_any (b : Nat) (l0 h0 l1 h1 : Int) (w : World) (hb : b < w.heap.size) (c0 : w.cell? ⟨b, 0, none⟩ = some (.int .i64 l0)) (c1 : w.cell? ⟨b, 1, none⟩ = some (.int .i64 h0))
    (c2 : w.cell? ⟨b, 2, none⟩ = some (.int .i64 l1)) (c3 : w.cell? ⟨b, 3, none⟩ = some (.int .i64 h1)) :
    Calls Try.prog 72 #[.slice (some ⟨b, 0, none⟩) 2 2] w fun e w' => e = .returned (.bool (vld l0 h0 && vld l1 h1)) ∧ Below w.heap.size w w' := by
  have H := Lib.hid (contains2_any b l0 h0 l1 h1 w hb c0 c1 c2 c3)
  clear c0 c1 c2 c3
  go_enter Try.func72, Try.ntmps72
  go_wp2_with (go_at_call 94; refine H.out.mono ?_; rintro e w' ⟨rfl, hb'⟩)
  all_goals
    go_ret
    refine ⟨ret_bool ?_, hb'⟩
    simp [*]

/-- the least span of two ends, if it is valid -/
def leastS (lo hi : Int) : Int × Int × Int := if vld lo hi then (lo, hi, 0) else (0, 0, 3)

/-- a result of three parts: a span and an error -/
def spanE (r : Int × Int × Int) : Value := .tuple #[.agg #[.int .i64 r.1, .int .i64 r.2.1], .int .i64 r.2.2]

theorem set2 {w : World} {B : Nat} {x y : Value} (v0 v1 : Value) (h0 : w.cell? ⟨B, 0, none⟩ = some x) (h1 : w.cell? ⟨B, 1, none⟩ = some y) :
    ((w.setCell ⟨B, 0, none⟩ v0).setCell ⟨B, 1, none⟩ v1).cell? ⟨B, 0, none⟩ = some v0 ∧ ((w.setCell ⟨B, 0, none⟩ v0).setCell ⟨B, 1, none⟩ v1).cell? ⟨B, 1, none⟩ = some v1 := by
  constructor
  · rw [World.cell?_setCell_other _ _ _ _ (by simp)]
    exact World.cell?_setCell_same _ _ _ h0
  · refine World.cell?_setCell_same _ _ _ (u := y) ?_
    rw [World.cell?_setCell_other _ _ _ _ (by simp)]
    exact h1

theorem ret_span {R : Ending → World → Prop} {fn : Func} {p u : Tmp} {a : Act} {w : World} {B : Nat} {lo hi : Int} (hres : fn.results = #[.cell p 23, .tmp u]) (hd : a.defers = [])
    (hp : a.tmps.getD p undef = .pointer (some ⟨B, 0, none⟩)) (c : w.cell? ⟨B, 0, none⟩ = some (.int .i64 lo) ∧ w.cell? ⟨B, 1, none⟩ = some (.int .i64 hi))
    (hR : R (.returned (.tuple #[.agg #[.int .i64 lo, .int .i64 hi], a.tmps.getD u undef])) w) : bodyPost Try.prog fn R .ret a w := by
  refine bodyPost_ret (v := .tuple #[.agg #[.int .i64 lo, .int .i64 hi], a.tmps.getD u undef]) ?_ hd hR
  rw [results_cell_tmp hres, hp]
  simp [go_sem, c.1, c.2]

theorem below_after {w w0 w1 : World} (h : Below w.heap.size w w0) (h1 : Below w0.heap.size w0 w1) : Below w.heap.size w w1 := h.trans (h1.mono h.size)
theorem kp {W w1 : World} (hb : Below W.heap.size W w1) {b o : Nat} {v : Value} (h : W.cell? ⟨b, o, none⟩ = some v) : w1.cell? ⟨b, o, none⟩ = some v := cell_later hb h
theorem kf {W w1 : World} (hb : Below W.heap.size W w1) {b o : Nat} (h : (W.cell? ⟨b, o, none⟩).isSome = true) (hf : W.frozen? ⟨b, o, none⟩ = false) : w1.frozen? ⟨b, o, none⟩ = false := by
  obtain ⟨v, hv⟩ := Option.isSome_iff_exists.1 h
  exact (hb.frozen (World.block_lt_of_cell? _ _ hv)).trans hf

@[go_sem] theorem cell_alloc_some (w : World) (o : Obj) (n i : Nat) (h : (w.cell? ⟨n, i, none⟩).isSome = true) : (w.alloc o).cell? ⟨n, i, none⟩ = w.cell? ⟨n, i, none⟩ := by
  obtain ⟨v, hv⟩ := Option.isSome_iff_exists.1 h
  exact World.cell?_alloc_lt _ _ _ (World.block_lt_of_cell? _ _ hv)
@[go_sem] theorem frozen_alloc_some (w : World) (o : Obj) (n i : Nat) (h : (w.cell? ⟨n, i, none⟩).isSome = true) : (w.alloc o).frozen? ⟨n, i, none⟩ = w.frozen? ⟨n, i, none⟩ := by
  obtain ⟨v, hv⟩ := Option.isSome_iff_exists.1 h
  exact World.frozen?_alloc_old _ _ _ (Nat.ne_of_lt (World.block_lt_of_cell? _ _ hv))

set_option maxHeartbeats 400000 in
theorem least_any (b off n c : Nat) (zs : List Int) (w : World) (hn : 0 < n) (hz : zs.length = n) (hbig : (n : Int) ≤ 9223372036854775807) (hb : b < w.heap.size)
    (hc : ∀ i, i < n → w.cell? ⟨b, off + i, none⟩ = some (.int .i64 (zs.getD i 0))) (mn mx : Int) (hmn : mnTo zs (n - 1) = mn) (hmx : mxTo zs (n - 1) = mx) :
    Calls Try.prog 74 #[.slice (some ⟨b, off, none⟩) n c] w fun e w' => e = .returned (.tuple #[.agg #[.int .i64 (leastS mn mx).1, .int .i64 (leastS mn mx).2.1], .int .i64 (leastS mn mx).2.2]) ∧ Below w.heap.size w w' := by
  have H1 := fun W hW => Min_any b off n c zs W hn hz hbig hW
  have H2 := fun W hW => Max_any b off n c zs W hn hz hbig hW
  rw [hmn] at H1
  rw [hmx] at H2
  have HC := Lib.hid hc
  have HH1 := Lib.hid H1
  have HH2 := Lib.hid H2
  have e : ∀ b, vld mn mx = b → leastS mn mx = if b then (mn, mx, 0) else (0, 0, 3) := by rintro b rfl; rfl
  have HE := Lib.hid e
  clear hc H1 H2 hmn hmx e
  go_enter Try.func74, Try.ntmps74
  go_wp2_with (first 
   | (go_at_call 96; refine (HH1.out _ ?_).mono ?_; (intro i hi; have := HC.out i hi; simp [World.cell?_alloc_old, this, Nat.ne_of_lt hb]); rintro e w' ⟨rfl, rfl⟩)
   | (go_at_call 97; refine (HH2.out _ ?_).mono ?_; (intro i hi; have := HC.out i hi; simp [World.cell?_alloc_old, this, Nat.ne_of_lt hb]); rintro e w' ⟨rfl, rfl⟩)
   | (go_at_call 38; refine (Valid_any _ _ _).mono ?_; rintro e w1 ⟨rfl, hb1⟩
      have k0 : w1.cell? ⟨w.heap.size, 0, none⟩ = some (.int .i64 0) := kp hb1 (by go_cell)
      have k1 : w1.cell? ⟨w.heap.size, 1, none⟩ = some (.int .i64 0) := kp hb1 (by go_cell)
      have f0 : w1.frozen? ⟨w.heap.size, 0, none⟩ = false := kf hb1 (by go_simp) (by go_simp)
      have f1 : w1.frozen? ⟨w.heap.size, 1, none⟩ = false := kf hb1 (by go_simp) (by go_simp)
      have k2 : w1.cell? ⟨w.heap.size + 1, 0, none⟩ = some (.int .i64 mn) := kp hb1 (by go_cell)
      have k3 : w1.cell? ⟨w.heap.size + 1, 1, none⟩ = some (.int .i64 mx) := kp hb1 (by go_cell)
      have hB : Below w.heap.size w w1 := below_after (by go_grown) hb1
      clear hb1))
  · have hv : vld mn mx = false := by simpa using ‹(!vld mn mx) = true›
    rw [HE.out _ hv]
    refine ret_span (B := w.heap.size) rfl rfl rfl (set2 _ _ k0 k1) ⟨rfl, ?_⟩
    go_grown
  · have hv : vld mn mx = true := by simpa using ‹(!vld mn mx) = false›
    rw [HE.out _ hv]
    refine ret_span (B := w.heap.size) rfl rfl rfl (set2 _ _ k0 k1) ⟨rfl, ?_⟩
    go_grown
end Go.Proofs.Ytollpjdnahemeaa
