import Derived.Test.YtollpjdnahemeaaQ0
import Derived.RangeFuncNested
import Derived.RangeFuncBound
import Derived.RangeFuncCalls
import Derived.RangeFuncLeaves
import Derived.Shelf.Abstract
import Derived.Shelf.RegionOpen
import Derived.WalkKit
import Derived.OwnWalkIn
import Derived.TacticsInMore
import Derived.LoopNIn
import Derived.LoopIn
namespace Go.Proofs.Ytollpjdnahemeaa
open Go.RowKit Go.Shelf
set_option linter.unusedSimpArgs false
set_option linter.unusedVariables false
attribute [local go_sem] Oper.semAt_some

/-- the cells of a layer at a place -/
def WtAt (w : World) (b o : Nat) (r : Wt) : Prop :=
  w.cell? ⟨b, o, none⟩ = some (.int .i64 r.til) ∧ w.cell? ⟨b, o + 1, none⟩ = some (.int .i64 r.lo) ∧ w.cell? ⟨b, o + 2, none⟩ = some (.int .i64 r.hi)
theorem WtAt.below {w w' : World} {b o : Nat} {r : Wt} (h : WtAt w b o r) (hb : Below w.heap.size w w') : WtAt w' b o r := by
  obtain ⟨h0, h1, h2⟩ := h
  exact ⟨kp hb h0, kp hb h1, kp hb h2⟩
theorem WtAt.upto {n : Nat} {w w' : World} {b o : Nat} {r : Wt} (h : WtAt w b o r) (hb : Below n w w') (hlt : b < n) : WtAt w' b o r := by
  obtain ⟨h0, h1, h2⟩ := h
  exact ⟨(hb.cell (p := ⟨b, o, none⟩) hlt).trans h0, (hb.cell (p := ⟨b, o + 1, none⟩) hlt).trans h1, (hb.cell (p := ⟨b, o + 2, none⟩) hlt).trans h2⟩
/-- a slice of layers, in blocks below n₀ -/
def Wts? (n₀ : Nat) (w : World) (A : Option Addr) (xs : List Wt) : Prop :=
  0 < xs.length → ∃ b off, A = some ⟨b, off, none⟩ ∧ b < n₀ ∧ ∀ i r, xs[i]? = some r → WtAt w b (off + i * 3) r
theorem Wts?.upto {n₀ : Nat} {w w' : World} {A : Option Addr} {xs : List Wt} (h : Wts? n₀ w A xs) (hb : Below n₀ w w') : Wts? n₀ w' A xs := fun hn => by
  obtain ⟨b, off, e, hlt, hc⟩ := h hn
  exact ⟨b, off, e, hlt, fun i r hr => (hc i r hr).upto hb hlt⟩
theorem Wts?.mono {n₀ n₁ : Nat} {w : World} {A : Option Addr} {xs : List Wt} (h : Wts? n₀ w A xs) (hn : n₀ ≤ n₁) : Wts? n₁ w A xs := fun hx => by
  obtain ⟨b, off, e, hlt, hc⟩ := h hx
  exact ⟨b, off, e, by omega, hc⟩

/-- whatever is cells of a layer lies as it lay -/
def KeepT (W W' : World) : Prop := ∀ (k : Nat) (cs : Array Value) (z : Nat × Nat), W.heap[k]? = some (Obj.cells cs 68 z) → W'.heap[k]? = some (Obj.cells cs 68 z)
theorem KeepT.refl (W : World) : KeepT W W := fun _ _ _ h => h
theorem KeepT.trans {A B C : World} (h : KeepT A B) (k : KeepT B C) : KeepT A C := fun i cs z e => k i cs z (h i cs z e)
theorem KeepT.below {W W' : World} (h : Below W.heap.size W W') : KeepT W W' := fun k cs z e => (h.block k (Array.getElem?_eq_some_iff.1 e).1).trans e
theorem KeepT.grown {W W' : World} {row : Option Nat} (hg : W.grownBy W' row) (hr : ∀ k, row = some k → ∀ (cs : Array Value) (z : Nat × Nat), W.heap[k]? ≠ some (Obj.cells cs 68 z)) : KeepT W W' := fun k cs z e =>
  (hg.block k (Array.getElem?_eq_some_iff.1 e).1 (fun e' => hr k e'.symm cs z e)).trans e
def Kp2 (n₀ : Nat) (W W' : World) : Prop := Below n₀ W W' ∧ KeepT W W'
theorem kp2_t {n₀ : Nat} {A B C : World} (h : Kp2 n₀ A B) (k : Kp2 n₀ B C) : Kp2 n₀ A C := ⟨h.1.trans k.1, h.2.trans k.2⟩
theorem kp2_b {n₀ : Nat} {w : World} (hn : n₀ ≤ w.heap.size) (W : World) (l : Nat) (o o' : Obj) (hl : w.heap.size ≤ l) (h : W.heap[l]? = some o) (hc : o.isCells = false) (hk : o.isWalk = false) : Kp2 n₀ W (W.putObj l o') :=
  ⟨belowK_b hn W l o o' hl h hc hk, KeepT.grown (grownBy_putObj' W l o') (fun k e cs z e' => by cases e; rw [h] at e'; cases e'; cases hc)⟩

theorem lay_take_succ {xs : List Wt} {k : Nat} {x : Wt} (h : xs[k]? = some x) : (lay 0 xs).take (k + 1) = (lay 0 xs).take k ++ [(frm xs k, x)] := by
  rw [List.take_add_one, lay_at h]; rfl

set_option maxRecDepth 100000 in
set_option maxHeartbeats 2000000 in
theorem layers1_in (F : Fence) (n : Nat) (h99 : F.fn 99) (hro : F.round = none) (hn : 1 ≤ n) (l Bs n₀ : Nat) (A : Option Addr) (len cap : Nat) (xs : List Wt) (hxs : xs.length = len) (hreach : len ≤ 1000000) (J Jx : List (Int × Wt) → World → Prop)
    (W : World) (hnW : n₀ ≤ W.heap.size) (hJ : AbidesFrom W.heap.size J)
    (hY : ∀ pre x W1, J pre W1 → pre.length < len → YieldAt F (n - 1) Try.prog l #[.int .i64 x.1, x.2.val] W1 fun e W' =>
      (e = .returned (.bool true) ∧ J (pre ++ [x]) W' ∧ Kp2 n₀ W1 W') ∨ (e = .returned (.bool false) ∧ Jx (pre ++ [x]) W'))
    (hBs : W.cell? ⟨Bs, 0, none⟩ = some (.slice A len cap)) (hc : Wts? n₀ W A xs) (h0 : J [] W) :
    CallsIn F n Try.prog 99 #[.func (.yield l) #[] #[], .pointer (some ⟨Bs, 0, none⟩)] W fun e W' => (∃ v, e = .returned v) ∧
      ((∃ ys, ys = lay 0 xs ∧ J ys W') ∨ (∃ pre, pre <+: lay 0 xs ∧ Jx pre W')) := by
  refine callsIn_of_wp Try.func99 rfl h99 ?_ hro
  simp only [Try.ntmps99, List.size_toArray, List.length_cons, List.length_nil, Nat.reduceAdd, Nat.reduceSub, Array.replicate_succ, Array.replicate_zero, List.push_toArray, List.append_toArray, List.nil_append, List.cons_append]
  gi_wp2
  gi_loopw [3, 8] (fun s3 s8 wr => ∃ k : Nat, k ≤ len ∧ s8 = .int .i64 k ∧ s3 = .int .i64 (frm xs k) ∧ J ((lay 0 xs).take k) wr ∧ Below n₀ W wr)
    (fun s3 s8 _ => len - (intOf s8).toNat)
  case atStart => exact ⟨0, Nat.zero_le _, rfl, rfl, by simpa using h0, Below.refl _ _⟩
  case round =>
    obtain ⟨k, hk, rfl, rfl, hJs, hnx⟩ := hrel
    by_cases hlt : k < len
    · obtain ⟨x, hx⟩ : ∃ x, xs[k]? = some x := ⟨_, List.getElem?_eq_getElem (by rw [hxs]; exact hlt)⟩
      obtain ⟨b, off, rfl, hb, hcs⟩ := hc (by omega)
      obtain ⟨c0, c1, c2⟩ := (hcs k x hx).upto hnx hb
      have hlt2 : (k : Int) < (len : Int) := by omega
      have hJa : J ((lay 0 xs).take k) (wr.alloc (.cells #[.int .i64 x.til, .int .i64 x.lo, .int .i64 x.hi] 68)) := hJ _ _ _ none hJs (World.grownBy_alloc wr _ none) (fun r e => by cases e)
      obtain ⟨fn, tmps, assign, body, hy, hR⟩ := hY _ (frm xs k, x) _ hJa (by rw [List.length_take, lay_length]; omega)
      dsimp only at hy
      have hts := lay_take_succ hx
      have hfs := frm_succ hx
      clear hJs
      gi_wp2
      refine hR.mono ?_
      rintro e W3 (⟨rfl, hJ3, hk3⟩ | ⟨rfl, hJx3⟩)
      · have hq3 : W3.cell? ⟨wr.heap.size, 0, none⟩ = some (.int .i64 x.til) := by simp [World.cell?, hk3.2 _ _ _ (World.alloc_heap_new wr _)]
        have hB3 : Below n₀ W W3 := (hnx.alloc (Nat.le_trans hnW hnx.size) _).trans hk3.1
        gi_wp2
        go_roundw
        case rel => exact ⟨k + 1, by omega, by simp, by rw [hfs], by rw [hts]; exact hJ3, hB3⟩
        case measure => simp [intOf]; omega
      · gi_wp2
        refine bodyPost_ret (results_none rfl _ _ _) rfl ?_
        exact ⟨⟨_, rfl⟩, .inr ⟨_, by rw [← hts]; exact List.take_prefix _ _, hJx3⟩⟩
    · obtain rfl : k = len := by omega
      have hnlt : ¬ ((k : Int) < (k : Int)) := by omega
      gi_wp2
      go_end0
      rw [List.take_of_length_le (by rw [lay_length]; omega)] at hJs
      refine ⟨⟨_, rfl⟩, .inl ?_⟩
      first | exact hJs | exact ⟨_, rfl, hJs⟩

set_option maxHeartbeats 1000000 in
theorem layers_in (F : Fence) (n : Nat) (h87 : F.fn 87) (hro : F.round = none) (A : Option Addr) (len cap : Nat) (w : World) :
    CallsIn F n Try.prog 87 #[.slice A len cap] w fun e w' => e = .returned (.func (.func 99) #[] #[.pointer (some ⟨w.heap.size, 0, none⟩)]) ∧ w' = w.alloc (.cells #[.slice A len cap] 60) := by
  refine callsIn_of_wp Try.func87 rfl h87 ?_ hro
  simp only [Try.ntmps87, List.size_toArray, List.length_cons, List.length_nil, Nat.reduceAdd, Nat.reduceSub, Array.replicate_succ, Array.replicate_zero, List.push_toArray, List.append_toArray, List.nil_append, List.cons_append]
  gi_wp2
  go_ret
  exact ⟨rfl, rfl⟩

/-- layers(w) hands back a value that 'SeqStopsK' -/
theorem layers_stops (F : Fence) (n : Nat) (h99 : F.fn 99) (hro : F.round = none) (hn : 1 ≤ n) (Bs n₀ : Nat) (A : Option Addr) (len cap : Nat) (xs : List Wt) (hxs : xs.length = len) (hreach : len ≤ 1000000) (w : World) (hBs : Bs < w.heap.size) (hn₀ : n₀ ≤ w.heap.size)
    (hc : w.cell? ⟨Bs, 0, none⟩ = some (.slice A len cap)) (hI : Wts? n₀ w A xs) :
    SeqStopsK F n Try.prog 99 #[.pointer (some ⟨Bs, 0, none⟩)] (fun x : Int × Wt => #[Value.int .i64 x.1, x.2.val]) (Kp2 n₀) (fun ys => ys = lay 0 xs) (fun pre => pre <+: lay 0 xs) len w := fun l J Jx W hW hJ _ hY h0 =>
  layers1_in F n h99 hro hn l Bs n₀ A len cap xs hxs hreach J Jx W (Nat.le_trans hn₀ hW.size) hJ hY ((hW.cell (p := ⟨Bs, 0, none⟩) hBs).trans hc) (hI.upto (hW.mono hn₀)) h0
end Go.Proofs.Ytollpjdnahemeaa
