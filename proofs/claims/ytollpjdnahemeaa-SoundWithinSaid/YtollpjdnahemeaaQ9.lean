import Derived.Test.YtollpjdnahemeaaQ8
namespace Go.Proofs.Ytollpjdnahemeaa
open Go.RowKit Go.Shelf
set_option linter.unusedSimpArgs false
set_option linter.unusedVariables false
attribute [local go_sem] Oper.semAt_some
theorem hxs_of {A : Option Addr} {xs : List Wt} {w : World} (hx : Wts? w.heap.size w A xs) : ∀ W, Below w.heap.size w W → Wts? W.heap.size W A xs := fun W h => (hx.upto h).mono h.size
theorem bel {P : Program} {f : FuncId} {args : Array Value} {W : World} {v : Value} (h : Calls P f args W fun e w' => e = .returned v ∧ W = w') : Calls P f args W fun e w' => e = .returned v ∧ Below W.heap.size W w' := h.mono fun e w' k => ⟨k.1, k.2 ▸ Below.refl _ _⟩
theorem speedS_ok {xs : List Wt} {dl dh : Int} (h : (wValid xs && depB dl dh) = true) : speedS xs dl dh = ((speedP dl dh xs).1, (speedP dl dh xs).2, 0) := by rw [speedS, if_pos h]
theorem speedS_no {xs : List Wt} {dl dh : Int} (h : (wValid xs && depB dl dh) = false) : speedS xs dl dh = (0, 0, 1) := by rw [speedS, h]; rfl
set_option maxRecDepth 100000 in
set_option maxHeartbeats 2000000 in
theorem Speed_no1 (A : Option Addr) (n c : Nat) (xs : List Wt) (dl dh : Int) (w : World) (hn : xs.length = n) (hbig : n ≤ 1000000) (hx : Wts? w.heap.size w A xs) (hv : wValid xs = false) :
    Calls Try.prog 59 #[.slice A n c, .agg #[.int .i64 dl, .int .i64 dh]] w fun e w' => e = .returned (.tuple #[.agg #[.int .i64 0, .int .i64 0], .int .i64 1]) ∧ Below w.heap.size w w' := by
  have HV := fun W h => SValid_any A n c xs W hn h
  rw [hv] at HV
  have HV := Lib.hid HV
  refine (callsIn_wide (n := 3)).1 ?_
  refine callsIn_of_wp_marks Try.func59 rfl trivial ?_ rfl
  simp only [Try.ntmps59, List.size_toArray, List.length_cons, List.length_nil, Nat.reduceAdd, Nat.reduceSub, Array.replicate_succ, Array.replicate_zero, List.push_toArray, List.append_toArray, List.nil_append, List.cons_append]
  gi_wp2_with fail
  have hBa : Below w.heap.size w ((w.alloc (.cells #[.int .i64 dl, .int .i64 dh] 23)).alloc (.cells #[.int .i64 0, .int .i64 0] 23)) := by go_grown
  refine ⟨trivial, (callsIn_wide.2 (HV.out _ ((hx.upto hBa).mono (by simp; omega)))).mono ?_⟩
  rintro e w1 ⟨rfl, hb1⟩
  have hB1 : Below w.heap.size w w1 := below_after hBa hb1
  have p0 : w1.cell? ⟨w.heap.size, 0, none⟩ = some (.int .i64 dl) := kp hb1 (by go_cell)
  have p1 : w1.cell? ⟨w.heap.size, 1, none⟩ = some (.int .i64 dh) := kp hb1 (by go_cell)
  have q0 : w1.cell? ⟨w.heap.size + 1, 0, none⟩ = some (.int .i64 0) := kp hb1 (by go_cell)
  have q1 : w1.cell? ⟨w.heap.size + 1, 1, none⟩ = some (.int .i64 0) := kp hb1 (by go_cell)
  have f0 : w1.frozen? ⟨w.heap.size + 1, 0, none⟩ = false := (hb1.frozen (p := ⟨w.heap.size + 1, 0, none⟩) (by simp)).trans (by go_simp)
  have f1 : w1.frozen? ⟨w.heap.size + 1, 1, none⟩ = false := (hb1.frozen (p := ⟨w.heap.size + 1, 1, none⟩) (by simp)).trans (by go_simp)
  clear hb1
  gi_wp2_with fail
  refine ⟨trivial, ?_⟩
  gi_wp2_with fail
  have hcs := set2s (w := w1) (B := w.heap.size + 1) (.int .i64 0) (.int .i64 0) (by rw [q0]; rfl) (by rw [q1]; rfl)
  refine ⟨.tuple #[.agg #[.int .i64 0, .int .i64 0], .int .i64 1], ?_, rfl, by go_grown⟩
  simp [results, Try.f59, go_sem, hcs.1, hcs.2]
set_option maxRecDepth 100000 in
set_option maxHeartbeats 2000000 in
theorem Speed_no2 (A : Option Addr) (n c : Nat) (xs : List Wt) (dl dh : Int) (w : World) (hn : xs.length = n) (hbig : n ≤ 1000000) (hx : Wts? w.heap.size w A xs) (hv : wValid xs = true) (hd : depB dl dh = false) :
    Calls Try.prog 59 #[.slice A n c, .agg #[.int .i64 dl, .int .i64 dh]] w fun e w' => e = .returned (.tuple #[.agg #[.int .i64 0, .int .i64 0], .int .i64 1]) ∧ Below w.heap.size w w' := by
  have HV := fun W h => SValid_any A n c xs W hn h
  rw [hv] at HV
  have HV := Lib.hid HV
  have HU := fun W => upTo_any dl dh 100000 W
  rw [show (decide (0 ≤ dl) && decide (dl ≤ dh) && decide (dh ≤ 100000)) = false from hd] at HU
  have HU := Lib.hid HU
  refine (callsIn_wide (n := 3)).1 ?_
  refine callsIn_of_wp_marks Try.func59 rfl trivial ?_ rfl
  simp only [Try.ntmps59, List.size_toArray, List.length_cons, List.length_nil, Nat.reduceAdd, Nat.reduceSub, Array.replicate_succ, Array.replicate_zero, List.push_toArray, List.append_toArray, List.nil_append, List.cons_append]
  gi_wp2_with fail
  have hBa : Below w.heap.size w ((w.alloc (.cells #[.int .i64 dl, .int .i64 dh] 23)).alloc (.cells #[.int .i64 0, .int .i64 0] 23)) := by go_grown
  refine ⟨trivial, (callsIn_wide.2 (HV.out _ ((hx.upto hBa).mono (by simp; omega)))).mono ?_⟩
  rintro e w1 ⟨rfl, hb1⟩
  have hB1 : Below w.heap.size w w1 := below_after hBa hb1
  have p0 : w1.cell? ⟨w.heap.size, 0, none⟩ = some (.int .i64 dl) := kp hb1 (by go_cell)
  have p1 : w1.cell? ⟨w.heap.size, 1, none⟩ = some (.int .i64 dh) := kp hb1 (by go_cell)
  have q0 : w1.cell? ⟨w.heap.size + 1, 0, none⟩ = some (.int .i64 0) := kp hb1 (by go_cell)
  have q1 : w1.cell? ⟨w.heap.size + 1, 1, none⟩ = some (.int .i64 0) := kp hb1 (by go_cell)
  have f0 : w1.frozen? ⟨w.heap.size + 1, 0, none⟩ = false := (hb1.frozen (p := ⟨w.heap.size + 1, 0, none⟩) (by simp)).trans (by go_simp)
  have f1 : w1.frozen? ⟨w.heap.size + 1, 1, none⟩ = false := (hb1.frozen (p := ⟨w.heap.size + 1, 1, none⟩) (by simp)).trans (by go_simp)
  clear hb1
  gi_wp2_with fail
  refine ⟨trivial, (callsIn_wide.2 (HU.out _)).mono ?_⟩
  rintro e w2 ⟨rfl, hb2⟩
  have hB2 : Below w.heap.size w w2 := below_after hB1 hb2
  have f0 := kf hb2 (by rw [q0]; rfl) f0
  have f1 := kf hb2 (by rw [q1]; rfl) f1
  have q0 := kp hb2 q0
  have q1 := kp hb2 q1
  clear hb2
  gi_wp2_with fail
  have hcs := set2s (w := w2) (B := w.heap.size + 1) (.int .i64 0) (.int .i64 0) (by rw [q0]; rfl) (by rw [q1]; rfl)
  refine ⟨.tuple #[.agg #[.int .i64 0, .int .i64 0], .int .i64 1], ?_, rfl, by go_grown⟩
  simp [results, Try.f59, go_sem, hcs.1, hcs.2]
theorem Speed_any (A : Option Addr) (n c : Nat) (xs : List Wt) (dl dh : Int) (w : World) (hn : xs.length = n) (hbig : n ≤ 1000000) (hx : Wts? w.heap.size w A xs) :
    Calls Try.prog 59 #[.slice A n c, .agg #[.int .i64 dl, .int .i64 dh]] w fun e w' => e = .returned (.tuple #[.agg #[.int .i64 (speedS xs dl dh).1, .int .i64 (speedS xs dl dh).2.1], .int .i64 (speedS xs dl dh).2.2]) ∧ Below w.heap.size w w' := by
  cases hv : wValid xs with
  | false => rw [speedS_no (by rw [hv]; rfl)]; exact Speed_no1 A n c xs dl dh w hn hbig hx hv
  | true =>
    cases hd : depB dl dh with
    | false => rw [speedS_no (by rw [hv, hd]; rfl)]; exact Speed_no2 A n c xs dl dh w hn hbig hx hv hd
    | true => rw [speedS_ok (by rw [hv, hd]; rfl)]; exact Speed_go A n c xs dl dh w hn hx hv hd
end Go.Proofs.Ytollpjdnahemeaa
