import Derived.Test.YtnhdnkeiijiiaaaGreatA12
namespace Go.Proofs.YtnhdnkeiijiiaaaGreat
open Go.RowKit Go.Shelf
set_option linter.unusedSimpArgs false
set_option linter.unusedVariables false
attribute [local go_sem ↓] Go.wp_at_zero Go.wp_at_succ
/-- a region, or an error -/
def RetRegIf (base : Nat) (w : World) (E : Int) (rs : List (List Pt)) (e : Ending) (w' : World) : Prop := (E = 0 ∧ RetRegOk base w rs e w') ∨ (E ≠ 0 ∧ RetRegErr w E e w')
/-- what ring.Near answers beside a region -/
def nearErr (rs : List (List Pt)) (q : Pt) (lo hi : Int) : Int := if regB rs = true then ringErr q lo hi else 1
theorem ringL_valid {q : Pt} {lo hi : Int} (h : ringErr q lo hi = 0) : ∀ r ∈ ringL q lo hi, validB r = true := by
  unfold ringErr at h
  split at h
  · split at h
    · rename_i h2; exact List.all_eq_true.1 h2
    · omega
  · omega
theorem ring_regB {q : Pt} {lo hi : Int} (h : ringErr q lo hi = 0) : regB (tidiedS (ringL q lo hi)) = true := regB_iff.2 ⟨tidied_len _, tidied_valid (ringL_valid h)⟩
set_option maxHeartbeats 1600000 in
set_option maxRecDepth 100000 in
theorem Near_any (A : Option Addr) (n c : Nat) (rs : List (List Pt)) (q : Pt) (lo hi : Int) (w : World) (hn : rs.length = n) (hbig : n ≤ 9223372036854775807) (hx : Reg? w.heap.size w A rs) (hI : Oks64 rs) (hq : I64 q.x ∧ I64 q.y) :
    Calls Tryz.prog 20 #[.slice A n c, q.val, .agg #[.int .i64 lo, .int .i64 hi]] w (RetRegIf w.heap.size w (nearErr rs q lo hi) (regMeetS rs (tidiedS (ringL q lo hi)))) := by
  have v1 := fun W (hB : Below w.heap.size w W) => rValid_any A n c rs W hn hbig (hx.later hB) hI
  cases hr : regB rs with
  | false =>
    have he : nearErr rs q lo hi = 1 := by simp [nearErr, hr]
    rw [he]
    obtain ⟨qx, qy⟩ := q
    rw [hr] at v1
    have V1 := Lib.hid v1
    clear v1 hx hI hr hn he
    go_enter Tryz.func20, Tryz.ntmps20
    go_wp2_with fail
    refine (V1.out _ (by go_grown)).mono ?_
    rintro e w1 ⟨rfl, hb1⟩
    have hB1 : Below w.heap.size w w1 := below_after (by go_grown) hb1
    clear hb1
    go_wp2_with fail
    go_ret2
    exact .inr ⟨by decide, rfl, hB1⟩
  | true =>
    have he : nearErr rs q lo hi = ringErr q lo hi := by simp [nearErr, hr]
    rw [he]
    have v2 := fun W => Ring_any q lo hi W hq
    have v3 := fun W B m d (hB : Below w.heap.size w W) (hm : _ = m) (hy) (h0 : ringErr q lo hi = 0) => Meet_ok A B n c m d rs (tidiedS (ringL q lo hi)) W hn hm (hx.later hB) hy hr (ring_regB h0)
    generalize ringErr q lo hi = E at *
    generalize tidiedS (ringL q lo hi) = T at *
    generalize regMeetS rs T = M at *
    obtain ⟨qx, qy⟩ := q
    rw [hr] at v1
    have V1 := Lib.hid v1
    have V2 := Lib.hid v2
    have V3 := Lib.hid v3
    clear v1 v2 v3 hx hI hr hn he hq
    go_enter Tryz.func20, Tryz.ntmps20
    go_wp2_with fail
    refine (V1.out _ (by go_grown)).mono ?_
    rintro e w1 ⟨rfl, hb1⟩
    have hB1 : Below w.heap.size w w1 := below_after (by go_grown) hb1
    have c0 : w1.cell? ⟨w.heap.size, 0, none⟩ = some (.int .i64 qx) := kp hb1 (by go_cell)
    have c1 : w1.cell? ⟨w.heap.size, 1, none⟩ = some (.int .i64 qy) := kp hb1 (by go_cell)
    have c2 : w1.cell? ⟨w.heap.size + 1, 0, none⟩ = some (.int .i64 lo) := kp hb1 (by go_cell)
    have c3 : w1.cell? ⟨w.heap.size + 1, 1, none⟩ = some (.int .i64 hi) := kp hb1 (by go_cell)
    clear hb1
    go_wp2_with fail
    refine (V2.out _).mono ?_
    rintro e w2 (⟨h0, v2, rfl, ho2, hb2⟩ | ⟨h0, rfl, hb2⟩)
    · subst h0
      obtain ⟨A2, k2, rfl, -, -, -, hp2⟩ := ho2.slice
      have hB2 : Below w.heap.size w w2 := hB1.trans (hb2.mono hB1.size)
      have HM := Lib.hid (V3.out w2 A2 _ k2 hB2 rfl hp2 rfl)
      generalize T.length = LT at *
      clear ho2 hp2 hb2 c0 c1 c2 c3
      go_wp2_with fail
      refine HM.out.mono ?_
      rintro e w3 ⟨v3, rfl, ho3, hb3⟩
      have hB3 : Below w.heap.size w w3 := hB2.trans (hb3.mono hB2.size)
      have HO3 := Lib.hid (ownR_mono ho3 hB2.size)
      clear ho3 hb3
      go_wp2_with fail
      go_ret2
      exact .inl ⟨rfl, _, rfl, HO3.out, hB3⟩
    · have hB2 : Below w.heap.size w w2 := hB1.trans (hb2.mono hB1.size)
      clear hb2
      go_wp2_with fail
      go_ret2
      exact .inr ⟨h0, rfl, hB2⟩
theorem own_single (w : World) (p : Pt) (base : Nat) (h : base ≤ w.heap.size) : Own (w.alloc (.cells #[.int .i64 p.x, .int .i64 p.y] 23)) base (.slice (some ⟨w.heap.size, 0, none⟩) 1 1) [p] :=
  ⟨rfl, .inr ⟨w.heap.size, 1, _, rfl, h, heap_alloc_new w _, Nat.le_refl _, by decide, rfl, rfl⟩⟩
set_option maxHeartbeats 1600000 in
set_option maxRecDepth 100000 in
theorem single_any (A : Option Addr) (n c : Nat) (xs : List Pt) (w : World) (hn : xs.length = n) (hbig : n ≤ 1000000) (hx : Pts? w.heap.size w A xs) :
    Calls Tryz.prog 17 #[.slice A n c] w (RetReg w.heap.size w (xs.map fun p => [p])) := by
  have HX := Lib.hid hx
  have HN := Lib.hid hn
  have hI : (n : Int) ≤ 1000000 := by omega
  clear hx hn
  go_enter Tryz.func17, Tryz.ntmps17
  go_wp2_with fail
  go_loopg [4, 3] (n + 1) (fun g s4 s3 wr => ∃ (k : Nat) (v : Value), k ≤ n ∧ g + k = n + 1 ∧ s4 = .int .i64 k ∧ v = s3 ∧ OwnR wr w.heap.size v ((xs.take k).map fun p => [p]) ∧ Below w.heap.size w wr)
  case atStart => exact ⟨0, _, by omega, by omega, rfl, rfl, ownR_nil _ _, Below.refl _ _⟩
  case round =>
    obtain ⟨k, v, hk, hg, rfl, rfl, hO, hBr⟩ := hrel
    have HO := Lib.hid hO
    clear hO
    by_cases hlt : k < n
    · obtain ⟨p, hp⟩ : ∃ p, xs[k]? = some p := ⟨_, List.getElem?_eq_getElem (by rw [HN.out]; exact hlt)⟩
      obtain ⟨b, off, rfl, hlt0, hc⟩ := HX.out (by rw [HN.out]; omega)
      obtain ⟨h1, h2⟩ := (hc k p hp).upto hBr hlt0
      have hlt2 : (k : Int) < (n : Int) := by omega
      have hk0 : (0 : Int) ≤ (k : Int) := by omega
      have hsn : (xs.take (k + 1)).map (fun p => [p]) = (xs.take k).map (fun p => [p]) ++ [[p]] := by rw [List.take_add_one, hp]; simp
      have hlen : ((xs.take k).map fun p => [p]).length ≤ 1000000 := by rw [List.length_map, List.length_take]; omega
      have HS := Lib.hid (And.intro hsn hlen)
      have hb1 : Below wr.heap.size wr (wr.alloc (.cells #[.int .i64 p.x, .int .i64 p.y] 23)) := (Below.refl _ _).alloc (Nat.le_refl _) _
      have hOW := own_single wr p w.heap.size hBr.size
      have hO1 := HO.out.later hb1
      obtain ⟨px, py⟩ := p
      dsimp only at h1 h2 hb1 hOW hO1
      have HU := Lib.hid (And.intro hO1 hOW)
      have hsz := hBr.size
      clear hc hp hsn hlen hO1 hOW HO
      go_wp2_with (at_builtin; go_must (refine wpList_append_poly _ (by rfl) (.tmp 11) (.tmp 17) (by rfl) w.heap.size _ _ ((xs.take k).map fun p => [p]) [⟨px, py⟩] (by rfl) HU.out.1 HU.out.2 (by rw [World.size_alloc]; rfl) (by have := HS.out.2; omega) (by simp; omega) ?_))
      intro v7 w7 hown hB7 hz7 hk7 hn7
      have hown2 : OwnR w7 w.heap.size v7 ((xs.take (k + 1)).map fun p => [p]) := by rw [HS.out.1, List.map_take]; exact hown
      have HO7 := Lib.hid hown2
      have hBw7 : Below w.heap.size w w7 := (hBr.trans (hb1.mono hsz)).trans hB7
      clear hown hown2 hB7 hz7 hk7 hn7 hb1
      go_wp2_with fail
      go_roundg (gk - 1)
      case measure => omega
      case rel => exact ⟨k + 1, _, by omega, by omega, by go_num, rfl, HO7.out, hBw7⟩
    · obtain rfl : k = n := by omega
      have hnlt : ¬ ((k : Int) < (k : Int)) := by omega
      have hO := HO.out
      rw [List.take_of_length_le (by rw [HN.out]; omega)] at hO
      have HO2 := Lib.hid hO
      clear hO HO
      go_wp2_with fail
      go_ret
      exact ⟨_, rfl, HO2.out, hBr⟩
end Go.Proofs.YtnhdnkeiijiiaaaGreat
namespace Go.Proofs.YtnhdnkeiijiiaaaGreat
open Go.RowKit Go.Shelf
set_option linter.unusedSimpArgs false
set_option linter.unusedVariables false
attribute [local go_sem ↓] Go.wp_at_zero Go.wp_at_succ
/-- a wedge: its box holds a region and the beacon -/
structure WS (n₀ Bw : Nat) (b : Pt) (k : Nat) (rs : List (List Pt)) (W : World) (v : Value) : Prop where
  box : W.heap[Bw]? = some (.cells #[v, .int .i64 b.x, .int .i64 b.y] 67 (0, 0))
  val : ∃ A c, v = .slice A rs.length c ∧ Reg? W.heap.size W A rs
  reg : regB rs = true
  own : k ≠ 0 → OwnR W n₀ v rs
/-- all but one block lie as they lay -/
structure Kept (B : Nat) (w w' : World) : Prop where
  os : w'.os = w.os
  tape : w'.tape = w.tape
  output : w'.output = w.output
  size : w.heap.size ≤ w'.heap.size
  block : ∀ j, j < w.heap.size → j ≠ B → w'.heap[j]? = w.heap[j]?
theorem Kept.refl (B : Nat) (w : World) : Kept B w w := ⟨rfl, rfl, rfl, Nat.le_refl _, fun _ _ _ => rfl⟩
theorem Kept.of {B : Nat} {w w' : World} (h : Below w.heap.size w w') : Kept B w w' := ⟨h.os, h.tape, h.output, h.size, fun j hj _ => h.block j hj⟩
theorem Kept.trans {B : Nat} {u v w : World} (h : Kept B u v) (k : Kept B v w) : Kept B u w :=
  ⟨k.os.trans h.os, k.tape.trans h.tape, k.output.trans h.output, Nat.le_trans h.size k.size, fun j hj hn => (k.block j (Nat.lt_of_lt_of_le hj h.size) hn).trans (h.block j hj hn)⟩
theorem Kept.below {B n₀ : Nat} {u v w : World} (h : Below n₀ u v) (k : Kept B v w) (hB : n₀ ≤ B) (hv : n₀ ≤ v.heap.size) : Below n₀ u w :=
  ⟨k.os.trans h.os, k.tape.trans h.tape, k.output.trans h.output, Nat.le_trans h.size k.size, fun j hj => (k.block j (by omega) (by omega)).trans (h.block j hj)⟩
theorem Kept.keeps {B : Nat} {v w : World} (h : Kept B v w) {j : Nat} {o : Obj} (hk : v.heap[j]? = some o) (hn : j ≠ B) : w.heap[j]? = some o := (h.block j (Array.getElem?_eq_some_iff.1 hk).1 hn).trans hk
theorem WS.later {n₀ Bw k : Nat} {b : Pt} {rs : List (List Pt)} {W W' : World} {v : Value} (h : WS n₀ Bw b k rs W v) (hb : Below W.heap.size W W') : WS n₀ Bw b k rs W' v where
  box := (hb.block _ (Array.getElem?_eq_some_iff.1 h.box).1).trans h.box
  val := by obtain ⟨A, c, e, hr⟩ := h.val; exact ⟨A, c, e, hr.later hb⟩
  reg := h.reg
  own := fun hk => (h.own hk).later hb
/-- the new region is laid into the box -/
theorem ws_store {n₀ Bw k : Nat} {b : Pt} {rs rs' : List (List Pt)} {w W : World} {v v' : Value} (h : WS n₀ Bw b k rs w v) (hb : Below w.heap.size w W) (ho : OwnR W n₀ v' rs') (hr : regB rs' = true) :
    WS n₀ Bw b (k + 1) rs' (W.setCell ⟨Bw, 0, none⟩ v') v' ∧ Kept Bw w (W.setCell ⟨Bw, 0, none⟩ v') := by
  have hbx := (hb.block _ (Array.getElem?_eq_some_iff.1 h.box).1).trans h.box
  have ho' : OwnR (W.setCell ⟨Bw, 0, none⟩ v') n₀ v' rs' := ho.keptG fun j cs t e h1 h2 => (Below.heap_setCell W ⟨Bw, 0, none⟩ v' j (fun e' => by
    dsimp only at e'
    subst e'
    rw [hbx] at e
    cases e
    rcases h2 with h2 | h2 <;> cases h2)).trans e
  refine ⟨⟨heap_setCell_same W Bw 0 _ 67 v' hbx, ?_, hr, fun _ => ho'⟩, ?_⟩
  · obtain ⟨A, c, e, -, -, -, hg⟩ := ho'.slice
    exact ⟨A, c, e, hg⟩
  · exact ⟨hb.os, hb.tape, hb.output, by rw [World.size_setCell]; exact hb.size, fun j hj hn => (Below.heap_setCell W ⟨Bw, 0, none⟩ v' j hn).trans (hb.block j hj)⟩
set_option maxRecDepth 100000 in
set_option maxHeartbeats 4000000 in
theorem wcut_any (n₀ Bw k : Nat) (b : Pt) (rs : List (List Pt)) (v : Value) (X Y : Int) (w : World) (h : WS n₀ Bw b k rs w v) (hn0 : n₀ ≤ w.heap.size) (hX : -1000 ≤ X ∧ X ≤ 1000) (hY : -1000 ≤ Y ∧ Y ≤ 1000) (hne : X ≠ 0 ∨ Y ≠ 0) (hb : plB b = true) :
    Calls Tryz.prog 37 #[.pointer (some ⟨Bw, 0, none⟩), .int .i64 X, .int .i64 Y] w fun e w' => e = .returned (.int .i64 0) ∧ (∃ v', WS n₀ Bw b (k + 1) (regCutS rs ⟨X, Y, X * b.x + Y * b.y⟩) w' v') ∧ Kept Bw w w' := by
  obtain ⟨A, c, rfl, hr⟩ := h.val
  have hbx := h.box
  have hreg := h.reg
  have hbb := (plB_iff b).1 hb
  have m1 := mul_bd (a := X) (b := b.x) (A := 1000) (B := 500000) (by omega) (by omega) (by omega) (by omega)
  have m2 := mul_bd (a := Y) (b := b.y) (A := 1000) (B := 500000) (by omega) (by omega) (by omega) (by omega)
  have hh : hfB ⟨X, Y, X * b.x + Y * b.y⟩ = true := by simp [hfB]; omega
  have hcut := fun W (hB : Below w.heap.size w W) => Cut_ok A _ c rs ⟨X, Y, X * b.x + Y * b.y⟩ W rfl (hr.later hB) hreg hh
  have hrv := regCut_valid (regB_iff.1 hreg).2 ⟨X, Y, X * b.x + Y * b.y⟩
  have hrB : regB (regCutS rs ⟨X, Y, X * b.x + Y * b.y⟩) = true := regB_iff.2 ⟨tidied_len _, hrv⟩
  obtain ⟨bx, bY⟩ := b
  dsimp only at hbx hbb m1 m2 hcut hrB ⊢
  have w1 : IntKind.i64.wrap (X * bx) = X * bx := IntWalk.i64_in _ (by omega)
  have w2 : IntKind.i64.wrap (Y * bY) = Y * bY := IntWalk.i64_in _ (by omega)
  have w3 : IntKind.i64.wrap (X * bx + Y * bY) = X * bx + Y * bY := IntWalk.i64_in _ (by omega)
  have HH := Lib.hid (And.intro h hrB)
  clear h hr hreg hb hbb hh hrv hrB hX hY hne
  generalize hp1 : X * bx = P1 at *
  generalize hp2 : Y * bY = P2 at *
  have HC := Lib.hid hcut
  generalize rs.length = n at *
  have t0 : w.cell? ⟨Bw, 0, none⟩ = some (.slice A n c) := by simp [World.cell?, hbx]
  have t1 : w.cell? ⟨Bw, 1, none⟩ = some (.int .i64 bx) := by simp [World.cell?, hbx]
  have t2 : w.cell? ⟨Bw, 2, none⟩ = some (.int .i64 bY) := by simp [World.cell?, hbx]
  have hbz : Below w.heap.size w w.drew := Below.drew (Below.refl _ _)
  have s0 := kp hbz t0
  have s1 := kp hbz t1
  have s2 := kp hbz t2
  have f0 : w.frozen? ⟨Bw, 0, none⟩ = false := by simp [World.frozen?, hbx]
  clear hcut t1 t2 hbx
  have hp : ∀ ops, PlainOps Fence.wide ops := fun ops => plainOps_none rfl
  refine (callsIn_wide (n := 6)).1 ?_
  refine callsIn_of_wp Tryz.func37 rfl trivial ?_ rfl
  simp only [Tryz.ntmps37, List.size_toArray, List.length_cons, List.length_nil, Nat.reduceAdd, Nat.reduceSub, Array.replicate_succ, Array.replicate_zero, List.push_toArray, List.append_toArray, List.nil_append, List.cons_append]
  gi_wp2
  have HSZ := Lib.hid (show ∀ w9, Below w.drew.heap.size w.drew w9 → (fun w9 => Below w.drew.heap.size w.drew w9 ∧ w9.cell? ⟨Bw, 0, none⟩ = some (.slice A n c) ∧ w9.cell? ⟨Bw, 1, none⟩ = some (.int .i64 bx) ∧ w9.cell? ⟨Bw, 2, none⟩ = some (.int .i64 bY)) w9 from fun w9 h9 => ⟨h9, kp h9 s0, kp h9 s1, kp h9 s2⟩)
  clear s0 s1 s2
  refine held_begin [0, 1, 2, 3, 4, 5, 6, 7, 8, 9, 10, 11, 12, 13, 14, 15, 16, 17, 18, 19, 20, 21, 22, 25, 26] (fun w9 => Below w.drew.heap.size w.drew w9 ∧ w9.cell? ⟨Bw, 0, none⟩ = some (.slice A n c) ∧ w9.cell? ⟨Bw, 1, none⟩ = some (.int .i64 bx) ∧ w9.cell? ⟨Bw, 2, none⟩ = some (.int .i64 bY)) (by kernel_rfl) (HSZ.out _ (Below.refl _ _)) (fun hS => ?_)
  generalize w.drew = z at *
  refine tk 0 (v := ?_) (hp _) hS rfl (fun _ _ _ _ => trivial) ?_ ?_
  rotate_left 1
  · intro w hw; (try rw [hw]); (try go_split_ands); go_simp <;> with_reducible rfl
  try simp only [Act.put, st]
  refine tk 1 (v := ?_) (hp _) hS rfl (fun _ _ _ _ => trivial) ?_ ?_
  rotate_left 1
  · intro w hw; (try rw [hw]); (try go_split_ands); go_simp <;> with_reducible rfl
  try simp only [Act.put, st]
  refine tk 2 (v := ?_) (hp _) hS rfl (fun _ _ _ _ => trivial) ?_ ?_
  rotate_left 1
  · intro w hw; (try rw [hw]); (try go_split_ands); go_simp <;> with_reducible rfl
  try simp only [Act.put, st]
  refine tk 3 (v := ?_) (hp _) hS rfl (fun _ _ _ _ => trivial) ?_ ?_
  rotate_left 1
  · intro w hw; (try rw [hw]); (try go_split_ands); go_simp <;> with_reducible rfl
  try simp only [Act.put, st]
  refine tk 4 (v := ?_) (hp _) hS rfl (fun _ _ _ _ => trivial) ?_ ?_
  rotate_left 1
  · intro w hw; (try rw [hw]); (try go_split_ands); go_simp <;> with_reducible rfl
  try simp only [Act.put, st]
  refine tk 5 (v := ?_) (hp _) hS rfl (fun _ _ _ _ => trivial) ?_ ?_
  rotate_left 1
  · intro w hw; (try rw [hw]); (try go_split_ands); go_simp <;> with_reducible rfl
  try simp only [Act.put, st]
  refine tk 6 (v := ?_) (hp _) hS rfl (fun _ _ _ _ => trivial) ?_ ?_
  rotate_left 1
  · intro w hw; (try rw [hw]); (try go_split_ands); go_simp <;> with_reducible rfl
  try simp only [Act.put, st]
  refine tk 7 (v := ?_) (hp _) hS rfl (fun _ _ _ _ => trivial) ?_ ?_
  rotate_left 1
  · intro w hw; (try rw [hw]); (try go_split_ands); go_simp <;> with_reducible rfl
  try simp only [Act.put, st]
  refine tk 8 (v := ?_) (hp _) hS rfl (fun _ _ _ _ => trivial) ?_ ?_
  rotate_left 1
  · intro w hw; (try rw [hw]); (try go_split_ands); go_simp <;> with_reducible rfl
  try simp only [Act.put, st]
  refine tk 9 (v := ?_) (hp _) hS rfl (fun _ _ _ _ => trivial) ?_ ?_
  rotate_left 1
  · intro w hw; (try rw [hw]); (try go_split_ands); go_simp <;> with_reducible rfl
  try simp only [Act.put, st]
  refine tk 10 (v := ?_) (hp _) hS rfl (fun _ _ _ _ => trivial) ?_ ?_
  rotate_left 1
  · intro w hw; (try rw [hw]); (try go_split_ands); go_simp <;> with_reducible rfl
  try simp only [Act.put, st]
  refine tk 11 (v := ?_) (hp _) hS rfl (fun _ _ _ _ => trivial) ?_ ?_
  rotate_left 1
  · intro w hw; (try rw [hw]); (try go_split_ands); go_simp <;> with_reducible rfl
  try simp only [Act.put, st]
  refine tk 12 (v := ?_) (hp _) hS rfl (fun _ _ _ _ => trivial) ?_ ?_
  rotate_left 1
  · intro w hw; (try rw [hw]); (try go_split_ands); go_simp <;> with_reducible rfl
  try simp only [Act.put, st]
  refine tk 13 (v := ?_) (hp _) hS rfl (fun _ _ _ _ => trivial) ?_ ?_
  rotate_left 1
  · intro w hw; (try rw [hw]); (try go_split_ands); go_simp <;> with_reducible rfl
  try simp only [Act.put, st]
  refine tk 14 (v := ?_) (hp _) hS rfl (fun _ _ _ _ => trivial) ?_ ?_
  rotate_left 1
  · intro w hw; (try rw [hw]); (try go_split_ands); go_simp <;> with_reducible rfl
  try simp only [Act.put, st]
  refine tk 15 (v := ?_) (hp _) hS rfl (fun _ _ _ _ => trivial) ?_ ?_
  rotate_left 1
  · intro w hw; (try rw [hw]); (try go_split_ands); go_simp <;> with_reducible rfl
  try simp only [Act.put, st]
  refine tk 16 (v := ?_) (hp _) hS rfl (fun _ _ _ _ => trivial) ?_ ?_
  rotate_left 1
  · intro w hw; (try rw [hw]); (try go_split_ands); go_simp <;> with_reducible rfl
  try simp only [Act.put, st]
  refine tk 17 (v := ?_) (hp _) hS rfl (fun _ _ _ _ => trivial) ?_ ?_
  rotate_left 1
  · intro w hw; (try rw [hw]); (try go_split_ands); go_simp <;> with_reducible rfl
  try simp only [Act.put, st]
  refine tk 18 (v := ?_) (hp _) hS rfl (fun _ _ _ _ => trivial) ?_ ?_
  rotate_left 1
  · intro w hw; (try rw [hw]); (try go_split_ands); go_simp <;> with_reducible rfl
  try simp only [Act.put, st]
  refine tk 19 (v := ?_) (hp _) hS rfl (fun _ _ _ _ => trivial) ?_ ?_
  rotate_left 1
  · intro w hw; (try rw [hw]); (try go_split_ands); go_simp <;> with_reducible rfl
  try simp only [Act.put, st]
  refine tk 20 (v := ?_) (hp _) hS rfl (fun _ _ _ _ => trivial) ?_ ?_
  rotate_left 1
  · intro w hw; (try rw [hw]); (try go_split_ands); go_simp <;> with_reducible rfl
  try simp only [Act.put, st]
  refine tk 21 (v := ?_) (hp _) hS rfl (fun _ _ _ _ => trivial) ?_ ?_
  rotate_left 1
  · intro w hw; (try rw [hw]); (try go_split_ands); go_simp <;> with_reducible rfl
  try simp only [Act.put, st]
  refine tk 22 (v := ?_) (hp _) hS rfl (fun _ _ _ _ => trivial) ?_ ?_
  rotate_left 1
  · intro w hw; (try rw [hw]); (try go_split_ands); go_simp <;> with_reducible rfl
  try simp only [Act.put, st]
  refine held_step 23 rfl (hp _) (by kernel_rfl) (by kernel_rfl) (fun K hK => ⟨?_, ?_⟩)
  · exact fun _ _ => trivial
  go_simp
  refine (callsIn_wide.2 (HC.out _ (hbz.trans (hS.1.mono hbz.size)))).mono ?_
  rintro e w5 ⟨v5, rfl, ho5, hb_5⟩
  have hb5 : Below z.heap.size z w5 := Below.after' hS.1 hb_5
  have HO5 := Lib.hid (ownR_mono ho5 hS.1.size)
  obtain ⟨A5, c5, rfl, -⟩ := ho5.slice
  generalize (regCutS rs ⟨X, Y, P1 + P2⟩).length = L5 at *
  clear ho5 hb_5
  have hS := HSZ.out _ hb5
  refine hK _ _ hS ?_
  clear hK K
  try simp only [Act.put, st]
  refine held_step 24 rfl (hp _) (by kernel_rfl) (by kernel_rfl) (fun K hK => ⟨?_, ?_⟩)
  · exact fun _ _ => trivial
  go_simp
  have hS := hS
  refine hK _ _ hS ?_
  clear hK K
  try simp only [Act.put, st]
  refine tk 25 (v := ?_) (hp _) hS rfl (fun _ _ _ _ => trivial) ?_ ?_
  rotate_left 1
  · intro w hw; (try rw [hw]); (try go_split_ands); go_simp <;> with_reducible rfl
  try simp only [Act.put, st]
  refine tk 26 (v := ?_) (hp _) hS rfl (fun _ _ _ _ => trivial) ?_ ?_
  rotate_left 1
  · intro w hw; (try rw [hw]); (try go_split_ands); go_simp <;> with_reducible rfl
  try simp only [Act.put, st]
  refine held_step 27 rfl (hp _) (by kernel_rfl) (by kernel_rfl) (fun K hK => ⟨?_, ?_⟩)
  · exact fun _ _ => trivial
  go_simp
  have hS := hS
  refine hK _ _ hS ?_
  clear hK K
  try simp only [Act.put, st]
  refine held_step 28 rfl (hp _) (by kernel_rfl) (by kernel_rfl) (fun K hK => ⟨?_, ?_⟩)
  · exact fun _ _ => trivial
  go_simp
  have hS := hS
  refine hK _ _ hS ?_
  clear hK K
  try simp only [Act.put, st]
  refine held_end (by kernel_rfl) ?_
  have hB5 : Below w.heap.size w w5 := hbz.trans (hb5.mono hbz.size)
  have u0 := kp hB5 t0
  have g0 := kf hB5 (by rw [t0]; rfl) f0
  have HF := Lib.hid (ws_store HH.out.1 hB5 (ownR_mono HO5.out (Nat.le_trans hn0 hbz.size)) HH.out.2)
  clear t0 f0 hb5 hS
  gi_wp2
  refine bodyPost_ret (v := .int .i64 0) (by simp [results, Tryz.f37, go_sem]) rfl ?_
  exact ⟨rfl, ⟨_, HF.out.1⟩, HF.out.2⟩
set_option maxRecDepth 100000 in
set_option maxHeartbeats 4000000 in
theorem left_any2 (n₀ Bw k B16 Bp : Nat) (b t : Pt) (rs : List (List Pt)) (v : Value) (w : World) (h : WS n₀ Bw b k rs w v) (hn0 : n₀ ≤ w.heap.size) (h16 : w.heap[B16]? = some (.cells #[.pointer (some ⟨Bw, 0, none⟩)] 63 (0, 0))) (ht : w.heap[Bp]? = some (.cells #[.int .i64 t.x, .int .i64 t.y] 23 (0, 0))) (hx : -1000 ≤ t.x ∧ t.x ≤ 1000) (hy : -1000 ≤ t.y ∧ t.y ≤ 1000) (hne : t.x ≠ 0 ∨ t.y ≠ 0) (hb : plB b = true) :
    Calls Tryz.prog 36 #[.pointer (some ⟨B16, 0, none⟩), .pointer (some ⟨Bp, 0, none⟩)] w fun e w' => e = .returned (.int .i64 0) ∧ (∃ v', WS n₀ Bw b (k + 1) (regCutS rs ⟨-t.y, t.x, -t.y * b.x + t.x * b.y⟩) w' v') ∧ Kept Bw w w' := by
  have hc := wcut_any n₀ Bw k b rs v (-t.y) (t.x) w h hn0 (by omega) (by omega) (by omega) hb
  have HC := Lib.hid hc
  have c16 : w.cell? ⟨B16, 0, none⟩ = some (.pointer (some ⟨Bw, 0, none⟩)) := by simp [World.cell?, h16]
  have cx : w.cell? ⟨Bp, 0, none⟩ = some (.int .i64 t.x) := by simp [World.cell?, ht]
  have cy : w.cell? ⟨Bp, 1, none⟩ = some (.int .i64 t.y) := by simp [World.cell?, ht]
  have q1 : IntKind.i64.wrap (-t.x) = -t.x := IntWalk.i64_in _ (by omega)
  have q2 : IntKind.i64.wrap (-t.y) = -t.y := IntWalk.i64_in _ (by omega)
  obtain ⟨tx, ty⟩ := t
  dsimp only at *
  clear hc h16 ht h hne hb
  go_enter Tryz.func36, Tryz.ntmps36
  go_wp2_with fail
  refine HC.out.mono ?_
  rintro e w1 ⟨rfl, ⟨v1, h1⟩, h2⟩
  have H1 := Lib.hid (And.intro h1 h2)
  clear h1 h2
  go_wp2_with fail
  go_ret
  exact ⟨rfl, ⟨_, H1.out.1⟩, H1.out.2⟩
set_option maxRecDepth 100000 in
set_option maxHeartbeats 4000000 in
theorem right_any2 (n₀ Bw k B16 Bp : Nat) (b t : Pt) (rs : List (List Pt)) (v : Value) (w : World) (h : WS n₀ Bw b k rs w v) (hn0 : n₀ ≤ w.heap.size) (h16 : w.heap[B16]? = some (.cells #[.pointer (some ⟨Bw, 0, none⟩)] 63 (0, 0))) (ht : w.heap[Bp]? = some (.cells #[.int .i64 t.x, .int .i64 t.y] 23 (0, 0))) (hx : -1000 ≤ t.x ∧ t.x ≤ 1000) (hy : -1000 ≤ t.y ∧ t.y ≤ 1000) (hne : t.x ≠ 0 ∨ t.y ≠ 0) (hb : plB b = true) :
    Calls Tryz.prog 38 #[.pointer (some ⟨B16, 0, none⟩), .pointer (some ⟨Bp, 0, none⟩)] w fun e w' => e = .returned (.int .i64 0) ∧ (∃ v', WS n₀ Bw b (k + 1) (regCutS rs ⟨t.y, -t.x, t.y * b.x + -t.x * b.y⟩) w' v') ∧ Kept Bw w w' := by
  have hc := wcut_any n₀ Bw k b rs v (t.y) (-t.x) w h hn0 (by omega) (by omega) (by omega) hb
  have HC := Lib.hid hc
  have c16 : w.cell? ⟨B16, 0, none⟩ = some (.pointer (some ⟨Bw, 0, none⟩)) := by simp [World.cell?, h16]
  have cx : w.cell? ⟨Bp, 0, none⟩ = some (.int .i64 t.x) := by simp [World.cell?, ht]
  have cy : w.cell? ⟨Bp, 1, none⟩ = some (.int .i64 t.y) := by simp [World.cell?, ht]
  have q1 : IntKind.i64.wrap (-t.x) = -t.x := IntWalk.i64_in _ (by omega)
  have q2 : IntKind.i64.wrap (-t.y) = -t.y := IntWalk.i64_in _ (by omega)
  obtain ⟨tx, ty⟩ := t
  dsimp only at *
  clear hc h16 ht h hne hb
  go_enter Tryz.func38, Tryz.ntmps38
  go_wp2_with fail
  refine HC.out.mono ?_
  rintro e w1 ⟨rfl, ⟨v1, h1⟩, h2⟩
  have H1 := Lib.hid (And.intro h1 h2)
  clear h1 h2
  go_wp2_with fail
  go_ret
  exact ⟨rfl, ⟨_, H1.out.1⟩, H1.out.2⟩
set_option maxRecDepth 100000 in
set_option maxHeartbeats 4000000 in
theorem ahead_any2 (n₀ Bw k B16 Bp : Nat) (b t : Pt) (rs : List (List Pt)) (v : Value) (w : World) (h : WS n₀ Bw b k rs w v) (hn0 : n₀ ≤ w.heap.size) (h16 : w.heap[B16]? = some (.cells #[.pointer (some ⟨Bw, 0, none⟩)] 63 (0, 0))) (ht : w.heap[Bp]? = some (.cells #[.int .i64 t.x, .int .i64 t.y] 23 (0, 0))) (hx : -1000 ≤ t.x ∧ t.x ≤ 1000) (hy : -1000 ≤ t.y ∧ t.y ≤ 1000) (hne : t.x ≠ 0 ∨ t.y ≠ 0) (hb : plB b = true) :
    Calls Tryz.prog 39 #[.pointer (some ⟨B16, 0, none⟩), .pointer (some ⟨Bp, 0, none⟩)] w fun e w' => e = .returned (.int .i64 0) ∧ (∃ v', WS n₀ Bw b (k + 1) (regCutS rs ⟨t.x, t.y, t.x * b.x + t.y * b.y⟩) w' v') ∧ Kept Bw w w' := by
  have hc := wcut_any n₀ Bw k b rs v (t.x) (t.y) w h hn0 (by omega) (by omega) (by omega) hb
  have HC := Lib.hid hc
  have c16 : w.cell? ⟨B16, 0, none⟩ = some (.pointer (some ⟨Bw, 0, none⟩)) := by simp [World.cell?, h16]
  have cx : w.cell? ⟨Bp, 0, none⟩ = some (.int .i64 t.x) := by simp [World.cell?, ht]
  have cy : w.cell? ⟨Bp, 1, none⟩ = some (.int .i64 t.y) := by simp [World.cell?, ht]
  have q1 : IntKind.i64.wrap (-t.x) = -t.x := IntWalk.i64_in _ (by omega)
  have q2 : IntKind.i64.wrap (-t.y) = -t.y := IntWalk.i64_in _ (by omega)
  obtain ⟨tx, ty⟩ := t
  dsimp only at *
  clear hc h16 ht h hne hb
  go_enter Tryz.func39, Tryz.ntmps39
  go_wp2_with fail
  refine HC.out.mono ?_
  rintro e w1 ⟨rfl, ⟨v1, h1⟩, h2⟩
  have H1 := Lib.hid (And.intro h1 h2)
  clear h1 h2
  go_wp2_with fail
  go_ret
  exact ⟨rfl, ⟨_, H1.out.1⟩, H1.out.2⟩
end Go.Proofs.YtnhdnkeiijiiaaaGreat
namespace Go.Proofs.YtnhdnkeiijiiaaaGreat
open Go.RowKit Go.Shelf
set_option linter.unusedSimpArgs false
set_option linter.unusedVariables false
attribute [local go_sem ↓] Go.wp_at_zero Go.wp_at_succ
/-- the half-planes of a wedge between two rays -/
def wedgeH (b s t : Pt) : Nat → Hf
  | 0 => ⟨-s.y, s.x, -s.y * b.x + s.x * b.y⟩
  | 1 => ⟨t.y, -t.x, t.y * b.x + -t.x * b.y⟩
  | _ => ⟨s.x, s.y, s.x * b.x + s.y * b.y⟩
/-- what so many cuts leave -/
def wedgeR (rs : List (List Pt)) (b s t : Pt) : Nat → List (List Pt)
  | 0 => rs
  | k + 1 => regCutS (wedgeR rs b s t k) (wedgeH b s t k)
/-- the functions that cut -/
def wedgeF (B16 B10 B14 : Nat) : Nat → Value
  | 0 => .func (.func 36) #[] #[.pointer (some ⟨B16, 0, none⟩), .pointer (some ⟨B10, 0, none⟩)]
  | 1 => .func (.func 38) #[] #[.pointer (some ⟨B16, 0, none⟩), .pointer (some ⟨B14, 0, none⟩)]
  | _ => .func (.func 39) #[] #[.pointer (some ⟨B16, 0, none⟩), .pointer (some ⟨B10, 0, none⟩)]
def RayB (s : Pt) : Prop := (-1000 ≤ s.x ∧ s.x ≤ 1000) ∧ (-1000 ≤ s.y ∧ s.y ≤ 1000) ∧ (s.x ≠ 0 ∨ s.y ≠ 0)
set_option maxHeartbeats 1600000 in
set_option maxRecDepth 100000 in
theorem steps_any (m n₀ Bw B16 B10 B14 gb c : Nat) (b s t : Pt) (rs : List (List Pt)) (v : Value) (w : World) (hm : 0 < m) (hm3 : m ≤ 3) (h : WS n₀ Bw b 0 rs w v) (hn0 : n₀ ≤ w.heap.size) (h16 : w.heap[B16]? = some (.cells #[.pointer (some ⟨Bw, 0, none⟩)] 63 (0, 0)))
    (h10 : w.heap[B10]? = some (.cells #[.int .i64 s.x, .int .i64 s.y] 23 (0, 0))) (h14 : w.heap[B14]? = some (.cells #[.int .i64 t.x, .int .i64 t.y] 23 (0, 0))) (hs : RayB s) (ht : RayB t) (hb : plB b = true) (hg : ∀ j, j < m → w.cell? ⟨gb, j, none⟩ = some (wedgeF B16 B10 B14 j)) (hgb : gb ≠ Bw) (h16n : B16 ≠ Bw) (h10n : B10 ≠ Bw) (h14n : B14 ≠ Bw) :
    Calls Tryz.prog 35 #[.slice (some ⟨gb, 0, none⟩) m c, .pointer (some ⟨B16, 0, none⟩)] w fun e w' => ∃ v', e = .returned (.tuple #[v', .int .i64 0]) ∧ OwnR w' n₀ v' (wedgeR rs b s t m) ∧ Kept Bw w w' := by
  have HG := Lib.hid hg
  have H16 := Lib.hid h16
  have H10 := Lib.hid h10
  have H14 := Lib.hid h14
  have HB := Lib.hid (And.intro hs (And.intro ht hb))
  have HW := Lib.hid h
  clear hg h16 h10 h14 hs ht hb h
  go_enter Tryz.func35, Tryz.ntmps35
  go_wp2_with fail
  go_loopg [10] (m + 1) (fun g s10 wr => ∃ (k : Nat) (v : Value), k ≤ m ∧ g + k = m + 1 ∧ s10 = .int .i64 k ∧ WS n₀ Bw b k (wedgeR rs b s t k) wr v ∧ Kept Bw w wr)
  case atStart => exact ⟨0, v, by omega, by omega, rfl, HW.out, Kept.refl _ _⟩
  case round =>
    obtain ⟨k, v, hk, hgk, rfl, hW, hK⟩ := hrel
    by_cases hlt : k < m
    · have hlt2 : (k : Int) < (m : Int) := by omega
      have hc0 := HG.out k hlt
      have hgl := World.block_lt_of_cell? _ _ hc0
      dsimp only at hgl
      have hcell : wr.cell? ⟨gb, k, none⟩ = some (wedgeF B16 B10 B14 k) := by
        unfold World.cell? at hc0 ⊢
        rw [hK.block gb hgl hgb]; exact hc0
      have hn0r : n₀ ≤ wr.heap.size := Nat.le_trans hn0 hK.size
      obtain ⟨⟨s1, s2, s3⟩, ⟨t1, t2, t3⟩, hb⟩ := HB.out
      have hcall : ∃ f B, wedgeF B16 B10 B14 k = .func (.func f) #[] #[.pointer (some ⟨B16, 0, none⟩), .pointer (some ⟨B, 0, none⟩)] ∧ (f = 36 ∨ f = 38 ∨ f = 39) ∧ Calls Tryz.prog f #[.pointer (some ⟨B16, 0, none⟩), .pointer (some ⟨B, 0, none⟩)] wr fun e w' => e = .returned (.int .i64 0) ∧ (∃ v', WS n₀ Bw b (k + 1) (wedgeR rs b s t (k + 1)) w' v') ∧ Kept Bw wr w' := by
        match k, hlt with
        | 0, _ => exact ⟨36, B10, rfl, .inl rfl, left_any2 n₀ Bw 0 B16 B10 b s _ v wr hW hn0r (hK.keeps H16.out h16n) (hK.keeps H10.out h10n) s1 s2 s3 hb⟩
        | 1, _ => exact ⟨38, B14, rfl, .inr (.inl rfl), right_any2 n₀ Bw 1 B16 B14 b t _ v wr hW hn0r (hK.keeps H16.out h16n) (hK.keeps H14.out h14n) t1 t2 t3 hb⟩
        | 2, _ => exact ⟨39, B10, rfl, .inr (.inr rfl), ahead_any2 n₀ Bw 2 B16 B10 b s _ v wr hW hn0r (hK.keeps H16.out h16n) (hK.keeps H10.out h10n) s1 s2 s3 hb⟩
        | k + 3, h => omega
      obtain ⟨f, Bx, hf, hf3, hcall⟩ := hcall
      rw [hf] at hcell
      have HC := Lib.hid hcall
      have HK := Lib.hid hK
      clear hcall hf hW hc0 hgl s1 s2 s3 t1 t2 t3 hb hK
      rcases hf3 with rfl | rfl | rfl
      all_goals
        go_wp2_with fail
        refine HC.out.mono ?_
        rintro e w1 ⟨rfl, ⟨v1, h1⟩, h2⟩
        have H1 := Lib.hid (And.intro h1 (HK.out.trans h2))
        clear h1 h2
        go_wp2_with fail
        go_roundg (gk - 1)
        case measure => omega
        case rel => exact ⟨k + 1, v1, by omega, by omega, by go_num, H1.out.1, H1.out.2⟩
    · obtain rfl : k = m := by omega
      have hnlt : ¬ ((k : Int) < (k : Int)) := by omega
      have k16 := hK.keeps H16.out h16n
      have c16 : wr.cell? ⟨B16, 0, none⟩ = some (.pointer (some ⟨Bw, 0, none⟩)) := by simp [World.cell?, k16]
      have hbx := hW.box
      have cw : wr.cell? ⟨Bw, 0, none⟩ = some v := by simp [World.cell?, hbx]
      have HO := Lib.hid (And.intro (hW.own (by omega)) hK)
      clear hW hbx k16 hK
      go_wp2_with fail
      go_ret2
      exact ⟨_, rfl, HO.out.1, HO.out.2⟩
end Go.Proofs.YtnhdnkeiijiiaaaGreat
namespace Go.Proofs.YtnhdnkeiijiiaaaGreat
open Go.RowKit Go.Shelf
set_option linter.unusedSimpArgs false
set_option linter.unusedVariables false
attribute [local go_sem ↓] Go.wp_at_zero Go.wp_at_succ
theorem atS_ne : ∀ k, k < 64 → (atS k).x ≠ 0 ∨ (atS k).y ≠ 0 := by decide +kernel
theorem rayB_at {k : Nat} (h : k < 64) : RayB (atS k) := by
  have h1 := atS_bd k
  exact ⟨by omega, by omega, atS_ne k h⟩
/-- what ring.Wedge answers -/
def wedgeErr (rs : List (List Pt)) (q : Pt) (a n : Int) : Int := if (raysB a n && regB rs && plB q) = true then 0 else 1
def wedgeS (rs : List (List Pt)) (q : Pt) (a n : Int) : List (List Pt) := wedgeR rs q (atS a.toNat) (atS ((a + n).toNat % 64)) (if n = 0 then 3 else 2)
theorem rHas_told (A : Option Addr) (n c : Nat) (rs : List (List Pt)) (x : Pt) (w : World) (hn : rs.length = n) (hbig : n ≤ 9223372036854775807) (hx : Reg? w.heap.size w A rs) (hI : Oks64 rs) :
    Calls Tryz.prog 13 #[.slice A n c, x.val] w fun e w' => e = .returned (.tuple #[.bool (regB rs && plB x && rs.any fun r => insB r x), .int .i64 (if (regB rs && plB x) = true then 0 else 1)]) ∧ Below w.heap.size w w' := by
  cases h1 : regB rs with
  | false => simpa using rHas_bad1 A n c rs x w hn hbig hx hI h1
  | true => cases h2 : plB x with
    | false => simpa using rHas_bad2 A n c rs x w hn hbig hx hI h1 h2
    | true => simpa using rHas_ok A n c rs x w hn hbig hx hI h1 h2
set_option maxHeartbeats 1600000 in
set_option maxRecDepth 100000 in
theorem Wedge_ok (A : Option Addr) (m c : Nat) (rs : List (List Pt)) (q : Pt) (a n : Nat) (w : World) (hn : rs.length = m) (hbig : m ≤ 9223372036854775807) (hx : Reg? w.heap.size w A rs) (ha : a < 64) (hn32 : n < 32) (hr : regB rs = true) (hq : plB q = true) :
    Calls Tryz.prog 16 #[.slice A m c, q.val, .int .i64 a, .int .i64 n] w (RetRegOk w.heap.size w (wedgeR rs q (atS a) (atS ((a + n) % 64)) (if n = 0 then 3 else 2))) := by
  obtain ⟨mm, hmm⟩ : ∃ mm, (if n = 0 then 3 else 2) = mm := ⟨_, rfl⟩
  rw [hmm]
  have HMM := Lib.hid hmm
  clear hmm
  have hI : Oks64 rs := fun r hr' => ok64_of_pl (pl_of_valid ((regB_iff.1 hr).2 r hr'))
  have v1 := fun W => Ray_ok a W ha
  have v3 := fun W => Ray_ok ((a + n) % 64) W (Nat.mod_lt _ (by decide))
  have v2 := fun W (hB : Below w.heap.size w W) => rHas_told A m c rs q W hn hbig (hx.later hB) hI
  have hrs := rayB_at ha
  have hrt := rayB_at (Nat.mod_lt (a + n) (show 0 < 64 by decide))
  have hmod : IntKind.i64.wrap (((a : Int) + (n : Int)).tmod 64) = (((a + n) % 64 : Nat) : Int) := by
    rw [Int.tmod_eq_emod_of_nonneg (by omega)]
    have : ((a : Int) + (n : Int)) % 64 = (((a + n) % 64 : Nat) : Int) := by omega
    rw [this]; exact IntWalk.i64_in _ (by omega)
  have hmod2 : ((a : Int) + (n : Int)).tmod 64 = (((a + n) % 64 : Nat) : Int) := by
    rw [Int.tmod_eq_emod_of_nonneg (by omega)]; omega
  have hadd : IntKind.i64.wrap ((a : Int) + (n : Int)) = (a : Int) + (n : Int) := IntWalk.i64_in _ (by omega)
  have b1 : decide ((n : Int) < 0) = false := decide_eq_false (by omega)
  have b2 : decide ((32 : Int) ≤ (n : Int)) = false := decide_eq_false (by omega)
  have hws := fun W (hB : Below w.heap.size w W) => hx.later hB
  generalize (a + n) % 64 = k at *
  generalize atS a = S at *
  generalize atS k = T at *
  have v4 := fun (B16 B10 B14 gb c2 Bw mm : Nat) (W : World) h1 h2 h h5 h16 h10 h14 hg x1 x2 x3 x4 => steps_any mm w.heap.size Bw B16 B10 B14 gb c2 q S T rs (.slice A m c) W h1 h2 h h5 h16 h10 h14 hrs hrt hq hg x1 x2 x3 x4
  rw [hr, hq] at v2
  simp only [Bool.and_self, Bool.true_and, if_true] at v2
  have HM := Lib.hid (And.intro hn (And.intro hr hws))
  obtain ⟨qx, qy⟩ := q
  obtain ⟨sx, sy⟩ := S
  obtain ⟨tx, ty⟩ := T
  generalize (rs.any fun r => insB r ⟨qx, qy⟩) = bb at *
  have V1 := Lib.hid v1
  have V2 := Lib.hid v2
  have V3 := Lib.hid v3
  have V4 := Lib.hid v4
  have ha' : (a : Int) < 64 := by omega
  have hn' : (n : Int) < 32 := by omega
  clear v1 v2 v3 v4 hx hI hr hq hn hrs hrt hws
  go_enter Tryz.func16, Tryz.ntmps16
  go_wp2_with fail
  refine (V1.out _).mono ?_
  rintro e w1 ⟨rfl, hb1⟩
  have hB1 : Below w.heap.size w w1 := below_after (by go_grown) hb1
  have c0 : w1.cell? ⟨w.heap.size, 0, none⟩ = some (.int .i64 qx) := kp hb1 (by go_cell)
  have c1 : w1.cell? ⟨w.heap.size, 1, none⟩ = some (.int .i64 qy) := kp hb1 (by go_cell)
  clear hb1
  go_wp2_with fail
  have hbA : Below w1.heap.size w1 (w1.alloc (.cells #[.int .i64 sx, .int .i64 sy] 23)) := (Below.refl _ _).alloc (Nat.le_refl _) _
  have k10 : (w1.alloc (.cells #[.int .i64 sx, .int .i64 sy] 23)).heap[w1.heap.size]? = some (.cells #[.int .i64 sx, .int .i64 sy] 23 (0, 0)) := World.alloc_heap_new w1 _
  refine (V2.out _ (hB1.trans (hbA.mono hB1.size))).mono ?_
  rintro e w2 ⟨rfl, hb2⟩
  have hbB : Below w1.heap.size w1 w2 := hbA.trans (hb2.mono (by simp))
  have hB2 : Below w.heap.size w w2 := hB1.trans (hbB.mono hB1.size)
  replace c0 := kp hbB c0
  replace c1 := kp hbB c1
  replace k10 := (hb2.block _ (Array.getElem?_eq_some_iff.1 k10).1).trans k10
  clear hb2 hbA hbB
  go_wp2_with fail
  refine (V3.out _).mono ?_
  rintro e w3 ⟨rfl, hb3⟩
  have hB3 : Below w.heap.size w w3 := hB2.trans (hb3.mono hB2.size)
  replace c0 := kp hb3 c0
  replace c1 := kp hb3 c1
  replace k10 := (hb3.block _ (Array.getElem?_eq_some_iff.1 k10).1).trans k10
  have hl10 := (Array.getElem?_eq_some_iff.1 k10).1
  clear hb3
  have hs3 := hB3.size
  by_cases h0 : n = 0
  · subst h0
    have HM3 := Lib.hid (show mm = 3 by have := HMM.out; simpa using this.symm)
    go_wp2_with fail
    obtain ⟨Z, hZ⟩ : ∃ Z, (((w3.alloc (.cells #[.int .i64 tx, .int .i64 ty] 23)).alloc (.cells #[.slice A m c, .int .i64 qx, .int .i64 qy] 67)).alloc (.cells #[.pointer (some ⟨w3.heap.size + 1, 0, none⟩)] 63)).alloc (.cells #[.func (.func 36) #[] #[.pointer (some ⟨w3.heap.size + 1 + 1, 0, none⟩), .pointer (some ⟨w1.heap.size, 0, none⟩)], .func (.func 38) #[] #[.pointer (some ⟨w3.heap.size + 1 + 1, 0, none⟩), .pointer (some ⟨w3.heap.size, 0, none⟩)], .func (.func 39) #[] #[.pointer (some ⟨w3.heap.size + 1 + 1, 0, none⟩), .pointer (some ⟨w1.heap.size, 0, none⟩)]] 69) = Z := ⟨_, rfl⟩
    have z1 : Z.heap[w3.heap.size]? = some (.cells #[.int .i64 tx, .int .i64 ty] 23 (0, 0)) := by rw [← hZ]; exact alloc_old (alloc_old (alloc_old (alloc_at rfl)))
    have z2 : Z.heap[w3.heap.size + 1]? = some (.cells #[.slice A m c, .int .i64 qx, .int .i64 qy] 67 (0, 0)) := by rw [← hZ]; exact alloc_old (alloc_old (alloc_at (by simp)))
    have z3 : Z.heap[w3.heap.size + 1 + 1]? = some (.cells #[.pointer (some ⟨w3.heap.size + 1, 0, none⟩)] 63 (0, 0)) := by rw [← hZ]; exact alloc_old (alloc_at (by simp))
    have z5 : Z.heap[w3.heap.size + 1 + 1 + 1]? = some (.cells #[.func (.func 36) #[] #[.pointer (some ⟨w3.heap.size + 1 + 1, 0, none⟩), .pointer (some ⟨w1.heap.size, 0, none⟩)], .func (.func 38) #[] #[.pointer (some ⟨w3.heap.size + 1 + 1, 0, none⟩), .pointer (some ⟨w3.heap.size, 0, none⟩)], .func (.func 39) #[] #[.pointer (some ⟨w3.heap.size + 1 + 1, 0, none⟩), .pointer (some ⟨w1.heap.size, 0, none⟩)]] 69 (0, 0)) := by rw [← hZ]; exact alloc_at (by simp)
    have hbZ : Below w3.heap.size w3 Z := by rw [← hZ]; go_grown
    have z4 := (hbZ.block _ hl10).trans k10
    have hBZ : Below w.heap.size w Z := hB3.trans (hbZ.mono hs3)
    rw [hZ]
    obtain ⟨hn9, hr9, hx9⟩ := HM.out
    have hW : WS w.heap.size (w3.heap.size + 1) ⟨qx, qy⟩ 0 rs Z (.slice A m c) := ⟨z2, ⟨A, c, by rw [hn9], hx9 _ hBZ⟩, hr9, fun h => absurd rfl h⟩
    have hcall := V4.out (w3.heap.size + 1 + 1) w1.heap.size w3.heap.size (w3.heap.size + 1 + 1 + 1) 3 (w3.heap.size + 1) 3 Z (by decide) (by decide) hW hBZ.size z3 z4 z1 (fun j hj => by
      match j, hj with
      | 0, _ => simp [World.cell?, z5, wedgeF]
      | 1, _ => simp [World.cell?, z5, wedgeF]
      | 2, _ => simp [World.cell?, z5, wedgeF]
      | j + 3, h => omega) (by omega) (by omega) (by omega) (by omega)
    refine hcall.mono ?_
    rintro e w5 ⟨v5, rfl, ho5, hk5⟩
    have HO5 := Lib.hid (And.intro ho5 (Kept.below hBZ hk5 (by omega) hBZ.size))
    clear hcall ho5 hk5 z1 z2 z3 z4 z5 hbZ hW hZ
    go_wp2_with fail
    go_ret2
    rw [HM3.out]
    exact ⟨_, rfl, HO5.out.1, HO5.out.2⟩
  · have hn0 : ¬ ((n : Int) = 0) := by omega
    have HM3 := Lib.hid (show mm = 2 by have := HMM.out; rw [if_neg h0] at this; exact this.symm)
    go_wp2_with fail
    obtain ⟨Z, hZ⟩ : ∃ Z, (((w3.alloc (.cells #[.int .i64 tx, .int .i64 ty] 23)).alloc (.cells #[.slice A m c, .int .i64 qx, .int .i64 qy] 67)).alloc (.cells #[.pointer (some ⟨w3.heap.size + 1, 0, none⟩)] 63)).alloc (.cells #[.func (.func 36) #[] #[.pointer (some ⟨w3.heap.size + 1 + 1, 0, none⟩), .pointer (some ⟨w1.heap.size, 0, none⟩)], .func (.func 38) #[] #[.pointer (some ⟨w3.heap.size + 1 + 1, 0, none⟩), .pointer (some ⟨w3.heap.size, 0, none⟩)]] 69) = Z := ⟨_, rfl⟩
    have z1 : Z.heap[w3.heap.size]? = some (.cells #[.int .i64 tx, .int .i64 ty] 23 (0, 0)) := by rw [← hZ]; exact alloc_old (alloc_old (alloc_old (alloc_at rfl)))
    have z2 : Z.heap[w3.heap.size + 1]? = some (.cells #[.slice A m c, .int .i64 qx, .int .i64 qy] 67 (0, 0)) := by rw [← hZ]; exact alloc_old (alloc_old (alloc_at (by simp)))
    have z3 : Z.heap[w3.heap.size + 1 + 1]? = some (.cells #[.pointer (some ⟨w3.heap.size + 1, 0, none⟩)] 63 (0, 0)) := by rw [← hZ]; exact alloc_old (alloc_at (by simp))
    have z5 : Z.heap[w3.heap.size + 1 + 1 + 1]? = some (.cells #[.func (.func 36) #[] #[.pointer (some ⟨w3.heap.size + 1 + 1, 0, none⟩), .pointer (some ⟨w1.heap.size, 0, none⟩)], .func (.func 38) #[] #[.pointer (some ⟨w3.heap.size + 1 + 1, 0, none⟩), .pointer (some ⟨w3.heap.size, 0, none⟩)]] 69 (0, 0)) := by rw [← hZ]; exact alloc_at (by simp)
    have hbZ : Below w3.heap.size w3 Z := by rw [← hZ]; go_grown
    have z4 := (hbZ.block _ hl10).trans k10
    have hBZ : Below w.heap.size w Z := hB3.trans (hbZ.mono hs3)
    rw [hZ]
    obtain ⟨hn9, hr9, hx9⟩ := HM.out
    have hW : WS w.heap.size (w3.heap.size + 1) ⟨qx, qy⟩ 0 rs Z (.slice A m c) := ⟨z2, ⟨A, c, by rw [hn9], hx9 _ hBZ⟩, hr9, fun h => absurd rfl h⟩
    have hcall := V4.out (w3.heap.size + 1 + 1) w1.heap.size w3.heap.size (w3.heap.size + 1 + 1 + 1) 2 (w3.heap.size + 1) 2 Z (by decide) (by decide) hW hBZ.size z3 z4 z1 (fun j hj => by
      match j, hj with
      | 0, _ => simp [World.cell?, z5, wedgeF]
      | 1, _ => simp [World.cell?, z5, wedgeF]
      | j + 2, h => omega) (by omega) (by omega) (by omega) (by omega)
    refine hcall.mono ?_
    rintro e w5 ⟨v5, rfl, ho5, hk5⟩
    have HO5 := Lib.hid (And.intro ho5 (Kept.below hBZ hk5 (by omega) hBZ.size))
    clear hcall ho5 hk5 z1 z2 z3 z4 z5 hbZ hW hZ
    go_wp2_with fail
    go_ret2
    rw [HM3.out]
    exact ⟨_, rfl, HO5.out.1, HO5.out.2⟩
set_option maxHeartbeats 1600000 in
set_option maxRecDepth 100000 in
theorem Wedge_bad (A : Option Addr) (m c : Nat) (rs : List (List Pt)) (q : Pt) (a n : Int) (w : World) (hn : rs.length = m) (hbig : m ≤ 9223372036854775807) (hx : Reg? w.heap.size w A rs) (hI : Oks64 rs) (h : (raysB a n && regB rs && plB q) = false) :
    Calls Tryz.prog 16 #[.slice A m c, q.val, .int .i64 a, .int .i64 n] w (RetRegErr w 1) := by
  have v2 := fun W (hB : Below w.heap.size w W) => rHas_told A m c rs q W hn hbig (hx.later hB) hI
  have hray : ∃ (p : Pt) (f : Int), (∀ W, Calls Tryz.prog 34 #[.int .i64 a] W fun e w' => e = .returned (.tuple #[p.val, .int .i64 f]) ∧ Below W.heap.size W w') ∧ (f = 1 ∨ f = 0 ∧ raysB a 0 = true) := by
    cases h9 : raysB a 0 with
    | false => exact ⟨⟨0, 0⟩, 1, fun W => Ray_bad a W h9, .inl rfl⟩
    | true =>
      have : 0 ≤ a ∧ a < 64 := by simp [raysB] at h9; omega
      obtain ⟨k, rfl⟩ : ∃ k : Nat, a = k := ⟨a.toNat, by omega⟩
      exact ⟨atS k, 0, fun W => Ray_ok k W (by omega), .inr ⟨rfl, rfl⟩⟩
  obtain ⟨p, f, v1, hf⟩ := hray
  have key : f = 1 ∨ f = 0 ∧ ((regB rs && plB q) = false ∨ (regB rs && plB q) = true ∧ (n < 0 ∨ 0 ≤ n ∧ 32 ≤ n)) := by
    rcases hf with h1 | ⟨h1, h2⟩
    · exact .inl h1
    · refine .inr ⟨h1, ?_⟩
      cases h3 : (regB rs && plB q) with
      | false => exact .inl rfl
      | true =>
        refine .inr ⟨rfl, ?_⟩
        rw [Bool.and_assoc, h3] at h
        simp [raysB] at h h2
        omega
  generalize (regB rs && plB q && rs.any fun r => insB r q) = bb at *
  generalize (regB rs && plB q) = g at *
  obtain ⟨qx, qy⟩ := q
  obtain ⟨px, py⟩ := p
  have V1 := Lib.hid v1
  have V2 := Lib.hid v2
  clear v1 v2 hx hI h hf hn
  rcases key with rfl | ⟨rfl, rfl | ⟨rfl, hk⟩⟩
  · obtain ⟨F, hF⟩ : ∃ F : Int, F = (if g = true then 0 else 1) := ⟨_, rfl⟩
    rw [← hF] at V2
    clear hF
    go_enter Tryz.func16, Tryz.ntmps16
    go_wp2_with fail
    refine (V1.out _).mono ?_
    rintro e w1 ⟨rfl, hb1⟩
    have hB1 : Below w.heap.size w w1 := below_after (by go_grown) hb1
    have c0 : w1.cell? ⟨w.heap.size, 0, none⟩ = some (.int .i64 qx) := kp hb1 (by go_cell)
    have c1 : w1.cell? ⟨w.heap.size, 1, none⟩ = some (.int .i64 qy) := kp hb1 (by go_cell)
    clear hb1
    go_wp2_with fail
    have hbA : Below w1.heap.size w1 (w1.alloc (.cells #[.int .i64 px, .int .i64 py] 23)) := (Below.refl _ _).alloc (Nat.le_refl _) _
    refine (V2.out _ (hB1.trans (hbA.mono hB1.size))).mono ?_
    rintro e w2 ⟨rfl, hb2⟩
    have hB2 : Below w.heap.size w w2 := hB1.trans ((hbA.trans (hb2.mono (by simp))).mono hB1.size)
    clear hb2 hbA c0 c1
    go_wp2_with fail
    go_ret2
    exact ⟨rfl, hB2⟩
  · simp only [Bool.false_eq_true, if_false] at V2
    go_enter Tryz.func16, Tryz.ntmps16
    go_wp2_with fail
    refine (V1.out _).mono ?_
    rintro e w1 ⟨rfl, hb1⟩
    have hB1 : Below w.heap.size w w1 := below_after (by go_grown) hb1
    have c0 : w1.cell? ⟨w.heap.size, 0, none⟩ = some (.int .i64 qx) := kp hb1 (by go_cell)
    have c1 : w1.cell? ⟨w.heap.size, 1, none⟩ = some (.int .i64 qy) := kp hb1 (by go_cell)
    clear hb1
    go_wp2_with fail
    have hbA : Below w1.heap.size w1 (w1.alloc (.cells #[.int .i64 px, .int .i64 py] 23)) := (Below.refl _ _).alloc (Nat.le_refl _) _
    refine (V2.out _ (hB1.trans (hbA.mono hB1.size))).mono ?_
    rintro e w2 ⟨rfl, hb2⟩
    have hB2 : Below w.heap.size w w2 := hB1.trans ((hbA.trans (hb2.mono (by simp))).mono hB1.size)
    clear hb2 hbA c0 c1
    go_wp2_with fail
    go_ret2
    exact ⟨rfl, hB2⟩
  · simp only [if_true] at V2
    rcases hk with hk | ⟨hk0, hk⟩
    all_goals
      first
      | (have q1 : decide (n < 0) = true := decide_eq_true hk)
      | (have q1 : decide (n < 0) = false := decide_eq_false (by omega)
         have q2 : decide ((32 : Int) ≤ n) = true := decide_eq_true hk)
      go_enter Tryz.func16, Tryz.ntmps16
      go_wp2_with fail
      refine (V1.out _).mono ?_
      rintro e w1 ⟨rfl, hb1⟩
      have hB1 : Below w.heap.size w w1 := below_after (by go_grown) hb1
      have c0 : w1.cell? ⟨w.heap.size, 0, none⟩ = some (.int .i64 qx) := kp hb1 (by go_cell)
      have c1 : w1.cell? ⟨w.heap.size, 1, none⟩ = some (.int .i64 qy) := kp hb1 (by go_cell)
      clear hb1
      go_wp2_with fail
      have hbA : Below w1.heap.size w1 (w1.alloc (.cells #[.int .i64 px, .int .i64 py] 23)) := (Below.refl _ _).alloc (Nat.le_refl _) _
      refine (V2.out _ (hB1.trans (hbA.mono hB1.size))).mono ?_
      rintro e w2 ⟨rfl, hb2⟩
      have hB2 : Below w.heap.size w w2 := hB1.trans ((hbA.trans (hb2.mono (by simp))).mono hB1.size)
      clear hb2 hbA c0 c1
      go_wp2_with fail
      go_ret2
      exact ⟨rfl, hB2⟩
theorem wedge_regB {rs : List (List Pt)} {q s t : Pt} (h : regB rs = true) : ∀ k, regB (wedgeR rs q s t k) = true
  | 0 => h
  | k + 1 => regB_iff.2 ⟨tidied_len _, regCut_valid (regB_iff.1 (wedge_regB h k)).2 _⟩
theorem Wedge_any (A : Option Addr) (m c : Nat) (rs : List (List Pt)) (q : Pt) (a n : Int) (w : World) (hn : rs.length = m) (hbig : m ≤ 9223372036854775807) (hx : Reg? w.heap.size w A rs) (hI : Oks64 rs) :
    Calls Tryz.prog 16 #[.slice A m c, q.val, .int .i64 a, .int .i64 n] w (RetRegIf w.heap.size w (wedgeErr rs q a n) (wedgeS rs q a n)) := by
  cases h : (raysB a n && regB rs && plB q) with
  | false =>
    refine (Wedge_bad A m c rs q a n w hn hbig hx hI h).mono fun e w' hr => .inr ⟨?_, ?_⟩
    · simp [wedgeErr, h]
    · simpa [wedgeErr, h] using hr
  | true =>
    have h9 := h
    simp only [Bool.and_eq_true] at h
    obtain ⟨⟨h1, h2⟩, h3⟩ := h
    have hr : 0 ≤ a ∧ a < 64 ∧ 0 ≤ n ∧ n < 32 := by simp [raysB] at h1; omega
    obtain ⟨k, rfl⟩ : ∃ k : Nat, a = k := ⟨a.toNat, by omega⟩
    obtain ⟨j, rfl⟩ : ∃ j : Nat, n = j := ⟨n.toNat, by omega⟩
    refine (Wedge_ok A m c rs q k j w hn hbig hx (by omega) (by omega) h2 h3).mono fun e w' hr => .inl ⟨by simp [wedgeErr, h9], ?_⟩
    have e1 : ((k : Int) + (j : Int)).toNat = k + j := by omega
    have e2 : ((k : Int)).toNat = k := by omega
    unfold wedgeS
    rw [e1, e2]
    by_cases h0 : j = 0
    · subst h0; simpa using hr
    · have : ¬ ((j : Int) = 0) := by omega
      simpa [h0, this] using hr
end Go.Proofs.YtnhdnkeiijiiaaaGreat
