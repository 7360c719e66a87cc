import Derived.Test.YtnhdnkeiijiiaaaGreatA3
import Derived.Maps.AppendAt
import Derived.Maps.OwnIn
import Derived.Laws.AppendOwnNone
import Derived.Laws.OwnMore
import Derived.Deep.AppendLies
import Derived.Lib.SliceRun
import Derived.WalkSpells
import Derived.Deep.LoopGhost
import Derived.Outline
import Derived.Shelf.SlSortCmp.WholeK
import Derived.Ground.SlsfProg
import Derived.Test.YtnhdnkeiijiiaaaGreatProg
import Derived.Sort.OwnSorted
import Derived.RangeFuncNested
import Derived.RangeFuncBound
import Derived.RangeFuncCalls
import Derived.OwnWalkIn
import Derived.TacticsInMore
import Derived.LoopNIn
import Derived.LoopIn
import Derived.Sort.CutIn
import Derived.RangeFuncLeaves
import Derived.RangeFuncBox
import Derived.Shelf.Abstract
import Derived.Shelf.RegionOpen
import Derived.WalkKit
import Derived.RegionIn
import Derived.Stop.RegionWithIn
namespace Go.Proofs.YtnhdnkeiijiiaaaGreat
open Go.RowKit
set_option linter.unusedSimpArgs false
set_option linter.unusedVariables false
attribute [local go_sem ↓] Go.wp_at_zero Go.wp_at_succ

theorem ptInfo : (Tryz.prog.info? 23).map (fun i => (i.zero, i.size, i.bytes)) = some (some (.agg #[.int .i64 0, .int .i64 0]), 2, 16) := by kernel_rfl
def Pt.cs (p : Pt) : List Value := [.int .i64 p.x, .int .i64 p.y]
/-- the cells of points, one behind the other -/
def flat : List Pt → List Value
  | [] => []
  | r :: xs => r.cs ++ flat xs
theorem flat_len : ∀ xs : List Pt, (flat xs).length = xs.length * 2
  | [] => rfl
  | r :: xs => by simp only [flat, List.length_append, flat_len xs, List.length_cons]; simp [Pt.cs]; omega
theorem flat_app : ∀ xs ys : List Pt, flat (xs ++ ys) = flat xs ++ flat ys
  | [], ys => rfl
  | r :: xs, ys => by simp only [List.cons_append, flat, flat_app xs ys, List.append_assoc]
theorem cs_len (r : Pt) : r.cs.length = 2 := rfl
theorem flat_at : ∀ (xs : List Pt) (i : Nat) (r : Pt) (k : Nat), xs[i]? = some r → k < 2 → (flat xs)[i * 2 + k]? = r.cs[k]?
  | [], i, r, k, h, _ => by simp at h
  | r' :: xs, 0, r, k, h, hk => by
    simp only [List.getElem?_cons_zero, Option.some.injEq] at h
    subst h
    simp only [flat, Nat.zero_mul, Nat.zero_add]
    rw [List.getElem?_append_left (by rw [cs_len]; exact hk)]
  | r' :: xs, i + 1, r, k, h, hk => by
    simp only [List.getElem?_cons_succ] at h
    simp only [flat]
    rw [List.getElem?_append_right (by rw [cs_len]; omega), cs_len, show (i + 1) * 2 + k - 2 = i * 2 + k by omega]
    exact flat_at xs i r k h hk
theorem flat_one {xs : List Pt} : ∀ u ∈ flat xs, u.oneCell' = true := by
  induction xs with
  | nil => intro u h; simp [flat] at h
  | cons r xs ih =>
    intro u h
    simp only [flat, List.mem_append] at h
    rcases h with h | h
    · simp only [Pt.cs, List.mem_cons, List.not_mem_nil, or_false] at h
      rcases h with rfl | rfl <;> rfl
    · exact ih u h
theorem ptAt_iff {w : World} {b o : Nat} {r : Pt} : PtAt w b o r ↔ ∀ k, k < 2 → w.cell? ⟨b, o + k, none⟩ = r.cs[k]? := by
  constructor
  · rintro ⟨h0, h1⟩ k hk
    match k, hk with
    | 0, _ => exact h0
    | 1, _ => exact h1
  · intro h
    exact ⟨h 0 (by omega), h 1 (by omega)⟩
theorem addP (b off j : Nat) : (⟨b, off, none⟩ : Addr).add j = ⟨b, off + j, none⟩ := by
  unfold Addr.add
  split
  · rename_i h; subst h; rfl
  · rfl
/-- points that a slice holds, as cells to be appended -/
theorem Pts?.news {n₀ : Nat} {w : World} {ad : Addr} {xs : List Pt} (h : Pts? n₀ w (some ad) xs) : ∀ j u, (flat xs)[j]? = some u → w.cell? (ad.add j) = some u := by
  intro j u hu
  have hl := (List.getElem?_eq_some_iff.1 hu).1
  rw [flat_len] at hl
  obtain ⟨b, off, e, _, hc⟩ := h (by omega)
  cases e
  have hi : j / 2 < xs.length := by omega
  have hr := hc (j / 2) _ (List.getElem?_eq_getElem hi)
  have h1 := ptAt_iff.1 hr (j % 2) (Nat.mod_lt _ (by omega))
  have h2 := flat_at xs (j / 2) _ (j % 2) (List.getElem?_eq_getElem hi) (Nat.mod_lt _ (by omega))
  rw [show j / 2 * 2 + j % 2 = j by omega] at h2
  rw [addP, show off + j = off + j / 2 * 2 + j % 2 by omega, h1, ← h2, hu]
/-- a row of points of the call's own -/
abbrev Own (w : World) (base : Nat) (v : Value) (xs : List Pt) : Prop := w.ownsRow base 23 2 v xs.length (flat xs)
theorem Own.slice {w : World} {base : Nat} {v : Value} {xs : List Pt} (h : Own w base v xs) : ∃ A c, v = .slice A xs.length c ∧ xs.length ≤ c ∧ (A = none → xs = [] ∧ c = 0) ∧ (∀ b o t, A = some ⟨b, o, t⟩ → base ≤ b ∧ b < w.heap.size ∧ o = 0 ∧ t = none) ∧ Pts? w.heap.size w A xs := by
  rcases h.2 with ⟨rfl, hn⟩ | ⟨g, cap, cur, rfl, hb, hh, hnc, _, hsz, ht⟩
  · have hx : xs = [] := List.eq_nil_of_length_eq_zero hn
    subst hx
    exact ⟨none, 0, rfl, Nat.le_refl _, (fun _ => ⟨rfl, rfl⟩), (fun b o t e => by cases e), fun hp => absurd hp (by simp)⟩
  · have hg : g < w.heap.size := (Array.getElem?_eq_some_iff.1 hh).1
    refine ⟨some ⟨g, 0, none⟩, cap, rfl, hnc, (fun e => by cases e), (fun b o t e => by cases e; exact ⟨hb, hg, rfl, rfl⟩), fun _ => ⟨g, 0, rfl, hg, fun i r hr => ?_⟩⟩
    rw [ptAt_iff]
    intro k hk
    have h2 := flat_at xs i r k hr hk
    have hin : (flat xs)[i * 2 + k]? = some (r.cs[k]'(by rw [cs_len]; exact hk)) := by rw [h2]; exact List.getElem?_eq_getElem _
    have h3 := h.cells (g := g) rfl _ _ hin
    rw [addP] at h3
    rw [show 0 + i * 2 + k = 0 + (i * 2 + k) by omega, h3, ← h2, hin]
theorem own_empty (w : World) (base : Nat) (h : base ≤ w.heap.size) : Own (w.alloc (.cells #[] 23)) base (.slice (some ⟨w.heap.size, 0, none⟩) 0 0) [] :=
  ⟨rfl, .inr ⟨w.heap.size, 0, #[], rfl, h, heap_alloc_new w _, Nat.le_refl _, Nat.zero_le _, rfl, rfl⟩⟩
theorem own_nil (w : World) (base : Nat) : Own w base (.slice none 0 0) [] := ⟨rfl, .inl ⟨rfl, rfl⟩⟩
/-- append of points onto a row of the call's own, the source nil or not -/
theorem wpList_append_pts {ops : Array Oper} {rest : List Oper} {o : Oper} {a : Act} {Q : Exit → Act → World → Prop} (w : World) (hgd : o.guard = none) (s x : Operand) (t : TypeId) (ht : Tryz.prog.underlying t = some (.slice 23))
    (ho : o.op = .call { callee := .builtin .append, args := #[s, x], argTypes := #[t, t] }) (base : Nat) (v : Value) (xs : List Pt) (hs : a.eval s = v) (hown : Own w base v xs)
    (A : Option Addr) (m c : Nat) (ys : List Pt) (hx : a.eval x = .slice A m c) (hn : A = none → m = 0 ∧ c = 0) (hl : ys.length = m) (hr : Pts? w.heap.size w A ys) (hb : xs.length + m ≤ 2000000000000) (hbase : base ≤ w.heap.size)
    (h : ∀ v' w', Own w' base v' (xs ++ ys) → w.grownBy w' v.ownBlock → (v'.ownBlock = v.ownBlock ∨ v'.ownBlock = some w.heap.size) → wpList Tryz.prog ops Q rest (a.put o.dst v') w') :
    wpList Tryz.prog ops Q (o :: rest) a w := by
  obtain ⟨i0, hi, hz0, hz1, hz2⟩ := info_parts ptInfo
  cases A with
  | none =>
    obtain ⟨rfl, rfl⟩ := hn rfl
    have hy : ys = [] := List.eq_nil_of_length_eq_zero hl
    subst hy
    exact wpList_append_own_none hgd s x t ho base 23 i0 2 ht hi v xs.length (flat xs) hs hown hx (h v w (by simpa using hown) (World.grownBy.refl w _) (.inl rfl))
  | some ad =>
    refine wpList_append_own_at w hgd s x t ho base 23 i0 _ 2 16 ht hi hz0 hz1 hz2 rfl (by omega) v xs.length (flat xs) hs hown ad m c (flat ys) hx (by rw [flat_len, hl]) hr.news flat_one (by unfold maxLen; omega) (by omega) hbase ?_
    intro v' w' h1 h2 _ h4
    exact h v' w' (by unfold Own; rw [flat_app, List.length_append, hl]; exact h1) h2 h4
/-- what a function that hands back a new row of points says -/
def RetPts (base : Nat) (w : World) (xs : List Pt) (e : Ending) (w' : World) : Prop := ∃ v, e = .returned v ∧ Own w' base v xs ∧ Below w.heap.size w w'
set_option maxRecDepth 100000 in
set_option maxHeartbeats 4000000 in
theorem clone_any (A : Option Addr) (n c : Nat) (xs : List Pt) (w : World) (hn : xs.length = n) (hA : A = none → n = 0 ∧ c = 0) (hx : Pts? w.heap.size w A xs) (hbig : n ≤ 1000000000) :
    Calls Tryz.prog 94 #[.slice A n c] w (RetPts w.heap.size w xs) := by
  cases A with
  | none =>
    obtain ⟨rfl, rfl⟩ := hA rfl
    have hx0 : xs = [] := List.eq_nil_of_length_eq_zero hn
    subst hx0
    clear hx hA hn
    have hnil := fun (w : World) (a : Option Addr) (n c : Nat) => Lib.run_eql_slice_nil (P := Tryz.prog) w 39 23 a n c 0 0 Tryz.underlying39
    go_enter Tryz.func94, Tryz.ntmps94
    go_wp2_with fail
    go_ret
    exact ⟨_, rfl, own_nil _ _, Below.refl _ _⟩
  | some ad =>
    have HX := Lib.hid hx
    have HN := Lib.hid hn
    clear hx hA hn
    have hnil := fun (w : World) (a : Option Addr) (n c : Nat) => Lib.run_eql_slice_nil (P := Tryz.prog) w 39 23 a n c 0 0 Tryz.underlying39
    go_enter Tryz.func94, Tryz.ntmps94
    have ha1 : Below w.heap.size w (w.alloc (.cells #[] 23)) := (Below.refl _ w).alloc (Nat.le_refl _) _
    have HXa := Lib.hid (HX.out.later ha1)
    have HO := Lib.hid (own_empty w w.heap.size (Nat.le_refl _))
    go_wp2_with (at_builtin; go_must (refine wpList_append_pts _ (by rfl) (.tmp 5) (.tmp 6) 39 Tryz.underlying39 (by rfl) w.heap.size _ [] (by rfl) HO.out (some ad) n c xs (by rfl) (fun h => by cases h) HN.out HXa.out (by simp; omega) (by simp) ?_))
    intro v1 w2 hown1 hg1 hat1
    have hB2 : Below w.heap.size w w2 := ha1.grown hg1 (by simp) (by intro k hk; simp only [Value.ownBlock, Option.some.injEq] at hk; omega)
    try simp only [List.nil_append] at hown1
    have HO1 := Lib.hid hown1
    clear hown1 hg1 hat1
    go_wp2_with fail
    go_ret
    exact ⟨_, rfl, HO1.out, hB2⟩
end Go.Proofs.YtnhdnkeiijiiaaaGreat
namespace Go.Proofs
open Go.Shelf
def Tryz.sortPt_ren : Go.Shelf.Ren := ⟨fun | 6 => 126 | 15 => 141 | 14 => 140 | 28 => 151 | 29 => 152 | 20 => 143 | 21 => 144 | 22 => 145 | 23 => 146 | 24 => 147 | 25 => 148 | 26 => 149 | 27 => 150 | 46 => 153 | 47 => 154 | 48 => 155 | 49 => 156 | 50 => 157 | 57 => 158 | n => n, fun | 22 => 39 | 24 => 23 | 25 => 38 | 3 => 3 | 39 => 161 | 0 => 0 | 53 => 172 | 55 => 174 | 4 => 4 | 46 => 165 | 45 => 164 | 50 => 169 | 5 => 5 | 9 => 9 | 66 => 175 | 70 => 179 | 76 => 181 | 77 => 108 | n => n, fun | n => n⟩
theorem Tryz.sortPt : Go.Proofs.SlLaysF0.n6 Tryz.prog Tryz.sortPt_ren := {
  mixed := by kernel_rfl
  f6 := ⟨Tryz.f126.name, by decide, Tryz.func126.trans (congrArg some (by kernel_rfl))⟩
  f14 := ⟨Tryz.f140.name, by decide, Tryz.func140.trans (congrArg some (by kernel_rfl))⟩
  f15 := Tryz.func141.trans (congrArg some (by kernel_rfl))
  f20 := ⟨Tryz.f143.name, by decide, Tryz.func143.trans (congrArg some (by kernel_rfl))⟩
  f21 := ⟨Tryz.f144.name, by decide, Tryz.func144.trans (congrArg some (by kernel_rfl))⟩
  f22 := ⟨Tryz.f145.name, by decide, Tryz.func145.trans (congrArg some (by kernel_rfl))⟩
  f23 := ⟨Tryz.f146.name, by decide, Tryz.func146.trans (congrArg some (by kernel_rfl))⟩
  f24 := ⟨Tryz.f147.name, by decide, Tryz.func147.trans (congrArg some (by kernel_rfl))⟩
  f25 := ⟨Tryz.f148.name, by decide, Tryz.func148.trans (congrArg some (by kernel_rfl))⟩
  f26 := ⟨Tryz.f149.name, by decide, Tryz.func149.trans (congrArg some (by kernel_rfl))⟩
  f27 := ⟨Tryz.f150.name, by decide, Tryz.func150.trans (congrArg some (by kernel_rfl))⟩
  f28 := Tryz.func151.trans (congrArg some (by kernel_rfl))
  f29 := Tryz.func152.trans (congrArg some (by kernel_rfl))
  f46 := ⟨Tryz.f153.name, by decide, Tryz.func153.trans (congrArg some (by kernel_rfl))⟩
  f47 := Tryz.func154.trans (congrArg some (by kernel_rfl))
  f48 := Tryz.func155.trans (congrArg some (by kernel_rfl))
  f49 := ⟨Tryz.f156.name, by decide, Tryz.func156.trans (congrArg some (by kernel_rfl))⟩
  f50 := ⟨Tryz.f157.name, by decide, Tryz.func157.trans (congrArg some (by kernel_rfl))⟩
  f57 := ⟨Tryz.f158.name, by decide, Tryz.func158.trans (congrArg some (by kernel_rfl))⟩
  t0 := Tryz.underlying0
  a0 := Tryz.isAgg0
  z0 := Tryz.sizeOf0
  v0 := Tryz.zeroValue0
  t3 := Tryz.underlying3
  a3 := Tryz.isAgg3
  z3 := Tryz.sizeOf3
  v3 := Tryz.zeroValue3
  t4 := Tryz.underlying4
  a4 := Tryz.isAgg4
  z4 := Tryz.sizeOf4
  v4 := Tryz.zeroValue4
  t5 := Tryz.underlying5
  a5 := Tryz.isAgg5
  z5 := Tryz.sizeOf5
  v5 := Tryz.zeroValue5
  t9 := Tryz.underlying9
  a9 := Tryz.isAgg9
  z9 := Tryz.sizeOf9
  v9 := Tryz.zeroValue9
  t22 := Tryz.underlying39
  a22 := Tryz.isAgg39
  z22 := Tryz.sizeOf39
  v22 := Tryz.zeroValue39
  t25 := Tryz.underlying38
  a25 := Tryz.isAgg38
  z25 := Tryz.sizeOf38
  v25 := Tryz.zeroValue38
  t39 := Tryz.underlying161
  a39 := Tryz.isAgg161
  z39 := Tryz.sizeOf161
  v39 := Tryz.zeroValue161
  t45 := Tryz.underlying164
  a45 := Tryz.isAgg164
  z45 := Tryz.sizeOf164
  v45 := Tryz.zeroValue164
  t46 := Tryz.underlying165
  a46 := Tryz.isAgg165
  z46 := Tryz.sizeOf165
  v46 := Tryz.zeroValue165
  t50 := Tryz.underlying169
  a50 := Tryz.isAgg169
  z50 := Tryz.sizeOf169
  v50 := Tryz.zeroValue169
  t53 := Tryz.underlying172
  a53 := Tryz.isAgg172
  z53 := Tryz.sizeOf172
  v53 := Tryz.zeroValue172
  t55 := Tryz.underlying174
  a55 := Tryz.isAgg174
  z55 := Tryz.sizeOf174
  v55 := Tryz.zeroValue174
  t66 := Tryz.underlying175
  a66 := Tryz.isAgg175
  z66 := Tryz.sizeOf175
  v66 := Tryz.zeroValue175
  t70 := Tryz.underlying179
  a70 := Tryz.isAgg179
  z70 := Tryz.sizeOf179
  v70 := Tryz.zeroValue179
  t76 := Tryz.underlying181
  a76 := Tryz.isAgg181
  z76 := Tryz.sizeOf181
  v76 := Tryz.zeroValue181
  t77 := Tryz.underlying108
  a77 := Tryz.isAgg108
  z77 := Tryz.sizeOf108
  v77 := Tryz.zeroValue108 }
end Go.Proofs
namespace Go.Proofs.YtnhdnkeiijiiaaaGreat
open Go.RowKit Go.Shelf Go.Lib Go.Sort
set_option linter.unusedSimpArgs false
set_option linter.unusedVariables false
attribute [local go_sem ↓] Go.wp_at_zero Go.wp_at_succ

theorem take_putId (cur F : Array Value) (h : F.size ≤ cur.size) : (putCells id 0 F cur).toList.take F.size = F.toList := by
  apply List.ext_getElem?
  intro j
  by_cases hj : j < F.size
  · rw [List.getElem?_take_of_lt hj, Array.getElem?_toList]
    simp [putCells, hj, show j < cur.size by omega]
  · rw [List.getElem?_eq_none (by simp; omega), List.getElem?_eq_none (by simpa using hj)]
theorem flatK_flat (ys : List Pt) : (flatK Pt.cs 2 ys.toArray).toList = flat ys := by
  apply List.ext_getElem?
  intro t
  by_cases ht : t < ys.length * 2
  · have hi : t / 2 < ys.length := by omega
    have h1 := flat_at ys (t / 2) _ (t % 2) (List.getElem?_eq_getElem hi) (Nat.mod_lt _ (by omega))
    rw [show t / 2 * 2 + t % 2 = t by omega] at h1
    rw [h1, Array.getElem?_toList]
    have h2 : t % 2 = 0 ∨ t % 2 = 1 := by omega
    rcases h2 with h2 | h2 <;> simp [flatK, ht, hi, Pt.cs, h2]
  · rw [List.getElem?_eq_none (by simp [flatK]; omega), List.getElem?_eq_none (by rw [flat_len]; omega)]
theorem flatK_size (d : Array Pt) : (flatK Pt.cs 2 d).size = d.size * 2 := by simp [flatK]
theorem holdsK_of_block {w : World} {g : Nat} {cur : Array Value} {xs : List Pt} (hb : w.heap[g]? = some (.cells cur 23 (0, 0))) (ht : cur.toList.take (xs.length * 2) = flat xs) : HoldsK Pt.cs 2 w g 0 xs.toArray := by
  intro j hj
  rw [flatK_size] at hj
  have hj' : j < xs.length * 2 := by simpa using hj
  refine ⟨?_, by simp [World.frozen?, hb]⟩
  have h1 : (cur.toList.take (xs.length * 2))[j]? = (flatK Pt.cs 2 xs.toArray).toList[j]? := by rw [ht, flatK_flat]
  rw [List.getElem?_take_of_lt hj'] at h1
  simp only [Array.getElem?_toList] at h1
  have h2 : j < (flatK Pt.cs 2 xs.toArray).size := by rw [flatK_size]; exact hj
  rw [Array.getElem?_eq_getElem h2] at h1
  simp only [World.cell?, hb, Nat.zero_add]
  rw [h1, getElem!_pos (flatK Pt.cs 2 xs.toArray) j h2]
  simp
theorem grownBy_sortedK {w : World} {g n : Nat} {os : Array Obj} (d : Array Pt) : w.grownBy (grow (putRowK Pt.cs 2 (Sort.ahead w n) g 0 d) os) (some g) := by
  refine ⟨rfl, rfl, rfl, by simp [putRowK], fun k hk hne => ?_⟩
  rw [heap_grow_old _ _ (by simpa [putRowK] using hk)]
  have : g ≠ k := fun e => hne (by rw [e])
  simp [putRowK, putRow, mapBlock, Sort.ahead, Array.getElem?_modify, this]
theorem own_sorted {w : World} {base g cap n : Nat} {os : Array Obj} {cur : Array Value} {xs ys : List Pt} (hl : ys.length = xs.length) (hbase : base ≤ g) (hb : w.heap[g]? = some (.cells cur 23 (0, 0)))
    (h1 : xs.length ≤ cap) (h2 : cap ≤ maxLen) (h3 : cur.size = cap * 2) : Own (grow (putRowK Pt.cs 2 (Sort.ahead w n) g 0 ys.toArray) os) base (.slice (some ⟨g, 0, none⟩) ys.length cap) ys := by
  have hg : g < w.heap.size := (Array.getElem?_eq_some_iff.1 hb).1
  refine ⟨by rw [flat_len], .inr ⟨g, cap, putCells id 0 (flatK Pt.cs 2 ys.toArray) cur, rfl, hbase, ?_, by omega, h2, by simp [putCells, h3], ?_⟩⟩
  · rw [heap_grow_old _ _ (by simpa [putRowK] using hg)]
    simp [putRowK, putRow, mapBlock, Sort.ahead, Array.getElem?_modify, hb, onCells]
  · have h9 := take_putId cur (flatK Pt.cs 2 ys.toArray) (by rw [flatK_size]; simp; omega)
    rw [flatK_size] at h9
    simp only [List.size_toArray] at h9
    rw [h9, flatK_flat]
theorem ltC (x y : Pt) : ltOf cmpS x y = (decide (x.x < y.x) || decide (x.x = y.x) && decide (x.y < y.y)) := by
  unfold ltOf cmpS cmpI
  rw [Bool.eq_iff_iff]
  simp only [decide_eq_true_eq, Bool.or_eq_true, Bool.and_eq_true]
  repeat' split
  all_goals omega
theorem swoC : SWO (ltOf cmpS) where
  irrefl x := by rw [ltC]; simp
  trans x y z h1 h2 := by rw [ltC] at *; simp at *; omega
  ntrans x y z h1 h2 := by rw [ltC] at *; simp at *; omega

theorem grow_of_below {w w' : World} (h : Below w.heap.size w w') (hd : w.drawn ≤ w'.drawn) : ∃ q os', w' = grow (w.drewN q) os' := by
  refine ⟨w'.drawn - w.drawn, w'.heap.extract w.heap.size w'.heap.size, ?_⟩
  have h1 := h.os
  have h2 := h.tape
  have h3 := h.output
  have h5 : w.heap ++ w'.heap.extract w.heap.size w'.heap.size = w'.heap := by
    apply Array.ext_getElem?
    intro i
    rw [Array.getElem?_append]
    split
    · rename_i hi; exact (h.block i hi).symm
    · rename_i hi
      rw [Array.getElem?_extract]
      have h6 := h.size
      split
      · congr 1; omega
      · rename_i h7
        rw [Array.getElem?_eq_none (by omega)]
  obtain ⟨hp, tp, dr, os, out⟩ := w
  obtain ⟨hp', tp', dr', os', out'⟩ := w'
  simp only [grow, World.drewN] at *
  subst h1 h2 h3
  rw [h5]
  congr 1
  omega
set_option maxRecDepth 100000 in
set_option maxHeartbeats 4000000 in
theorem compareD_any (a b : Pt) (w : World) : Calls Tryz.prog 82 #[a.val, b.val] w fun e w' => e = .returned (.int .i64 (cmpS a b)) ∧ Below w.heap.size w w' ∧ w.drawn ≤ w'.drawn := by
  have v1 := fun w => cmp_any a.x b.x w
  have v2 := fun w => cmp_any a.y b.y w
  have hr : cmpS a b = if cmpI a.x b.x ≠ 0 then cmpI a.x b.x else cmpI a.y b.y := rfl
  rw [hr]
  generalize cmpI a.x b.x = c1 at *
  generalize cmpI a.y b.y = c2 at *
  have v3 := fun g W h1 h2 => or2_any c1 c2 g W h1 h2
  generalize (if c1 ≠ 0 then c1 else c2) = R at *
  have H1 := Lib.hid v1
  have H2 := Lib.hid v2
  have H3 := Lib.hid v3
  clear v1 v2 v3 hr
  refine (callsIn_wide (n := 6)).1 ?_
  refine callsIn_of_wp Tryz.func82 rfl trivial ?_ rfl
  simp only [Tryz.ntmps82, List.size_toArray, List.length_cons, List.length_nil, Nat.reduceAdd, Nat.reduceSub, Array.replicate_succ, Array.replicate_zero, List.push_toArray, List.append_toArray, List.nil_append, List.cons_append]
  gi_wp2
  have hp : ∀ ops, PlainOps Fence.wide ops := fun ops => plainOps_none rfl
  have hBz : Below w.heap.size w ((w.alloc (.cells #[.int .i64 a.x, .int .i64 a.y] 23)).alloc (.cells #[.int .i64 b.x, .int .i64 b.y] 23)).drew := Below.drew (by go_grown)
  have hdz : w.drawn ≤ ((w.alloc (.cells #[.int .i64 a.x, .int .i64 a.y] 23)).alloc (.cells #[.int .i64 b.x, .int .i64 b.y] 23)).drew.drawn := by show w.drawn ≤ w.drawn + 1; omega
  have x0 : ((w.alloc (.cells #[.int .i64 a.x, .int .i64 a.y] 23)).alloc (.cells #[.int .i64 b.x, .int .i64 b.y] 23)).drew.cell? ⟨w.heap.size, 0, none⟩ = some (.int .i64 a.x) := by go_cell
  have x1 : ((w.alloc (.cells #[.int .i64 a.x, .int .i64 a.y] 23)).alloc (.cells #[.int .i64 b.x, .int .i64 b.y] 23)).drew.cell? ⟨w.heap.size, 1, none⟩ = some (.int .i64 a.y) := by go_cell
  have x2 : ((w.alloc (.cells #[.int .i64 a.x, .int .i64 a.y] 23)).alloc (.cells #[.int .i64 b.x, .int .i64 b.y] 23)).drew.cell? ⟨w.heap.size + 1, 0, none⟩ = some (.int .i64 b.x) := by go_cell
  have x3 : ((w.alloc (.cells #[.int .i64 a.x, .int .i64 a.y] 23)).alloc (.cells #[.int .i64 b.x, .int .i64 b.y] 23)).drew.cell? ⟨w.heap.size + 1, 1, none⟩ = some (.int .i64 b.y) := by go_cell
  refine held_begin [0, 1, 2, 3, 5, 6, 7, 8, 12] (fun w9 => (Below ((w.alloc (.cells #[.int .i64 a.x, .int .i64 a.y] 23)).alloc (.cells #[.int .i64 b.x, .int .i64 b.y] 23)).drew.heap.size ((w.alloc (.cells #[.int .i64 a.x, .int .i64 a.y] 23)).alloc (.cells #[.int .i64 b.x, .int .i64 b.y] 23)).drew w9 ∧ ((w.alloc (.cells #[.int .i64 a.x, .int .i64 a.y] 23)).alloc (.cells #[.int .i64 b.x, .int .i64 b.y] 23)).drew.drawn ≤ w9.drawn) ∧ w9.cell? ⟨w.heap.size, 0, none⟩ = some (.int .i64 a.x) ∧ w9.cell? ⟨w.heap.size, 1, none⟩ = some (.int .i64 a.y) ∧ w9.cell? ⟨w.heap.size + 1, 0, none⟩ = some (.int .i64 b.x) ∧ w9.cell? ⟨w.heap.size + 1, 1, none⟩ = some (.int .i64 b.y)) (by kernel_rfl) (⟨⟨Below.refl _ _, Nat.le_refl _⟩, x0, x1, x2, x3⟩) (fun hS => ?_)
  generalize ((w.alloc (.cells #[.int .i64 a.x, .int .i64 a.y] 23)).alloc (.cells #[.int .i64 b.x, .int .i64 b.y] 23)).drew = z at *
  refine tk 0 (v := ?_) (hp _) hS rfl (fun _ _ _ _ => trivial) ?_ ?_
  rotate_left 1
  · intro w hw; (try rw [hw]); (try go_split_ands); go_simp <;> with_reducible rfl
  try simp only [Act.put, st]
  refine tk 1 (v := ?_) (hp _) hS rfl (fun _ _ _ _ => trivial) ?_ ?_
  rotate_left 1
  · intro w hw; (try rw [hw]); (try go_split_ands); go_simp <;> with_reducible rfl
  try simp only [Act.put, st]
  refine tk 2 (v := ?_) (hp _) hS rfl (fun _ _ _ _ => trivial) ?_ ?_
  rotate_left 1
  · intro w hw; (try rw [hw]); (try go_split_ands); go_simp <;> with_reducible rfl
  try simp only [Act.put, st]
  refine tk 3 (v := ?_) (hp _) hS rfl (fun _ _ _ _ => trivial) ?_ ?_
  rotate_left 1
  · intro w hw; (try rw [hw]); (try go_split_ands); go_simp <;> with_reducible rfl
  try simp only [Act.put, st]
  refine tk 5 (v := ?_) (hp _) hS rfl (fun _ _ _ _ => trivial) ?_ ?_
  rotate_left 1
  · intro w hw; (try rw [hw]); (try go_split_ands); go_simp <;> with_reducible rfl
  try simp only [Act.put, st]
  refine tk 6 (v := ?_) (hp _) hS rfl (fun _ _ _ _ => trivial) ?_ ?_
  rotate_left 1
  · intro w hw; (try rw [hw]); (try go_split_ands); go_simp <;> with_reducible rfl
  try simp only [Act.put, st]
  refine tk 7 (v := ?_) (hp _) hS rfl (fun _ _ _ _ => trivial) ?_ ?_
  rotate_left 1
  · intro w hw; (try rw [hw]); (try go_split_ands); go_simp <;> with_reducible rfl
  try simp only [Act.put, st]
  refine tk 8 (v := ?_) (hp _) hS rfl (fun _ _ _ _ => trivial) ?_ ?_
  rotate_left 1
  · intro w hw; (try rw [hw]); (try go_split_ands); go_simp <;> with_reducible rfl
  try simp only [Act.put, st]
  refine held_step 4 rfl (hp _) (by kernel_rfl) (by kernel_rfl) (fun K hK => ⟨?_, ?_⟩)
  · exact fun _ _ => trivial
  go_simp
  refine (callsIn_wide.2 (H1.out _)).mono ?_
  rintro e w1 ⟨rfl, rfl⟩
  have hS := hS
  refine hK _ _ hS ?_
  clear hK K
  try simp only [Act.put, st]
  refine held_step 9 rfl (hp _) (by kernel_rfl) (by kernel_rfl) (fun K hK => ⟨?_, ?_⟩)
  · exact fun _ _ => trivial
  go_simp
  refine (callsIn_wide.2 (H2.out _)).mono ?_
  rintro e w1 ⟨rfl, rfl⟩
  have hS := hS
  refine hK _ _ hS ?_
  clear hK K
  try simp only [Act.put, st]
  have hb1 : Below z.heap.size z (z.alloc (.cells #[.int .i64 c1, .int .i64 c2] 3)) := (Below.refl _ z).alloc (Nat.le_refl _) _
  refine held_step 10 rfl (hp _) (by kernel_rfl) (by kernel_rfl) (fun K hK => ⟨?_, ?_⟩)
  · exact fun _ _ => trivial
  go_simp
  have hS := (show (Below z.heap.size z (z.alloc (.cells #[.int .i64 c1, .int .i64 c2] 3)) ∧ z.drawn ≤ (z.alloc (.cells #[.int .i64 c1, .int .i64 c2] 3)).drawn) ∧ (z.alloc (.cells #[.int .i64 c1, .int .i64 c2] 3)).cell? ⟨w.heap.size, 0, none⟩ = some (.int .i64 a.x) ∧ (z.alloc (.cells #[.int .i64 c1, .int .i64 c2] 3)).cell? ⟨w.heap.size, 1, none⟩ = some (.int .i64 a.y) ∧ (z.alloc (.cells #[.int .i64 c1, .int .i64 c2] 3)).cell? ⟨w.heap.size + 1, 0, none⟩ = some (.int .i64 b.x) ∧ (z.alloc (.cells #[.int .i64 c1, .int .i64 c2] 3)).cell? ⟨w.heap.size + 1, 1, none⟩ = some (.int .i64 b.y) from ⟨⟨hb1, Nat.le_refl _⟩, kp hb1 x0, kp hb1 x1, kp hb1 x2, kp hb1 x3⟩)
  refine hK _ _ hS ?_
  clear hK K
  try simp only [Act.put, st]
  refine held_step 11 rfl (hp _) (by kernel_rfl) (by kernel_rfl) (fun K hK => ⟨?_, ?_⟩)
  · exact fun _ _ => trivial
  go_simp
  refine (callsIn_wide.2 (H3.out _ _ (by go_cell) (by go_cell))).mono ?_
  rintro e w1 ⟨rfl, rfl⟩
  have hS := hS
  refine hK _ _ hS ?_
  clear hK K
  try simp only [Act.put, st]
  refine tk 12 (v := ?_) (hp _) hS rfl (fun _ _ _ _ => trivial) ?_ ?_
  rotate_left 1
  · intro w hw; (try rw [hw]); (try go_split_ands); go_simp <;> with_reducible rfl
  try simp only [Act.put, st]
  refine held_end (by kernel_rfl) ?_
  gi_wp2
  go_ret
  exact ⟨rfl, hBz.trans (hb1.mono hBz.size), Nat.le_trans hdz (Nat.le_refl _)⟩
set_option maxRecDepth 100000 in
set_option maxHeartbeats 4000000 in
theorem around1_any (a b : Pt) (w : World) : Calls Tryz.prog 127 #[a.val, b.val] w fun e w' => e = .returned (.int .i64 (cmpS a b)) ∧ ∃ q os', w' = grow (w.drewN q) os' := by
  have v := fun W => compareD_any a b W
  generalize cmpS a b = C at *
  have HV := Lib.hid v
  clear v
  go_enter Tryz.func127, Tryz.ntmps127
  go_wp2_with fail
  refine (HV.out _).mono ?_
  rintro e w1 ⟨rfl, hb1, hd1⟩
  go_wp2_with fail
  go_ret
  refine ⟨rfl, grow_of_below (below_after (by go_grown) hb1) (Nat.le_trans ?_ hd1)⟩
  exact Nat.le_refl _

theorem sort_any (g cap : Nat) (xs : List Pt) (w : World) (hH : HoldsK Pt.cs 2 w g 0 xs.toArray) (hg : g < w.heap.size) (hbig : xs.length ≤ 1000000000) :
    Calls Tryz.prog 126 #[.slice (some ⟨g, 0, none⟩) xs.length cap, .func (.func 127) #[] #[]] w fun e w' => e = .returned (.tuple #[]) ∧ ∃ (ys : List Pt) (n : Nat) (os : Array Obj), ys.Perm xs ∧ ys.Pairwise (fun a b => ltOf cmpS b a = false) ∧ w' = grow (putRowK Pt.cs 2 (Sort.ahead w n) g 0 ys.toArray) os := by
  have eg : ∀ args w, (callFunc 127 args).run Tryz.prog w = .ok (.enter 127 args) w := enters_of Tryz.func127 (by kernel_rfl) rfl
  have hcon := AnyQ.slices_SortFunc Tryz.sortPt 2 Tryz.isAgg23 Tryz.sizeOf23 Pt.cs (fun _ => rfl) (fun x v hv => by simp [Pt.cs] at hv; rcases hv with rfl | rfl <;> rfl) cmpS swoC 127 #[] g 0 cap xs.toArray w eg (fun _ _ _ _ x y => around1_any x y _) hH hg (by simp; omega)
  change Calls Tryz.prog 126 _ _ _ at hcon
  refine hcon.mono ?_
  rintro e w' ⟨rfl, d', n, os, hp, hs, rfl⟩
  obtain ⟨hsz, _, hperm⟩ := hp
  refine ⟨rfl, d'.toList, n, os, ?_, ?_, ?_⟩
  · have e1 : d'.extract 0 xs.toArray.size = d' := by rw [← hsz]; simp
    have e2 : xs.toArray.extract 0 xs.toArray.size = xs.toArray := by simp
    rw [e1, e2] at hperm
    exact hperm
  · rw [List.pairwise_iff_getElem]
    intro i j hi hj hij
    have hi' : i < d'.size := by simpa using hi
    have hj' : j < d'.size := by simpa using hj
    have h9 := hs i j (Nat.zero_le _) hij (by omega)
    rw [getElem!_pos d' i hi', getElem!_pos d' j hj'] at h9
    simpa using h9
  · simp [sortWorldK]
end Go.Proofs.YtnhdnkeiijiiaaaGreat
namespace Go.Proofs.YtnhdnkeiijiiaaaGreat
open Go.RowKit Go.Shelf Go.Lib Go.Sort
set_option linter.unusedSimpArgs false
set_option linter.unusedVariables false

theorem flat_set : ∀ (xs : List Pt) (i : Nat) (p : Pt), i < xs.length → flat (xs.set i p) = ((flat xs).set (i * 2) (.int .i64 p.x)).set (i * 2 + 1) (.int .i64 p.y)
  | [], i, p, h => by simp at h
  | r :: xs, 0, p, _ => by simp [flat, Pt.cs]
  | r :: xs, i + 1, p, h => by
    simp only [List.set_cons_succ, flat, Pt.cs, List.cons_append, List.nil_append]
    rw [flat_set xs i p (by simpa using h), show (i + 1) * 2 = i * 2 + 1 + 1 by omega]
    simp only [List.set_cons_succ]
theorem Own.set {w : World} {base g cap : Nat} {ys : List Pt} (h : Own w base (.slice (some ⟨g, 0, none⟩) ys.length cap) ys) {i : Nat} (hi : i < ys.length) (p : Pt) :
    Own ((w.setCell ⟨g, i * 2, none⟩ (.int .i64 p.x)).setCell ⟨g, i * 2 + 1, none⟩ (.int .i64 p.y)) base (.slice (some ⟨g, 0, none⟩) (ys.set i p).length cap) (ys.set i p) := by
  rcases h.2 with ⟨h0, _⟩ | ⟨g', cap', cur, e, hb, hh, hnc, hm, hsz, ht⟩
  · cases h0
  cases e
  have h1 := heap_setCell_same w g (i * 2) cur 23 (.int .i64 p.x) hh
  have h2 := heap_setCell_same _ g (i * 2 + 1) _ 23 (.int .i64 p.y) h1
  refine ⟨by rw [flat_len], .inr ⟨g, cap, _, rfl, hb, h2, by simpa using hnc, hm, by simpa using hsz, ?_⟩⟩
  rw [flat_set ys i p hi, ← ht]
  simp only [Array.toList_setIfInBounds, List.length_set]
  rw [List.take_set, List.take_set]
theorem Own.take {w : World} {base g cap : Nat} {ys : List Pt} (h : Own w base (.slice (some ⟨g, 0, none⟩) ys.length cap) ys) {m : Nat} (hm : m ≤ ys.length) : Own w base (.slice (some ⟨g, 0, none⟩) (ys.take m).length cap) (ys.take m) := by
  rcases h.2 with ⟨h0, _⟩ | ⟨g', cap', cur, e, hb, hh, hnc, hm', hsz, ht⟩
  · cases h0
  cases e
  refine ⟨by rw [flat_len], .inr ⟨g, cap, cur, rfl, hb, hh, by simp; omega, hm', hsz, ?_⟩⟩
  have h9 : flat (ys.take m) = (flat ys).take (m * 2) := by
    have h8 := flat_app (ys.take m) (ys.drop m)
    rw [List.take_append_drop] at h8
    rw [h8, List.take_left' (by rw [flat_len, List.length_take, Nat.min_eq_left hm])]
  rw [h9, ← ht, List.take_take, List.length_take, Nat.min_eq_left hm, Nat.min_eq_left (by omega)]
theorem below_setCells {n : Nat} : ∀ (vs : List Value) (w : World) (g o : Nat), n ≤ g → Below n w (w.setCells g o vs)
  | [], w, g, o, _ => Below.refl _ _
  | v :: vs, w, g, o, h => ((Below.refl n w).setCell (p := ⟨g, o, none⟩) h v).trans (below_setCells vs _ g (o + 1) h)
theorem own_setCells {base g cap : Nat} {ys : List Pt} : ∀ (vs : List Value) (w : World) (o : Nat), ys.length * 2 ≤ o → Own w base (.slice (some ⟨g, 0, none⟩) ys.length cap) ys → Own (w.setCells g o vs) base (.slice (some ⟨g, 0, none⟩) ys.length cap) ys
  | [], w, o, _, h => h
  | v :: vs, w, o, ho, h => by
    refine own_setCells vs (w.setCell ⟨g, o, none⟩ v) (o + 1) (by omega) ?_
    rcases h.2 with ⟨h0, _⟩ | ⟨g', cap', cur, e, hb, hh, hnc, hm', hsz, ht⟩
    · cases h0
    cases e
    refine ⟨h.1, .inr ⟨g, cap, _, rfl, hb, heap_setCell_same w g o cur 23 v hh, hnc, hm', by simpa using hsz, ?_⟩⟩
    rw [← ht, Array.toList_setIfInBounds, List.take_set_of_le ho]
theorem run_clear_pts (w : World) (ty : TypeId) (b o n c : Nat) (hn : 0 < n)
    (hc : ∀ j, j < n * 2 → (w.cell? ⟨b, o + j, none⟩).isSome = true) (hf : ∀ j, j < n * 2 → w.frozen? ⟨b, o + j, none⟩ = false) :
    (Builtin.clear_ #[39] ty #[.slice (some ⟨b, o, none⟩) n c]).run Tryz.prog w = .ok (.tuple #[]) (w.setCells b o (List.replicate (n * 2) (.int .i64 0))) := by
  have hzc : (Builtin.zeroCells #[.int .i64 0, .int .i64 0] n).toList = List.replicate (n * 2) (Value.int .i64 0) := by
    apply List.ext_getElem
    · simp [Builtin.zeroCells]
    · intro i h1 h2
      have h3 : i % 2 = 0 ∨ i % 2 = 1 := by omega
      rcases h3 with h3 | h3 <;> simp [Builtin.zeroCells, h3]
  have hst := run_storeCells_cells (P := Tryz.prog) b o (List.replicate (n * 2) (.int .i64 0)) 0 w (by simpa using hc) (by simpa using hf) (by intro v hv'; rw [List.eq_of_mem_replicate hv']; rfl)
  simp only [Nat.add_zero] at hst
  have hv : (zeroValue 23).run Tryz.prog w = .ok (.agg #[.int .i64 0, .int .i64 0]) w := Tryz.zeroValue23 w
  obtain ⟨m, rfl⟩ : ∃ m, n = m + 1 := ⟨n - 1, by omega⟩
  simp [Builtin.clear_, run_underlying Tryz.underlying39, hv, Value.cells, hzc, hst]
/-- runs of one point become one -/
def dedup : List Pt → List Pt
  | [] => []
  | [a] => [a]
  | a :: b :: l => if a = b then dedup (b :: l) else a :: dedup (b :: l)
theorem dedup_last : ∀ (l : List Pt) (a : Pt), (dedup (a :: l)).getLast? = some ((a :: l).getLast (by simp))
  | [], a => by simp [dedup]
  | b :: l, a => by
    unfold dedup
    split
    · rw [dedup_last l b]; simp
    · rw [List.getLast?_cons, dedup_last l b]; simp
theorem dedup_snoc : ∀ (l : List Pt) (a x : Pt), dedup ((a :: l) ++ [x]) = if (a :: l).getLast (by simp) = x then dedup (a :: l) else dedup (a :: l) ++ [x]
  | [], a, x => by by_cases h : a = x <;> simp [dedup, h]
  | b :: l, a, x => by
    have ih := dedup_snoc l b x
    simp only [List.cons_append] at ih ⊢
    rw [dedup, ih]
    simp only [List.getLast_cons_cons]
    rw [show dedup (a :: b :: l) = if a = b then dedup (b :: l) else a :: dedup (b :: l) from rfl]
    by_cases h1 : a = b <;> by_cases h2 : (b :: l).getLast (by simp) = x <;> simp [h1, h2]
end Go.Proofs.YtnhdnkeiijiiaaaGreat
namespace Go.Proofs.YtnhdnkeiijiiaaaGreat
open Go.RowKit Go.Shelf
set_option linter.unusedSimpArgs false
set_option linter.unusedVariables false
attribute [local go_sem] Oper.semAt_some

theorem Own.at {w : World} {base g c : Nat} {xs : List Pt} {n : Nat} (h : Own w base (.slice (some ⟨g, 0, none⟩) n c) xs) (hn : xs.length = n) {i : Nat} {p : Pt} (hi : xs[i]? = some p) : w.cell? ⟨g, i * 2, none⟩ = some (.int .i64 p.x) ∧ w.cell? ⟨g, i * 2 + 1, none⟩ = some (.int .i64 p.y) ∧ w.frozen? ⟨g, i * 2, none⟩ = false ∧ w.frozen? ⟨g, i * 2 + 1, none⟩ = false := by
  obtain ⟨A, c', e, _, _, _, hP⟩ := h.slice
  cases e
  obtain ⟨b, off, e2, _, hc⟩ := hP (by have := (List.getElem?_eq_some_iff.1 hi).1; omega)
  cases e2
  obtain ⟨h1, h2⟩ := hc i p hi
  rw [Nat.zero_add] at h1 h2
  rcases h.2 with ⟨h0, _⟩ | ⟨g', cap', cur, e, hb, hh, hnc, _, hsz, ht⟩
  · cases h0
  cases e
  exact ⟨h1, h2, by simp [World.frozen?, hh], by simp [World.frozen?, hh]⟩
/-- what Compact hands back -/
def RetCompact (base g c : Nat) (w : World) (ys : List Pt) (e : Ending) (w' : World) : Prop := e = .returned (.slice (some ⟨g, 0, none⟩) ys.length c) ∧ Own w' base (.slice (some ⟨g, 0, none⟩) ys.length c) ys ∧ Below base w w'
theorem dedup_le : ∀ xs : List Pt, (dedup xs).length ≤ xs.length
  | [] => by simp [dedup]
  | [a] => by simp [dedup]
  | a :: b :: l => by
    unfold dedup
    have := dedup_le (b :: l)
    split
    · simp only [List.length_cons] at *; omega
    · simp only [List.length_cons] at *; omega
theorem dedup_snoc2 : ∀ (l : List Pt) (q p : Pt), dedup ((l ++ [q]) ++ [p]) = if q = p then dedup (l ++ [q]) else dedup (l ++ [q]) ++ [p]
  | [], q, p => by by_cases h : q = p <;> simp [dedup, h]
  | [a], q, p => by by_cases h1 : a = q <;> by_cases h2 : q = p <;> simp [dedup, h1, h2]
  | a :: b :: l, q, p => by
    have ih := dedup_snoc2 (b :: l) q p
    simp only [List.cons_append] at ih ⊢
    rw [dedup, ih, show dedup (a :: b :: (l ++ [q])) = if a = b then dedup (b :: (l ++ [q])) else a :: dedup (b :: (l ++ [q])) from rfl]
    by_cases h1 : a = b <;> by_cases h2 : q = p <;> simp [h1, h2]
theorem dedup_step {xs : List Pt} {j : Nat} {p q : Pt} (hp : xs[j + 1]? = some p) (hq : xs[j]? = some q) : dedup (xs.take (j + 2)) = if q = p then dedup (xs.take (j + 1)) else dedup (xs.take (j + 1)) ++ [p] := by
  have e1 : xs.take (j + 2) = xs.take (j + 1) ++ [p] := by rw [List.take_add_one, hp]; rfl
  have e2 : xs.take (j + 1) = xs.take j ++ [q] := by rw [List.take_add_one, hq]; rfl
  rw [e1, e2]
  exact dedup_snoc2 _ q p
set_option maxRecDepth 100000 in
set_option maxHeartbeats 4000000 in
theorem compact_small (base g n c : Nat) (xs : List Pt) (w : World) (hn : xs.length = n) (h2 : n < 2) (hO : Own w base (.slice (some ⟨g, 0, none⟩) n c) xs) :
    Calls Tryz.prog 128 #[.slice (some ⟨g, 0, none⟩) n c] w (RetCompact base g c w (dedup xs)) := by
  have hd : dedup xs = xs := by
    match xs, hn with
    | [], _ => rfl
    | [a], _ => rfl
    | a :: b :: l, hn => simp at hn; omega
  have h2i : (n : Int) < 2 := by omega
  rw [hd]
  have HO := Lib.hid hO
  have HN := Lib.hid hn
  clear hO hd hn
  refine (callsIn_wide (n := 6)).1 ?_
  refine callsIn_of_wp Tryz.func128 rfl trivial ?_ rfl
  simp only [Tryz.ntmps128, List.size_toArray, List.length_cons, List.length_nil, Nat.reduceAdd, Nat.reduceSub, Array.replicate_succ, Array.replicate_zero, List.push_toArray, List.append_toArray, List.nil_append, List.cons_append]
  gi_wp2
  go_ret
  exact ⟨by simp [HN.out], by rw [HN.out]; exact HO.out, Below.refl _ _⟩
set_option maxRecDepth 100000 in
set_option maxHeartbeats 4000000 in
theorem compact_big (base g n c : Nat) (xs : List Pt) (w : World) (hn : xs.length = n) (h2 : ¬ n < 2) (hO : Own w base (.slice (some ⟨g, 0, none⟩) n c) xs) (hbig : n ≤ 1000000000) :
    Calls Tryz.prog 128 #[.slice (some ⟨g, 0, none⟩) n c] w (RetCompact base g c w (dedup xs)) := by
  have hcap : n ≤ c := by
    obtain ⟨_, c', e, hc, _⟩ := hO.slice
    cases e
    omega
  have h2i : ¬ ((n : Int) < 2) := by omega
  have HO := Lib.hid hO
  have HN := Lib.hid hn
  clear hO hn
  refine (callsIn_wide (n := 6)).1 ?_
  refine callsIn_of_wp Tryz.func128 rfl trivial ?_ rfl
  simp only [Tryz.ntmps128, List.size_toArray, List.length_cons, List.length_nil, Nat.reduceAdd, Nat.reduceSub, Array.replicate_succ, Array.replicate_zero, List.push_toArray, List.append_toArray, List.nil_append, List.cons_append]
  gi_wp2
  have hp : ∀ ops, PlainOps Fence.wide ops := fun ops => plainOps_none rfl
  gi_loopw [3] (fun s3 wr => ∃ j : Nat, j + 1 ≤ n ∧ s3 = .int .i64 ((j : Int) + 1) ∧ Aside (dedup (xs.take (j + 1)) = xs.take (j + 1)) ∧ Own wr base (.slice (some ⟨g, 0, none⟩) n c) xs ∧ Below base w wr)
    (fun s3 _ => n - (intOf s3).toNat)
  case atStart => exact ⟨0, by omega, by simp, by
    cases xs with
    | nil => rfl
    | cons a l => show dedup _ = _; simp [dedup], HO.out, Below.refl _ _⟩
  case round =>
    obtain ⟨j, hj, rfl, hA, hOw, hB⟩ := hrel
    by_cases hlt : j + 1 < n
    · obtain ⟨⟨px, py⟩, hpk⟩ : ∃ p, xs[j + 1]? = some p := ⟨_, List.getElem?_eq_getElem (by rw [HN.out]; exact hlt)⟩
      obtain ⟨⟨qx, qy⟩, hqk⟩ : ∃ q, xs[j]? = some q := ⟨_, List.getElem?_eq_getElem (by rw [HN.out]; omega)⟩
      have hst := dedup_step hpk hqk
      obtain ⟨c0, c1, _, _⟩ := hOw.at HN.out hpk
      obtain ⟨d0, d1, _, _⟩ := hOw.at HN.out hqk
      dsimp only at c0 c1 d0 d1
      have i1 : (j : Int) + 1 < (n : Int) := by omega
      have i2 : (0 : Int) ≤ (j : Int) := by omega
      have i3 : (j : Int) < (n : Int) := by omega
      have i4 : IntKind.i64.wrap (j : Int) = (j : Int) := IntWalk.i64_in _ (by omega)
      have i5 : ((j : Int) + 1).toNat = j + 1 := by omega
      have i6 : (0 : Int) ≤ (j : Int) + 1 := by omega
      have HOW := Lib.hid hOw
      have HST := Lib.hid hst
      have htk : xs.take (j + 2) = xs.take (j + 1) ++ [⟨px, py⟩] := by rw [List.take_add_one, hpk]; rfl
      have HTK := Lib.hid htk
      clear hOw hst htk
      by_cases e1 : qx = px ∧ qy = py
      · obtain ⟨f1, f2⟩ := e1
        subst f1 f2
        have hst2 : dedup (xs.take (j + 2)) = xs.take (j + 1) := by rw [HST.out, if_pos rfl]; exact hA
        have HS2 := Lib.hid hst2
        clear hst2 hA HST HTK hpk hqk
        obtain ⟨n2, rfl⟩ : ∃ n2, n = j + 1 + n2 := ⟨n - (j + 1), by omega⟩
        obtain ⟨c2, rfl⟩ : ∃ c2, c = j + 1 + c2 := ⟨c - (j + 1), by omega⟩
        have n2p : 0 < n2 := by omega
        have c2n : n2 ≤ c2 := by omega
        have hne : ¬ (j + 1 + c2 = j + 1) := by omega
        have i7 : (j : Int) < (j : Int) + 1 + (n2 : Int) := by omega
        have i8 : (j : Int) + 1 < (j : Int) + 1 + (n2 : Int) := by omega
        have i9 : (j : Int) + 1 ≤ (j : Int) + 1 + (c2 : Int) := by omega
        clear i1 i3 hlt
        gi_wp2
        refine held_begin [0, 1, 2, 3, 4, 5, 6, 7, 8, 9] (fun w9 => w9 = wr.drew) (by kernel_rfl) (rfl) (fun hS => ?_)
        have x0 : wr.drew.cell? ⟨g, (j + 1) * 2, none⟩ = _ := c0
        have x1 : wr.drew.cell? ⟨g, (j + 1) * 2 + 1, none⟩ = _ := c1
        have x2 : wr.drew.cell? ⟨g, j * 2, none⟩ = _ := d0
        have x3 : wr.drew.cell? ⟨g, j * 2 + 1, none⟩ = _ := d1
        have HOZ := Lib.hid (show Own wr.drew base (.slice (some ⟨g, 0, none⟩) (j + 1 + n2) (j + 1 + c2)) xs from HOW.out)
        have hBz : Below base w wr.drew := Below.drew hB
        generalize wr.drew = z at *
        clear c0 c1 d0 d1 HOW hB
        refine tk 0 (v := ?_) (hp _) hS rfl (fun _ _ _ _ => trivial) ?_ ?_
        rotate_left 1
        · intro w hw; (try rw [hw]); (try go_split_ands); go_simp <;> with_reducible rfl
        try simp only [Act.put, st]
        refine tk 1 (v := ?_) (hp _) hS rfl (fun _ _ _ _ => trivial) ?_ ?_
        rotate_left 1
        · intro w hw; (try rw [hw]); (try go_split_ands); go_simp <;> with_reducible rfl
        try simp only [Act.put, st]
        refine tk 2 (v := ?_) (hp _) hS rfl (fun _ _ _ _ => trivial) ?_ ?_
        rotate_left 1
        · intro w hw; (try rw [hw]); (try go_split_ands); go_simp <;> with_reducible rfl
        try simp only [Act.put, st]
        refine tk 3 (v := ?_) (hp _) hS rfl (fun _ _ _ _ => trivial) ?_ ?_
        rotate_left 1
        · intro w hw; (try rw [hw]); (try go_split_ands); go_simp <;> with_reducible rfl
        try simp only [Act.put, st]
        refine tk 4 (v := ?_) (hp _) hS rfl (fun _ _ _ _ => trivial) ?_ ?_
        rotate_left 1
        · intro w hw; (try rw [hw]); (try go_split_ands); go_simp <;> with_reducible rfl
        try simp only [Act.put, st]
        refine tk 5 (v := ?_) (hp _) hS rfl (fun _ _ _ _ => trivial) ?_ ?_
        rotate_left 1
        · intro w hw; (try rw [hw]); (try go_split_ands); go_simp <;> with_reducible rfl
        try simp only [Act.put, st]
        refine tk 6 (v := ?_) (hp _) hS rfl (fun _ _ _ _ => trivial) ?_ ?_
        rotate_left 1
        · intro w hw; (try rw [hw]); (try go_split_ands); go_simp <;> with_reducible rfl
        try simp only [Act.put, st]
        refine tk 7 (v := ?_) (hp _) hS rfl (fun _ _ _ _ => trivial) ?_ ?_
        rotate_left 1
        · intro w hw; (try rw [hw]); (try go_split_ands); go_simp <;> with_reducible rfl
        try simp only [Act.put, st]
        refine tk 8 (v := ?_) (hp _) hS rfl (fun _ _ _ _ => trivial) ?_ ?_
        rotate_left 1
        · intro w hw; (try rw [hw]); (try go_split_ands); go_simp <;> with_reducible rfl
        try simp only [Act.put, st]
        refine tk 9 (v := ?_) (hp _) hS rfl (fun _ _ _ _ => trivial) ?_ ?_
        rotate_left 1
        · intro w hw; (try rw [hw]); (try go_split_ands); go_simp <;> with_reducible rfl
        try simp only [Act.put, st]
        refine held_end (by kernel_rfl) ?_
        gi_wp2
        gi_loopw [3, 5] (fun s3 s5 wr => ∃ (m i : Nat) (ys : List Pt), m + 1 ≤ n2 ∧ s5 = .int .i64 ((m : Int) + 1) ∧ s3 = .int .i64 (i : Int) ∧ Own wr base (.slice (some ⟨g, 0, none⟩) (j + 1 + n2) (j + 1 + c2)) ys ∧ Aside (ys.length = j + 1 + n2 ∧ ys.take i = dedup (xs.take (j + 2 + m)) ∧ i = (dedup (xs.take (j + 2 + m))).length ∧ ∀ q, j + 1 + m ≤ q → ys[q]? = xs[q]?) ∧ i < j + 2 + m ∧ Below base w wr)
          (fun _ s5 _ => n2 - (intOf s5).toNat)
        case atStart => exact ⟨0, j + 1, xs, by omega, by simp, by simp, HOZ.out, ⟨HN.out, HS2.out.symm, by rw [Nat.add_zero, HS2.out, List.length_take, HN.out]; omega, fun _ _ => rfl⟩, by omega, hBz⟩
        case round =>
          obtain ⟨m, i, ys, hm, rfl, rfl, hOi, ⟨hyl, htk, hil, hsame⟩, hit, hBi⟩ := hrel
          by_cases hlt2 : m + 1 < n2
          · obtain ⟨⟨ax, ay⟩, hak⟩ : ∃ p, ys[j + 2 + m]? = some p := ⟨_, List.getElem?_eq_getElem (by omega)⟩
            obtain ⟨⟨bx, by_⟩, hbk⟩ : ∃ q, ys[j + 1 + m]? = some q := ⟨_, List.getElem?_eq_getElem (by omega)⟩
            have hax := (hsame (j + 2 + m) (by omega)).symm.trans hak
            have hbx := (hsame (j + 1 + m) (by omega)).symm.trans hbk
            have hst := dedup_step (j := j + 1 + m) (by rw [show j + 1 + m + 1 = j + 2 + m by omega]; exact hax) hbx
            rw [show j + 1 + m + 2 = j + 2 + (m + 1) by omega, show j + 1 + m + 1 = j + 2 + m by omega] at hst
            obtain ⟨a0, a1, _, _⟩ := hOi.at hyl hak
            obtain ⟨b0, b1, _, _⟩ := hOi.at hyl hbk
            dsimp only at a0 a1 b0 b1
            rw [show (j + 2 + m) * 2 = (j + 1) * 2 + (m + 1) * 2 by omega] at a0 a1
            rw [show (j + 1 + m) * 2 = (j + 1) * 2 + m * 2 by omega] at b0 b1
            have k1 : (m : Int) + 1 < (n2 : Int) := by omega
            have k2 : (0 : Int) ≤ (m : Int) := by omega
            have k3 : (m : Int) < (n2 : Int) := by omega
            have k4 : IntKind.i64.wrap (m : Int) = (m : Int) := IntWalk.i64_in _ (by omega)
            have k6 : (0 : Int) ≤ (m : Int) + 1 := by omega
            have k7 : (i : Int) < (j : Int) + 1 + (n2 : Int) := by omega
            have HOI := Lib.hid hOi
            have HST2 := Lib.hid hst
            have HYL := Lib.hid hyl
            have HTK2 := Lib.hid htk
            have HIL := Lib.hid hil
            have HSM := Lib.hid hsame
            have HAK := Lib.hid hak
            clear hOi hst hak hbk hax hbx hyl htk hil hsame
            by_cases e2 : bx = ax ∧ by_ = ay
            · obtain ⟨g1, g2⟩ := e2
              subst g1 g2
              have hd2 : dedup (xs.take (j + 2 + (m + 1))) = dedup (xs.take (j + 2 + m)) := by rw [HST2.out, if_pos rfl]
              have HD2 := Lib.hid hd2
              clear hd2 HST2
              gi_wp2
              refine held_begin [0, 1, 2, 3, 4, 5, 6, 7, 8, 9] (fun w9 => w9 = wr.drew) (by kernel_rfl) (rfl) (fun hS => ?_)
              have y0 : wr.drew.cell? ⟨g, (j + 1) * 2 + (m + 1) * 2, none⟩ = _ := a0
              have y1 : wr.drew.cell? ⟨g, (j + 1) * 2 + (m + 1) * 2 + 1, none⟩ = _ := a1
              have y2 : wr.drew.cell? ⟨g, (j + 1) * 2 + m * 2, none⟩ = _ := b0
              have y3 : wr.drew.cell? ⟨g, (j + 1) * 2 + m * 2 + 1, none⟩ = _ := b1
              have HOY := Lib.hid (show Own wr.drew base (.slice (some ⟨g, 0, none⟩) (j + 1 + n2) (j + 1 + c2)) ys from HOI.out)
              have hBy : Below base w wr.drew := Below.drew hBi
              generalize wr.drew = y at *
              clear a0 a1 b0 b1 HOI hBi
              refine tk 0 (v := ?_) (hp _) hS rfl (fun _ _ _ _ => trivial) ?_ ?_
              rotate_left 1
              · intro w hw; (try rw [hw]); (try go_split_ands); go_simp <;> with_reducible rfl
              try simp only [Act.put, st]
              refine tk 1 (v := ?_) (hp _) hS rfl (fun _ _ _ _ => trivial) ?_ ?_
              rotate_left 1
              · intro w hw; (try rw [hw]); (try go_split_ands); go_simp <;> with_reducible rfl
              try simp only [Act.put, st]
              refine tk 2 (v := ?_) (hp _) hS rfl (fun _ _ _ _ => trivial) ?_ ?_
              rotate_left 1
              · intro w hw; (try rw [hw]); (try go_split_ands); go_simp <;> with_reducible rfl
              try simp only [Act.put, st]
              refine tk 3 (v := ?_) (hp _) hS rfl (fun _ _ _ _ => trivial) ?_ ?_
              rotate_left 1
              · intro w hw; (try rw [hw]); (try go_split_ands); go_simp <;> with_reducible rfl
              try simp only [Act.put, st]
              refine tk 4 (v := ?_) (hp _) hS rfl (fun _ _ _ _ => trivial) ?_ ?_
              rotate_left 1
              · intro w hw; (try rw [hw]); (try go_split_ands); go_simp <;> with_reducible rfl
              try simp only [Act.put, st]
              refine tk 5 (v := ?_) (hp _) hS rfl (fun _ _ _ _ => trivial) ?_ ?_
              rotate_left 1
              · intro w hw; (try rw [hw]); (try go_split_ands); go_simp <;> with_reducible rfl
              try simp only [Act.put, st]
              refine tk 6 (v := ?_) (hp _) hS rfl (fun _ _ _ _ => trivial) ?_ ?_
              rotate_left 1
              · intro w hw; (try rw [hw]); (try go_split_ands); go_simp <;> with_reducible rfl
              try simp only [Act.put, st]
              refine tk 7 (v := ?_) (hp _) hS rfl (fun _ _ _ _ => trivial) ?_ ?_
              rotate_left 1
              · intro w hw; (try rw [hw]); (try go_split_ands); go_simp <;> with_reducible rfl
              try simp only [Act.put, st]
              refine tk 8 (v := ?_) (hp _) hS rfl (fun _ _ _ _ => trivial) ?_ ?_
              rotate_left 1
              · intro w hw; (try rw [hw]); (try go_split_ands); go_simp <;> with_reducible rfl
              try simp only [Act.put, st]
              refine tk 9 (v := ?_) (hp _) hS rfl (fun _ _ _ _ => trivial) ?_ ?_
              rotate_left 1
              · intro w hw; (try rw [hw]); (try go_split_ands); go_simp <;> with_reducible rfl
              try simp only [Act.put, st]
              refine held_end (by kernel_rfl) ?_
              gi_wp2
              go_roundw
              case rel => exact ⟨m + 1, i, ys, by omega, by go_num, by simp, HOY.out, ⟨HYL.out, by rw [HD2.out]; exact HTK2.out, by rw [HD2.out]; exact HIL.out, fun q hq => HSM.out q (by omega)⟩, by omega, hBy⟩
              case measure => simp [intOf]; omega
            · have g1 : ax ≠ bx ∨ ax = bx ∧ ay ≠ by_ := by omega
              have hd2 : dedup (xs.take (j + 2 + (m + 1))) = dedup (xs.take (j + 2 + m)) ++ [⟨ax, ay⟩] := by rw [HST2.out, if_neg (by simpa using e2)]
              have HD2 := Lib.hid hd2
              obtain ⟨⟨ox, oy⟩, hoi⟩ : ∃ p, ys[i]? = some p := ⟨_, List.getElem?_eq_getElem (by rw [HYL.out]; omega)⟩
              have HOIX := Lib.hid hoi
              clear hd2 HST2 e2 hoi
              have hnext : ∀ W, Own W base (.slice (some ⟨g, 0, none⟩) (j + 1 + n2) (j + 1 + c2)) ys → Below base w W →
                  (∃ (m' i' : Nat) (ys' : List Pt), m' + 1 ≤ n2 ∧ Value.int .i64 ((m : Int) + 1 + 1) = .int .i64 ((m' : Int) + 1) ∧ Value.int .i64 ((i : Int) + 1) = .int .i64 (i' : Int) ∧ Own ((W.setCell ⟨g, i * 2, none⟩ (.int .i64 ax)).setCell ⟨g, i * 2 + 1, none⟩ (.int .i64 ay)) base (.slice (some ⟨g, 0, none⟩) (j + 1 + n2) (j + 1 + c2)) ys' ∧ Aside (ys'.length = j + 1 + n2 ∧ ys'.take i' = dedup (xs.take (j + 2 + m')) ∧ i' = (dedup (xs.take (j + 2 + m'))).length ∧ ∀ q, j + 1 + m' ≤ q → ys'[q]? = xs[q]?) ∧ i' < j + 2 + m' ∧ Below base w ((W.setCell ⟨g, i * 2, none⟩ (.int .i64 ax)).setCell ⟨g, i * 2 + 1, none⟩ (.int .i64 ay))) := by
                intro W hO hBW
                have hil : i < ys.length := by rw [HYL.out]; omega
                have hg := hO
                rw [← HYL.out] at hg
                have hgb : base ≤ g := by
                  obtain ⟨_, _, e, _, _, h9, _⟩ := hg.slice
                  cases e
                  exact (h9 g 0 none rfl).1
                have hs := hg.set hil ⟨ax, ay⟩
                rw [List.length_set, HYL.out] at hs
                refine ⟨m + 1, i + 1, ys.set i ⟨ax, ay⟩, by omega, by simp, by simp, hs, ⟨by simp [HYL.out], ?_, ?_, fun q hq => ?_⟩, by omega, (hBW.setCell (p := ⟨g, i * 2, none⟩) hgb _).setCell (p := ⟨g, i * 2 + 1, none⟩) hgb _⟩
                · rw [HD2.out, ← HTK2.out, List.take_add_one]
                  simp [hil, List.take_set_of_le]
                · rw [HD2.out, List.length_append, ← HIL.out]; rfl
                · rw [List.getElem?_set_ne (by omega)]
                  exact HSM.out q (by omega)
              have HNX := Lib.hid hnext
              clear hnext
              rcases g1 with g1 | ⟨g1, g2⟩
              rotate_left 1
              · subst g1
                gi_wp2
                refine held_begin [0, 1, 2, 3, 4, 5, 6, 7, 8, 9] (fun w9 => w9 = wr.drew) (by kernel_rfl) (rfl) (fun hS => ?_)
                have y0 : wr.drew.cell? ⟨g, (j + 1) * 2 + (m + 1) * 2, none⟩ = _ := a0
                have y1 : wr.drew.cell? ⟨g, (j + 1) * 2 + (m + 1) * 2 + 1, none⟩ = _ := a1
                have y2 : wr.drew.cell? ⟨g, (j + 1) * 2 + m * 2, none⟩ = _ := b0
                have y3 : wr.drew.cell? ⟨g, (j + 1) * 2 + m * 2 + 1, none⟩ = _ := b1
                have HOY := Lib.hid (show Own wr.drew base (.slice (some ⟨g, 0, none⟩) (j + 1 + n2) (j + 1 + c2)) ys from HOI.out)
                have hBy : Below base w wr.drew := Below.drew hBi
                obtain ⟨o0, o1, o2, o3⟩ := HOY.out.at HYL.out HOIX.out
                dsimp only at o0 o1
                generalize wr.drew = y at *
                clear a0 a1 b0 b1 HOI hBi
                refine tk 0 (v := ?_) (hp _) hS rfl (fun _ _ _ _ => trivial) ?_ ?_
                rotate_left 1
                · intro w hw; (try rw [hw]); (try go_split_ands); go_simp <;> with_reducible rfl
                try simp only [Act.put, st]
                refine tk 1 (v := ?_) (hp _) hS rfl (fun _ _ _ _ => trivial) ?_ ?_
                rotate_left 1
                · intro w hw; (try rw [hw]); (try go_split_ands); go_simp <;> with_reducible rfl
                try simp only [Act.put, st]
                refine tk 2 (v := ?_) (hp _) hS rfl (fun _ _ _ _ => trivial) ?_ ?_
                rotate_left 1
                · intro w hw; (try rw [hw]); (try go_split_ands); go_simp <;> with_reducible rfl
                try simp only [Act.put, st]
                refine tk 3 (v := ?_) (hp _) hS rfl (fun _ _ _ _ => trivial) ?_ ?_
                rotate_left 1
                · intro w hw; (try rw [hw]); (try go_split_ands); go_simp <;> with_reducible rfl
                try simp only [Act.put, st]
                refine tk 4 (v := ?_) (hp _) hS rfl (fun _ _ _ _ => trivial) ?_ ?_
                rotate_left 1
                · intro w hw; (try rw [hw]); (try go_split_ands); go_simp <;> with_reducible rfl
                try simp only [Act.put, st]
                refine tk 5 (v := ?_) (hp _) hS rfl (fun _ _ _ _ => trivial) ?_ ?_
                rotate_left 1
                · intro w hw; (try rw [hw]); (try go_split_ands); go_simp <;> with_reducible rfl
                try simp only [Act.put, st]
                refine tk 6 (v := ?_) (hp _) hS rfl (fun _ _ _ _ => trivial) ?_ ?_
                rotate_left 1
                · intro w hw; (try rw [hw]); (try go_split_ands); go_simp <;> with_reducible rfl
                try simp only [Act.put, st]
                refine tk 7 (v := ?_) (hp _) hS rfl (fun _ _ _ _ => trivial) ?_ ?_
                rotate_left 1
                · intro w hw; (try rw [hw]); (try go_split_ands); go_simp <;> with_reducible rfl
                try simp only [Act.put, st]
                refine tk 8 (v := ?_) (hp _) hS rfl (fun _ _ _ _ => trivial) ?_ ?_
                rotate_left 1
                · intro w hw; (try rw [hw]); (try go_split_ands); go_simp <;> with_reducible rfl
                try simp only [Act.put, st]
                refine tk 9 (v := ?_) (hp _) hS rfl (fun _ _ _ _ => trivial) ?_ ?_
                rotate_left 1
                · intro w hw; (try rw [hw]); (try go_split_ands); go_simp <;> with_reducible rfl
                try simp only [Act.put, st]
                refine held_end (by kernel_rfl) ?_
                gi_wp2
                go_roundw
                case rel => exact HNX.out y HOY.out hBy
                case measure => simp [intOf]; omega
              gi_wp2
              refine held_begin [0, 1, 2, 3, 4, 5, 6, 7, 8, 9] (fun w9 => w9 = wr.drew) (by kernel_rfl) (rfl) (fun hS => ?_)
              have y0 : wr.drew.cell? ⟨g, (j + 1) * 2 + (m + 1) * 2, none⟩ = _ := a0
              have y1 : wr.drew.cell? ⟨g, (j + 1) * 2 + (m + 1) * 2 + 1, none⟩ = _ := a1
              have y2 : wr.drew.cell? ⟨g, (j + 1) * 2 + m * 2, none⟩ = _ := b0
              have y3 : wr.drew.cell? ⟨g, (j + 1) * 2 + m * 2 + 1, none⟩ = _ := b1
              have HOY := Lib.hid (show Own wr.drew base (.slice (some ⟨g, 0, none⟩) (j + 1 + n2) (j + 1 + c2)) ys from HOI.out)
              have hBy : Below base w wr.drew := Below.drew hBi
              obtain ⟨o0, o1, o2, o3⟩ := HOY.out.at HYL.out HOIX.out
              dsimp only at o0 o1
              generalize wr.drew = y at *
              clear a0 a1 b0 b1 HOI hBi
              refine tk 0 (v := ?_) (hp _) hS rfl (fun _ _ _ _ => trivial) ?_ ?_
              rotate_left 1
              · intro w hw; (try rw [hw]); (try go_split_ands); go_simp <;> with_reducible rfl
              try simp only [Act.put, st]
              refine tk 1 (v := ?_) (hp _) hS rfl (fun _ _ _ _ => trivial) ?_ ?_
              rotate_left 1
              · intro w hw; (try rw [hw]); (try go_split_ands); go_simp <;> with_reducible rfl
              try simp only [Act.put, st]
              refine tk 2 (v := ?_) (hp _) hS rfl (fun _ _ _ _ => trivial) ?_ ?_
              rotate_left 1
              · intro w hw; (try rw [hw]); (try go_split_ands); go_simp <;> with_reducible rfl
              try simp only [Act.put, st]
              refine tk 3 (v := ?_) (hp _) hS rfl (fun _ _ _ _ => trivial) ?_ ?_
              rotate_left 1
              · intro w hw; (try rw [hw]); (try go_split_ands); go_simp <;> with_reducible rfl
              try simp only [Act.put, st]
              refine tk 4 (v := ?_) (hp _) hS rfl (fun _ _ _ _ => trivial) ?_ ?_
              rotate_left 1
              · intro w hw; (try rw [hw]); (try go_split_ands); go_simp <;> with_reducible rfl
              try simp only [Act.put, st]
              refine tk 5 (v := ?_) (hp _) hS rfl (fun _ _ _ _ => trivial) ?_ ?_
              rotate_left 1
              · intro w hw; (try rw [hw]); (try go_split_ands); go_simp <;> with_reducible rfl
              try simp only [Act.put, st]
              refine tk 6 (v := ?_) (hp _) hS rfl (fun _ _ _ _ => trivial) ?_ ?_
              rotate_left 1
              · intro w hw; (try rw [hw]); (try go_split_ands); go_simp <;> with_reducible rfl
              try simp only [Act.put, st]
              refine tk 7 (v := ?_) (hp _) hS rfl (fun _ _ _ _ => trivial) ?_ ?_
              rotate_left 1
              · intro w hw; (try rw [hw]); (try go_split_ands); go_simp <;> with_reducible rfl
              try simp only [Act.put, st]
              refine tk 8 (v := ?_) (hp _) hS rfl (fun _ _ _ _ => trivial) ?_ ?_
              rotate_left 1
              · intro w hw; (try rw [hw]); (try go_split_ands); go_simp <;> with_reducible rfl
              try simp only [Act.put, st]
              refine tk 9 (v := ?_) (hp _) hS rfl (fun _ _ _ _ => trivial) ?_ ?_
              rotate_left 1
              · intro w hw; (try rw [hw]); (try go_split_ands); go_simp <;> with_reducible rfl
              try simp only [Act.put, st]
              refine held_end (by kernel_rfl) ?_
              gi_wp2
              go_roundw
              case rel => exact HNX.out y HOY.out hBy
              case measure => simp [intOf]; omega
          · obtain rfl : m + 1 = n2 := by omega
            have hnlt : ¬ ((m : Int) + 1 < (m : Int) + 1) := by omega
            have hdx : dedup (xs.take (j + 2 + m)) = dedup xs := by rw [List.take_of_length_le (by rw [HN.out]; omega)]
            rw [hdx] at htk hil
            have hO3 : Own wr base (.slice (some ⟨g, 0, none⟩) (dedup xs).length (j + 1 + c2)) (dedup xs) := by
              have h9 := hOi
              rw [← hyl] at h9
              have h8 := h9.take (m := i) (by omega)
              rw [htk] at h8
              exact h8
            have hgb : base ≤ g := by
              obtain ⟨A9, c9, e, _, _, h9, _⟩ := hOi.slice
              simp only [Value.slice.injEq] at e
              exact (h9 g 0 none e.1.symm).1
            have hcl : ∀ ty, (Builtin.clear_ #[39] ty #[.slice (some ⟨g, i * 2, none⟩) (j + 1 + (m + 1) - i) (j + 1 + c2 - i)]).run Tryz.prog wr = .ok (.tuple #[]) (wr.setCells g (i * 2) (List.replicate ((j + 1 + (m + 1) - i) * 2) (.int .i64 0))) := fun ty => by
              refine run_clear_pts wr ty g (i * 2) _ _ (by omega) (fun q hq => ?_) (fun q hq => ?_)
              all_goals
                obtain ⟨⟨ox, oy⟩, ho⟩ : ∃ p, ys[i + q / 2]? = some p := ⟨_, List.getElem?_eq_getElem (by rw [hyl]; omega)⟩
                obtain ⟨h1, h2, h3, h4⟩ := hOi.at hyl ho
                have h5 : q % 2 = 0 ∨ q % 2 = 1 := by omega
                rcases h5 with h5 | h5
              · rw [show i * 2 + q = (i + q / 2) * 2 by omega, h1]; rfl
              · rw [show i * 2 + q = (i + q / 2) * 2 + 1 by omega, h2]; rfl
              · rw [show i * 2 + q = (i + q / 2) * 2 by omega, h3]
              · rw [show i * 2 + q = (i + q / 2) * 2 + 1 by omega, h4]
            have hO4 := own_setCells (List.replicate ((j + 1 + (m + 1) - i) * 2) (.int .i64 0)) wr (i * 2) (by rw [← hil]; exact Nat.le_refl _) hO3
            have hB4 : Below base w (wr.setCells g (i * 2) (List.replicate ((j + 1 + (m + 1) - i) * 2) (.int .i64 0))) := hBi.trans (below_setCells _ _ _ _ hgb)
            have HO4 := Lib.hid hO4
            have HIL := Lib.hid hil
            have q1 : (i : Int) ≤ (j : Int) + 1 + ((m : Int) + 1) := by omega
            have q2 : (0 : Int) ≤ (i : Int) := by omega
            have q3 : ¬ (j + 1 + c2 = i) := by omega
            have q4 : (i : Int) ≤ (j : Int) + 1 + (c2 : Int) := by omega
            clear hO4 hil htk hdx hO3 hOi hyl hsame
            gi_wp2
            go_ret
            exact ⟨by simp [HIL.out], HO4.out, hB4⟩
      · have f1 : px ≠ qx ∨ px = qx ∧ py ≠ qy := by omega
        have hst2 : dedup (xs.take (j + 1 + 1)) = xs.take (j + 1 + 1) := by
          rw [HST.out, if_neg (by simpa using e1), HTK.out, hA]
        have HS2 := Lib.hid hst2
        clear e1 hst2 hpk hqk HST HTK hA
        rcases f1 with f1 | ⟨f1, f2⟩
        rotate_left 1
        · subst f1
          gi_wp2
          refine held_begin [0, 1, 2, 3, 4, 5, 6, 7, 8, 9] (fun w9 => w9 = wr.drew) (by kernel_rfl) (rfl) (fun hS => ?_)
          have x0 : wr.drew.cell? ⟨g, (j + 1) * 2, none⟩ = _ := c0
          have x1 : wr.drew.cell? ⟨g, (j + 1) * 2 + 1, none⟩ = _ := c1
          have x2 : wr.drew.cell? ⟨g, j * 2, none⟩ = _ := d0
          have x3 : wr.drew.cell? ⟨g, j * 2 + 1, none⟩ = _ := d1
          have HOZ := Lib.hid (show Own wr.drew base (.slice (some ⟨g, 0, none⟩) n c) xs from HOW.out)
          have hBz : Below base w wr.drew := Below.drew hB
          generalize wr.drew = z at *
          clear c0 c1 d0 d1 HOW hB
          refine tk 0 (v := ?_) (hp _) hS rfl (fun _ _ _ _ => trivial) ?_ ?_
          rotate_left 1
          · intro w hw; (try rw [hw]); (try go_split_ands); go_simp <;> with_reducible rfl
          try simp only [Act.put, st]
          refine tk 1 (v := ?_) (hp _) hS rfl (fun _ _ _ _ => trivial) ?_ ?_
          rotate_left 1
          · intro w hw; (try rw [hw]); (try go_split_ands); go_simp <;> with_reducible rfl
          try simp only [Act.put, st]
          refine tk 2 (v := ?_) (hp _) hS rfl (fun _ _ _ _ => trivial) ?_ ?_
          rotate_left 1
          · intro w hw; (try rw [hw]); (try go_split_ands); go_simp <;> with_reducible rfl
          try simp only [Act.put, st]
          refine tk 3 (v := ?_) (hp _) hS rfl (fun _ _ _ _ => trivial) ?_ ?_
          rotate_left 1
          · intro w hw; (try rw [hw]); (try go_split_ands); go_simp <;> with_reducible rfl
          try simp only [Act.put, st]
          refine tk 4 (v := ?_) (hp _) hS rfl (fun _ _ _ _ => trivial) ?_ ?_
          rotate_left 1
          · intro w hw; (try rw [hw]); (try go_split_ands); go_simp <;> with_reducible rfl
          try simp only [Act.put, st]
          refine tk 5 (v := ?_) (hp _) hS rfl (fun _ _ _ _ => trivial) ?_ ?_
          rotate_left 1
          · intro w hw; (try rw [hw]); (try go_split_ands); go_simp <;> with_reducible rfl
          try simp only [Act.put, st]
          refine tk 6 (v := ?_) (hp _) hS rfl (fun _ _ _ _ => trivial) ?_ ?_
          rotate_left 1
          · intro w hw; (try rw [hw]); (try go_split_ands); go_simp <;> with_reducible rfl
          try simp only [Act.put, st]
          refine tk 7 (v := ?_) (hp _) hS rfl (fun _ _ _ _ => trivial) ?_ ?_
          rotate_left 1
          · intro w hw; (try rw [hw]); (try go_split_ands); go_simp <;> with_reducible rfl
          try simp only [Act.put, st]
          refine tk 8 (v := ?_) (hp _) hS rfl (fun _ _ _ _ => trivial) ?_ ?_
          rotate_left 1
          · intro w hw; (try rw [hw]); (try go_split_ands); go_simp <;> with_reducible rfl
          try simp only [Act.put, st]
          refine tk 9 (v := ?_) (hp _) hS rfl (fun _ _ _ _ => trivial) ?_ ?_
          rotate_left 1
          · intro w hw; (try rw [hw]); (try go_split_ands); go_simp <;> with_reducible rfl
          try simp only [Act.put, st]
          refine held_end (by kernel_rfl) ?_
          gi_wp2
          go_roundw
          case rel => exact ⟨j + 1, by omega, by go_num, HS2.out, HOZ.out, hBz⟩
          case measure => simp [intOf]; omega
        gi_wp2
        refine held_begin [0, 1, 2, 3, 4, 5, 6, 7, 8, 9] (fun w9 => w9 = wr.drew) (by kernel_rfl) (rfl) (fun hS => ?_)
        have x0 : wr.drew.cell? ⟨g, (j + 1) * 2, none⟩ = _ := c0
        have x1 : wr.drew.cell? ⟨g, (j + 1) * 2 + 1, none⟩ = _ := c1
        have x2 : wr.drew.cell? ⟨g, j * 2, none⟩ = _ := d0
        have x3 : wr.drew.cell? ⟨g, j * 2 + 1, none⟩ = _ := d1
        have HOZ := Lib.hid (show Own wr.drew base (.slice (some ⟨g, 0, none⟩) n c) xs from HOW.out)
        have hBz : Below base w wr.drew := Below.drew hB
        generalize wr.drew = z at *
        clear c0 c1 d0 d1 HOW hB
        refine tk 0 (v := ?_) (hp _) hS rfl (fun _ _ _ _ => trivial) ?_ ?_
        rotate_left 1
        · intro w hw; (try rw [hw]); (try go_split_ands); go_simp <;> with_reducible rfl
        try simp only [Act.put, st]
        refine tk 1 (v := ?_) (hp _) hS rfl (fun _ _ _ _ => trivial) ?_ ?_
        rotate_left 1
        · intro w hw; (try rw [hw]); (try go_split_ands); go_simp <;> with_reducible rfl
        try simp only [Act.put, st]
        refine tk 2 (v := ?_) (hp _) hS rfl (fun _ _ _ _ => trivial) ?_ ?_
        rotate_left 1
        · intro w hw; (try rw [hw]); (try go_split_ands); go_simp <;> with_reducible rfl
        try simp only [Act.put, st]
        refine tk 3 (v := ?_) (hp _) hS rfl (fun _ _ _ _ => trivial) ?_ ?_
        rotate_left 1
        · intro w hw; (try rw [hw]); (try go_split_ands); go_simp <;> with_reducible rfl
        try simp only [Act.put, st]
        refine tk 4 (v := ?_) (hp _) hS rfl (fun _ _ _ _ => trivial) ?_ ?_
        rotate_left 1
        · intro w hw; (try rw [hw]); (try go_split_ands); go_simp <;> with_reducible rfl
        try simp only [Act.put, st]
        refine tk 5 (v := ?_) (hp _) hS rfl (fun _ _ _ _ => trivial) ?_ ?_
        rotate_left 1
        · intro w hw; (try rw [hw]); (try go_split_ands); go_simp <;> with_reducible rfl
        try simp only [Act.put, st]
        refine tk 6 (v := ?_) (hp _) hS rfl (fun _ _ _ _ => trivial) ?_ ?_
        rotate_left 1
        · intro w hw; (try rw [hw]); (try go_split_ands); go_simp <;> with_reducible rfl
        try simp only [Act.put, st]
        refine tk 7 (v := ?_) (hp _) hS rfl (fun _ _ _ _ => trivial) ?_ ?_
        rotate_left 1
        · intro w hw; (try rw [hw]); (try go_split_ands); go_simp <;> with_reducible rfl
        try simp only [Act.put, st]
        refine tk 8 (v := ?_) (hp _) hS rfl (fun _ _ _ _ => trivial) ?_ ?_
        rotate_left 1
        · intro w hw; (try rw [hw]); (try go_split_ands); go_simp <;> with_reducible rfl
        try simp only [Act.put, st]
        refine tk 9 (v := ?_) (hp _) hS rfl (fun _ _ _ _ => trivial) ?_ ?_
        rotate_left 1
        · intro w hw; (try rw [hw]); (try go_split_ands); go_simp <;> with_reducible rfl
        try simp only [Act.put, st]
        refine held_end (by kernel_rfl) ?_
        gi_wp2
        go_roundw
        case rel => exact ⟨j + 1, by omega, by go_num, HS2.out, HOZ.out, hBz⟩
        case measure => simp [intOf]; omega
    · obtain rfl : j + 1 = n := by omega
      have hnlt : ¬ ((j : Int) + 1 < (j : Int) + 1) := by omega
      rw [List.take_of_length_le (by rw [HN.out]; omega)] at hA
      have HD := Lib.hid hA
      have HOW := Lib.hid hOw
      clear hA hOw
      gi_wp2
      go_ret
      exact ⟨by simp [show dedup xs = xs from HD.out, HN.out], by rw [HD.out, HN.out]; exact HOW.out, hB⟩
theorem compact_any (base g n c : Nat) (xs : List Pt) (w : World) (hn : xs.length = n) (hO : Own w base (.slice (some ⟨g, 0, none⟩) n c) xs) (hbig : n ≤ 1000000000) :
    Calls Tryz.prog 128 #[.slice (some ⟨g, 0, none⟩) n c] w (RetCompact base g c w (dedup xs)) := by
  by_cases h2 : n < 2
  · exact compact_small base g n c xs w hn h2 hO
  · exact compact_big base g n c xs w hn h2 hO hbig
end Go.Proofs.YtnhdnkeiijiiaaaGreat
namespace Go.Proofs.YtnhdnkeiijiiaaaGreat
open Go.RowKit Go.Shelf
set_option linter.unusedSimpArgs false
set_option linter.unusedVariables false
attribute [local go_sem] Oper.semAt_some

theorem Own.later {w w' : World} {base : Nat} {v : Value} {xs : List Pt} (h : Own w base v xs) (hb : Below w.heap.size w w') : Own w' base v xs := by
  refine ⟨h.1, ?_⟩
  rcases h.2 with ⟨h0, h1⟩ | ⟨g, cap, cur, e, h1, hh, h2, h3, h4, h5⟩
  · exact .inl ⟨h0, h1⟩
  · exact .inr ⟨g, cap, cur, e, h1, (hb.block g (Array.getElem?_eq_some_iff.1 hh).1).trans hh, h2, h3, h4, h5⟩
theorem ownB_eq (A : Option Addr) (m n c : Nat) : (Value.slice A m c).ownBlock = (Value.slice A n c).ownBlock := by cases A <;> rfl
theorem own_some_take {w w' : World} {base : Nat} {A : Option Addr} {c m : Nat} {cs : List Pt} (h : Own w base (.slice A cs.length c) cs) (hA : A = none → cs = [] ∧ c = 0) (hm : m ≤ cs.length) (hb : Below w.heap.size w w') : Own w' base (.slice A m c) (cs.take m) := by
  cases A with
  | none =>
    obtain ⟨rfl, rfl⟩ := hA rfl
    have : m = 0 := by simpa using hm
    subst this
    exact own_nil _ _
  | some ad =>
    obtain ⟨A9, c9, e, _, _, hk, _⟩ := h.slice
    simp only [Value.slice.injEq] at e
    obtain ⟨g, off, sp⟩ := ad
    obtain ⟨_, _, rfl, rfl⟩ := hk g off sp e.1.symm
    have h9 := (h.later hb).take hm
    rwa [List.length_take, Nat.min_eq_left hm] at h9
/-- append of one point onto a row of the call's own, inside a fence -/
theorem wpListIn_append_pt {F : Fence} {nF : Nat} {ops : Array Oper} {rest : List Oper} {o : Oper} {a : Act} {Q : Exit → Act → World → Prop} (w : World) (hgd : o.guard = none) (s x : Operand) (t : TypeId) (ht : Tryz.prog.underlying t = some (.slice 23))
    (ho : o.op = .call { callee := .builtin .append, args := #[s, x], argTypes := #[t, t] }) (base : Nat) (v : Value) (xs : List Pt) (hs : a.eval s = v) (hown : Own w base v xs)
    (b : Nat) (p : Pt) (hx : a.eval x = .slice (some ⟨b, 0, none⟩) 1 1) (h0 : w.cell? ⟨b, 0, none⟩ = some (.int .i64 p.x)) (h1 : w.cell? ⟨b, 1, none⟩ = some (.int .i64 p.y)) (hb : xs.length ≤ 1000000000) (hbase : base ≤ w.heap.size)
    (h : ∀ v' w', Own w' base v' (xs ++ [p]) → w.grownBy w' v.ownBlock → (v'.ownBlock = v.ownBlock ∨ v'.ownBlock = some w.heap.size) → wpListIn F nF Tryz.prog ops Q rest (a.put o.dst v') w') :
    wpListIn F nF Tryz.prog ops Q (o :: rest) a w := by
  obtain ⟨i0, hi, hz0, hz1, hz2⟩ := info_parts ptInfo
  refine wpListIn_append_own_at w hgd s x t ho base 23 i0 _ 2 16 ht hi hz0 hz1 hz2 rfl (by omega) v xs.length (flat xs) hs hown ⟨b, 0, none⟩ 1 1 (flat [p]) hx (by rw [flat_len]; rfl) (fun j u hj => ?_) flat_one (by unfold maxLen; omega) (by omega) hbase ?_
  · rw [addP, Nat.zero_add]
    simp only [flat, Pt.cs, List.append_nil] at hj
    match j, hj with
    | 0, hj => cases hj; exact h0
    | 1, hj => cases hj; exact h1
    | j + 2, hj => simp at hj
  · intro v' w' h1 h2 _ h4
    exact h v' w' (by unfold Own; rw [flat_app, List.length_append]; exact h1) h2 h4
/-- drops corners at which a chain does not turn left ahead of x; the chain read from its end -/
def popR (x : Pt) : List Pt → List Pt
  | b :: a :: r => if turnS a b x ≤ 0 then popR x (a :: r) else b :: a :: r
  | r => r
def pushS (cs : List Pt) (x : Pt) : List Pt := (popR x cs.reverse).reverse ++ [x]
theorem popR_take {cs : List Pt} {k : Nat} {a b : Pt} (x : Pt) (ha : cs[k]? = some a) (hb : cs[k + 1]? = some b) : popR x (cs.take (k + 2)).reverse = if turnS a b x ≤ 0 then popR x (cs.take (k + 1)).reverse else (cs.take (k + 2)).reverse := by
  have e1 : cs.take (k + 2) = cs.take (k + 1) ++ [b] := by rw [List.take_add_one, hb]; rfl
  have e2 : cs.take (k + 1) = cs.take k ++ [a] := by rw [List.take_add_one, ha]; rfl
  rw [e1, e2]
  simp only [List.reverse_append, List.reverse_cons, List.reverse_nil, List.nil_append, List.cons_append, List.append_assoc, List.singleton_append]
  rw [popR]
theorem popR_small {cs : List Pt} (x : Pt) (h : cs.length ≤ 1) : popR x cs.reverse = cs.reverse := by
  match cs, h with
  | [], _ => rfl
  | [a], _ => rfl
/-- what push leaves: the variable at B holds a row of the new chain; whatever is neither B nor the old row lies as it lay -/
structure Pushed (base B : Nat) (v : Value) (ys : List Pt) (w w' : World) : Prop where
  cell : ∃ v', w'.heap[B]? = some (.cells #[v'] 153 (0, 0)) ∧ Own w' base v' ys ∧ (∀ k, v'.ownBlock = some k → v.ownBlock = some k ∨ w.heap.size ≤ k)
  os : w'.os = w.os
  tape : w'.tape = w.tape
  output : w'.output = w.output
  size : w.heap.size ≤ w'.heap.size
  block : ∀ k, k < w.heap.size → k ≠ B → v.ownBlock ≠ some k → w'.heap[k]? = w.heap[k]?
theorem pushed_of {base B : Nat} {v v7 : Value} {ys : List Pt} {w w5 w7 : World} {o : Obj} {r : Option Nat} (hBw : Below w.heap.size w w5) (hBlt : B < w.heap.size) (h7 : w7.heap[B]? = some (.cells #[v] 153 (0, 0))) (hown : Own w7 base v7 ys) (hgr : (w5.alloc o).grownBy w7 r) (hr : r = v.ownBlock)
    (hat : v7.ownBlock = r ∨ v7.ownBlock = some (w5.alloc o).heap.size) (hne : v.ownBlock ≠ some B) : Pushed base B v ys w (w7.setCell ⟨B, 0, none⟩ v7) := by
  have hw5 : w.heap.size ≤ (w5.alloc o).heap.size := Nat.le_trans hBw.size (by simp)
  refine ⟨⟨v7, one_setCell h7, ownsRow_setCell_other hown ?_ _, fun k hk => ?_⟩, ?_, ?_, ?_, ?_, fun k hk h1 h2 => ?_⟩
  · rcases hat with h | h
    · rw [h, hr]; exact hne
    · rw [h]
      intro e
      simp only [Option.some.injEq] at e
      simp at e hw5
      have := hBw.size
      omega
  · rcases hat with h | h
    · left; rw [← hr, ← h]; exact hk
    · right
      rw [h] at hk
      simp only [Option.some.injEq] at hk
      omega
  · exact hgr.os.trans hBw.os
  · exact hgr.tape.trans hBw.tape
  · exact hgr.output.trans hBw.output
  · rw [World.size_setCell]; exact Nat.le_trans hw5 hgr.size
  · refine (Below.heap_setCell w7 ⟨B, 0, none⟩ v7 k h1).trans ?_
    refine (hgr.block k (by omega) (by rw [hr]; exact fun e => h2 e.symm)).trans ?_
    refine (Below.heap_alloc w5 o k (Nat.lt_of_lt_of_le hk hBw.size)).trans ?_
    exact hBw.block k hk
set_option maxRecDepth 100000 in
set_option maxHeartbeats 4000000 in
theorem push_any (base B : Nat) (v : Value) (cs : List Pt) (x : Pt) (w : World) (hB : w.heap[B]? = some (.cells #[v] 153 (0, 0))) (hO : Own w base v cs) (hnr : ∀ p ∈ cs, Nr p) (hx : Nr x) (hlen : cs.length ≤ 1000000) (hne : v.ownBlock ≠ some B) (hbase : base ≤ w.heap.size) :
    Calls Tryz.prog 129 #[.pointer (some ⟨B, 0, none⟩), x.val] w fun e w' => e = .returned (.tuple #[]) ∧ Pushed base B v (pushS cs x) w w' := by
  have hBlt : B < w.heap.size := (Array.getElem?_eq_some_iff.1 hB).1
  have hBc : w.cell? ⟨B, 0, none⟩ = some v := by simp [World.cell?, hB]
  have HO := Lib.hid hO
  have HNR := Lib.hid hnr
  have HB := Lib.hid hB
  obtain ⟨A, c, rfl, hc, hA, hbk, hP⟩ := hO.slice
  have HBK := Lib.hid hbk
  have HA := Lib.hid hA
  clear hO hnr hB hbk hP hA
  refine (callsIn_wide (n := 6)).1 ?_
  refine callsIn_of_wp Tryz.func129 rfl trivial ?_ rfl
  simp only [Tryz.ntmps129, List.size_toArray, List.length_cons, List.length_nil, Nat.reduceAdd, Nat.reduceSub, Array.replicate_succ, Array.replicate_zero, List.push_toArray, List.append_toArray, List.nil_append, List.cons_append]
  gi_wp2
  have hp : ∀ ops, PlainOps Fence.wide ops := fun ops => plainOps_none rfl
  gi_loopw [4] (fun s4 wr => ∃ m : Nat, m ≤ cs.length ∧ s4 = .slice A m c ∧ Aside (popR x (cs.take m).reverse = popR x cs.reverse) ∧ Below w.heap.size w wr ∧ wr.cell? ⟨w.heap.size, 0, none⟩ = some (.int .i64 x.x) ∧ wr.cell? ⟨w.heap.size, 1, none⟩ = some (.int .i64 x.y))
    (fun s4 _ => match s4 with | .slice _ m _ => m | _ => 0)
  case atStart => exact ⟨cs.length, Nat.le_refl _, rfl, by rw [List.take_length]; rfl, by go_grown, by go_cell, by go_cell⟩
  case round =>
    obtain ⟨m, hm, rfl, hA2, hBr, x0, x1⟩ := hrel
    by_cases hm1 : 1 < m
    · obtain ⟨k, rfl⟩ : ∃ k, m = k + 2 := ⟨m - 2, by omega⟩
      obtain ⟨a, ha⟩ : ∃ p, cs[k]? = some p := ⟨_, List.getElem?_eq_getElem (by omega)⟩
      obtain ⟨b, hb⟩ : ∃ p, cs[k + 1]? = some p := ⟨_, List.getElem?_eq_getElem (by omega)⟩
      cases A with
      | none => exact absurd (HA.out rfl).1 (by intro e; rw [e] at hm; simp at hm)
      | some ad =>
      obtain ⟨g, off, sp⟩ := ad
      obtain ⟨hg1, hg2, rfl, rfl⟩ := HBK.out g off sp rfl
      have hOr := HO.out.later hBr
      obtain ⟨a0, a1, _, _⟩ := hOr.at rfl ha
      obtain ⟨b0, b1, _, _⟩ := hOr.at rfl hb
      have hpt := popR_take x ha hb
      have vt := fun W => hturn_any a b x W (HNR.out a (List.mem_of_getElem? ha)) (HNR.out b (List.mem_of_getElem? hb)) hx
      generalize turnS a b x = T at *
      have HT := Lib.hid vt
      have HPT := Lib.hid hpt
      have k1 : decide ((1 : Int) < (k : Int) + 2) = true := by simp; omega
      have k1n : decide (1 < k + 2) = true := by simp
      have k2 : IntKind.i64.wrap (k : Int) = (k : Int) := IntWalk.i64_in _ (by omega)
      have k3 : IntKind.i64.wrap ((k : Int) + 1) = (k : Int) + 1 := IntWalk.i64_in _ (by omega)
      have k4 : (0 : Int) ≤ (k : Int) := by omega
      have k5 : (k : Int) < (k : Int) + 2 := by omega
      have k6 : (k : Int) + 1 < (k : Int) + 2 := by omega
      have k7 : (0 : Int) ≤ (k : Int) + 1 := by omega
      have k8 : ((k : Int) + 1).toNat = k + 1 := by omega
      have k9 : (k : Int) + 2 - 1 = (k : Int) + 1 := by omega
      clear vt hpt ha hb hOr
      by_cases hT : T ≤ 0
      · have hT2 : decide (T ≤ 0) = true := by simp [hT]
        have hq : popR x (cs.take (k + 1)).reverse = popR x cs.reverse := by rw [← hA2, HPT.out, if_pos hT]
        have HQ := Lib.hid hq
        clear hq HPT hA2
        gi_wp2
        refine held_begin [0, 1, 2, 3, 4, 5, 6, 7, 8, 9, 10, 11, 12, 13, 14, 15, 16, 18, 19] (fun w9 => Below wr.drew.heap.size wr.drew w9 ∧ w9.cell? ⟨g, k * 2, none⟩ = some (.int .i64 a.x) ∧ w9.cell? ⟨g, k * 2 + 1, none⟩ = some (.int .i64 a.y) ∧ w9.cell? ⟨g, (k + 1) * 2, none⟩ = some (.int .i64 b.x) ∧ w9.cell? ⟨g, (k + 1) * 2 + 1, none⟩ = some (.int .i64 b.y) ∧ w9.cell? ⟨w.heap.size, 0, none⟩ = some (.int .i64 x.x) ∧ w9.cell? ⟨w.heap.size, 1, none⟩ = some (.int .i64 x.y)) (by kernel_rfl) (⟨Below.refl _ _, a0, a1, b0, b1, x0, x1⟩) (fun hS => ?_)
        have hBz : Below w.heap.size w wr.drew := Below.drew hBr
        replace a0 : wr.drew.cell? ⟨g, k * 2, none⟩ = some (.int .i64 a.x) := a0
        replace a1 : wr.drew.cell? ⟨g, k * 2 + 1, none⟩ = some (.int .i64 a.y) := a1
        replace b0 : wr.drew.cell? ⟨g, (k + 1) * 2, none⟩ = some (.int .i64 b.x) := b0
        replace b1 : wr.drew.cell? ⟨g, (k + 1) * 2 + 1, none⟩ = some (.int .i64 b.y) := b1
        replace x0 : wr.drew.cell? ⟨w.heap.size, 0, none⟩ = some (.int .i64 x.x) := x0
        replace x1 : wr.drew.cell? ⟨w.heap.size, 1, none⟩ = some (.int .i64 x.y) := x1
        generalize wr.drew = z at *
        have HSZ := Lib.hid (show ∀ w9, Below z.heap.size z w9 → Below z.heap.size z w9 ∧ w9.cell? ⟨g, k * 2, none⟩ = some (.int .i64 a.x) ∧ w9.cell? ⟨g, k * 2 + 1, none⟩ = some (.int .i64 a.y) ∧ w9.cell? ⟨g, (k + 1) * 2, none⟩ = some (.int .i64 b.x) ∧ w9.cell? ⟨g, (k + 1) * 2 + 1, none⟩ = some (.int .i64 b.y) ∧ w9.cell? ⟨w.heap.size, 0, none⟩ = some (.int .i64 x.x) ∧ w9.cell? ⟨w.heap.size, 1, none⟩ = some (.int .i64 x.y) from fun w9 h9 => ⟨h9, kp h9 a0, kp h9 a1, kp h9 b0, kp h9 b1, kp h9 x0, kp h9 x1⟩)
        clear hBr
        refine tk 0 (v := ?_) (hp _) hS rfl (fun _ _ _ _ => trivial) ?_ ?_
        rotate_left 1
        · intro w hw; (try rw [hw]); (try go_split_ands); go_simp <;> with_reducible rfl
        try simp only [Act.put, st]
        refine tk 1 (v := ?_) (hp _) hS rfl (fun _ _ _ _ => trivial) ?_ ?_
        rotate_left 1
        · intro w hw; (try rw [hw]); (try go_split_ands); go_simp <;> with_reducible rfl
        try simp only [Act.put, st]
        refine tk 2 (v := ?_) (hp _) hS rfl (fun _ _ _ _ => trivial) ?_ ?_
        rotate_left 1
        · intro w hw; (try rw [hw]); (try go_split_ands); go_simp <;> with_reducible rfl
        try simp only [Act.put, st]
        refine tk 3 (v := ?_) (hp _) hS rfl (fun _ _ _ _ => trivial) ?_ ?_
        rotate_left 1
        · intro w hw; (try rw [hw]); (try go_split_ands); go_simp <;> with_reducible rfl
        try simp only [Act.put, st]
        refine tk 4 (v := ?_) (hp _) hS rfl (fun _ _ _ _ => trivial) ?_ ?_
        rotate_left 1
        · intro w hw; (try rw [hw]); (try go_split_ands); go_simp <;> with_reducible rfl
        try simp only [Act.put, st]
        refine tk 5 (v := ?_) (hp _) hS rfl (fun _ _ _ _ => trivial) ?_ ?_
        rotate_left 1
        · intro w hw; (try rw [hw]); (try go_split_ands); go_simp <;> with_reducible rfl
        try simp only [Act.put, st]
        refine tk 6 (v := ?_) (hp _) hS rfl (fun _ _ _ _ => trivial) ?_ ?_
        rotate_left 1
        · intro w hw; (try rw [hw]); (try go_split_ands); go_simp <;> with_reducible rfl
        try simp only [Act.put, st]
        refine tk 7 (v := ?_) (hp _) hS rfl (fun _ _ _ _ => trivial) ?_ ?_
        rotate_left 1
        · intro w hw; (try rw [hw]); (try go_split_ands); go_simp <;> with_reducible rfl
        try simp only [Act.put, st]
        refine tk 8 (v := ?_) (hp _) hS rfl (fun _ _ _ _ => trivial) ?_ ?_
        rotate_left 1
        · intro w hw; (try rw [hw]); (try go_split_ands); go_simp <;> with_reducible rfl
        try simp only [Act.put, st]
        refine tk 9 (v := ?_) (hp _) hS rfl (fun _ _ _ _ => trivial) ?_ ?_
        rotate_left 1
        · intro w hw; (try rw [hw]); (try go_split_ands); go_simp <;> with_reducible rfl
        try simp only [Act.put, st]
        refine tk 10 (v := ?_) (hp _) hS rfl (fun _ _ _ _ => trivial) ?_ ?_
        rotate_left 1
        · intro w hw; (try rw [hw]); (try go_split_ands); go_simp <;> with_reducible rfl
        try simp only [Act.put, st]
        refine tk 11 (v := ?_) (hp _) hS rfl (fun _ _ _ _ => trivial) ?_ ?_
        rotate_left 1
        · intro w hw; (try rw [hw]); (try go_split_ands); go_simp <;> with_reducible rfl
        try simp only [Act.put, st]
        refine tk 12 (v := ?_) (hp _) hS rfl (fun _ _ _ _ => trivial) ?_ ?_
        rotate_left 1
        · intro w hw; (try rw [hw]); (try go_split_ands); go_simp <;> with_reducible rfl
        try simp only [Act.put, st]
        refine tk 13 (v := ?_) (hp _) hS rfl (fun _ _ _ _ => trivial) ?_ ?_
        rotate_left 1
        · intro w hw; (try rw [hw]); (try go_split_ands); go_simp <;> with_reducible rfl
        try simp only [Act.put, st]
        refine tk 14 (v := ?_) (hp _) hS rfl (fun _ _ _ _ => trivial) ?_ ?_
        rotate_left 1
        · intro w hw; (try rw [hw]); (try go_split_ands); go_simp <;> with_reducible rfl
        try simp only [Act.put, st]
        refine tk 15 (v := ?_) (hp _) hS rfl (fun _ _ _ _ => trivial) ?_ ?_
        rotate_left 1
        · intro w hw; (try rw [hw]); (try go_split_ands); go_simp <;> with_reducible rfl
        try simp only [Act.put, st]
        refine tk 16 (v := ?_) (hp _) hS rfl (fun _ _ _ _ => trivial) ?_ ?_
        rotate_left 1
        · intro w hw; (try rw [hw]); (try go_split_ands); go_simp <;> with_reducible rfl
        try simp only [Act.put, st]
        refine held_step 17 rfl (hp _) (by kernel_rfl) (by kernel_rfl) (fun K hK => ⟨?_, ?_⟩)
        · exact fun _ _ => trivial
        go_simp
        refine (callsIn_wide.2 (HT.out _)).mono ?_
        rintro e w5 ⟨rfl, hb_5⟩
        have hB_5 : Below z.heap.size z w5 := Below.after' hS.1 hb_5
        have hS := HSZ.out _ hB_5
        refine hK _ _ hS ?_
        clear hK K
        try simp only [Act.put, st]
        refine tk 18 (v := ?_) (hp _) hS rfl (fun _ _ _ _ => trivial) ?_ ?_
        rotate_left 1
        · intro w hw; (try rw [hw]); (try go_split_ands); go_simp <;> with_reducible rfl
        try simp only [Act.put, st]
        refine tk 19 (v := ?_) (hp _) hS rfl (fun _ _ _ _ => trivial) ?_ ?_
        rotate_left 1
        · intro w hw; (try rw [hw]); (try go_split_ands); go_simp <;> with_reducible rfl
        try simp only [Act.put, st]
        refine held_end (by kernel_rfl) ?_
        have hBw := hBz.trans (hB_5.mono hBz.size)
        replace x0 := kp hB_5 x0
        replace x1 := kp hB_5 x1
        clear HSZ hb_5 hB_5 hS a0 a1 b0 b1
        gi_wp2
        exact ⟨⟨k + 1, by omega, rfl, HQ.out, hBw, x0, x1⟩, by show k + 1 < k + 2; omega⟩
      · have hT2 : decide (T ≤ 0) = false := by simp; omega
        have hq : popR x cs.reverse = (cs.take (k + 2)).reverse := by rw [← hA2, HPT.out, if_neg hT]
        have HQ := Lib.hid hq
        clear hq HPT hA2
        gi_wp2
        refine held_begin [0, 1, 2, 3, 4, 5, 6, 7, 8, 9, 10, 11, 12, 13, 14, 15, 16, 18, 19] (fun w9 => Below wr.drew.heap.size wr.drew w9 ∧ w9.cell? ⟨g, k * 2, none⟩ = some (.int .i64 a.x) ∧ w9.cell? ⟨g, k * 2 + 1, none⟩ = some (.int .i64 a.y) ∧ w9.cell? ⟨g, (k + 1) * 2, none⟩ = some (.int .i64 b.x) ∧ w9.cell? ⟨g, (k + 1) * 2 + 1, none⟩ = some (.int .i64 b.y) ∧ w9.cell? ⟨w.heap.size, 0, none⟩ = some (.int .i64 x.x) ∧ w9.cell? ⟨w.heap.size, 1, none⟩ = some (.int .i64 x.y)) (by kernel_rfl) (⟨Below.refl _ _, a0, a1, b0, b1, x0, x1⟩) (fun hS => ?_)
        have hBz : Below w.heap.size w wr.drew := Below.drew hBr
        replace a0 : wr.drew.cell? ⟨g, k * 2, none⟩ = some (.int .i64 a.x) := a0
        replace a1 : wr.drew.cell? ⟨g, k * 2 + 1, none⟩ = some (.int .i64 a.y) := a1
        replace b0 : wr.drew.cell? ⟨g, (k + 1) * 2, none⟩ = some (.int .i64 b.x) := b0
        replace b1 : wr.drew.cell? ⟨g, (k + 1) * 2 + 1, none⟩ = some (.int .i64 b.y) := b1
        replace x0 : wr.drew.cell? ⟨w.heap.size, 0, none⟩ = some (.int .i64 x.x) := x0
        replace x1 : wr.drew.cell? ⟨w.heap.size, 1, none⟩ = some (.int .i64 x.y) := x1
        generalize wr.drew = z at *
        have HSZ := Lib.hid (show ∀ w9, Below z.heap.size z w9 → Below z.heap.size z w9 ∧ w9.cell? ⟨g, k * 2, none⟩ = some (.int .i64 a.x) ∧ w9.cell? ⟨g, k * 2 + 1, none⟩ = some (.int .i64 a.y) ∧ w9.cell? ⟨g, (k + 1) * 2, none⟩ = some (.int .i64 b.x) ∧ w9.cell? ⟨g, (k + 1) * 2 + 1, none⟩ = some (.int .i64 b.y) ∧ w9.cell? ⟨w.heap.size, 0, none⟩ = some (.int .i64 x.x) ∧ w9.cell? ⟨w.heap.size, 1, none⟩ = some (.int .i64 x.y) from fun w9 h9 => ⟨h9, kp h9 a0, kp h9 a1, kp h9 b0, kp h9 b1, kp h9 x0, kp h9 x1⟩)
        clear hBr
        refine tk 0 (v := ?_) (hp _) hS rfl (fun _ _ _ _ => trivial) ?_ ?_
        rotate_left 1
        · intro w hw; (try rw [hw]); (try go_split_ands); go_simp <;> with_reducible rfl
        try simp only [Act.put, st]
        refine tk 1 (v := ?_) (hp _) hS rfl (fun _ _ _ _ => trivial) ?_ ?_
        rotate_left 1
        · intro w hw; (try rw [hw]); (try go_split_ands); go_simp <;> with_reducible rfl
        try simp only [Act.put, st]
        refine tk 2 (v := ?_) (hp _) hS rfl (fun _ _ _ _ => trivial) ?_ ?_
        rotate_left 1
        · intro w hw; (try rw [hw]); (try go_split_ands); go_simp <;> with_reducible rfl
        try simp only [Act.put, st]
        refine tk 3 (v := ?_) (hp _) hS rfl (fun _ _ _ _ => trivial) ?_ ?_
        rotate_left 1
        · intro w hw; (try rw [hw]); (try go_split_ands); go_simp <;> with_reducible rfl
        try simp only [Act.put, st]
        refine tk 4 (v := ?_) (hp _) hS rfl (fun _ _ _ _ => trivial) ?_ ?_
        rotate_left 1
        · intro w hw; (try rw [hw]); (try go_split_ands); go_simp <;> with_reducible rfl
        try simp only [Act.put, st]
        refine tk 5 (v := ?_) (hp _) hS rfl (fun _ _ _ _ => trivial) ?_ ?_
        rotate_left 1
        · intro w hw; (try rw [hw]); (try go_split_ands); go_simp <;> with_reducible rfl
        try simp only [Act.put, st]
        refine tk 6 (v := ?_) (hp _) hS rfl (fun _ _ _ _ => trivial) ?_ ?_
        rotate_left 1
        · intro w hw; (try rw [hw]); (try go_split_ands); go_simp <;> with_reducible rfl
        try simp only [Act.put, st]
        refine tk 7 (v := ?_) (hp _) hS rfl (fun _ _ _ _ => trivial) ?_ ?_
        rotate_left 1
        · intro w hw; (try rw [hw]); (try go_split_ands); go_simp <;> with_reducible rfl
        try simp only [Act.put, st]
        refine tk 8 (v := ?_) (hp _) hS rfl (fun _ _ _ _ => trivial) ?_ ?_
        rotate_left 1
        · intro w hw; (try rw [hw]); (try go_split_ands); go_simp <;> with_reducible rfl
        try simp only [Act.put, st]
        refine tk 9 (v := ?_) (hp _) hS rfl (fun _ _ _ _ => trivial) ?_ ?_
        rotate_left 1
        · intro w hw; (try rw [hw]); (try go_split_ands); go_simp <;> with_reducible rfl
        try simp only [Act.put, st]
        refine tk 10 (v := ?_) (hp _) hS rfl (fun _ _ _ _ => trivial) ?_ ?_
        rotate_left 1
        · intro w hw; (try rw [hw]); (try go_split_ands); go_simp <;> with_reducible rfl
        try simp only [Act.put, st]
        refine tk 11 (v := ?_) (hp _) hS rfl (fun _ _ _ _ => trivial) ?_ ?_
        rotate_left 1
        · intro w hw; (try rw [hw]); (try go_split_ands); go_simp <;> with_reducible rfl
        try simp only [Act.put, st]
        refine tk 12 (v := ?_) (hp _) hS rfl (fun _ _ _ _ => trivial) ?_ ?_
        rotate_left 1
        · intro w hw; (try rw [hw]); (try go_split_ands); go_simp <;> with_reducible rfl
        try simp only [Act.put, st]
        refine tk 13 (v := ?_) (hp _) hS rfl (fun _ _ _ _ => trivial) ?_ ?_
        rotate_left 1
        · intro w hw; (try rw [hw]); (try go_split_ands); go_simp <;> with_reducible rfl
        try simp only [Act.put, st]
        refine tk 14 (v := ?_) (hp _) hS rfl (fun _ _ _ _ => trivial) ?_ ?_
        rotate_left 1
        · intro w hw; (try rw [hw]); (try go_split_ands); go_simp <;> with_reducible rfl
        try simp only [Act.put, st]
        refine tk 15 (v := ?_) (hp _) hS rfl (fun _ _ _ _ => trivial) ?_ ?_
        rotate_left 1
        · intro w hw; (try rw [hw]); (try go_split_ands); go_simp <;> with_reducible rfl
        try simp only [Act.put, st]
        refine tk 16 (v := ?_) (hp _) hS rfl (fun _ _ _ _ => trivial) ?_ ?_
        rotate_left 1
        · intro w hw; (try rw [hw]); (try go_split_ands); go_simp <;> with_reducible rfl
        try simp only [Act.put, st]
        refine held_step 17 rfl (hp _) (by kernel_rfl) (by kernel_rfl) (fun K hK => ⟨?_, ?_⟩)
        · exact fun _ _ => trivial
        go_simp
        refine (callsIn_wide.2 (HT.out _)).mono ?_
        rintro e w5 ⟨rfl, hb_5⟩
        have hB_5 : Below z.heap.size z w5 := Below.after' hS.1 hb_5
        have hS := HSZ.out _ hB_5
        refine hK _ _ hS ?_
        clear hK K
        try simp only [Act.put, st]
        refine tk 18 (v := ?_) (hp _) hS rfl (fun _ _ _ _ => trivial) ?_ ?_
        rotate_left 1
        · intro w hw; (try rw [hw]); (try go_split_ands); go_simp <;> with_reducible rfl
        try simp only [Act.put, st]
        refine tk 19 (v := ?_) (hp _) hS rfl (fun _ _ _ _ => trivial) ?_ ?_
        rotate_left 1
        · intro w hw; (try rw [hw]); (try go_split_ands); go_simp <;> with_reducible rfl
        try simp only [Act.put, st]
        refine held_end (by kernel_rfl) ?_
        have hBw := hBz.trans (hB_5.mono hBz.size)
        replace x0 := kp hB_5 x0
        replace x1 := kp hB_5 x1
        clear HSZ hb_5 hB_5 hS a0 a1 b0 b1
        have hOt : Own w5 base (.slice (some ⟨g, 0, none⟩) (k + 2) c) (cs.take (k + 2)) := by have h9 := (HO.out.later hBw).take hm; rwa [List.length_take, Nat.min_eq_left hm] at h9
        have HOT := Lib.hid hOt
        have hsz9 : base ≤ (w5.alloc (.cells #[.int .i64 x.x, .int .i64 x.y] 23)).heap.size := Nat.le_trans hbase (Nat.le_trans hBw.size (by simp))
        have HOA := Lib.hid (HOT.out.later ((Below.refl _ w5).alloc (Nat.le_refl _) (.cells #[.int .i64 x.x, .int .i64 x.y] 23)))
        clear hOt
        gi_wp2_with (gi_at_builtin; go_must (refine wpListIn_append_pt _ (by rfl) (.tmp 34) (.tmp 36) 153 Tryz.underlying153 (by rfl) base _ (cs.take (k + 2)) (by rfl) HOA.out w5.heap.size x (by rfl) (by go_cell) (by go_cell) (by rw [List.length_take]; omega) hsz9 ?_))
        intro v7 w7 hown hgr hat
        have h7 : w7.heap[B]? = some (.cells #[.slice (some ⟨g, 0, none⟩) cs.length c] 153 (0, 0)) := by
          refine (hgr.block B (by simp; exact Nat.lt_of_lt_of_le hBlt hBw.size |> Nat.lt_succ_of_lt) (by simp only [Value.ownBlock]; exact fun e => hne (by simpa [Value.ownBlock] using e.symm))).trans ?_
          refine (Below.heap_alloc w5 _ B (Nat.lt_of_lt_of_le hBlt hBw.size)).trans ?_
          exact (hBw.block B hBlt).trans HB.out
        have c7 : w7.cell? ⟨B, 0, none⟩ = some (.slice (some ⟨g, 0, none⟩) cs.length c) := by simp [World.cell?, h7]
        have f7 : w7.frozen? ⟨B, 0, none⟩ = false := by simp [World.frozen?, h7]
        have hpd := pushed_of hBw hBlt h7 hown hgr rfl (hat.imp id (fun h => by rw [World.size_alloc]; exact h)) hne
        have HPD := Lib.hid hpd
        obtain ⟨A7, q7, e7, _⟩ := hown.slice
        subst e7
        clear hown hgr hat h7 hpd
        gi_wp2
        go_end0
        refine ⟨rfl, ?_⟩
        have h9 := HPD.out
        have e8 : (cs.take (k + 2) ++ [x]).length = (k + 2) + 1 := by rw [List.length_append, List.length_take, Nat.min_eq_left hm]; rfl
        rw [e8] at h9
        rw [show pushS cs x = cs.take (k + 2) ++ [x] by unfold pushS; rw [HQ.out, List.reverse_reverse]]
        exact h9
    · have k1 : decide ((1 : Int) < (m : Int)) = false := by simp; omega
      have k1n : decide (1 < m) = false := by simp; omega
      have hq : popR x cs.reverse = (cs.take m).reverse := by rw [← hA2]; exact popR_small x (by rw [List.length_take]; omega)
      have HQ := Lib.hid hq
      clear hq hA2
      gi_wp2
      refine held_begin [0, 1, 2, 3, 4, 5, 6, 7, 8, 9, 10, 11, 12, 13, 14, 15, 16, 17, 18, 19] (fun w9 => w9 = wr.drew) (by kernel_rfl) (rfl) (fun hS => ?_)
      have hBw : Below w.heap.size w wr.drew := Below.drew hBr
      replace x0 : wr.drew.cell? ⟨w.heap.size, 0, none⟩ = some (.int .i64 x.x) := x0
      replace x1 : wr.drew.cell? ⟨w.heap.size, 1, none⟩ = some (.int .i64 x.y) := x1
      generalize wr.drew = w5 at *
      clear hBr
      refine tk 0 (v := ?_) (hp _) hS rfl (fun _ _ _ _ => trivial) ?_ ?_
      rotate_left 1
      · intro w hw; (try rw [hw]); (try go_split_ands); go_simp <;> with_reducible rfl
      try simp only [Act.put, st]
      refine tk 1 (v := ?_) (hp _) hS rfl (fun _ _ _ _ => trivial) ?_ ?_
      rotate_left 1
      · intro w hw; (try rw [hw]); (try go_split_ands); go_simp <;> with_reducible rfl
      try simp only [Act.put, st]
      refine tk 2 (v := ?_) (hp _) hS rfl (fun _ _ _ _ => trivial) ?_ ?_
      rotate_left 1
      · intro w hw; (try rw [hw]); (try go_split_ands); go_simp <;> with_reducible rfl
      try simp only [Act.put, st]
      refine tk 3 (v := ?_) (hp _) hS rfl (fun _ _ _ _ => trivial) ?_ ?_
      rotate_left 1
      · intro w hw; (try rw [hw]); (try go_split_ands); go_simp <;> with_reducible rfl
      try simp only [Act.put, st]
      refine sk 4 (hp _) hS rfl (fun _ _ _ _ => trivial) ?_
      try simp only [Act.put, st]
      refine sk 5 (hp _) hS rfl (fun _ _ _ _ => trivial) ?_
      try simp only [Act.put, st]
      refine sk 6 (hp _) hS rfl (fun _ _ _ _ => trivial) ?_
      try simp only [Act.put, st]
      refine sk 7 (hp _) hS rfl (fun _ _ _ _ => trivial) ?_
      try simp only [Act.put, st]
      refine sk 8 (hp _) hS rfl (fun _ _ _ _ => trivial) ?_
      try simp only [Act.put, st]
      refine sk 9 (hp _) hS rfl (fun _ _ _ _ => trivial) ?_
      try simp only [Act.put, st]
      refine sk 10 (hp _) hS rfl (fun _ _ _ _ => trivial) ?_
      try simp only [Act.put, st]
      refine sk 11 (hp _) hS rfl (fun _ _ _ _ => trivial) ?_
      try simp only [Act.put, st]
      refine sk 12 (hp _) hS rfl (fun _ _ _ _ => trivial) ?_
      try simp only [Act.put, st]
      refine sk 13 (hp _) hS rfl (fun _ _ _ _ => trivial) ?_
      try simp only [Act.put, st]
      refine sk 14 (hp _) hS rfl (fun _ _ _ _ => trivial) ?_
      try simp only [Act.put, st]
      refine sk 15 (hp _) hS rfl (fun _ _ _ _ => trivial) ?_
      try simp only [Act.put, st]
      refine sk 16 (hp _) hS rfl (fun _ _ _ _ => trivial) ?_
      try simp only [Act.put, st]
      refine sk 17 (hp _) hS rfl (fun _ _ _ _ => trivial) ?_
      try simp only [Act.put, st]
      refine sk 18 (hp _) hS rfl (fun _ _ _ _ => trivial) ?_
      try simp only [Act.put, st]
      refine tk 19 (v := ?_) (hp _) hS rfl (fun _ _ _ _ => trivial) ?_ ?_
      rotate_left 1
      · intro w hw; (try rw [hw]); (try go_split_ands); go_simp <;> with_reducible rfl
      try simp only [Act.put, st]
      refine held_end (by kernel_rfl) ?_
      have hOt : Own w5 base (.slice A m c) (cs.take m) := own_some_take HO.out HA.out hm hBw
      have HOT := Lib.hid hOt
      have hsz9 : base ≤ (w5.alloc (.cells #[.int .i64 x.x, .int .i64 x.y] 23)).heap.size := Nat.le_trans hbase (Nat.le_trans hBw.size (by simp))
      have HOA := Lib.hid (HOT.out.later ((Below.refl _ w5).alloc (Nat.le_refl _) (.cells #[.int .i64 x.x, .int .i64 x.y] 23)))
      clear hOt
      gi_wp2_with (gi_at_builtin; go_must (refine wpListIn_append_pt _ (by rfl) (.tmp 34) (.tmp 36) 153 Tryz.underlying153 (by rfl) base _ (cs.take m) (by rfl) HOA.out w5.heap.size x (by rfl) (by go_cell) (by go_cell) (by rw [List.length_take]; omega) hsz9 ?_))
      intro v7 w7 hown hgr hat
      have h7 : w7.heap[B]? = some (.cells #[.slice A cs.length c] 153 (0, 0)) := by
        refine (hgr.block B (by simp; exact Nat.lt_of_lt_of_le hBlt hBw.size |> Nat.lt_succ_of_lt) (fun e => hne ((ownB_eq A cs.length m c).trans e.symm))).trans ?_
        refine (Below.heap_alloc w5 _ B (Nat.lt_of_lt_of_le hBlt hBw.size)).trans ?_
        exact (hBw.block B hBlt).trans HB.out
      have c7 : w7.cell? ⟨B, 0, none⟩ = some (.slice A cs.length c) := by simp [World.cell?, h7]
      have f7 : w7.frozen? ⟨B, 0, none⟩ = false := by simp [World.frozen?, h7]
      have hpd := pushed_of hBw hBlt h7 hown hgr (ownB_eq A m cs.length c) (hat.imp id (fun h => by rw [World.size_alloc]; exact h)) hne
      have HPD := Lib.hid hpd
      obtain ⟨A7, q7, e7, _⟩ := hown.slice
      subst e7
      clear hown hgr hat h7 hpd
      gi_wp2
      go_end0
      refine ⟨rfl, ?_⟩
      have h9 := HPD.out
      have e8 : (cs.take m ++ [x]).length = m + 1 := by rw [List.length_append, List.length_take, Nat.min_eq_left hm]; rfl
      rw [e8] at h9
      rw [show pushS cs x = cs.take m ++ [x] by unfold pushS; rw [HQ.out, List.reverse_reverse]]
      exact h9

end Go.Proofs.YtnhdnkeiijiiaaaGreat
namespace Go.Proofs.YtnhdnkeiijiiaaaGreat
open Go.RowKit Go.Shelf
set_option linter.unusedSimpArgs false
set_option linter.unusedVariables false
attribute [local go_sem] Oper.semAt_some

/-- whatever is cells of a slice of points lies as it lay -/
def Keep39 (W W' : World) : Prop := ∀ (k : Nat) (cs : Array Value) (z : Nat × Nat), W.heap[k]? = some (Obj.cells cs 39 z) → W'.heap[k]? = some (Obj.cells cs 39 z)
theorem Keep39.refl (W : World) : Keep39 W W := fun _ _ _ h => h
theorem Keep39.trans {A B C : World} (h : Keep39 A B) (k : Keep39 B C) : Keep39 A C := fun i cs z e => k i cs z (h i cs z e)
theorem Keep39.below {W W' : World} (h : Below W.heap.size W W') : Keep39 W W' := fun k cs z e => (h.block k (Array.getElem?_eq_some_iff.1 e).1).trans e
theorem Keep39.grown {W W' : World} {row : Option Nat} (hg : W.grownBy W' row) (hr : ∀ k, row = some k → ∀ (cs : Array Value) (z : Nat × Nat), W.heap[k]? ≠ some (Obj.cells cs 39 z)) : Keep39 W W' := fun k cs z e =>
  (hg.block k (Array.getElem?_eq_some_iff.1 e).1 (fun e' => hr k e'.symm cs z e)).trans e
def Kp39 (n₀ : Nat) (W W' : World) : Prop := Below n₀ W W' ∧ Keep39 W W'
theorem kp39_t {n₀ : Nat} {A B C : World} (h : Kp39 n₀ A B) (k : Kp39 n₀ B C) : Kp39 n₀ A C := ⟨h.1.trans k.1, h.2.trans k.2⟩
theorem kp39_b {n₀ : Nat} {w : World} (hn : n₀ ≤ w.heap.size) (W : World) (l : Nat) (o o' : Obj) (hl : w.heap.size ≤ l) (h : W.heap[l]? = some o) (hc : o.isCells = false) (hk : o.isWalk = false) : Kp39 n₀ W (W.putObj l o') :=
  ⟨belowK_b hn W l o o' hl h hc hk, Keep39.grown (grownBy_putObj' W l o') (fun k e cs z e' => by cases e; rw [h] at e'; cases e'; cases hc)⟩
/-- an index and what stands there -/
abbrev Bk (xs : List Pt) := { s : Nat × Pt // xs[s.1]? = some s.2 }
def pts {xs : List Pt} (l : List (Bk xs)) : List Pt := l.map fun s => s.1.2
theorem rev_take_succ {xs : List Pt} {k : Nat} (hk : k < xs.length) {p : Pt} (hp : xs[xs.length - 1 - k]? = some p) : xs.reverse.take (k + 1) = xs.reverse.take k ++ [p] := by
  rw [List.take_add_one, List.getElem?_reverse (by omega), hp]; rfl
set_option maxRecDepth 100000 in
set_option maxHeartbeats 4000000 in
theorem back1_in (F : Fence) (n : Nat) (hf : F.fn 142) (hro : F.round = none) (hn : 1 ≤ n) (l Bs n₀ : Nat) (A : Option Addr) (len cap : Nat) (xs : List Pt) (hxs : xs.length = len) (hreach : len ≤ 1000000000) (J Jx : List (Bk xs) → World → Prop)
    (W : World) (hnW : n₀ ≤ W.heap.size) (hJ : AbidesFrom W.heap.size J)
    (hY : ∀ pre x W1, J pre W1 → pre.length < len → YieldAt F (n - 1) Tryz.prog l #[.int .i64 x.1.1, x.1.2.val] W1 fun e W' =>
      (e = .returned (.bool true) ∧ J (pre ++ [x]) W' ∧ Kp39 n₀ W1 W') ∨ (e = .returned (.bool false) ∧ Jx (pre ++ [x]) W'))
    (hB0 : W.heap[Bs]? = some (.cells #[.slice A len cap] 39 (0, 0))) (hc : Pts? n₀ W A xs) (h0 : J [] W) :
    CallsIn F n Tryz.prog 142 #[.func (.yield l) #[] #[], .pointer (some ⟨Bs, 0, none⟩)] W fun e W' => (∃ v, e = .returned v) ∧
      ((∃ ys, pts ys = xs.reverse ∧ J ys W') ∨ (∃ pre, pts pre <+: xs.reverse ∧ Jx pre W')) := by
  have hBs : W.cell? ⟨Bs, 0, none⟩ = some (.slice A len cap) := by simp [World.cell?, hB0]
  refine callsIn_of_wp Tryz.func142 rfl hf ?_ hro
  simp only [Tryz.ntmps142, List.size_toArray, List.length_cons, List.length_nil, Nat.reduceAdd, Nat.reduceSub, Array.replicate_succ, Array.replicate_zero, List.push_toArray, List.append_toArray, List.nil_append, List.cons_append]
  gi_wp2
  gi_loopw [3] (fun s3 wr => ∃ (k : Nat) (pre : List (Bk xs)), k ≤ len ∧ s3 = .int .i64 ((len : Int) - 1 - (k : Int)) ∧ Aside (pts pre = xs.reverse.take k ∧ pre.length = k) ∧ J pre wr ∧ Below n₀ W wr ∧ wr.heap[Bs]? = some (.cells #[.slice A len cap] 39 (0, 0)))
    (fun s3 _ => ((intOf s3) + 1).toNat)
  case atStart => exact ⟨0, [], Nat.zero_le _, by simp, ⟨rfl, rfl⟩, h0, Below.refl _ _, hB0⟩
  case round =>
    obtain ⟨k, pre, hk, rfl, ⟨hpre, hpl⟩, hJs, hnx, hBw⟩ := hrel
    have eB : wr.cell? ⟨Bs, 0, none⟩ = some (.slice A len cap) := by simp [World.cell?, hBw]
    by_cases hlt : k < len
    · obtain ⟨b, off, rfl, hb, hcs⟩ := hc (by omega)
      obtain ⟨i, hi⟩ : ∃ i, i + k + 1 = len := ⟨len - 1 - k, by omega⟩
      obtain ⟨p, hpi⟩ : ∃ p, xs[i]? = some p := ⟨_, List.getElem?_eq_getElem (by omega)⟩
      obtain ⟨c0, c1⟩ := (hcs i p hpi).upto hnx hb
      have hidx : (len : Int) - 1 - (k : Int) = (i : Int) := by omega
      rw [hidx]
      have hts := rev_take_succ (xs := xs) (k := k) (by omega) (p := p) (by rw [hxs, show len - 1 - k = i by omega]; exact hpi)
      obtain ⟨fn, tmps, assign, body, hy, hR⟩ := hY pre ⟨(i, p), hpi⟩ _ hJs (by omega)
      dsimp only at hy
      have i1 : (0 : Int) ≤ (i : Int) := by omega
      have i2 : (i : Int) < (len : Int) := by omega
      have HT := Lib.hid hts
      have HPR := Lib.hid hpre
      have HPL := Lib.hid hpl
      have HIX := Lib.hid hi
      have hpre2 : pts (pre ++ [(⟨(i, p), hpi⟩ : Bk xs)]) = xs.reverse.take (k + 1) := by
        rw [HT.out, ← HPR.out]; simp [pts]
      have HP2 := Lib.hid hpre2
      clear hts hJs hpre hidx hpre2 hi
      gi_wp2
      refine hR.mono ?_
      rintro e W3 (⟨rfl, hJ3, hk3⟩ | ⟨rfl, hJx3⟩)
      · have hB3 : Below n₀ W W3 := hnx.trans hk3.1
        have hw3 : W3.heap[Bs]? = some (.cells #[.slice (some ⟨b, off, none⟩) len cap] 39 (0, 0)) := hk3.2 _ _ _ hBw
        gi_wp2
        go_roundw
        case rel => exact ⟨k + 1, _, by omega, by have := HIX.out; congr 1; omega, ⟨HP2.out, by rw [List.length_append, HPL.out]; rfl⟩, hJ3, hB3, hw3⟩
        case measure => first | (simp [intOf]; done) | (simp [intOf]; omega)
      · gi_wp2
        refine bodyPost_ret (results_none rfl _ _ _) rfl ?_
        exact ⟨⟨_, rfl⟩, .inr ⟨_, by rw [HP2.out]; exact List.take_prefix _ _, hJx3⟩⟩
    · obtain rfl : k = len := by omega
      have i3 : ¬ ((0 : Int) ≤ (k : Int) - 1 - (k : Int)) := by omega
      rw [List.take_of_length_le (by rw [List.length_reverse, hxs]; exact Nat.le_refl _)] at hpre
      have HPR := Lib.hid hpre
      clear hpre
      gi_wp2
      go_end0
      exact ⟨⟨_, rfl⟩, .inl ⟨pre, HPR.out, hJs⟩⟩

set_option maxHeartbeats 1000000 in
theorem back_in (F : Fence) (n : Nat) (hf : F.fn 130) (hro : F.round = none) (A : Option Addr) (len cap : Nat) (w : World) :
    CallsIn F n Tryz.prog 130 #[.slice A len cap] w fun e w' => e = .returned (.func (.func 142) #[] #[.pointer (some ⟨w.heap.size, 0, none⟩)]) ∧ w' = w.alloc (.cells #[.slice A len cap] 39) := by
  refine callsIn_of_wp Tryz.func130 rfl hf ?_ hro
  simp only [Tryz.ntmps130, List.size_toArray, List.length_cons, List.length_nil, Nat.reduceAdd, Nat.reduceSub, Array.replicate_succ, Array.replicate_zero, List.push_toArray, List.append_toArray, List.nil_append, List.cons_append]
  gi_wp2
  go_ret
  exact ⟨rfl, rfl⟩
theorem back_stops (F : Fence) (n : Nat) (hf : F.fn 142) (hro : F.round = none) (hn : 1 ≤ n) (Bs n₀ : Nat) (A : Option Addr) (len cap : Nat) (xs : List Pt) (hxs : xs.length = len) (hreach : len ≤ 1000000000) (w : World) (hn₀ : n₀ ≤ w.heap.size)
    (hB : w.heap[Bs]? = some (.cells #[.slice A len cap] 39 (0, 0))) (hc : Pts? n₀ w A xs) :
    SeqStopsK F n Tryz.prog 142 #[.pointer (some ⟨Bs, 0, none⟩)] (fun x : Bk xs => #[.int .i64 x.1.1, x.1.2.val]) (Kp39 n₀) (fun ys => pts ys = xs.reverse) (fun pre => pts pre <+: xs.reverse) len w := fun l J Jx W hW hJ _ hY h0 =>
  back1_in F n hf hro hn l Bs n₀ A len cap xs hxs hreach J Jx W (Nat.le_trans hn₀ hW.size) hJ hY ((hW.block Bs (Array.getElem?_eq_some_iff.1 hB).1).trans hB) (hc.upto (hW.mono hn₀)) h0
end Go.Proofs.YtnhdnkeiijiiaaaGreat
namespace Go.Proofs.YtnhdnkeiijiiaaaGreat
open Go.RowKit Go.Shelf
set_option linter.unusedSimpArgs false
set_option linter.unusedVariables false

/-- a comes no later than b in the order of the corners -/
def leP (a b : Pt) : Prop := ltOf cmpS b a = false
theorem leP_total (a b : Pt) : leP a b ∨ leP b a := by
  obtain ⟨ax, ay⟩ := a
  obtain ⟨bx, bY⟩ := b
  simp only [leP, ltC]
  simp
  omega
theorem leP_anti {a b : Pt} (h : leP a b) (k : leP b a) : a = b := by
  obtain ⟨ax, ay⟩ := a
  obtain ⟨bx, bY⟩ := b
  simp only [leP, ltC] at h k
  simp at h k
  have : ax = bx ∧ ay = bY := by omega
  rw [this.1, this.2]
theorem leP_trans {a b c : Pt} (h : leP a b) (k : leP b c) : leP a c := by
  obtain ⟨ax, ay⟩ := a
  obtain ⟨bx, bY⟩ := b
  obtain ⟨cx, cy⟩ := c
  simp only [leP, ltC] at h k ⊢
  simp at h k ⊢
  omega
def insS (x : Pt) : List Pt → List Pt
  | [] => [x]
  | y :: ys => if ltOf cmpS y x then y :: insS x ys else x :: y :: ys
/-- the points in the order of the corners -/
def sortS : List Pt → List Pt
  | [] => []
  | x :: xs => insS x (sortS xs)
theorem insS_perm (x : Pt) : ∀ ys : List Pt, (insS x ys).Perm (x :: ys)
  | [] => List.Perm.refl _
  | y :: ys => by
    unfold insS
    split
    · exact ((insS_perm x ys).cons y).trans (List.Perm.swap x y ys)
    · exact List.Perm.refl _
theorem sortS_perm : ∀ xs : List Pt, (sortS xs).Perm xs
  | [] => List.Perm.refl _
  | x :: xs => (insS_perm x (sortS xs)).trans ((sortS_perm xs).cons x)
theorem insS_sorted (x : Pt) : ∀ ys : List Pt, ys.Pairwise leP → (insS x ys).Pairwise leP
  | [], _ => by simp [insS]
  | y :: ys, h => by
    rw [List.pairwise_cons] at h
    unfold insS
    split
    · rename_i hlt
      rw [List.pairwise_cons]
      refine ⟨fun z hz => ?_, insS_sorted x ys h.2⟩
      have h9 := (insS_perm x ys).mem_iff.1 hz
      rcases List.mem_cons.1 h9 with rfl | h9
      · rcases leP_total y z with h8 | h8
        · exact h8
        · unfold leP at h8; rw [hlt] at h8; cases h8
      · exact h.1 z h9
    · rename_i hlt
      have hxy : leP x y := by simpa [leP] using hlt
      rw [List.pairwise_cons, List.pairwise_cons]
      refine ⟨fun z hz => ?_, h.1, h.2⟩
      rcases List.mem_cons.1 hz with rfl | hz
      · exact hxy
      · exact leP_trans hxy (h.1 z hz)
theorem sortS_sorted : ∀ xs : List Pt, (sortS xs).Pairwise leP
  | [] => List.Pairwise.nil
  | x :: xs => insS_sorted x _ (sortS_sorted xs)
theorem sorted_unique : ∀ l₁ l₂ : List Pt, l₁.Perm l₂ → l₁.Pairwise leP → l₂.Pairwise leP → l₁ = l₂
  | [], l₂, h, _, _ => by have := h.length_eq; exact (List.eq_nil_of_length_eq_zero (by simpa using this.symm)).symm
  | a :: t, [], h, _, _ => by have := h.length_eq; simp at this
  | a :: t, b :: s, h, h1, h2 => by
    rw [List.pairwise_cons] at h1 h2
    have ha : a ∈ b :: s := h.mem_iff.1 (by simp)
    have hb : b ∈ a :: t := h.mem_iff.2 (by simp)
    have hab : a = b := by
      rcases List.mem_cons.1 ha with e | ha
      · exact e
      rcases List.mem_cons.1 hb with e | hb
      · exact e.symm
      exact leP_anti (h1.1 b hb) (h2.1 a ha)
    subst hab
    rw [sorted_unique t s ((List.perm_cons a).1 h) h1.2 h2.2]
theorem sorted_is {xs ys : List Pt} (h : ys.Perm xs) (hs : ys.Pairwise (fun a b => ltOf cmpS b a = false)) : ys = sortS xs :=
  sorted_unique _ _ (h.trans (sortS_perm xs).symm) hs (sortS_sorted xs)
theorem sortS_len (xs : List Pt) : (sortS xs).length = xs.length := (sortS_perm xs).length_eq
theorem sortS_mem {xs : List Pt} {p : Pt} : p ∈ sortS xs ↔ p ∈ xs := (sortS_perm xs).mem_iff
theorem dedup_mem : ∀ (l : List Pt) (p : Pt), p ∈ dedup l ↔ p ∈ l
  | [], p => by simp [dedup]
  | [a], p => by simp [dedup]
  | a :: b :: l, p => by
    have ih := dedup_mem (b :: l) p
    unfold dedup
    split
    · rename_i h
      have hab : a = b := by simpa using h
      rw [ih, hab]; simp
    · rw [List.mem_cons, ih, List.mem_cons (b := a)]
/-- a chain of corners over points -/
def chainS (xs : List Pt) : List Pt := xs.foldl pushS []
theorem popR_sub (x : Pt) : ∀ cs p, p ∈ popR x cs → p ∈ cs
  | [], p, h => h
  | [a], p, h => h
  | b :: a :: r, p, h => by
    unfold popR at h
    split at h
    · exact List.mem_cons_of_mem _ (popR_sub x (a :: r) p h)
    · exact h
theorem popR_len (x : Pt) : ∀ cs, (popR x cs).length ≤ cs.length
  | [] => Nat.le_refl _
  | [a] => Nat.le_refl _
  | b :: a :: r => by
    unfold popR
    split
    · exact Nat.le_trans (popR_len x (a :: r)) (by simp)
    · exact Nat.le_refl _
theorem popR_pos (x : Pt) : ∀ cs, cs ≠ [] → popR x cs ≠ []
  | [], h => h
  | [a], h => by simp [popR]
  | b :: a :: r, h => by
    unfold popR
    split
    · exact popR_pos x (a :: r) (by simp)
    · simp
theorem pushS_sub {cs : List Pt} {x p : Pt} (h : p ∈ pushS cs x) : p ∈ cs ∨ p = x := by
  unfold pushS at h
  rw [List.mem_append, List.mem_reverse] at h
  rcases h with h | h
  · exact .inl (List.mem_reverse.1 (popR_sub x _ _ h))
  · exact .inr (List.mem_singleton.1 h)
theorem pushS_len (cs : List Pt) (x : Pt) : (pushS cs x).length ≤ cs.length + 1 := by
  unfold pushS
  have := popR_len x cs.reverse
  simp at this ⊢
  exact this
theorem pushS_two {cs : List Pt} (x : Pt) (h : cs ≠ []) : 2 ≤ (pushS cs x).length := by
  unfold pushS
  have h1 := popR_pos x cs.reverse (by simpa using h)
  have h2 := List.length_pos_iff.2 h1
  simp
  omega
theorem chainS_snoc (xs : List Pt) (x : Pt) : chainS (xs ++ [x]) = pushS (chainS xs) x := by simp [chainS]
theorem foldl_sub : ∀ (xs cs : List Pt) (p : Pt), p ∈ xs.foldl pushS cs → p ∈ cs ∨ p ∈ xs
  | [], cs, p, h => .inl h
  | x :: xs, cs, p, h => by
    rcases foldl_sub xs (pushS cs x) p h with h | h
    · rcases pushS_sub h with h | h
      · exact .inl h
      · exact .inr (by rw [h]; simp)
    · exact .inr (by simp [h])
theorem chainS_sub {xs : List Pt} {p : Pt} (h : p ∈ chainS xs) : p ∈ xs := by
  rcases foldl_sub xs [] p h with h | h
  · simp at h
  · exact h
theorem foldl_len : ∀ (xs cs : List Pt), (xs.foldl pushS cs).length ≤ cs.length + xs.length
  | [], cs => Nat.le_refl _
  | x :: xs, cs => by
    have h1 := foldl_len xs (pushS cs x)
    have h2 := pushS_len cs x
    simp only [List.foldl_cons, List.length_cons]
    omega
theorem chainS_len (xs : List Pt) : (chainS xs).length ≤ xs.length := by
  have := foldl_len xs []
  simpa [chainS] using this
theorem foldl_two : ∀ (xs cs : List Pt), 2 ≤ cs.length → 2 ≤ (xs.foldl pushS cs).length
  | [], cs, h => h
  | x :: xs, cs, h => foldl_two xs _ (pushS_two x (by intro e; rw [e] at h; simp at h))
theorem chainS_two {xs : List Pt} (h : 2 ≤ xs.length) : 2 ≤ (chainS xs).length := by
  match xs, h with
  | a :: b :: xs, _ =>
    show 2 ≤ (xs.foldl pushS (pushS (pushS [] a) b)).length
    exact foldl_two xs _ (pushS_two b (by simp [pushS]))
/-- the least polygon that has points -/
def hullS (xs : List Pt) : List Pt :=
  let s := dedup (sortS xs)
  if s.length < 3 then s else (chainS s).dropLast ++ (chainS s.reverse).dropLast
theorem hullS_sub {xs : List Pt} {p : Pt} (h : p ∈ hullS xs) : p ∈ xs := by
  unfold hullS at h
  dsimp only at h
  split at h
  · exact sortS_mem.1 ((dedup_mem _ _).1 h)
  · rw [List.mem_append] at h
    rcases h with h | h
    · exact sortS_mem.1 ((dedup_mem _ _).1 (chainS_sub ((List.dropLast_sublist _).subset h)))
    · exact sortS_mem.1 ((dedup_mem _ _).1 (List.mem_reverse.1 (chainS_sub ((List.dropLast_sublist _).subset h))))
end Go.Proofs.YtnhdnkeiijiiaaaGreat
namespace Go.Proofs.YtnhdnkeiijiiaaaGreat
open Go.RowKit Go.Shelf
set_option linter.unusedSimpArgs false
set_option linter.unusedVariables false

theorem own_kept {W W' : World} {base : Nat} {v : Value} {xs : List Pt} (h : Own W base v xs) (hk : ∀ k, v.ownBlock = some k → W'.heap[k]? = W.heap[k]?) : Own W' base v xs := by
  refine ⟨h.1, ?_⟩
  rcases h.2 with h2 | ⟨g, cap, cur, rfl, hb, hh, hr⟩
  · exact .inl h2
  · exact .inr ⟨g, cap, cur, rfl, hb, (hk g rfl).trans hh, hr⟩
theorem own_block_lt {W : World} {base : Nat} {v : Value} {xs : List Pt} (h : Own W base v xs) {k : Nat} (hk : v.ownBlock = some k) : base ≤ k ∧ k < W.heap.size := by
  rcases h.2 with ⟨rfl, -⟩ | ⟨g, cap, cur, rfl, hb, hh, hr⟩
  · cases hk
  · cases hk
    exact ⟨hb, (Array.getElem?_eq_some_iff.1 hh).1⟩
/-- while the chains grow: the two variables at B and C (of three laid from b3 on), each with a row of its own, and the sorted points in block g -/
structure Arnd (w : World) (b3 B C g cap : Nat) (ss : List Pt) (l h : Value) (lc hc : List Pt) (W : World) : Prop where
  below : Below w.heap.size w W
  size : b3 + 3 ≤ W.heap.size
  wsize : w.heap.size ≤ b3
  gl : g < b3
  gw : w.heap.size ≤ g
  B1 : b3 ≤ B
  B2 : B < b3 + 2
  C1 : b3 ≤ C
  C2 : C < b3 + 2
  ne : B ≠ C
  cB : W.heap[B]? = some (.cells #[l] 153 (0, 0))
  cC : W.heap[C]? = some (.cells #[h] 153 (0, 0))
  oB : Own W w.heap.size l lc
  oC : Own W w.heap.size h hc
  lB : ∀ j, l.ownBlock = some j → b3 + 3 ≤ j
  lC : ∀ j, h.ownBlock = some j → b3 + 3 ≤ j
  apart : ∀ j, l.ownBlock = some j → h.ownBlock ≠ some j
  oS : Own W w.heap.size (.slice (some ⟨g, 0, none⟩) ss.length cap) ss
theorem Arnd.swap {w : World} {b3 B C g cap : Nat} {ss lc hc : List Pt} {l h : Value} {W : World} (a : Arnd w b3 B C g cap ss l h lc hc W) : Arnd w b3 C B g cap ss h l hc lc W :=
  ⟨a.below, a.size, a.wsize, a.gl, a.gw, a.C1, a.C2, a.B1, a.B2, a.ne.symm, a.cC, a.cB, a.oC, a.oB, a.lC, a.lB, fun j h1 h2 => a.apart j h2 h1, a.oS⟩
theorem Arnd.later {w : World} {b3 B C g cap : Nat} {ss lc hc : List Pt} {l h : Value} {W W' : World} (a : Arnd w b3 B C g cap ss l h lc hc W) (hb : Below W.heap.size W W') : Arnd w b3 B C g cap ss l h lc hc W' :=
  ⟨a.below.trans (hb.mono a.below.size), Nat.le_trans a.size hb.size, a.wsize, a.gl, a.gw, a.B1, a.B2, a.C1, a.C2, a.ne,
    (hb.block B (Array.getElem?_eq_some_iff.1 a.cB).1).trans a.cB, (hb.block C (Array.getElem?_eq_some_iff.1 a.cC).1).trans a.cC, a.oB.later hb, a.oC.later hb, a.lB, a.lC, a.apart, a.oS.later hb⟩
theorem Arnd.func {w : World} {b3 B C g cap : Nat} {ss lc hc : List Pt} {l h : Value} {W W' : World} (a : Arnd w b3 B C g cap ss l h lc hc W) {cs : Array Value} (hf : W.heap[b3 + 2]? = some (.cells cs 154 (0, 0))) (hb : Below W.heap.size W W') : W'.heap[b3 + 2]? = some (.cells cs 154 (0, 0)) :=
  (hb.block _ (Array.getElem?_eq_some_iff.1 hf).1).trans hf
/-- a push at B -/
theorem Arnd.push {w : World} {b3 B C g cap : Nat} {ss lc hc ys : List Pt} {l h : Value} {W W' : World} (a : Arnd w b3 B C g cap ss l h lc hc W) (hp : Pushed w.heap.size B l ys W W') : (∃ l', Arnd w b3 B C g cap ss l' h ys hc W') ∧ W'.heap[b3 + 2]? = W.heap[b3 + 2]? := by
  have hB1 := a.B1; have hB2 := a.B2; have hC1 := a.C1; have hC2 := a.C2; have hne := a.ne; have hsz := a.size; have hgl := a.gl; have hws := a.wsize
  have hlB := a.lB
  obtain ⟨l', hc', ho', hb'⟩ := hp.cell
  have hk : ∀ k, k < b3 + 3 → k ≠ B → W'.heap[k]? = W.heap[k]? := fun k h1 h2 => hp.block k (by omega) h2 (fun e => by have := hlB k e; omega)
  refine ⟨⟨l', ?_, Nat.le_trans a.size hp.size, a.wsize, a.gl, a.gw, a.B1, a.B2, a.C1, a.C2, a.ne, hc', (hk C (by omega) (Ne.symm hne)).trans a.cC, ho', ?_, ?_, a.lC, ?_, ?_⟩, hk _ (by omega) (by omega)⟩
  · exact a.below.trans ⟨hp.os, hp.tape, hp.output, hp.size, fun k hk' => hk k (by omega) (by omega)⟩
  · refine own_kept a.oC (fun k e => ?_)
    have h1 := a.lC k e
    have h2 := own_block_lt a.oC e
    exact hp.block k h2.2 (by omega) (fun e' => a.apart k e' e)
  · intro j hj
    rcases hb' j hj with h9 | h9
    · exact a.lB j h9
    · omega
  · intro j hj hj2
    rcases hb' j hj with h9 | h9
    · exact a.apart j h9 hj2
    · have := own_block_lt a.oC hj2
      omega
  · refine own_kept a.oS (fun k e => ?_)
    simp only [Value.ownBlock, Option.some.injEq] at e
    exact hk k (by omega) (by omega)
/-- a grown world keeps a row of cells, where the changed object is no cells -/
theorem own_grown {W W' : World} {row : Option Nat} {base : Nat} {v : Value} {xs : List Pt} (h : Own W base v xs) (hg : W.grownBy W' row) (hr : ∀ r, row = some r → ∃ o : Obj, W.heap[r]? = some o ∧ o.isCells = false) : Own W' base v xs := by
  refine own_kept h (fun k e => ?_)
  rcases h.2 with ⟨rfl, -⟩ | ⟨g, cap, cur, rfl, hb, hh, -⟩
  · cases e
  · cases e
    exact (grownBy_keeps_cells hg hr hh rfl)
theorem Arnd.kept {w : World} {b3 B C g cap : Nat} {ss lc hc : List Pt} {l h : Value} {W W' : World} {row : Option Nat} (a : Arnd w b3 B C g cap ss l h lc hc W) (hg : W.grownBy W' row) (hr : ∀ r, row = some r → b3 ≤ r ∧ ∃ o : Obj, W.heap[r]? = some o ∧ o.isCells = false) : Arnd w b3 B C g cap ss l h lc hc W' :=
  have hr2 := fun r e => (hr r e).2
  ⟨a.below.grown hg a.below.size (fun k e => Nat.le_trans a.wsize (hr k e).1), Nat.le_trans a.size hg.size, a.wsize, a.gl, a.gw, a.B1, a.B2, a.C1, a.C2, a.ne,
    (grownBy_keeps_cells hg hr2 a.cB rfl).trans a.cB, (grownBy_keeps_cells hg hr2 a.cC rfl).trans a.cC, own_grown a.oB hg hr2, own_grown a.oC hg hr2, a.lB, a.lC, a.apart, own_grown a.oS hg hr2⟩
/-- the variable behind the two is set -/
theorem Arnd.setF {w : World} {b3 B C g cap : Nat} {ss lc hc : List Pt} {l h : Value} {W : World} (a : Arnd w b3 B C g cap ss l h lc hc W) (v : Value) : Arnd w b3 B C g cap ss l h lc hc (W.setCell ⟨b3 + 2, 0, none⟩ v) := by
  have hk : ∀ k, k ≠ b3 + 2 → (W.setCell ⟨b3 + 2, 0, none⟩ v).heap[k]? = W.heap[k]? := fun k hk => Below.heap_setCell W ⟨b3 + 2, 0, none⟩ v k hk
  have hB2 := a.B2; have hC2 := a.C2; have hgl := a.gl; have hws := a.wsize
  have hlB := a.lB; have hlC := a.lC
  exact ⟨a.below.trans ⟨rfl, rfl, rfl, by rw [World.size_setCell]; exact Nat.le_refl _, fun k h1 => hk k (by omega)⟩, by rw [World.size_setCell]; exact a.size, a.wsize, a.gl, a.gw, a.B1, a.B2, a.C1, a.C2, a.ne,
    (hk B (by omega)).trans a.cB, (hk C (by omega)).trans a.cC, own_kept a.oB (fun k e => hk k (by have := hlB k e; omega)), own_kept a.oC (fun k e => hk k (by have := hlC k e; omega)), a.lB, a.lC, a.apart,
    own_kept a.oS (fun k e => hk k (by simp only [Value.ownBlock, Option.some.injEq] at e; omega))⟩
theorem pushed_same {base B : Nat} {v : Value} {ys cs : List Pt} {w w' : World} (hp : Pushed base B v ys w w') (hB : w.heap[B]? = some (.cells #[v] 153 (0, 0))) (ho : Own w base v cs) {k : Nat} {o : Obj} (hk : w.heap[k]? = some o)
    (h1 : ∀ cs z, o ≠ .cells cs 153 z) (h2 : ∀ cs z, o ≠ .cells cs 23 z) : w'.heap[k]? = some o := by
  refine (hp.block k (Array.getElem?_eq_some_iff.1 hk).1 (fun e => ?_) (fun e => ?_)).trans hk
  · subst e
    rw [hB] at hk
    cases hk
    exact h1 _ _ rfl
  · rcases ho.2 with ⟨rfl, -⟩ | ⟨g, cap, cur, rfl, hb, hh, -⟩
    · cases e
    · cases e
      rw [hh] at hk
      cases hk
      exact h2 _ _ rfl
theorem pushed_others {base B : Nat} {v : Value} {ys cs : List Pt} {w w' : World} (hp : Pushed base B v ys w w') (hB : w.heap[B]? = some (.cells #[v] 153 (0, 0))) (ho : Own w base v cs) : KeepsOthers w w' :=
  ⟨hp.size, fun k o hk hc => pushed_same hp hB ho hk (fun cs z e => by subst e; cases hc) (fun cs z e => by subst e; cases hc)⟩
theorem pushed_39 {base B : Nat} {v : Value} {ys cs : List Pt} {w w' : World} (hp : Pushed base B v ys w w') (hB : w.heap[B]? = some (.cells #[v] 153 (0, 0))) (ho : Own w base v cs) : Keep39 w w' :=
  fun k cs z hk => pushed_same hp hB ho hk (fun cs z e => by cases e) (fun cs z e => by cases e)
theorem Arnd.push_below {w : World} {b3 B C g cap : Nat} {ss lc hc ys : List Pt} {l h : Value} {W W' : World} (a : Arnd w b3 B C g cap ss l h lc hc W) (hp : Pushed w.heap.size B l ys W W') : Below b3 W W' := by
  have hB1 := a.B1
  have hlB := a.lB
  have hsz := a.size
  exact ⟨hp.os, hp.tape, hp.output, hp.size, fun k hk => hp.block k (by omega) (by omega) (fun e => by have := hlB k e; omega)⟩
theorem append_pts_grow (z : World) (base base2 gl gh c1 c2 c3 : Nat) (ty : TypeId) (xs ys : List Pt) (hx : Own z base2 (.slice (some ⟨gl, 0, none⟩) xs.length c1) xs) (hy : Own z base2 (.slice (some ⟨gh, 0, none⟩) ys.length c2) ys) (h1 : 1 ≤ ys.length) (hs : xs.length + ys.length ≤ 10000000) (hb : base ≤ z.heap.size) :
    ∃ (cap : Nat) (cells : Array Value), (Builtin.append_ #[153, 153] ty #[.slice (some ⟨gl, 0, none⟩) xs.length xs.length, .slice (some ⟨gh, 0, none⟩) ys.length c3]).run Tryz.prog z = .ok (.slice (some ⟨z.heap.size, 0, none⟩) (xs.length + ys.length) cap) (z.drew.alloc (.cells cells 23)) ∧
      Own (z.drew.alloc (.cells cells 23)) base (.slice (some ⟨z.heap.size, 0, none⟩) (xs.length + ys.length) cap) (xs ++ ys) := by
  obtain ⟨i0, hi, hz0, hz1, hz2⟩ := info_parts ptInfo
  obtain ⟨_, _, e1, _, _, _, hP1⟩ := hx.slice
  obtain ⟨_, _, e2, _, _, _, hP2⟩ := hy.slice
  cases e1
  cases e2
  have hap := run_append_grow (P := Tryz.prog) z 153 ty 23 i0 _ Tryz.underlying153 hi hz0 ⟨gl, 0, none⟩ xs.length xs.length (flat xs) (by rw [flat_len, hz1]) hP1.news ⟨gh, 0, none⟩ ys.length c3 (flat ys) (by rw [flat_len, hz1]) hP2.news (by omega) (by omega) (growslice_fits (by omega) (by rw [hz2]; omega))
  have hge := grownCap_ge z (xs.length + ys.length) xs.length 23
  have hle := grownCap_le_maxLen z (xs.length + ys.length) xs.length 23 (by unfold maxLen; omega)
  refine ⟨_, _, hap, by rw [flat_len, List.length_append], .inr ⟨z.heap.size, _, _, by rw [List.length_append], hb, heap_alloc_new z.drew _, by rw [List.length_append]; exact hge, hle, ?_, ?_⟩⟩
  · have h9 : ∀ k : Nat, (Builtin.zeroCells (Value.agg #[.int .i64 0, .int .i64 0]).cells k).size = k * 2 := fun k => size_zeroCells _ k
    simp only [Array.size_append, List.size_toArray, flat_len, h9]
    omega
  · rw [List.length_append, flat_app]
    simp only [Array.toList_append, ← List.append_assoc]
    rw [List.take_append_of_le_length (by simp [flat_len]; omega), List.take_of_length_le (by simp [flat_len]; omega)]
theorem run_append_op {P : Program} {o : Oper} {s x : Operand} {t : TypeId} (ho : o.op = .call { callee := .builtin .append, args := #[s, x], argTypes := #[t, t] }) (ρ : Operand → Value) (v1 v2 : Value) (h1 : ρ s = v1) (h2 : ρ x = v2) {w W' : World} {V : Value}
    (hr : (Builtin.append_ #[t, t] o.type #[v1, v2]).run P w = .ok V W') : (execOp ρ o).run P w = .ok (.value V) W' := by
  unfold execOp
  simp only [ho, resolve, invoke, builtin, Sem.run_bind, Sem.run_pure, Result.andThen_ok, List.map_toArray, List.map_cons, List.map_nil, h1, h2, hr]
end Go.Proofs.YtnhdnkeiijiiaaaGreat
