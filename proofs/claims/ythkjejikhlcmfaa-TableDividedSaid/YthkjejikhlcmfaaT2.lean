import Derived.Test.YthkjejikhlcmfaaT1
import Derived.Deep.LoopGhost
namespace Go.Proofs.Ythkjejikhlcmfaa
open Go.RowKit
set_option linter.unusedSimpArgs false
set_option linter.unusedVariables false

/-- a row of a table -/
structure Rw where
  lo : Int
  hi : Int
  age : Int
  since : Int
  part : Int
  turn : Int
deriving DecidableEq, Inhabited
def Rw.cs (r : Rw) : List Value := [.int .i64 r.lo, .int .i64 r.hi, .int .i64 r.age, .int .i64 r.since, .int .i64 r.part, .int .i64 r.turn]
abbrev Rw.val (r : Rw) : Value := .agg #[.int .i64 r.lo, .int .i64 r.hi, .int .i64 r.age, .int .i64 r.since, .int .i64 r.part, .int .i64 r.turn]
def Rw.ok (r : Rw) : Bool := rowB r.lo r.hi r.age r.since r.part r.turn
def Rw.isFor (temp a s : Int) (r : Rw) : Bool := forB r.lo r.hi r.age r.since temp a s

/-- the cells of a row at a place -/
def RowAt (w : World) (b o : Nat) (r : Rw) : Prop :=
  w.cell? ⟨b, o, none⟩ = some (.int .i64 r.lo) ∧ w.cell? ⟨b, o + 1, none⟩ = some (.int .i64 r.hi) ∧ w.cell? ⟨b, o + 2, none⟩ = some (.int .i64 r.age) ∧ w.cell? ⟨b, o + 3, none⟩ = some (.int .i64 r.since) ∧ w.cell? ⟨b, o + 4, none⟩ = some (.int .i64 r.part) ∧ w.cell? ⟨b, o + 5, none⟩ = some (.int .i64 r.turn)
theorem RowAt.below {w w' : World} {b o : Nat} {r : Rw} (h : RowAt w b o r) (hb : Below w.heap.size w w') : RowAt w' b o r := by
  obtain ⟨h0, h1, h2, h3, h4, h5⟩ := h
  exact ⟨kp hb h0, kp hb h1, kp hb h2, kp hb h3, kp hb h4, kp hb h5⟩
/-- the index of the first row for which p holds, counted from k -/
def idxI (p : Rw → Bool) : List Rw → Nat → Int
  | [], _ => -1
  | r :: xs, k => if p r then k else idxI p xs (k + 1)
/-- a slice of rows -/
def Rows? (w : World) (A : Option Addr) (xs : List Rw) : Prop :=
  0 < xs.length → ∃ b off, A = some ⟨b, off, none⟩ ∧ ∀ i r, xs[i]? = some r → RowAt w b (off + i * 6) r
theorem Rows?.below {w w' : World} {A : Option Addr} {xs : List Rw} (h : Rows? w A xs) (hb : Below w.heap.size w w') : Rows? w' A xs := fun hn => by
  obtain ⟨b, off, e, hc⟩ := h hn
  exact ⟨b, off, e, fun i r hr => (hc i r hr).below hb⟩
theorem idxI_drop (p : Rw → Bool) (xs : List Rw) (k : Nat) (r : Rw) (h : xs[k]? = some r) : idxI p (xs.drop k) k = if p r then (k : Int) else idxI p (xs.drop (k + 1)) (k + 1) := by
  obtain ⟨hk, rfl⟩ := List.getElem?_eq_some_iff.1 h
  rw [List.drop_eq_getElem_cons hk]; rfl
theorem idxI_end (p : Rw → Bool) (xs : List Rw) (k : Nat) (h : xs.length ≤ k) : idxI p (xs.drop k) k = -1 := by
  rw [List.drop_eq_nil_of_le h]; rfl

set_option maxHeartbeats 800000 in
set_option maxRecDepth 100000 in
theorem idx23_any (p : Rw → Bool) (A : Option Addr) (n c : Nat) (xs : List Rw) (w : World) (hn : xs.length = n) (hbig : n ≤ 9223372036854775807) (hx : Rows? w A xs)
    (hp : ∀ W r, Below w.heap.size w W → Calls Try.prog 23 #[r.val] W fun e w' => e = .returned (.bool (p r)) ∧ Below W.heap.size W w') :
    Calls Try.prog 18 #[.slice A n c, .func (.func 23) #[] #[]] w fun e w' => e = .returned (.int .i64 (idxI p xs 0)) ∧ Below w.heap.size w w' := by
  have HP := Lib.hid hp
  have HX := Lib.hid hx
  have HN := Lib.hid hn
  generalize hR : idxI p xs 0 = R
  have HR := Lib.hid hR
  clear hp hx hn hR
  go_enter Try.func18, Try.ntmps18
  go_wp2_with fail
  go_loopg [8] (n + 1) (fun g s8 wr => ∃ k : Nat, k ≤ n ∧ g + k = n + 1 ∧ s8 = .int .i64 k ∧ Aside (idxI p (xs.drop k) k = R) ∧ Below w.heap.size w wr)
  case atStart => exact ⟨0, by omega, by omega, rfl, HR.out, Below.refl _ _⟩
  case round =>
    obtain ⟨k, hk, hg, rfl, HB, hBr⟩ := hrel
    by_cases hlt : k < n
    · obtain ⟨r, hr⟩ : ∃ r, xs[k]? = some r := ⟨_, List.getElem?_eq_getElem (by rw [HN.out]; exact hlt)⟩
      have hd := (idxI_drop p xs k r hr).symm.trans HB.out
      obtain ⟨b, off, rfl, hc⟩ := HX.out (by rw [HN.out]; omega)
      obtain ⟨c0, c1, c2, c3, c4, c5⟩ := (hc k r hr).below hBr
      have hcall := HP.out wr r hBr
      have hlt2 : (k : Int) < (n : Int) := by omega
      cases hq : p r with
      | true =>
        rw [hq] at hcall hd
        have HC := Lib.hid hcall
        have HD := Lib.hid hd
        clear hcall hq hd hc hr
        go_wp2_with fail
        refine HC.out.mono ?_
        rintro e w1 ⟨rfl, hb1⟩
        have hB1 : Below w.heap.size w w1 := below_after hBr hb1
        clear hb1
        go_wp2_with fail
        go_ret
        exact ⟨ret_int (by have := HD.out; simpa using this), by go_grown⟩
      | false =>
        rw [hq] at hcall hd
        have HC := Lib.hid hcall
        have HD := Lib.hid hd
        clear hcall hq hd hc hr
        go_wp2_with fail
        refine HC.out.mono ?_
        rintro e w1 ⟨rfl, hb1⟩
        have hB1 : Below w.heap.size w w1 := below_after hBr hb1
        clear hb1
        go_wp2_with fail
        go_roundg (gk - 1)
        case measure => omega
        case rel => exact ⟨k + 1, by omega, by omega, by go_num, (by have h9 := HD.out; simp only [Bool.false_eq_true, if_false] at h9; exact h9), hB1⟩
    · have hd := (idxI_end p xs k (by rw [HN.out]; omega)).symm.trans HB.out
      have HD := Lib.hid hd
      have hnlt : ¬ ((k : Int) < (n : Int)) := by omega
      clear hd
      go_wp2_with fail
      go_ret
      exact ⟨ret_int HD.out, by go_grown⟩

set_option maxHeartbeats 800000 in
set_option maxRecDepth 100000 in
theorem idx26_any (p : Rw → Bool) (bt ba bs : Nat) (A : Option Addr) (n c : Nat) (xs : List Rw) (w : World) (hn : xs.length = n) (hbig : n ≤ 9223372036854775807) (hx : Rows? w A xs)
    (hp : ∀ W r, Below w.heap.size w W → Calls Try.prog 26 #[r.val, .pointer (some ⟨bt, 0, none⟩), .pointer (some ⟨ba, 0, none⟩), .pointer (some ⟨bs, 0, none⟩)] W fun e w' => e = .returned (.bool (p r)) ∧ Below W.heap.size W w') :
    Calls Try.prog 18 #[.slice A n c, .func (.func 26) #[] #[.pointer (some ⟨bt, 0, none⟩), .pointer (some ⟨ba, 0, none⟩), .pointer (some ⟨bs, 0, none⟩)]] w fun e w' => e = .returned (.int .i64 (idxI p xs 0)) ∧ Below w.heap.size w w' := by
  have HP := Lib.hid hp
  have HX := Lib.hid hx
  have HN := Lib.hid hn
  generalize hR : idxI p xs 0 = R
  have HR := Lib.hid hR
  clear hp hx hn hR
  go_enter Try.func18, Try.ntmps18
  go_wp2_with fail
  go_loopg [8] (n + 1) (fun g s8 wr => ∃ k : Nat, k ≤ n ∧ g + k = n + 1 ∧ s8 = .int .i64 k ∧ Aside (idxI p (xs.drop k) k = R) ∧ Below w.heap.size w wr)
  case atStart => exact ⟨0, by omega, by omega, rfl, HR.out, Below.refl _ _⟩
  case round =>
    obtain ⟨k, hk, hg, rfl, HB, hBr⟩ := hrel
    by_cases hlt : k < n
    · obtain ⟨r, hr⟩ : ∃ r, xs[k]? = some r := ⟨_, List.getElem?_eq_getElem (by rw [HN.out]; exact hlt)⟩
      have hd := (idxI_drop p xs k r hr).symm.trans HB.out
      obtain ⟨b, off, rfl, hc⟩ := HX.out (by rw [HN.out]; omega)
      obtain ⟨c0, c1, c2, c3, c4, c5⟩ := (hc k r hr).below hBr
      have hcall := HP.out wr r hBr
      have hlt2 : (k : Int) < (n : Int) := by omega
      cases hq : p r with
      | true =>
        rw [hq] at hcall hd
        have HC := Lib.hid hcall
        have HD := Lib.hid hd
        clear hcall hq hd hc hr
        go_wp2_with fail
        refine HC.out.mono ?_
        rintro e w1 ⟨rfl, hb1⟩
        have hB1 : Below w.heap.size w w1 := below_after hBr hb1
        clear hb1
        go_wp2_with fail
        go_ret
        exact ⟨ret_int (by have := HD.out; simpa using this), by go_grown⟩
      | false =>
        rw [hq] at hcall hd
        have HC := Lib.hid hcall
        have HD := Lib.hid hd
        clear hcall hq hd hc hr
        go_wp2_with fail
        refine HC.out.mono ?_
        rintro e w1 ⟨rfl, hb1⟩
        have hB1 : Below w.heap.size w w1 := below_after hBr hb1
        clear hb1
        go_wp2_with fail
        go_roundg (gk - 1)
        case measure => omega
        case rel => exact ⟨k + 1, by omega, by omega, by go_num, (by have h9 := HD.out; simp only [Bool.false_eq_true, if_false] at h9; exact h9), hB1⟩
    · have hd := (idxI_end p xs k (by rw [HN.out]; omega)).symm.trans HB.out
      have HD := Lib.hid hd
      have hnlt : ¬ ((k : Int) < (n : Int)) := by omega
      clear hd
      go_wp2_with fail
      go_ret
      exact ⟨ret_int HD.out, by go_grown⟩

end Go.Proofs.Ythkjejikhlcmfaa
