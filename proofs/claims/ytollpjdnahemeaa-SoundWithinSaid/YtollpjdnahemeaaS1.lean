import Derived.Test.YtollpjdnahemeaaProg
import Derived.WalkKit
import Derived.Lib.Hide
import Derived.Outline
import Derived.Handy
namespace Go.Proofs.Ytollpjdnahemeaa
open Go.RowKit

def spanV (lo hi : Int) : Value := .agg #[.int .i64 lo, .int .i64 hi]

/-- a span's validity -/
def vld (lo hi : Int) : Bool := decide (lo ≤ hi) && decide (-1000000000000 ≤ lo) && decide (hi ≤ 1000000000000)

theorem ret_bool {a b : Bool} (h : a = b) : Ending.returned (.bool a) = .returned (.bool b) := by rw [h]
theorem ret_int {k : IntKind} {a b : Int} (h : a = b) : Ending.returned (.int k a) = .returned (.int k b) := by rw [h]

set_option maxHeartbeats 400000 in
theorem Valid_any (lo hi : Int) (w : World) :
    Calls Try.prog 38 #[.agg #[.int .i64 lo, .int .i64 hi]] w fun e w' => e = .returned (.bool (vld lo hi)) ∧ Below w.heap.size w w' := by
  go_enter Try.func38, Try.ntmps38
  go_wp2_with fail
  all_goals
    go_ret
    refine ⟨ret_bool ?_, ?_⟩
    · simp [vld, *] <;> try omega
    · go_grown
set_option maxHeartbeats 400000 in
theorem RValid_any (lo hi : Int) (w : World) :
    Calls Try.prog 26 #[.agg #[.int .i64 lo, .int .i64 hi]] w fun e w' => e = .returned (.bool (vld lo hi)) ∧ Below w.heap.size w w' := by
  go_enter Try.func26, Try.ntmps26
  go_wp2_with fail
  all_goals
    go_ret
    refine ⟨ret_bool ?_, ?_⟩
    · simp [vld, *] <;> try omega
    · go_grown
set_option maxHeartbeats 400000 in
theorem valid1_any (lo hi : Int) (w : World) :
    Calls Try.prog 95 #[.agg #[.int .i64 lo, .int .i64 hi]] w fun e w' => e = .returned (.bool (!vld lo hi)) ∧ Below w.heap.size w w' := by
  go_enter Try.func95, Try.ntmps95
  go_wp2_with (go_at_call 38; refine (Valid_any _ _ _).mono ?_; rintro e w' ⟨rfl, hb⟩)
  all_goals
    go_ret
    refine ⟨ret_bool rfl, ?_⟩
    · refine Below.trans ?_ (Below.mono hb ?_)
      · go_grown
      · simp

theorem bcell {W w1 : World} {B : Nat} (hb : Below B W w1) : (∀ b o, b < B → w1.cell? ⟨b, o, none⟩ = W.cell? ⟨b, o, none⟩) ∧ (∀ b o, b < B → w1.frozen? ⟨b, o, none⟩ = W.frozen? ⟨b, o, none⟩) :=
  ⟨fun b o h => hb.cell (p := ⟨b, o, none⟩) h, fun b o h => hb.frozen (p := ⟨b, o, none⟩) h⟩

set_option maxHeartbeats 400000 in
theorem idx2_any (b : Nat) (l0 h0 l1 h1 : Int) (w : World) (hb : b < w.heap.size) (c0 : w.cell? ⟨b, 0, none⟩ = some (.int .i64 l0)) (c1 : w.cell? ⟨b, 1, none⟩ = some (.int .i64 h0))
    (c2 : w.cell? ⟨b, 2, none⟩ = some (.int .i64 l1)) (c3 : w.cell? ⟨b, 3, none⟩ = some (.int .i64 h1)) :
    Calls Try.prog 101 #[.slice (some ⟨b, 0, none⟩) 2 2, .func (.func 95) #[] #[]] w fun e w' => e = .returned (.int .i64 (if vld l0 h0 then (if vld l1 h1 then -1 else 1) else 0)) ∧ Below w.heap.size w w' := by
  cases e0 : vld l0 h0 with
  | false =>
    have H0 := valid1_any l0 h0 w
    rw [e0] at H0
    have HH := Lib.hid H0
    clear e0 H0
    go_enter Try.func101, Try.ntmps101
    go_wp2_with fail
    refine wp_loop_rounds 1 ?_
    rw [rounds_succ]
    go_wp2_with (go_at_call 95; refine HH.out.mono ?_; rintro e w' ⟨rfl, hb⟩)
    go_ret
    exact ⟨rfl, hb⟩
  | true =>
    have H0 := valid1_any l0 h0 w
    rw [e0] at H0
    have HH := Lib.hid H0
    clear e0 H0
    cases e1 : vld l1 h1 with
    | false =>
      have H1 := fun w => valid1_any l1 h1 w
      rw [e1] at H1
      have HH1 := Lib.hid H1
      clear e1 H1
      go_enter Try.func101, Try.ntmps101
      go_wp2_with fail
      refine wp_loop_rounds 2 ?_
      rw [rounds_succ]
      go_wp2_with (go_at_call 95; refine HH.out.mono ?_; rintro e w1 ⟨rfl, hb1⟩; have bc := (bcell hb1).1)
      rw [rounds_succ]
      go_wp2_with (go_at_call 95; refine (HH1.out _).mono ?_; rintro e w2 ⟨rfl, hb2⟩)
      go_ret
      exact ⟨rfl, hb1.trans (hb2.mono hb1.size)⟩
    | true =>
      have H1 := fun w => valid1_any l1 h1 w
      rw [e1] at H1
      have HH1 := Lib.hid H1
      clear e1 H1
      go_enter Try.func101, Try.ntmps101
      go_wp2_with fail
      refine wp_loop_rounds 3 ?_
      rw [rounds_succ]
      go_wp2_with (go_at_call 95; refine HH.out.mono ?_; rintro e w1 ⟨rfl, hb1⟩; have bc := (bcell hb1).1)
      rw [rounds_succ]
      go_wp2_with (go_at_call 95; refine (HH1.out _).mono ?_; rintro e w2 ⟨rfl, hb2⟩)
      rw [rounds_succ]
      go_wp2_with fail
      go_ret
      exact ⟨rfl, hb1.trans (hb2.mono hb1.size)⟩
def mnTo (zs : List Int) : Nat → Int
  | 0 => zs.getD 0 0
  | k + 1 => min (mnTo zs k) (zs.getD (k + 1) 0)

set_option maxHeartbeats 400000 in
theorem Min_any (b off n c : Nat) (zs : List Int) (w : World) (hn : 0 < n) (hz : zs.length = n) (hbig : (n : Int) ≤ 9223372036854775807)
    (hc : ∀ i, i < n → w.cell? ⟨b, off + i, none⟩ = some (.int .i64 (zs.getD i 0))) :
    Calls Try.prog 96 #[.slice (some ⟨b, off, none⟩) n c] w fun e w' => e = .returned (.int .i64 (mnTo zs (n - 1))) ∧ w = w' := by
  have h0 : w.cell? ⟨b, off, none⟩ = some (.int .i64 (mnTo zs 0)) := hc 0 hn
  have HC := Lib.hid hc
  clear hc
  have hn1 : ¬ ((n : Int) < 1) := by omega
  go_enter Try.func96, Try.ntmps96
  go_wp2_with fail
  go_loop [3, 4] (fun m i => ∃ k : Nat, 1 ≤ k ∧ k ≤ n ∧ i = .int .i64 k ∧ m = .int .i64 (mnTo zs (k - 1))) (fun _ i => n - (intOf i).toNat)
  case atStart => exact ⟨1, by omega, by omega, rfl, rfl⟩
  case round =>
    obtain ⟨k, hk1, hk, rfl, rfl⟩ := hrel
    by_cases hlt : k < n
    · have hcell : w.cell? ⟨b, off + k, none⟩ = some (.int .i64 (zs.getD k 0)) := HC.out k hlt
      have hs : mnTo zs k = if zs.getD k 0 < mnTo zs (k - 1) then zs.getD k 0 else mnTo zs (k - 1) := by
        obtain ⟨j, rfl⟩ : ∃ j, k = j + 1 := ⟨k - 1, by omega⟩
        simp only [mnTo, Nat.add_sub_cancel]
        by_cases h : zs.getD (j + 1) 0 < mnTo zs j
        · rw [if_pos h]; omega
        · rw [if_neg h]; omega
      have HS := Lib.hid hs
      clear hs
      go_wp2_with fail
      go_round
      case rel => exact ⟨k + 1, by omega, by omega, by go_num, by rw [Nat.add_sub_cancel, HS.out]; simp [List.getD, hz, hlt]⟩
      case measure => simp [intOf]; omega
    · have hnlt : ¬ ((k : Int) < (n : Int)) := by omega
      go_wp2
      go_ret
      exact ⟨ret_int (by rw [show k = n by omega]), rfl⟩
def mxTo (zs : List Int) : Nat → Int
  | 0 => zs.getD 0 0
  | k + 1 => max (mxTo zs k) (zs.getD (k + 1) 0)

set_option maxHeartbeats 400000 in
theorem Max_any (b off n c : Nat) (zs : List Int) (w : World) (hn : 0 < n) (hz : zs.length = n) (hbig : (n : Int) ≤ 9223372036854775807)
    (hc : ∀ i, i < n → w.cell? ⟨b, off + i, none⟩ = some (.int .i64 (zs.getD i 0))) :
    Calls Try.prog 97 #[.slice (some ⟨b, off, none⟩) n c] w fun e w' => e = .returned (.int .i64 (mxTo zs (n - 1))) ∧ w = w' := by
  have h0 : w.cell? ⟨b, off, none⟩ = some (.int .i64 (mxTo zs 0)) := hc 0 hn
  have HC := Lib.hid hc
  clear hc
  have hn1 : ¬ ((n : Int) < 1) := by omega
  go_enter Try.func97, Try.ntmps97
  go_wp2_with fail
  go_loop [3, 4] (fun m i => ∃ k : Nat, 1 ≤ k ∧ k ≤ n ∧ i = .int .i64 k ∧ m = .int .i64 (mxTo zs (k - 1))) (fun _ i => n - (intOf i).toNat)
  case atStart => exact ⟨1, by omega, by omega, rfl, rfl⟩
  case round =>
    obtain ⟨k, hk1, hk, rfl, rfl⟩ := hrel
    by_cases hlt : k < n
    · have hcell : w.cell? ⟨b, off + k, none⟩ = some (.int .i64 (zs.getD k 0)) := HC.out k hlt
      have hs : mxTo zs k = if mxTo zs (k - 1) < zs.getD k 0 then zs.getD k 0 else mxTo zs (k - 1) := by
        obtain ⟨j, rfl⟩ : ∃ j, k = j + 1 := ⟨k - 1, by omega⟩
        simp only [mxTo, Nat.add_sub_cancel]
        by_cases h : mxTo zs j < zs.getD (j + 1) 0
        · rw [if_pos h]; omega
        · rw [if_neg h]; omega
      have HS := Lib.hid hs
      clear hs
      go_wp2_with fail
      go_round
      case rel => exact ⟨k + 1, by omega, by omega, by go_num, by rw [Nat.add_sub_cancel, HS.out]; simp [List.getD, hz, hlt]⟩
      case measure => simp [intOf]; omega
    · have hnlt : ¬ ((k : Int) < (n : Int)) := by omega
      go_wp2
      go_ret
      exact ⟨ret_int (by rw [show k = n by omega]), rfl⟩

end Go.Proofs.Ytollpjdnahemeaa
