import Derived.Test.YtollpjdnahemeaaQ16
import Derived.BigQuiet
import Derived.Deep.LoopGhost
namespace Go.Proofs.Ytollpjdnahemeaa
open Go.RowKit Go.Shelf
set_option linter.unusedSimpArgs false
set_option linter.unusedVariables false
attribute [local go_sem ↓] Go.wp_at_zero Go.wp_at_succ

def bAny (f : Int × Int → Int) (v : Int) (l : List (Int × Int)) : Bool := l.any fun s => f s == v
theorem bAny_miss {xs : List Wt} {k : Nat} {x : Wt} {dl dh v : Int} {f : Int × Int → Int} (hx : xs[k]? = some x) (h : tchP dl dh (frm xs k, x) = false) : bAny f v (tl dl dh ((lay 0 xs).take (k + 1))) = bAny f v (tl dl dh ((lay 0 xs).take k)) := by
  rw [lay_take_succ hx, tl_snoc_miss _ _ _ _ h]
theorem bAny_hit {xs : List Wt} {k : Nat} {x : Wt} {dl dh v : Int} {f : Int × Int → Int} (hx : xs[k]? = some x) (h : tchP dl dh (frm xs k, x) = true) : bAny f v (tl dl dh ((lay 0 xs).take (k + 1))) = (bAny f v (tl dl dh ((lay 0 xs).take k)) || (f (x.lo, x.hi) == v)) := by
  rw [lay_take_succ hx, tl_snoc_hit _ _ _ _ h]; simp [bAny]
theorem bAny_all {xs : List Wt} {dl dh : Int} (hv : wValid xs = true) (hd : depB dl dh = true) : bAny Prod.fst (speedP dl dh xs).1 (tl dl dh (lay 0 xs)) = true ∧ bAny Prod.snd (speedP dl dh xs).2 (tl dl dh (lay 0 xs)) = true := by
  obtain ⟨_, ⟨a, ha, ea⟩, ⟨b, hb, eb⟩⟩ := speedP_box hv hd
  exact ⟨List.any_eq_true.2 ⟨a, ha, by simp [ea]⟩, List.any_eq_true.2 ⟨b, hb, by simp [eb]⟩⟩
theorem touch_within {xs : List Wt} {k : Nat} {x : Wt} {dl dh : Int} (hv : wValid xs = true) (hd : depB dl dh = true) (hx : xs[k]? = some x) (h : tchP dl dh (frm xs k, x) = true) : (speedP dl dh xs).1 ≤ x.lo ∧ x.hi ≤ (speedP dl dh xs).2 := by
  have ht := (tchP_iff _ _ _).1 h
  exact (speedP_box hv hd).1 (x.lo, x.hi) (mem_tl.2 ⟨(frm xs k, x), lay_mem hx, ht.1, ht.2, rfl⟩)
set_option maxHeartbeats 1600000 in
set_option maxRecDepth 100000 in
theorem tou_many (A : Option Addr) (n c : Nat) (xs : List Wt) (dl dh : Int) (w : World) (h25 : 25 < n) : Calls Try.prog 18 #[.slice A n c, .agg #[.int .i64 dl, .int .i64 dh]] w fun e w' => e = .returned (.bool true) ∧ Below w.heap.size w w' := by
  have hF := fun W => bel (Few_any A n c W)
  rw [show decide (n ≤ 25) = false by simp; omega] at hF
  have HF := Lib.hid hF
  clear hF
  go_enter Try.func18, Try.ntmps18
  go_wp2_with fail
  refine (head17_any _).mono ?_
  rintro e w1 ⟨rfl, hb1⟩
  have hB1 : Below w.heap.size w w1 := below_after (by go_grown) hb1
  have hz1 := hb1.size
  try simp only [World.size_alloc, World.size_setCell, World.size_drew] at hz1
  have hw1 := hB1.size
  have c_d0 : w1.cell? ⟨w.heap.size, 0, none⟩ = some (.int .i64 dl) := kp hb1 (by go_cell)
  have c_d1 : w1.cell? ⟨w.heap.size, 1, none⟩ = some (.int .i64 dh) := kp hb1 (by go_cell)
  clear hb1
  go_wp2_with fail
  refine (HF.out _).mono ?_
  rintro e w2 ⟨rfl, hb2⟩
  have hB2 : Below w.heap.size w w2 := below_after (by go_grown) hb2
  have hz2 := hb2.size
  try simp only [World.size_alloc, World.size_setCell, World.size_drew] at hz2
  have hw2 := hB2.size
  replace c_d0 : w2.cell? ⟨w.heap.size, 0, none⟩ = some (.int .i64 dl) := kp hb2 (by go_cell)
  replace c_d1 : w2.cell? ⟨w.heap.size, 1, none⟩ = some (.int .i64 dh) := kp hb2 (by go_cell)
  clear hb2 hB1
  go_wp2_with fail
  go_ret
  exact ⟨rfl, by go_grown⟩
set_option maxHeartbeats 1600000 in
set_option maxRecDepth 100000 in
theorem tou_b (A : Option Addr) (n c : Nat) (xs : List Wt) (dl dh : Int) (w : World) (hn : xs.length = n) (hx : Wts? w.heap.size w A xs) (h25 : n ≤ 25) (h : (wValid xs && depB dl dh) = false) : Calls Try.prog 18 #[.slice A n c, .agg #[.int .i64 dl, .int .i64 dh]] w fun e w' => e = .returned (.bool true) ∧ Below w.heap.size w w' := by
  have HXS := Lib.hid (hxs_of hx)
  have hF := fun W => bel (Few_any A n c W)
  rw [show decide (n ≤ 25) = true by simp; omega] at hF
  have HF := Lib.hid hF
  have hA := fun W h => Speed_any A n c xs dl dh W hn (by omega) h
  rw [speedS_no h] at hA
  have HA := Lib.hid hA
  clear hx hn hA hF
  go_enter Try.func18, Try.ntmps18
  go_wp2_with fail
  refine (head17_any _).mono ?_
  rintro e w1 ⟨rfl, hb1⟩
  have hB1 : Below w.heap.size w w1 := below_after (by go_grown) hb1
  have hz1 := hb1.size
  try simp only [World.size_alloc, World.size_setCell, World.size_drew] at hz1
  have hw1 := hB1.size
  have c_d0 : w1.cell? ⟨w.heap.size, 0, none⟩ = some (.int .i64 dl) := kp hb1 (by go_cell)
  have c_d1 : w1.cell? ⟨w.heap.size, 1, none⟩ = some (.int .i64 dh) := kp hb1 (by go_cell)
  clear hb1
  go_wp2_with fail
  refine (HF.out _).mono ?_
  rintro e w2 ⟨rfl, hb2⟩
  have hB2 : Below w.heap.size w w2 := below_after (by go_grown) hb2
  have hz2 := hb2.size
  try simp only [World.size_alloc, World.size_setCell, World.size_drew] at hz2
  have hw2 := hB2.size
  replace c_d0 : w2.cell? ⟨w.heap.size, 0, none⟩ = some (.int .i64 dl) := kp hb2 (by go_cell)
  replace c_d1 : w2.cell? ⟨w.heap.size, 1, none⟩ = some (.int .i64 dh) := kp hb2 (by go_cell)
  clear hb2 hB1
  go_wp2_with fail
  refine (HA.out _ (HXS.out _ (by go_grown))).mono ?_
  rintro e w3 ⟨rfl, hb3⟩
  have hB3 : Below w.heap.size w w3 := below_after (by go_grown) hb3
  have hz3 := hb3.size
  try simp only [World.size_alloc, World.size_setCell, World.size_drew] at hz3
  have hw3 := hB3.size
  replace c_d0 : w3.cell? ⟨w.heap.size, 0, none⟩ = some (.int .i64 dl) := kp hb3 (by go_cell)
  replace c_d1 : w3.cell? ⟨w.heap.size, 1, none⟩ = some (.int .i64 dh) := kp hb3 (by go_cell)
  clear hb3 hB2
  go_wp2_with fail
  go_ret
  exact ⟨rfl, by go_grown⟩
set_option maxHeartbeats 1600000 in
set_option maxRecDepth 100000 in
theorem tou_go (A : Option Addr) (n c : Nat) (xs : List Wt) (dl dh : Int) (w : World) (hn : xs.length = n) (hx : Wts? w.heap.size w A xs) (h25 : n ≤ 25) (hv : wValid xs = true) (hd : depB dl dh = true) : Calls Try.prog 18 #[.slice A n c, .agg #[.int .i64 dl, .int .i64 dh]] w fun e w' => e = .returned (.bool true) ∧ Below w.heap.size w w' := by
  have HXS := Lib.hid (hxs_of hx)
  have HX := Lib.hid hx
  have HN := Lib.hid hn
  have hF := fun W => bel (Few_any A n c W)
  rw [show decide (n ≤ 25) = true by simp; omega] at hF
  have HF := Lib.hid hF
  have hA := fun W h => Speed_any A n c xs dl dh W hn (by omega) h
  rw [speedS_ok (by rw [hv, hd]; rfl)] at hA
  have hT := fun i x hi W h => Touches_any A n c i xs dl dh x W hn (by omega) h hi
  have hW := fun k x (hk : xs[k]? = some x) h => touch_within hv hd hk h
  have hE := bAny_all hv hd
  generalize (speedP dl dh xs).1 = s1 at *
  generalize (speedP dl dh xs).2 = s2 at *
  have HA := Lib.hid hA
  have HT := Lib.hid hT
  have HW := Lib.hid hW
  have HE := Lib.hid hE
  clear hx hn hA hF hT hW hE hv hd
  go_enter Try.func18, Try.ntmps18
  go_wp2_with fail
  refine (head17_any _).mono ?_
  rintro e w1 ⟨rfl, hb1⟩
  have hB1 : Below w.heap.size w w1 := below_after (by go_grown) hb1
  have hz1 := hb1.size
  try simp only [World.size_alloc, World.size_setCell, World.size_drew] at hz1
  have hw1 := hB1.size
  have c_d0 : w1.cell? ⟨w.heap.size, 0, none⟩ = some (.int .i64 dl) := kp hb1 (by go_cell)
  have c_d1 : w1.cell? ⟨w.heap.size, 1, none⟩ = some (.int .i64 dh) := kp hb1 (by go_cell)
  clear hb1
  go_wp2_with fail
  refine (HF.out _).mono ?_
  rintro e w2 ⟨rfl, hb2⟩
  have hB2 : Below w.heap.size w w2 := below_after (by go_grown) hb2
  have hz2 := hb2.size
  try simp only [World.size_alloc, World.size_setCell, World.size_drew] at hz2
  have hw2 := hB2.size
  replace c_d0 : w2.cell? ⟨w.heap.size, 0, none⟩ = some (.int .i64 dl) := kp hb2 (by go_cell)
  replace c_d1 : w2.cell? ⟨w.heap.size, 1, none⟩ = some (.int .i64 dh) := kp hb2 (by go_cell)
  clear hb2 hB1
  go_wp2_with fail
  refine (HA.out _ (HXS.out _ (by go_grown))).mono ?_
  rintro e w3 ⟨rfl, hb3⟩
  have hB3 : Below w.heap.size w w3 := below_after (by go_grown) hb3
  have hz3 := hb3.size
  try simp only [World.size_alloc, World.size_setCell, World.size_drew] at hz3
  have hw3 := hB3.size
  replace c_d0 : w3.cell? ⟨w.heap.size, 0, none⟩ = some (.int .i64 dl) := kp hb3 (by go_cell)
  replace c_d1 : w3.cell? ⟨w.heap.size, 1, none⟩ = some (.int .i64 dh) := kp hb3 (by go_cell)
  clear hb3 hB2
  go_wp2_with fail
  go_loopg [5, 8, 9, 32] (n + 1) (fun g s5 s8 s9 s32 wr => ∃ (k : Nat) (b8 b9 : Bool), k ≤ n ∧ g + k = n + 1 ∧ s32 = .int .i64 k ∧ s5 = .bool true ∧ s8 = .bool b8 ∧ s9 = .bool b9 ∧ Aside (bAny Prod.fst s1 (tl dl dh ((lay 0 xs).take k)) = b8) ∧ Aside (bAny Prod.snd s2 (tl dl dh ((lay 0 xs).take k)) = b9) ∧ Below w.heap.size w wr ∧ wr.cell? ⟨w.heap.size, 0, none⟩ = some (.int .i64 dl) ∧ wr.cell? ⟨w.heap.size, 1, none⟩ = some (.int .i64 dh) ∧ wr.cell? ⟨w3.heap.size, 0, none⟩ = some (.int .i64 s1) ∧ wr.cell? ⟨w3.heap.size, 1, none⟩ = some (.int .i64 s2))
  case atStart => exact ⟨0, false, false, by omega, by omega, rfl, rfl, rfl, rfl, rfl, rfl, by go_grown, by go_cell, by go_cell, by go_cell, by go_cell⟩
  case round =>
    obtain ⟨k, b8, b9, hk, hg, rfl, rfl, rfl, rfl, HA8, HA9, hB, d0, d1, e0, e1⟩ := hrel
    have hsz := hB.size
    by_cases hlt9 : k < n
    · obtain ⟨x, hx⟩ : ∃ x, xs[k]? = some x := ⟨_, List.getElem?_eq_getElem (by rw [HN.out]; exact hlt9)⟩
      obtain ⟨b, off, rfl, hlt, hcs⟩ := HX.out (by rw [HN.out]; omega)
      obtain ⟨r0, r1, r2⟩ := (hcs k x hx).upto hB hlt
      have hlt2 : (k : Int) < (n : Int) := by omega
      have hT2 := fun W h => HT.out k x hx W h
      cases ht : tchP dl dh (frm xs k, x) with
      | false =>
        rw [ht] at hT2
        have HT2 := Lib.hid hT2
        have H8 := Lib.hid ((bAny_miss (f := Prod.fst) (v := s1) hx ht).trans HA8.out)
        have H9 := Lib.hid ((bAny_miss (f := Prod.snd) (v := s2) hx ht).trans HA9.out)
        clear hT2 ht hx hcs HA8 HA9
        go_wp2_with fail
        refine (HT2.out _ (((HX.out).upto hB).mono hsz)).mono ?_
        rintro e w9 ⟨rfl, hb9⟩
        have hB9 : Below w.heap.size w w9 := below_after hB hb9
        have hw9 := hB9.size
        have d0 : w9.cell? ⟨w.heap.size, 0, none⟩ = some (.int .i64 dl) := kp hb9 d0
        have d1 : w9.cell? ⟨w.heap.size, 1, none⟩ = some (.int .i64 dh) := kp hb9 d1
        have e0 : w9.cell? ⟨w3.heap.size, 0, none⟩ = some (.int .i64 s1) := kp hb9 e0
        have e1 : w9.cell? ⟨w3.heap.size, 1, none⟩ = some (.int .i64 s2) := kp hb9 e1
        have r1 : w9.cell? ⟨b, off + k * 3 + 1, none⟩ = some (.int .i64 x.lo) := kp hb9 r1
        have r2 : w9.cell? ⟨b, off + k * 3 + 2, none⟩ = some (.int .i64 x.hi) := kp hb9 r2
        clear hb9
        go_wp2_with fail
        go_roundg (gk - 1)
        case measure => omega
        case rel => (refine ⟨k + 1, _, _, by omega, by omega, by go_num, rfl, rfl, rfl, H8.out, H9.out, ?_, ?_, ?_, ?_, ?_⟩ <;> first | assumption | (go_grown; done) | (exact Below.drew (by go_grown)) | go_cell)
      | true =>
        rw [ht] at hT2
        have HT2 := Lib.hid hT2
        have h8 := bAny_hit (f := Prod.fst) (v := s1) hx ht
        have h9 := bAny_hit (f := Prod.snd) (v := s2) hx ht
        rw [HA8.out] at h8
        rw [HA9.out] at h9
        have hwi := HW.out k x hx ht
        have hIn := fun W => Within_any x.lo x.hi s1 s2 W
        rw [show (decide (s1 ≤ x.lo) && decide (x.hi ≤ s2)) = true by simp; omega] at hIn
        have HIN := Lib.hid hIn
        have H8 := Lib.hid h8
        have H9 := Lib.hid h9
        clear hT2 ht hx hcs HA8 HA9 h8 h9 hwi hIn
        go_wp2_with fail
        refine (HT2.out _ (((HX.out).upto hB).mono hsz)).mono ?_
        rintro e w9 ⟨rfl, hb9⟩
        have hB9 : Below w.heap.size w w9 := below_after hB hb9
        have hw9 := hB9.size
        have d0 : w9.cell? ⟨w.heap.size, 0, none⟩ = some (.int .i64 dl) := kp hb9 d0
        have d1 : w9.cell? ⟨w.heap.size, 1, none⟩ = some (.int .i64 dh) := kp hb9 d1
        have e0 : w9.cell? ⟨w3.heap.size, 0, none⟩ = some (.int .i64 s1) := kp hb9 e0
        have e1 : w9.cell? ⟨w3.heap.size, 1, none⟩ = some (.int .i64 s2) := kp hb9 e1
        have r1 : w9.cell? ⟨b, off + k * 3 + 1, none⟩ = some (.int .i64 x.lo) := kp hb9 r1
        have r2 : w9.cell? ⟨b, off + k * 3 + 2, none⟩ = some (.int .i64 x.hi) := kp hb9 r2
        clear hb9
        cases b8 <;> cases b9 <;>
        (go_upto_region 12 with fail
         go_quiet (fail)
         go_upto_region 13 with fail
         go_region_held3 (fun w' => Below w.heap.size w w' ∧ w'.cell? ⟨w.heap.size, 0, none⟩ = some (.int .i64 dl) ∧ w'.cell? ⟨w.heap.size, 1, none⟩ = some (.int .i64 dh) ∧ w'.cell? ⟨w3.heap.size, 0, none⟩ = some (.int .i64 s1) ∧ w'.cell? ⟨w3.heap.size, 1, none⟩ = some (.int .i64 s2) ∧ w'.cell? ⟨b, off + k * 3 + 1, none⟩ = some (.int .i64 x.lo) ∧ w'.cell? ⟨b, off + k * 3 + 2, none⟩ = some (.int .i64 x.hi))
           ((go_split_ands; refine ⟨?_, ?_, ?_, ?_, ?_, ?_, ?_⟩; (focus (first | (with_reducible assumption) | (go_grown; done) | (exact Below.drew (bdn (by assumption) _)) | (exact bdn (by assumption) _) | (exact Below.drew (by go_grown)))); (focus (first | (with_reducible assumption) | go_cell)); (focus (first | (with_reducible assumption) | go_cell)); (focus (first | (with_reducible assumption) | go_cell)); (focus (first | (with_reducible assumption) | go_cell)); (focus (first | (with_reducible assumption) | go_cell)); (focus (first | (with_reducible assumption) | go_cell))))
           ((go_split_ands; (with_reducible refine (HIN.out _).mono ?_); rintro e wq ⟨rfl, hbq⟩; have hBq : Below w.heap.size w wq := below_after (by assumption) hbq; have q0 : wq.cell? ⟨w.heap.size, 0, none⟩ = some (.int .i64 dl) := kp hbq (by assumption); have q1 : wq.cell? ⟨w.heap.size, 1, none⟩ = some (.int .i64 dh) := kp hbq (by assumption); have q2 : wq.cell? ⟨w3.heap.size, 0, none⟩ = some (.int .i64 s1) := kp hbq (by assumption); have q3 : wq.cell? ⟨w3.heap.size, 1, none⟩ = some (.int .i64 s2) := kp hbq (by assumption); have q8 : wq.cell? ⟨b, off + k * 3 + 1, none⟩ = some (.int .i64 x.lo) := kp hbq (by assumption); have q9 : wq.cell? ⟨b, off + k * 3 + 2, none⟩ = some (.int .i64 x.hi) := kp hbq (by assumption)))
         go_split_ands
         go_wp2_with fail
         go_roundg (gk - 1)
         case measure => omega
         case rel => (refine ⟨k + 1, _, _, by omega, by omega, by go_num, rfl, rfl, rfl, (by rw [H8.out]; first | rfl | (simp; done)), (by rw [H9.out]; first | rfl | (simp; done)), ?_, ?_, ?_, ?_, ?_⟩ <;> first | assumption | (go_grown; done) | (exact Below.drew (by go_grown)) | go_cell))
    · obtain rfl : k = n := by omega
      have hnlt : ¬ ((k : Int) < (k : Int)) := by omega
      have e8 := HA8.out
      have e9 := HA9.out
      rw [List.take_of_length_le (by rw [lay_length, HN.out]; exact Nat.le_refl _)] at e8 e9
      rw [HE.out.1] at e8
      rw [HE.out.2] at e9
      subst e8 e9
      go_wp2_with fail
      go_ret
      exact ⟨rfl, by go_grown⟩
theorem tou_walk (A : Option Addr) (n c : Nat) (xs : List Wt) (dl dh : Int) (w : World) (hn : xs.length = n) (hx : Wts? w.heap.size w A xs) : Calls Try.prog 18 #[.slice A n c, .agg #[.int .i64 dl, .int .i64 dh]] w fun e w' => e = .returned (.bool true) ∧ Below w.heap.size w w' := by
  by_cases h25 : n ≤ 25
  · cases h : (wValid xs && depB dl dh) with
    | false => exact tou_b A n c xs dl dh w hn hx h25 h
    | true => exact tou_go A n c xs dl dh w hn hx h25 (and_left h) (and_right h)
  · exact tou_many A n c xs dl dh w (by omega)
end Go.Proofs.Ytollpjdnahemeaa
