import Derived.Test.YtnhdnkeiijiiaaaGreatA4
import Derived.Laws.EntriesVeiled
import Derived.RangeFuncNested
import Derived.RangeFuncBound
import Derived.RangeFuncCalls
import Derived.RangeFuncLeaves
import Derived.RangeFuncBox
import Derived.Shelf.Abstract
import Derived.Shelf.RegionOpen
import Derived.WalkKit
import Derived.OwnWalkIn
import Derived.TacticsInMore
import Derived.LoopNIn
import Derived.LoopIn
import Derived.RegionIn
import Derived.Maps.AppendAt
import Derived.Maps.OwnIn
import Derived.Stop.RegionWithIn
import Derived.Sort.CutIn
import Derived.BigQuiet
import Derived.BigRegion
namespace Go.Proofs.YtnhdnkeiijiiaaaGreat
open Go.RowKit Go.Shelf
set_option linter.unusedSimpArgs false
set_option linter.unusedVariables false
attribute [local go_sem] Oper.semAt_some
set_option maxRecDepth 100000 in
set_option maxHeartbeats 1000000 in
theorem own_block {w : World} {base : Nat} {v : Value} {xs : List Pt} (h : Own w base v xs) (hne : xs ≠ []) : ∃ g cap, v = .slice (some ⟨g, 0, none⟩) xs.length cap ∧ base ≤ g ∧ g < w.heap.size := by
  rcases h.2 with ⟨-, hnz⟩ | ⟨g, cap, cur, rfl, hgb, hgh, hgc, hgm, hgs, hgt⟩
  · exact absurd (List.eq_nil_of_length_eq_zero hnz) hne
  · exact ⟨g, cap, rfl, hgb, (Array.getElem?_eq_some_iff.1 hgh).1⟩
theorem sort_own (base g n cap : Nat) (xs : List Pt) (w : World) (hn : n = xs.length) (hO : Own w base (.slice (some ⟨g, 0, none⟩) n cap) xs) (hbig : xs.length ≤ 1000000000) :
    Calls Tryz.prog 126 #[.slice (some ⟨g, 0, none⟩) n cap, .func (.func 127) #[] #[]] w fun e w' => e = .returned (.tuple #[]) ∧ Own w' base (.slice (some ⟨g, 0, none⟩) n cap) (sortS xs) ∧ Below base w w' := by
  subst hn
  rcases hO.2 with ⟨h, -⟩ | ⟨g', cap', cur, hv, hgb, hgh, hgc, hgm, hgs, hgt⟩
  · cases h
  cases hv
  have hg1 : g < w.heap.size := (Array.getElem?_eq_some_iff.1 hgh).1
  refine (sort_any g cap xs w (holdsK_of_block hgh hgt) hg1 hbig).mono ?_
  rintro e w2 ⟨rfl, ys, nd, os, hperm, hpw, hw2⟩
  have hys : ys = sortS xs := sorted_is hperm hpw
  subst hys
  refine ⟨rfl, ?_, ?_⟩
  · rw [hw2]
    have h9 := own_sorted (base := base) (n := nd) (os := os) (sortS_len xs) hgb hgh hgc hgm hgs
    rwa [sortS_len] at h9
  · have hbw : Below base w w := Below.refl _ w
    rw [hw2]
    exact hbw.grown (grownBy_sortedK _) (Nat.le_trans hgb (Nat.le_of_lt hg1)) (by intro k hk; cases hk; exact hgb)
set_option maxRecDepth 100000 in
set_option maxHeartbeats 1000000 in
theorem around_few (A : Option Addr) (n c : Nat) (xs ss : List Pt) (w : World) (hn : xs.length = n) (hA : A = none → n = 0 ∧ c = 0) (hx : Pts? w.heap.size w A xs) (hbig : n ≤ 1000000) (hss : dedup (sortS xs) = ss) (hx0 : xs ≠ []) (h3 : ss.length < 3) :
    Calls Tryz.prog 103 #[.slice A n c] w (RetPts w.heap.size w ss) := by
  have HX := Lib.hid hx
  have HN := Lib.hid hn
  have HA := Lib.hid hA
  have hcm := fun (W : World) (g cap : Nat) (hO : Own W w.heap.size (.slice (some ⟨g, 0, none⟩) n cap) (sortS xs)) => compact_any w.heap.size g n cap (sortS xs) W (by rw [sortS_len, hn]) hO (by omega)
  rw [hss] at hcm
  have HCM := Lib.hid hcm
  have hso := fun (W : World) (g cap : Nat) (hO : Own W w.heap.size (.slice (some ⟨g, 0, none⟩) n cap) xs) => sort_own w.heap.size g n cap xs W hn.symm hO (by omega)
  have HSO := Lib.hid hso
  have hob := fun (W : World) (v : Value) (hO : Own W w.heap.size v xs) => own_block hO hx0
  rw [hn] at hob
  have HOB := Lib.hid hob
  clear hx hn hA hss hx0 hcm hso hob
  have h3i : ((ss.length : Nat) : Int) < 3 := by omega
  refine (callsIn_wide (n := 6)).1 ?_
  refine callsIn_of_wp_marks Tryz.func103 rfl trivial ?_ rfl
  simp only [Tryz.ntmps103, List.size_toArray, List.length_cons, List.length_nil, Nat.reduceAdd, Nat.reduceSub, Array.replicate_succ, Array.replicate_zero, List.push_toArray, List.append_toArray, List.nil_append, List.cons_append]
  gi_wp2_with (refine ⟨trivial, ?_⟩; gi_at_call 94; refine (callsIn_wide.2 (clone_any A n c xs _ HN.out HA.out HX.out (by omega))).mono ?_; rintro e w1 ⟨v1, rfl, ho1, hB1⟩; obtain ⟨g, cap, rfl, hgb, hg1⟩ := HOB.out _ _ ho1; have HO1 := Lib.hid ho1; clear ho1 HX HA HOB)
  gi_wp2_with (refine ⟨trivial, ?_⟩; gi_at_call 126; refine (callsIn_wide.2 (HSO.out _ _ _ HO1.out)).mono ?_; rintro e w2 ⟨rfl, hown2, hB2'⟩; have hB2 : Below w.heap.size w w2 := hB1.trans hB2'; have HO2 := Lib.hid hown2; have hg2 : g < w2.heap.size := Nat.lt_of_lt_of_le hg1 hB2'.size; clear hown2 hB1 hB2' HO1 hg1 HSO)
  gi_wp2_with (refine ⟨trivial, ?_⟩; gi_at_call 128; refine (callsIn_wide.2 (HCM.out _ _ _ HO2.out)).mono ?_; rintro e w3 ⟨rfl, hown3, hB3⟩; have hB4 : Below w.heap.size w w3 := hB2.trans hB3; have hg3 : g < w3.heap.size := Nat.lt_of_lt_of_le hg2 hB3.size; have HO3 := Lib.hid hown3; clear hown3 hB2 hB3 HO2 HCM hg2)
  refine ⟨.slice (some ⟨g, 0, none⟩) ss.length cap, ?_, _, rfl, HO3.out, hB4⟩
  simp [results, Tryz.f103, go_sem]
set_option maxRecDepth 100000 in
set_option maxHeartbeats 1000000 in
theorem around_many (A : Option Addr) (n c : Nat) (xs ss : List Pt) (w : World) (hn : xs.length = n) (hA : A = none → n = 0 ∧ c = 0) (hx : Pts? w.heap.size w A xs) (hbig : n ≤ 1000000) (hss : dedup (sortS xs) = ss) (hx0 : xs ≠ []) (h3 : ¬ ss.length < 3) (hsl : ss.length ≤ 1000000) (hsnr : ∀ p ∈ ss, Nr p) :
    Calls Tryz.prog 103 #[.slice A n c] w (RetPts w.heap.size w ((chainS ss).dropLast ++ (chainS ss.reverse).dropLast)) := by
  have HX := Lib.hid hx
  have HN := Lib.hid hn
  have HA := Lib.hid hA
  have hcm := fun (W : World) (g cap : Nat) (hO : Own W w.heap.size (.slice (some ⟨g, 0, none⟩) n cap) (sortS xs)) => compact_any w.heap.size g n cap (sortS xs) W (by rw [sortS_len, hn]) hO (by omega)
  rw [hss] at hcm
  have HCM := Lib.hid hcm
  have hso := fun (W : World) (g cap : Nat) (hO : Own W w.heap.size (.slice (some ⟨g, 0, none⟩) n cap) xs) => sort_own w.heap.size g n cap xs W hn.symm hO (by omega)
  have HSO := Lib.hid hso
  have hob := fun (W : World) (v : Value) (hO : Own W w.heap.size v xs) => own_block hO hx0
  rw [hn] at hob
  have HOB := Lib.hid hob
  clear hx hn hA hss hx0 hcm hso hob
  have HSNR := Lib.hid hsnr
  clear hsnr
  have h3i : ¬ ((ss.length : Nat) : Int) < 3 := by omega
  refine (callsIn_wide (n := 6)).1 ?_
  refine callsIn_of_wp_marks Tryz.func103 rfl trivial ?_ rfl
  simp only [Tryz.ntmps103, List.size_toArray, List.length_cons, List.length_nil, Nat.reduceAdd, Nat.reduceSub, Array.replicate_succ, Array.replicate_zero, List.push_toArray, List.append_toArray, List.nil_append, List.cons_append]
  gi_wp2_with (refine ⟨trivial, ?_⟩; gi_at_call 94; refine (callsIn_wide.2 (clone_any A n c xs _ HN.out HA.out HX.out (by omega))).mono ?_; rintro e w1 ⟨v1, rfl, ho1, hB1⟩; obtain ⟨g, cap, rfl, hgb, hg1⟩ := HOB.out _ _ ho1; have HO1 := Lib.hid ho1; clear ho1 HX HA HOB)
  gi_wp2_with (refine ⟨trivial, ?_⟩; gi_at_call 126; refine (callsIn_wide.2 (HSO.out _ _ _ HO1.out)).mono ?_; rintro e w2 ⟨rfl, hown2, hB2'⟩; have hB2 : Below w.heap.size w w2 := hB1.trans hB2'; have HO2 := Lib.hid hown2; have hg2 : g < w2.heap.size := Nat.lt_of_lt_of_le hg1 hB2'.size; clear hown2 hB1 hB2' HO1 hg1 HSO)
  gi_wp2_with (refine ⟨trivial, ?_⟩; gi_at_call 128; refine (callsIn_wide.2 (HCM.out _ _ _ HO2.out)).mono ?_; rintro e w3 ⟨rfl, hown3, hB3⟩; have hB4 : Below w.heap.size w w3 := hB2.trans hB3; have hg3 : g < w3.heap.size := Nat.lt_of_lt_of_le hg2 hB3.size; have HO3 := Lib.hid hown3; clear hown3 hB2 hB3 HO2 HCM hg2)
  have hgw3 := hgb
  have a1 : Below w3.heap.size w3 (((w3.alloc (.cells #[.slice none 0 0] 153)).alloc (.cells #[.slice none 0 0] 153)).alloc (.cells #[.func (.func 129) #[.pointer (some ⟨w3.heap.size, 0, none⟩)] #[]] 154)) := by go_grown
  have ar0 : Arnd w w3.heap.size w3.heap.size (w3.heap.size + 1) g cap ss (.slice none 0 0) (.slice none 0 0) (chainS []) [] (((w3.alloc (.cells #[.slice none 0 0] 153)).alloc (.cells #[.slice none 0 0] 153)).alloc (.cells #[.func (.func 129) #[.pointer (some ⟨w3.heap.size, 0, none⟩)] #[]] 154)) :=
    ⟨hB4.trans (a1.mono hB4.size), by simp, hB4.size, hg3, hgb, by omega, by omega, by omega, by omega, by omega,
      (Below.heap_alloc _ _ _ (by simp; omega)).trans ((Below.heap_alloc _ _ _ (by simp)).trans (World.alloc_heap_new w3 _)),
      (Below.heap_alloc _ _ _ (by simp)).trans (by have h9 := World.alloc_heap_new (w3.alloc (.cells #[.slice none 0 0] 153)) (.cells #[.slice none 0 0] 153); rw [World.size_alloc] at h9; exact h9),
      own_nil _ _, own_nil _ _, (fun j e => by cases e), (fun j e => by cases e), (fun j e => by cases e), HO3.out.later a1⟩
  have f0 : (((w3.alloc (.cells #[.slice none 0 0] 153)).alloc (.cells #[.slice none 0 0] 153)).alloc (.cells #[.func (.func 129) #[.pointer (some ⟨w3.heap.size, 0, none⟩)] #[]] 154)).heap[w3.heap.size + 2]? = some (.cells #[.func (.func 129) #[.pointer (some ⟨w3.heap.size, 0, none⟩)] #[]] 154 (0, 0)) := by
    have h9 := World.alloc_heap_new ((w3.alloc (.cells #[.slice none 0 0] 153)).alloc (.cells #[.slice none 0 0] 153)) (.cells #[.func (.func 129) #[.pointer (some ⟨w3.heap.size, 0, none⟩)] #[]] 154)
    rw [World.size_alloc, World.size_alloc] at h9; exact h9
  generalize (((w3.alloc (.cells #[.slice none 0 0] 153)).alloc (.cells #[.slice none 0 0] 153)).alloc (.cells #[.func (.func 129) #[.pointer (some ⟨w3.heap.size, 0, none⟩)] #[]] 154)) = W0 at *
  generalize w3.heap.size = b3 at *
  have h3b : decide (((ss.length : Nat) : Int) < 3) = false := by simp; omega
  clear a1 HO3 hB4 HN hgb hgw3
  simp only [h3b, Nat.add_assoc, Nat.reduceAdd]
  gi_loopw [24] (fun s24 wr => ∃ k : Nat, k ≤ ss.length ∧ s24 = .int .i64 k ∧ (∃ l, Arnd w b3 b3 (b3 + 1) g cap ss l (.slice none 0 0) (chainS (ss.take k)) [] wr) ∧ wr.heap[b3 + 2]? = some (.cells #[.func (.func 129) #[.pointer (some ⟨b3, 0, none⟩)] #[]] 154 (0, 0)))
    (fun s24 _ => ss.length - (intOf s24).toNat)
  case atStart => exact ⟨0, Nat.zero_le _, rfl, ⟨_, by rw [List.take_zero]; exact ar0⟩, f0⟩
  case round =>
    obtain ⟨k, hk, rfl, ⟨l, hAr⟩, hfu⟩ := hrel
    have HAR := Lib.hid hAr
    have HFU := Lib.hid hfu
    by_cases hlt : k < ss.length
    · obtain ⟨⟨px, py⟩, hpk⟩ : ∃ p, ss[k]? = some p := ⟨_, List.getElem?_eq_getElem hlt⟩
      obtain ⟨c0, c1, -, -⟩ := hAr.oS.at rfl hpk
      have hlt2 : (k : Int) < (ss.length : Int) := by omega
      have hnp := HSNR.out _ (List.mem_of_getElem? hpk)
      have hsnoc : chainS (ss.take (k + 1)) = pushS (chainS (ss.take k)) ⟨px, py⟩ := by rw [List.take_add_one, hpk]; exact chainS_snoc _ _
      have HSN := Lib.hid hsnoc
      have HNP := Lib.hid hnp
      have fu0 : wr.cell? ⟨b3 + 2, 0, none⟩ = some (.func (.func 129) #[.pointer (some ⟨b3, 0, none⟩)] #[]) := by simp [World.cell?, hfu]
      have hin : ∀ p ∈ chainS (ss.take k), Nr p := fun p hp => HSNR.out p (List.mem_of_mem_take (chainS_sub hp))
      have hil : (chainS (ss.take k)).length ≤ 1000000 := Nat.le_trans (chainS_len _) (by rw [List.length_take]; omega)
      have hpu := fun (W : World) (hb : Below wr.heap.size wr W) => push_any w.heap.size b3 l (chainS (ss.take k)) ⟨px, py⟩ W ((HAR.out.later hb).cB) (HAR.out.later hb).oB hin HNP.out hil (fun e => by have := HAR.out.lB _ e; omega) (HAR.out.later hb).below.size
      have HPU := Lib.hid hpu
      clear hpk hnp hsnoc hin hil hpu hAr hfu
      dsimp only at c0 c1
      have hb0 : Below wr.heap.size wr (wr.alloc (.cells #[.int .i64 px, .int .i64 py] 23)) := by go_grown
      gi_wp2_with (refine ⟨trivial, ?_⟩; gi_at_call 129; refine (callsIn_wide.2 (HPU.out _ hb0)).mono ?_; rintro e W2 ⟨rfl, hpd⟩; have hst := (HAR.out.later hb0).push hpd; have HST := Lib.hid hst; have hfu2 := hst.2.trans (HAR.out.func HFU.out hb0); have HFU2 := Lib.hid hfu2; clear hpd hst hfu2)
      go_roundw
      case rel => exact ⟨k + 1, by omega, by go_num, by rw [HSN.out]; exact HST.out.1, HFU2.out⟩
      case measure => simp [intOf]; omega
    · obtain rfl : k = ss.length := by omega
      have hlt2 : ¬ ((ss.length : Nat) : Int) < (ss.length : Int) := by omega
      have har1 : Arnd w b3 b3 (b3 + 1) g cap ss l (.slice none 0 0) (chainS ss) [] wr := by rw [List.take_length] at hAr; exact hAr
      have HA1 := Lib.hid har1
      have fu0 : wr.cell? ⟨b3 + 2, 0, none⟩ = some (.func (.func 129) #[.pointer (some ⟨b3, 0, none⟩)] #[]) := by simp [World.cell?, hfu]
      have fz0 : wr.frozen? ⟨b3 + 2, 0, none⟩ = false := by simp [World.frozen?, hfu]
      clear hAr har1 HAR
      gi_wp2_with (refine ⟨trivial, ?_⟩; gi_at_call 130; refine (back_in Fence.wide 5 trivial rfl _ _ _ _).mono ?_; rintro e W1 ⟨rfl, rfl⟩)
      have hsz1 : wr.heap.size = (wr.setCell ⟨b3 + 2, 0, none⟩ (.func (.func 129) #[.pointer (some ⟨b3 + 1, 0, none⟩)] #[])).heap.size := (World.size_setCell _ _ _).symm
      have ar1 := HA1.out.swap.setF (.func (.func 129) #[.pointer (some ⟨b3 + 1, 0, none⟩)] #[])
      have f1 : (wr.setCell ⟨b3 + 2, 0, none⟩ (.func (.func 129) #[.pointer (some ⟨b3 + 1, 0, none⟩)] #[])).heap[b3 + 2]? = some (.cells #[.func (.func 129) #[.pointer (some ⟨b3 + 1, 0, none⟩)] #[]] 154 (0, 0)) := one_setCell hfu
      rw [hsz1]
      clear hsz1 HA1 HFU hfu fu0 fz0 hlt hk hlt2 ar0 f0
      generalize (wr.setCell ⟨b3 + 2, 0, none⟩ (.func (.func 129) #[.pointer (some ⟨b3 + 1, 0, none⟩)] #[])) = W1 at *
      have hb1 : Below W1.heap.size W1 (W1.alloc (.cells #[.slice (some ⟨g, 0, none⟩) ss.length cap] 39)) := by go_grown
      have ar2 := ar1.later hb1
      have f2 := ar1.func f1 hb1
      have hBs : (W1.alloc (.cells #[.slice (some ⟨g, 0, none⟩) ss.length cap] 39)).heap[W1.heap.size]? = some (.cells #[.slice (some ⟨g, 0, none⟩) ss.length cap] 39 (0, 0)) := World.alloc_heap_new _ _
      have hBs3 : b3 + 3 ≤ W1.heap.size := ar1.size
      clear ar1 f1 hb1
      generalize hW2 : (W1.alloc (.cells #[.slice (some ⟨g, 0, none⟩) ss.length cap] 39)) = W2 at *
      generalize W1.heap.size = Bs at *
      clear hW2
      have hpt : Pts? b3 W2 (some ⟨g, 0, none⟩) ss := fun _ => ⟨g, 0, rfl, hg3, fun i r hr => by
        obtain ⟨c0, c1, -, -⟩ := ar2.oS.at rfl hr
        exact ⟨by simpa using c0, by simpa using c1⟩⟩
      refine wpIn_rangeFunc_ownH rfl (by omega) (gf := 142) (lb := #[.pointer (some ⟨Bs, 0, none⟩)]) rfl trivial (enters_of Tryz.func142 (by kernel_rfl) rfl)
        (back_stops Fence.wide _ trivial rfl (by omega) Bs b3 (some ⟨g, 0, none⟩) ss.length cap ss rfl (by omega) W2 (by have := ar2.size; omega) hBs hpt) kp39_t (kp39_b (by have := ar2.size; omega)) (Below.refl _ _) (fun _ => rfl)
        (fun pre W => (∃ h, Arnd w b3 (b3 + 1) b3 g cap ss h l (chainS (pts pre)) (chainS ss) W) ∧ W.heap[b3 + 2]? = some (.cells #[.func (.func 129) #[.pointer (some ⟨b3 + 1, 0, none⟩)] #[]] 154 (0, 0)))
        (fun cd pre W => False)
        (fun s A B row hs hg hr => ⟨hs.1.imp fun h a => a.kept hg (fun r e => ⟨by have := (hr r e).1; have := ar2.size; omega, (hr r e).2⟩), (grownBy_keeps_cells hg (fun r e => (hr r e).2) hs.2 rfl).trans hs.2⟩)
        (fun c s A B row hs hg hr => hs)
        ⟨⟨_, ar2⟩, f2⟩
        (fun x a' W => ∃ Ba, b3 + 3 ≤ Ba ∧ PtAt W Ba 0 x.1.2 ∧ a' = { tmps := #[.slice A n c, undef, .slice none 0 0, .slice (some ⟨g, 0, none⟩) ss.length cap, .pointer (some ⟨b3, 0, none⟩), .pointer (some ⟨b3 + 1, 0, none⟩), .pointer (some ⟨b3 + 2, 0, none⟩), undef, u8, undef, .pointer (some ⟨Ba, 0, none⟩), .slice A n c, .slice (some ⟨g, 0, none⟩) n cap, .slice (some ⟨g, 0, none⟩) n cap, .tuple #[], .slice (some ⟨g, 0, none⟩) n cap, .slice (some ⟨g, 0, none⟩) ss.length cap, .slice (some ⟨g, 0, none⟩) ss.length cap, .int .i64 ↑ss.length, .bool false, undef, .func (.func 129) #[.pointer (some ⟨b3, 0, none⟩)] #[], .slice (some ⟨g, 0, none⟩) ss.length cap, .int .i64 ↑ss.length, .int .i64 ↑ss.length, .bool false, u26, u27, u28, u29, u30, u31, .func (.func 129) #[.pointer (some ⟨b3 + 1, 0, none⟩)] #[], .slice (some ⟨g, 0, none⟩) ss.length cap, .func (.func 142) #[] #[.pointer (some ⟨Bs, 0, none⟩)], .int .i64 ↑x.1.1, .agg #[.int .i64 x.1.2.x, .int .i64 x.1.2.y], undef, undef, undef, undef, undef, undef, undef, undef, undef, undef, undef, undef, undef, undef, undef, undef, undef], defers := [] })
        (fun x a' _ X Y row hs hg hr => by
          obtain ⟨Ba, h1, ⟨h3, h4⟩, h7⟩ := hs
          exact ⟨Ba, h1, ⟨cell_kept h3 hg (fun r e => (hr r e).2), cell_kept h4 hg (fun r e => (hr r e).2)⟩, h7⟩)
        ?assign ?body ?done ?stop
      case assign =>
        rintro l9 pre x W K ⟨⟨h, hAr⟩, hfu⟩ hK
        gi_wp2
        have hbn : Below W.heap.size W (W.alloc (.cells #[.int .i64 x.1.2.x, .int .i64 x.1.2.y] 23)) := by go_grown
        exact hK _ _ (keepsFrom_of hbn _) ⟨hbn.mono (by have := hAr.size; omega), Keep39.below hbn⟩ ⟨⟨h, hAr.later hbn⟩, hAr.func hfu hbn⟩ ⟨W.heap.size, hAr.size, ⟨by go_cell, by go_cell⟩, rfl⟩
      case stop =>
        rintro D cd pre W hD hpre hF
        exact hF.elim
      case body =>
        rintro l9 pre ⟨⟨i, ⟨px, py⟩⟩, hmem⟩ a' W hl hr ⟨⟨h, hAr⟩, hfu⟩ ⟨Ba, hBa, ⟨x0, x1⟩, rfl⟩ hlen
        dsimp only at x0 x1 hmem ⊢
        simp only [Nat.zero_add] at x1
        have hnp := HSNR.out _ (List.mem_of_getElem? hmem)
        have hfc : W.cell? ⟨b3 + 2, 0, none⟩ = some (.func (.func 129) #[.pointer (some ⟨b3 + 1, 0, none⟩)] #[]) := by simp [World.cell?, hfu]
        have hin : ∀ p ∈ chainS (pts pre), Nr p := fun p hp => by
          obtain ⟨s, -, rfl⟩ := List.mem_map.1 (chainS_sub hp)
          exact HSNR.out _ (List.mem_of_getElem? s.2)
        have hil : (chainS (pts pre)).length ≤ 1000000 := Nat.le_trans (chainS_len _) (by simp [pts]; omega)
        have hpu := push_any w.heap.size (b3 + 1) h (chainS (pts pre)) ⟨px, py⟩ W hAr.cB hAr.oB hin hnp hil (fun e => by have := hAr.lB _ e; omega) hAr.below.size
        have HPU := Lib.hid hpu
        have HAR := Lib.hid hAr
        have HFU := Lib.hid hfu
        clear hin hil hpu hnp hAr hfu
        gi_wp2
        refine ⟨trivial, (CallsIn.inRound l9 (callsIn_wide.2 HPU.out)).mono ?_⟩
        rintro e W5 ⟨rfl, hpd⟩
        have hst := HAR.out.push hpd
        have hf5 := hst.2.trans HFU.out
        have hko := pushed_others hpd HAR.out.cB HAR.out.oB
        have h39 := pushed_39 hpd HAR.out.cB HAR.out.oB
        have hbe := HAR.out.push_below hpd
        have hsn : chainS (pts (pre ++ [(⟨(i, ⟨px, py⟩), hmem⟩ : Bk ss)])) = pushS (chainS (pts pre)) ⟨px, py⟩ := by
          rw [← chainS_snoc]; simp [pts]
        have HX := Lib.hid (And.intro hst.1 (And.intro hf5 (And.intro hko (And.intro h39 (And.intro hbe hsn)))))
        clear hpd hst hf5 hko h39 hbe hsn
        gi_wp2
        obtain ⟨hs1, hf5, hko, h39, hbe, hsn⟩ := HX.out
        exact ⟨hko.from _, ⟨hbe, h39⟩, ⟨by rw [hsn]; exact hs1, hf5⟩⟩
      case done =>
        rintro D ys W hD hys ⟨⟨h, hAr⟩, hfu⟩ hK
        rw [hys] at hAr
        have hl2 : 2 ≤ (chainS ss).length := chainS_two (by omega)
        have hh2 : 2 ≤ (chainS ss.reverse).length := chainS_two (by rw [List.length_reverse]; omega)
        have hl6 : (chainS ss).length ≤ 1000000 := Nat.le_trans (chainS_len _) hsl
        have hh6 : (chainS ss.reverse).length ≤ 1000000 := Nat.le_trans (chainS_len _) (by rw [List.length_reverse]; exact hsl)
        have hol := hAr.oC
        have hoh := hAr.oB
        obtain ⟨gl, c1, rfl, hgl, hgl1⟩ := own_block hAr.oC (by intro e; rw [e] at hl2; simp at hl2)
        obtain ⟨gh, c2, rfl, hgh, hgh1⟩ := own_block hAr.oB (by intro e; rw [e] at hh2; simp at hh2)
        obtain ⟨_, _, e1, hc1, -⟩ := hAr.oC.slice
        obtain ⟨_, _, e2, hc2, -⟩ := hAr.oB.slice
        cases e1
        cases e2
        have cl : W.cell? ⟨b3, 0, none⟩ = some (.slice (some ⟨gl, 0, none⟩) (chainS ss).length c1) := by simp [World.cell?, hAr.cC]
        have ch : W.cell? ⟨b3 + 1, 0, none⟩ = some (.slice (some ⟨gh, 0, none⟩) (chainS ss.reverse).length c2) := by simp [World.cell?, hAr.cB]
        have HOL := Lib.hid hol
        have HOH := Lib.hid hoh
        have HAR := Lib.hid hAr
        clear hAr hol hoh hfu hys
        generalize hlc : chainS ss = lc at *
        generalize hhc : chainS ss.reverse = hc at *
        clear hlc hhc
        obtain ⟨a, ha⟩ : ∃ a, lc.length = a + 1 := ⟨lc.length - 1, by omega⟩
        obtain ⟨b, hb⟩ : ∃ b, hc.length = b + 1 := ⟨hc.length - 1, by omega⟩
        rw [ha] at cl hc1 hl2 hl6
        rw [hb] at ch hc2 hh2 hh6
        have HA := Lib.hid ha
        have HB := Lib.hid hb
        clear ha hb
        have q1 : IntKind.i64.wrap ((a : Int) + 1 - 1) = (a : Int) := by rw [show (a : Int) + 1 - 1 = (a : Int) by omega]; exact IntWalk.i64_in _ (by omega)
        have q2 : IntKind.i64.wrap ((b : Int) + 1 - 1) = (b : Int) := by rw [show (b : Int) + 1 - 1 = (b : Int) by omega]; exact IntWalk.i64_in _ (by omega)
        have q3 : IntKind.i64.wrap (a : Int) = (a : Int) := IntWalk.i64_in _ (by omega)
        have q4 : IntKind.i64.wrap (b : Int) = (b : Int) := IntWalk.i64_in _ (by omega)
        have q5 : (a : Int) ≤ (c1 : Int) := by omega
        have q6 : (b : Int) ≤ (c2 : Int) := by omega
        have q7 : (0 : Int) ≤ (a : Int) := by omega
        have q8 : (0 : Int) ≤ (b : Int) := by omega
        have hp : ∀ ops, PlainOps Fence.wide ops := fun ops => plainOps_none rfl
        have hbp : Below W.heap.size W W.drew := Below.drew (Below.refl _ _)
        have hol2 : Own W.drew w.heap.size (.slice (some ⟨gl, 0, none⟩) (lc.take a).length c1) (lc.take a) := (HOL.out.later hbp).take (by have := HA.out; omega)
        have hoh2 : Own W.drew w.heap.size (.slice (some ⟨gh, 0, none⟩) (hc.take b).length c2) (hc.take b) := (HOH.out.later hbp).take (by have := HB.out; omega)
        have la : (lc.take a).length = a := by have := HA.out; rw [List.length_take]; omega
        have lb : (hc.take b).length = b := by have := HB.out; rw [List.length_take]; omega
        obtain ⟨cap9, cells9, happ, hown9⟩ := append_pts_grow W.drew w.heap.size w.heap.size gl gh c1 c2 c2 153 (lc.take a) (hc.take b) hol2 hoh2 (by omega) (by omega) HAR.out.below.size
        rw [la, lb] at happ hown9
        have HAPP := Lib.hid happ
        have HOWN9 := Lib.hid hown9
        clear hbp hol2 hoh2 la lb happ hown9
        gi_wp2
        refine held_begin [0, 1, 2, 3, 4, 5, 6, 7, 8, 9, 10, 11, 12] (fun w9 => w9 = W.drew) (by kernel_rfl) (rfl) (fun hS => ?_)
        replace cl : W.drew.cell? ⟨b3, 0, none⟩ = some (.slice (some ⟨gl, 0, none⟩) (a + 1) c1) := cl
        replace ch : W.drew.cell? ⟨b3 + 1, 0, none⟩ = some (.slice (some ⟨gh, 0, none⟩) (b + 1) c2) := ch
        generalize hz : W.drew = z at *
        refine tk 0 (v := ?_) (hp _) hS rfl (fun _ _ _ _ => trivial) ?_ ?_
        rotate_left 1
        · intro w hw; (try rw [hw]); (try go_split_ands); go_simp <;> with_reducible rfl
        try simp only [Act.put, st]
        refine tk 1 (v := ?_) (hp _) hS rfl (fun _ _ _ _ => trivial) ?_ ?_
        rotate_left 1
        · intro w hw; (try rw [hw]); (try go_split_ands); go_simp <;> with_reducible rfl
        try simp only [Act.put, st]
        refine tk 2 (v := ?_) (hp _) hS rfl (fun _ _ _ _ => trivial) ?_ ?_
        rotate_left 1
        · intro w hw; (try rw [hw]); (try go_split_ands); go_simp <;> with_reducible rfl
        try simp only [Act.put, st]
        refine tk 3 (v := ?_) (hp _) hS rfl (fun _ _ _ _ => trivial) ?_ ?_
        rotate_left 1
        · intro w hw; (try rw [hw]); (try go_split_ands); go_simp <;> with_reducible rfl
        try simp only [Act.put, st]
        refine tk 4 (v := ?_) (hp _) hS rfl (fun _ _ _ _ => trivial) ?_ ?_
        rotate_left 1
        · intro w hw; (try rw [hw]); (try go_split_ands); go_simp <;> with_reducible rfl
        try simp only [Act.put, st]
        refine tk 5 (v := ?_) (hp _) hS rfl (fun _ _ _ _ => trivial) ?_ ?_
        rotate_left 1
        · intro w hw; (try rw [hw]); (try go_split_ands); go_simp <;> with_reducible rfl
        try simp only [Act.put, st]
        refine tk 6 (v := ?_) (hp _) hS rfl (fun _ _ _ _ => trivial) ?_ ?_
        rotate_left 1
        · intro w hw; (try rw [hw]); (try go_split_ands); go_simp <;> with_reducible rfl
        try simp only [Act.put, st]
        refine tk 7 (v := ?_) (hp _) hS rfl (fun _ _ _ _ => trivial) ?_ ?_
        rotate_left 1
        · intro w hw; (try rw [hw]); (try go_split_ands); go_simp <;> with_reducible rfl
        try simp only [Act.put, st]
        refine tk 8 (v := ?_) (hp _) hS rfl (fun _ _ _ _ => trivial) ?_ ?_
        rotate_left 1
        · intro w hw; (try rw [hw]); (try go_split_ands); go_simp <;> with_reducible rfl
        try simp only [Act.put, st]
        refine tk 9 (v := ?_) (hp _) hS rfl (fun _ _ _ _ => trivial) ?_ ?_
        rotate_left 1
        · intro w hw; (try rw [hw]); (try go_split_ands); go_simp <;> with_reducible rfl
        try simp only [Act.put, st]
        refine tk 10 (v := ?_) (hp _) hS rfl (fun _ _ _ _ => trivial) ?_ ?_
        rotate_left 1
        · intro w hw; (try rw [hw]); (try go_split_ands); go_simp <;> with_reducible rfl
        try simp only [Act.put, st]
        refine tk 11 (v := ?_) (hp _) hS rfl (fun _ _ _ _ => trivial) ?_ ?_
        rotate_left 1
        · intro w hw; (try rw [hw]); (try go_split_ands); go_simp <;> with_reducible rfl
        try simp only [Act.put, st]
        refine tk 12 (v := ?_) (hp _) hS rfl (fun _ _ _ _ => trivial) ?_ ?_
        rotate_left 1
        · intro w hw; (try rw [hw]); (try go_split_ands); go_simp <;> with_reducible rfl
        try simp only [Act.put, st]
        refine held_one 13 rfl (hp _) (by kernel_rfl) (by kernel_rfl) (by kernel_rfl) (fun K hK => ⟨?_, ?_⟩)
        · exact fun _ _ => trivial
        rw [run_append_op (s := .tmp 47) (x := .tmp 52) rfl _ _ _ rfl rfl HAPP.out]
        go_simp
        refine hK _ _ ?_
        clear hK K
        try simp only [Act.put, st]
        refine held_one 14 rfl (hp _) (by kernel_rfl) (by kernel_rfl) (by kernel_rfl) (fun K hK => ⟨?_, ?_⟩)
        · exact fun _ _ => trivial
        go_simp
        refine hK _ _ ?_
        clear hK K
        try simp only [Act.put, st]
        refine held_end (by kernel_rfl) ?_
        have hDlt : D < W.heap.size := (Array.getElem?_eq_some_iff.1 hK).1
        have hbz : Below W.heap.size W (z.alloc (.cells cells9 23)).drew := by
          subst hz
          exact Below.drew ((Below.drew (Below.refl _ W)).alloc (Nat.le_refl _) _)
        have hown : Own (z.alloc (.cells cells9 23)).drew w.heap.size (.slice (some ⟨z.heap.size, 0, none⟩) (a + b) cap9) (lc.dropLast ++ hc.dropLast) := by
          rw [List.dropLast_eq_take, List.dropLast_eq_take, HA.out, HB.out]
          exact HOWN9.out
        have hK' := (hbz.block D hDlt).trans hK
        have hwD : w.heap.size ≤ D := Nat.le_trans ar2.below.size hD
        have hbw := HAR.out.below.trans (hbz.mono HAR.out.below.size)
        clear hS cl ch HAPP HOWN9 HOL HOH HAR hbz
        generalize (z.alloc (.cells cells9 23)).drew = Z at *
        gi_wp2
        refine ⟨by simp, .inl ⟨_, _, rfl, run_takeDeferred hK', ?_⟩⟩
        refine ⟨.slice (some ⟨z.heap.size, 0, none⟩) (a + b) cap9, ?_, _, rfl, own_grown hown (grownBy_putObj' _ D (.deferred none)) (fun r e => by cases e; exact ⟨_, hK', rfl⟩), hbw.trans (belowK_b (w := w) (Nat.le_refl _) _ D _ _ hwD hK' rfl rfl)⟩
        simp [results, Tryz.f103, go_sem]
set_option maxRecDepth 100000 in
set_option maxHeartbeats 1000000 in
/-- hull.around -/
theorem around_any (A : Option Addr) (n c : Nat) (xs : List Pt) (w : World) (hn : xs.length = n) (hA : A = none → n = 0 ∧ c = 0) (hx : Pts? w.heap.size w A xs) (hbig : n ≤ 1000000) (hx0 : xs ≠ []) (hnr : ∀ p ∈ xs, Nr p) :
    Calls Tryz.prog 103 #[.slice A n c] w (RetPts w.heap.size w (hullS xs)) := by
  have hsl : (dedup (sortS xs)).length ≤ 1000000 := Nat.le_trans (dedup_le _) (by rw [sortS_len, hn]; exact hbig)
  by_cases h3 : (dedup (sortS xs)).length < 3
  · have h9 := around_few A n c xs _ w hn hA hx hbig rfl hx0 h3
    have e : hullS xs = dedup (sortS xs) := by unfold hullS; exact if_pos h3
    rw [e]; exact h9
  · have h9 := around_many A n c xs _ w hn hA hx hbig rfl hx0 h3 hsl (fun p hp => hnr p (sortS_mem.1 ((dedup_mem _ _).1 hp)))
    have e : hullS xs = (chainS (dedup (sortS xs))).dropLast ++ (chainS (dedup (sortS xs)).reverse).dropLast := by unfold hullS; exact if_neg h3
    rw [e]; exact h9
end Go.Proofs.YtnhdnkeiijiiaaaGreat
namespace Go.Proofs.YtnhdnkeiijiiaaaGreat
open Go.RowKit Go.Shelf
set_option linter.unusedSimpArgs false
set_option linter.unusedVariables false
set_option maxHeartbeats 1600000 in
set_option maxRecDepth 100000 in
theorem idx125_out (q : Pt → Bool) (A : Option Addr) (n c : Nat) (rs : List Pt) (w : World) (hn : rs.length = n) (hbig : n ≤ 9223372036854775807) (hx : Pts? w.heap.size w A rs)
    (hp : ∀ W r, r ∈ rs → Below w.heap.size w W → Calls Tryz.prog 102 #[r.val] W fun e w' => e = .returned (.bool (q r)) ∧ Below W.heap.size W w') :
    Calls Tryz.prog 125 #[.slice A n c, .func (.func 102) #[] #[]] w fun e w' => e = .returned (.int .i64 (idxL q rs 0)) ∧ Below w.heap.size w w' := by
  have HP := Lib.hid hp
  have HX := Lib.hid hx
  have HN := Lib.hid hn
  generalize hR : idxL q rs 0 = R
  have HR := Lib.hid hR
  clear hp hx hn hR
  go_enter Tryz.func125, Tryz.ntmps125
  go_wp2_with fail
  go_loopg [8] (n + 1) (fun g s8 wr => ∃ k : Nat, k ≤ n ∧ g + k = n + 1 ∧ s8 = .int .i64 k ∧ Aside (idxL q (rs.drop k) k = R) ∧ Below w.heap.size w wr)
  case atStart => exact ⟨0, by omega, by omega, rfl, HR.out, Below.refl _ _⟩
  case round =>
    obtain ⟨k, hk, hg, rfl, HB, hBr⟩ := hrel
    by_cases hlt : k < n
    · obtain ⟨r, hr⟩ : ∃ r, rs[k]? = some r := ⟨_, List.getElem?_eq_getElem (by rw [HN.out]; exact hlt)⟩
      have hd := (idxL_drop q rs k r hr).symm.trans HB.out
      obtain ⟨b, off, rfl, hlt0, hc⟩ := HX.out (by rw [HN.out]; omega)
      obtain ⟨c0, c1⟩ := (hc k r hr).upto hBr hlt0
      have hcall := HP.out wr r (List.mem_of_getElem? hr) hBr
      have hlt2 : (k : Int) < (n : Int) := by omega
      cases hq : q r with
      | true =>
        rw [hq] at hcall hd
        have HC := Lib.hid hcall
        have HD := Lib.hid hd
        clear hcall hq hd hc hr
        go_wp2_with fail
        refine HC.out.mono ?_
        rintro e w1 ⟨rfl, hb1⟩
        have hB1 : Below w.heap.size w w1 := below_after hBr hb1
        clear hb1
        go_wp2_with fail
        go_ret
        exact ⟨ret_int (by have := HD.out; simpa using this), by go_grown⟩
      | false =>
        rw [hq] at hcall hd
        have HC := Lib.hid hcall
        have HD := Lib.hid hd
        clear hcall hq hd hc hr
        go_wp2_with fail
        refine HC.out.mono ?_
        rintro e w1 ⟨rfl, hb1⟩
        have hB1 : Below w.heap.size w w1 := below_after hBr hb1
        clear hb1
        go_wp2_with fail
        go_roundg (gk - 1)
        case measure => omega
        case rel => exact ⟨k + 1, by omega, by omega, by go_num, (by have h9 := HD.out; simp only [Bool.false_eq_true, if_false] at h9; exact h9), hB1⟩
    · have hd := (idxL_end q rs k (by rw [HN.out]; omega)).symm.trans HB.out
      have HD := Lib.hid hd
      have hnlt : ¬ ((k : Int) < (n : Int)) := by omega
      clear hd
      go_wp2_with fail
      go_ret
      exact ⟨ret_int HD.out, by go_grown⟩

set_option maxHeartbeats 1600000 in
set_option maxRecDepth 100000 in
theorem has101_out (q : Pt → Bool) (A : Option Addr) (n c : Nat) (rs : List Pt) (w : World) (hn : rs.length = n) (hbig : n ≤ 9223372036854775807) (hx : Pts? w.heap.size w A rs)
    (hp : ∀ W r, r ∈ rs → Below w.heap.size w W → Calls Tryz.prog 102 #[r.val] W fun e w' => e = .returned (.bool (q r)) ∧ Below W.heap.size W w') :
    Calls Tryz.prog 101 #[.slice A n c, .func (.func 102) #[] #[]] w fun e w' => e = .returned (.bool (rs.any q)) ∧ Below w.heap.size w w' := by
  have v := idx125_out q A n c rs w hn hbig hx hp
  have hb := idxL_bd q rs 0
  rw [← idxL_nonneg q rs 0]
  generalize idxL q rs 0 = R at *
  have HV := Lib.hid v
  clear v hp hx hn
  go_enter Tryz.func101, Tryz.ntmps101
  go_wp2_with fail
  refine HV.out.mono ?_
  rintro e w1 ⟨rfl, hb1⟩
  go_wp2_with fail
  all_goals
    go_ret
    exact ⟨ret_bool (by first | rfl | (simp; omega)), hb1⟩

set_option maxHeartbeats 1600000 in
set_option maxRecDepth 100000 in
theorem out1_any (p : Pt) (w : World) (h1 : I64 p.x) (h2 : I64 p.y) :
    Calls Tryz.prog 102 #[p.val] w fun e w' => e = .returned (.bool (!plB p)) ∧ Below w.heap.size w w' := by
  have v := fun W => hisPlace_any p W h1 h2
  obtain ⟨px, py⟩ := p
  generalize plB ⟨px, py⟩ = V at *
  have HV := Lib.hid v
  clear v
  go_enter Tryz.func102, Tryz.ntmps102
  go_wp2_with fail
  refine (HV.out _).mono ?_
  rintro e w1 ⟨rfl, hb1⟩
  have hB : Below w.heap.size w w1 := below_after (by go_grown) hb1
  go_wp2_with fail
  go_ret
  exact ⟨rfl, hB⟩
end Go.Proofs.YtnhdnkeiijiiaaaGreat
namespace Go.Proofs.YtnhdnkeiijiiaaaGreat
open Go.RowKit Go.Shelf
set_option linter.unusedSimpArgs false
set_option linter.unusedVariables false
theorem own_mono {w : World} {base base' : Nat} {v : Value} {xs : List Pt} (h : Own w base v xs) (hb : base' ≤ base) : Own w base' v xs :=
  ⟨h.1, h.2.imp id (fun ⟨g, cap, cur, e, hg, r⟩ => ⟨g, cap, cur, e, Nat.le_trans hb hg, r⟩)⟩
set_option maxHeartbeats 1600000 in
set_option maxRecDepth 100000 in
theorem Hull_many (A : Option Addr) (n c : Nat) (w : World) (h : 4000 < n) :
    Calls Tryz.prog 78 #[.slice A n c] w fun e w' => e = .returned (.tuple #[.slice none 0 0, .int .i64 2]) ∧ Below w.heap.size w w' := by
  have h1 : (4000 : Int) < (n : Int) := by omega
  go_enter Tryz.func78, Tryz.ntmps78
  go_wp2_with fail
  go_ret2
  exact ⟨rfl, by go_grown⟩
set_option maxHeartbeats 1600000 in
set_option maxRecDepth 100000 in
theorem Hull_out (A : Option Addr) (n c : Nat) (xs : List Pt) (w : World) (hn : xs.length = n) (hx : Pts? w.heap.size w A xs) (hI : Ok64 xs) (h4 : n ≤ 4000) (hp : (xs.any fun p => !plB p) = true ∨ n = 0) :
    Calls Tryz.prog 78 #[.slice A n c] w fun e w' => e = .returned (.tuple #[.slice none 0 0, .int .i64 1]) ∧ Below w.heap.size w w' := by
  have h1 : ¬ (4000 : Int) < (n : Int) := by omega
  have hv := has101_out (fun p => !plB p) A n c xs w hn (by omega) hx (fun W r hr _ => out1_any r W (hI r hr).1 (hI r hr).2)
  have HV := Lib.hid hv
  clear hv
  by_cases h0 : n = 0
  · subst h0
    clear HV
    go_enter Tryz.func78, Tryz.ntmps78
    go_wp2_with fail
    go_ret2
    exact ⟨rfl, by go_grown⟩
  · have hp2 := hp.resolve_right h0
    have h0i : ¬ (n : Int) = 0 := by omega
    rw [hp2] at HV
    clear hp hp2
    go_enter Tryz.func78, Tryz.ntmps78
    go_wp2_with fail
    refine HV.out.mono ?_
    rintro e w1 ⟨rfl, hb1⟩
    go_wp2_with fail
    go_ret2
    exact ⟨rfl, hb1⟩
set_option maxHeartbeats 1600000 in
set_option maxRecDepth 100000 in
theorem Hull_ok (A : Option Addr) (n c : Nat) (xs : List Pt) (w : World) (hn : xs.length = n) (hx : Pts? w.heap.size w A xs) (hI : ∀ p ∈ xs, plB p = true) (h4 : n ≤ 4000) (hx0 : xs ≠ []) (h64 : (hullS xs).length ≤ 64) :
    Calls Tryz.prog 78 #[.slice A n c] w fun e w' => ∃ v, e = .returned (.tuple #[v, .int .i64 0]) ∧ Own w' w.heap.size v (hullS xs) ∧ Below w.heap.size w w' := by
  have h1 : ¬ (4000 : Int) < (n : Int) := by omega
  have hv := has101_out (fun p => !plB p) A n c xs w hn (by omega) hx (fun W r hr _ => out1_any r W (ok64_of_pl hI r hr).1 (ok64_of_pl hI r hr).2)
  have hp2 : (xs.any fun p => !plB p) = false := by
    rw [List.any_eq_false]
    intro p hp
    simp [hI p hp]
  rw [hp2] at hv
  have HV := Lib.hid hv
  have hn0 : n ≠ 0 := by intro e; apply hx0; apply List.eq_nil_of_length_eq_zero; omega
  have h0i : ¬ (n : Int) = 0 := by omega
  have har := fun (W : World) (hb : Below w.heap.size w W) => around_any A n c xs W hn (fun e => by subst e; exact absurd (hx (by omega)) (by rintro ⟨b, o, e, _⟩; cases e)) (hx.later hb) (by omega) hx0 (fun p hp => nr_of_pl (hI p hp))
  have HAR := Lib.hid har
  clear hv hp2 har hx hI hx0 hn0
  go_enter Tryz.func78, Tryz.ntmps78
  go_wp2_with fail
  refine HV.out.mono ?_
  rintro e w1 ⟨rfl, hb1⟩
  go_wp2_with fail
  refine (HAR.out w1 hb1).mono ?_
  rintro e w2 ⟨v2, rfl, ho2, hb2⟩
  obtain ⟨A2, c2, rfl, -⟩ := ho2.slice
  have hB : Below w.heap.size w w2 := hb1.trans (hb2.mono hb1.size)
  have HO := Lib.hid (own_mono ho2 hb1.size)
  generalize hL : (hullS xs).length = L at *
  clear ho2 hb2 hb1
  have hi : ¬ (64 : Int) < (L : Int) := by omega
  go_wp2_with fail
  go_ret2
  exact ⟨_, rfl, HO.out, hB⟩
set_option maxHeartbeats 1600000 in
set_option maxRecDepth 100000 in
theorem Hull_big (A : Option Addr) (n c : Nat) (xs : List Pt) (w : World) (hn : xs.length = n) (hx : Pts? w.heap.size w A xs) (hI : ∀ p ∈ xs, plB p = true) (h4 : n ≤ 4000) (hx0 : xs ≠ []) (h64 : 64 < (hullS xs).length) :
    Calls Tryz.prog 78 #[.slice A n c] w fun e w' => e = .returned (.tuple #[.slice none 0 0, .int .i64 2]) ∧ Below w.heap.size w w' := by
  have h1 : ¬ (4000 : Int) < (n : Int) := by omega
  have hv := has101_out (fun p => !plB p) A n c xs w hn (by omega) hx (fun W r hr _ => out1_any r W (ok64_of_pl hI r hr).1 (ok64_of_pl hI r hr).2)
  have hp2 : (xs.any fun p => !plB p) = false := by
    rw [List.any_eq_false]
    intro p hp
    simp [hI p hp]
  rw [hp2] at hv
  have HV := Lib.hid hv
  have hn0 : n ≠ 0 := by intro e; apply hx0; apply List.eq_nil_of_length_eq_zero; omega
  have h0i : ¬ (n : Int) = 0 := by omega
  have har := fun (W : World) (hb : Below w.heap.size w W) => around_any A n c xs W hn (fun e => by subst e; exact absurd (hx (by omega)) (by rintro ⟨b, o, e, _⟩; cases e)) (hx.later hb) (by omega) hx0 (fun p hp => nr_of_pl (hI p hp))
  have HAR := Lib.hid har
  clear hv hp2 har hx hI hx0 hn0
  go_enter Tryz.func78, Tryz.ntmps78
  go_wp2_with fail
  refine HV.out.mono ?_
  rintro e w1 ⟨rfl, hb1⟩
  go_wp2_with fail
  refine (HAR.out w1 hb1).mono ?_
  rintro e w2 ⟨v2, rfl, ho2, hb2⟩
  obtain ⟨A2, c2, rfl, -⟩ := ho2.slice
  have hB : Below w.heap.size w w2 := hb1.trans (hb2.mono hb1.size)
  have HO := Lib.hid (own_mono ho2 hb1.size)
  generalize hL : (hullS xs).length = L at *
  clear ho2 hb2 hb1
  have hi : (64 : Int) < (L : Int) := by omega
  go_wp2_with fail
  go_ret2
  exact ⟨rfl, hB⟩
end Go.Proofs.YtnhdnkeiijiiaaaGreat
namespace Go.Proofs.YtnhdnkeiijiiaaaGreat
open Go.RowKit Go.Shelf
set_option linter.unusedSimpArgs false
set_option linter.unusedVariables false
theorem hullS_one (p : Pt) : hullS [p] = [p] := by simp [hullS, sortS, insS, dedup]
set_option maxHeartbeats 1600000 in
set_option maxRecDepth 100000 in
theorem arePolygons_any (A : Option Addr) (n c : Nat) (rs : List (List Pt)) (w : World) (hn : rs.length = n) (hbig : n ≤ 9223372036854775807) (hx : Reg? w.heap.size w A rs) (hI : Oks64 rs) :
    Calls Tryz.prog 47 #[.slice A n c] w fun e w' => e = .returned (.bool (rs.all validB)) ∧ Below w.heap.size w w' := by
  have v := has30_are (fun r => !validB r) A n c rs w hn hbig hx (fun W r Ai ci hr _ hp => are1_any Ai ci r W hp (hI r hr))
  rw [any_inv] at v
  generalize rs.all validB = V at *
  have HV := Lib.hid v
  clear v hx hI hn
  go_enter Tryz.func47, Tryz.ntmps47
  go_wp2_with fail
  refine HV.out.mono ?_
  rintro e w1 ⟨rfl, hb1⟩
  go_wp2_with fail
  go_ret
  exact ⟨ret_bool (by simp), hb1⟩
set_option maxHeartbeats 1600000 in
set_option maxRecDepth 100000 in
theorem hull1_any (b : Nat) (p : Pt) (w : World) (h0 : w.cell? ⟨b, 0, none⟩ = some (.int .i64 p.x)) (h1 : w.cell? ⟨b, 1, none⟩ = some (.int .i64 p.y)) (hb : b < w.heap.size) (hI : I64 p.x ∧ I64 p.y) :
    Calls Tryz.prog 78 #[.slice (some ⟨b, 0, none⟩) 1 1] w fun e w' => (∃ v, e = .returned (.tuple #[v, .int .i64 (if plB p then 0 else 1)])) ∧ Below w.heap.size w w' := by
  have hx : Pts? w.heap.size w (some ⟨b, 0, none⟩) [p] := fun _ => ⟨b, 0, rfl, hb, fun i r hr => by
    match i, hr with
    | 0, hr => cases hr; exact ⟨h0, h1⟩
    | i + 1, hr => simp at hr⟩
  cases hp : plB p with
  | true =>
    refine (Hull_ok _ 1 1 [p] w rfl hx (by simpa using hp) (by omega) (by simp) (by rw [hullS_one]; simp)).mono ?_
    rintro e w' ⟨v, rfl, -, hb'⟩
    exact ⟨⟨v, rfl⟩, hb'⟩
  | false =>
    refine (Hull_out _ 1 1 [p] w rfl hx (by intro q hq; rw [List.mem_singleton.1 hq]; exact hI) (by omega) (.inl (by simp [hp]))).mono ?_
    rintro e w' ⟨rfl, hb'⟩
    exact ⟨⟨_, rfl⟩, hb'⟩
set_option maxHeartbeats 1600000 in
set_option maxRecDepth 100000 in
theorem mIsPlace_any (p : Pt) (w : World) (hI : I64 p.x ∧ I64 p.y) :
    Calls Tryz.prog 48 #[p.val] w fun e w' => e = .returned (.bool (plB p)) ∧ Below w.heap.size w w' := by
  have v := fun W b h0 h1 hb => hull1_any b p W h0 h1 hb hI
  obtain ⟨px, py⟩ := p
  generalize plB ⟨px, py⟩ = V at *
  have HV := Lib.hid v
  clear v
  go_enter Tryz.func48, Tryz.ntmps48
  go_wp2_with fail
  refine (HV.out _ _ (by go_cell) (by go_cell) (by simp)).mono ?_
  rintro e w1 ⟨⟨v1, rfl⟩, hb1⟩
  have hB : Below w.heap.size w w1 := below_after (by go_grown) hb1
  cases V <;> (go_wp2_with fail; go_ret; exact ⟨rfl, hB⟩)
end Go.Proofs.YtnhdnkeiijiiaaaGreat
namespace Go.Proofs.YtnhdnkeiijiiaaaGreat
open Go.RowKit Go.Shelf
set_option linter.unusedSimpArgs false
set_option linter.unusedVariables false
attribute [local go_sem ↓] Go.wp_at_zero Go.wp_at_succ
set_option maxHeartbeats 1600000 in
set_option maxRecDepth 100000 in
theorem equal_any (A B : Option Addr) (n m c d : Nat) (xs ys : List Pt) (w : World) (hn : xs.length = n) (hm : ys.length = m) (hbig : n ≤ 1000000000) (hbig2 : m ≤ 1000000000) (hx : Pts? w.heap.size w A xs) (hy : Pts? w.heap.size w B ys) :
    Calls Tryz.prog 121 #[.slice A n c, .slice B m d] w fun e w' => e = .returned (.bool (decide (xs = ys))) ∧ Below w.heap.size w w' := by
  by_cases hnm : n = m
  · subst hnm
    have HX := Lib.hid hx
    have HY := Lib.hid hy
    have HN := Lib.hid hn
    have HM := Lib.hid hm
    generalize hR : decide (xs = ys) = R
    have HR := Lib.hid hR
    clear hx hy hn hm hR
    go_enter Tryz.func121, Tryz.ntmps121
    go_wp2_with fail
    go_loopg [13] (n + 1) (fun g s13 wr => ∃ k : Nat, k ≤ n ∧ g + k = n + 1 ∧ s13 = .int .i64 k ∧ Aside (xs.take k = ys.take k) ∧ Below w.heap.size w wr)
    case atStart => exact ⟨0, by omega, by omega, rfl, (show Aside (xs.take 0 = ys.take 0) from by rw [List.take_zero, List.take_zero]; exact rfl), Below.refl _ _⟩
    case round =>
      obtain ⟨k, hk, hg, rfl, HE, hBr⟩ := hrel
      by_cases hlt : k < n
      · obtain ⟨⟨px, py⟩, hp⟩ : ∃ r, xs[k]? = some r := ⟨_, List.getElem?_eq_getElem (by rw [HN.out]; exact hlt)⟩
        obtain ⟨⟨qx, qy⟩, hq⟩ : ∃ r, ys[k]? = some r := ⟨_, List.getElem?_eq_getElem (by rw [HM.out]; exact hlt)⟩
        obtain ⟨b, off, rfl, hlt0, hc⟩ := HX.out (by rw [HN.out]; omega)
        obtain ⟨b2, off2, rfl, hlt2, hc2⟩ := HY.out (by rw [HM.out]; omega)
        obtain ⟨c0, c1⟩ := (hc k _ hp).upto hBr hlt0
        obtain ⟨d0, d1⟩ := (hc2 k _ hq).upto hBr hlt2
        have hlt2 : (k : Int) < (n : Int) := by omega
        dsimp only at c0 c1 d0 d1
        have HP := Lib.hid hp
        have HQ := Lib.hid hq
        clear hc hc2 hp hq
        by_cases e1 : px = qx ∧ py = qy
        · obtain ⟨rfl, rfl⟩ := e1
          have hst : xs.take (k + 1) = ys.take (k + 1) := by rw [List.take_add_one, List.take_add_one, HE.out, HP.out, HQ.out]
          have HS := Lib.hid hst
          clear hst
          go_wp2_with fail
          go_region
          go_wp2_with fail
          go_roundg (gk - 1)
          case measure => omega
          case rel => exact ⟨k + 1, by omega, by omega, by go_num, HS.out, by go_grown⟩
        · have hne : decide (xs = ys) = false := by
            simp only [decide_eq_false_iff_not]
            intro e
            have h7 := HP.out
            rw [e, HQ.out] at h7
            cases h7
            exact e1 ⟨rfl, rfl⟩
          rw [HR.out] at hne
          have HH := Lib.hid hne
          clear hne HP HQ
          have f1 : px ≠ qx ∨ (px = qx ∧ py ≠ qy) := by omega
          clear e1
          rcases f1 with f1 | ⟨f1, f2⟩
          rotate_left 1
          · subst f1
            go_wp2_with fail
            go_region
            go_wp2_with fail
            go_ret
            exact ⟨ret_bool HH.out.symm, by go_grown⟩
          · go_wp2_with fail
            go_region
            go_wp2_with fail
            go_ret
            exact ⟨ret_bool HH.out.symm, by go_grown⟩
      · have hnlt : ¬ ((k : Int) < (n : Int)) := by omega
        have he : decide (xs = ys) = true := by
          have h9 := HE.out
          rw [List.take_of_length_le (by rw [HN.out]; omega), List.take_of_length_le (by rw [HM.out]; omega)] at h9
          simp [h9]
        rw [HR.out] at he
        have HH := Lib.hid he
        clear he
        go_wp2_with fail
        go_ret
        exact ⟨ret_bool HH.out.symm, by go_grown⟩
  · have he : decide (xs = ys) = false := by
      simp only [decide_eq_false_iff_not]
      intro e; rw [e] at hn; omega
    have hi : ¬ (n : Int) = (m : Int) := by omega
    rw [he]
    clear hx hy
    go_enter Tryz.func121, Tryz.ntmps121
    go_wp2_with fail
    go_ret
    exact ⟨rfl, by go_grown⟩
end Go.Proofs.YtnhdnkeiijiiaaaGreat
namespace Go.Proofs.YtnhdnkeiijiiaaaGreat
open Go.RowKit Go.Shelf
set_option linter.unusedSimpArgs false
set_option linter.unusedVariables false
set_option maxHeartbeats 1600000 in
set_option maxRecDepth 100000 in
/-- Shift's inner function: the captured point lies in block b -/
theorem shift1_any (p q : Pt) (b : Nat) (w : World) (hp : Nr p) (hq : Nr q) (h0 : w.cell? ⟨b, 0, none⟩ = some (.int .i64 q.x)) (h1 : w.cell? ⟨b, 1, none⟩ = some (.int .i64 q.y)) (hb : b < w.heap.size) :
    Calls Tryz.prog 50 #[p.val, .pointer (some ⟨b, 0, none⟩)] w fun e w' => e = .returned (Pt.val ⟨p.x + q.x, p.y + q.y⟩) ∧ Below w.heap.size w w' := by
  have v := fun W => plus_any p q W hp hq
  obtain ⟨px, py⟩ := p
  obtain ⟨qx, qy⟩ := q
  dsimp only at v h0 h1
  generalize px + qx = X at *
  generalize py + qy = Y at *
  have HV := Lib.hid v
  clear v hp hq
  go_enter Tryz.func50, Tryz.ntmps50
  go_wp2_with fail
  refine (HV.out _).mono ?_
  rintro e w1 ⟨rfl, hb1⟩
  have hB : Below w.heap.size w w1 := below_after (by go_grown) hb1
  have r0 : w1.cell? ⟨w.heap.size + 1, 0, none⟩ = some (.int .i64 0) := kp hb1 (by go_cell)
  have r1 : w1.cell? ⟨w.heap.size + 1, 1, none⟩ = some (.int .i64 0) := kp hb1 (by go_cell)
  have g0 : w1.frozen? ⟨w.heap.size + 1, 0, none⟩ = false := kf hb1 (by rw [show (_ : World).cell? ⟨w.heap.size + 1, 0, none⟩ = some (.int .i64 0) from by go_cell]; rfl) (by go_simp)
  have g1 : w1.frozen? ⟨w.heap.size + 1, 1, none⟩ = false := kf hb1 (by rw [show (_ : World).cell? ⟨w.heap.size + 1, 1, none⟩ = some (.int .i64 0) from by go_cell]; rfl) (by go_simp)
  clear hb1
  go_wp2_with fail
  refine ret_span1 rfl rfl rfl ⟨by go_cell, by go_cell⟩ ⟨rfl, by go_grown⟩
end Go.Proofs.YtnhdnkeiijiiaaaGreat
namespace Go.Proofs.YtnhdnkeiijiiaaaGreat
open Go.RowKit Go.Shelf
set_option linter.unusedSimpArgs false
set_option linter.unusedVariables false
attribute [local go_sem ↓] Go.wp_at_zero Go.wp_at_succ
def shiftL (q : Pt) (xs : List Pt) : List Pt := xs.map fun p => ⟨p.x + q.x, p.y + q.y⟩
set_option maxHeartbeats 1600000 in
set_option maxRecDepth 100000 in
theorem each_any (q : Pt) (bq : Nat) (A : Option Addr) (n c : Nat) (xs : List Pt) (w : World) (hn : xs.length = n) (hbig : n ≤ 1000000) (hx : Pts? w.heap.size w A xs) (hnr : ∀ p ∈ xs, Nr p) (hq : Nr q)
    (h0 : w.cell? ⟨bq, 0, none⟩ = some (.int .i64 q.x)) (h1 : w.cell? ⟨bq, 1, none⟩ = some (.int .i64 q.y)) (hb : bq < w.heap.size) :
    Calls Tryz.prog 49 #[.slice A n c, .func (.func 50) #[] #[.pointer (some ⟨bq, 0, none⟩)]] w (RetPts w.heap.size w (shiftL q xs)) := by
  have HX := Lib.hid hx
  have HN := Lib.hid hn
  have HNR := Lib.hid hnr
  have HS := Lib.hid (fun (p : Pt) (W : World) (hp : Nr p) (hb' : Below w.heap.size w W) => shift1_any p q bq W hp hq (kp hb' h0) (kp hb' h1) (Nat.lt_of_lt_of_le hb hb'.size))
  clear hx hn hnr hq h0 h1 hb
  go_enter Tryz.func49, Tryz.ntmps49
  go_wp2_with fail
  go_loopg [10, 5] (n + 1) (fun g s10 s5 wr => ∃ k : Nat, k ≤ n ∧ g + k = n + 1 ∧ s10 = .int .i64 k ∧ Own wr w.heap.size s5 (shiftL q (xs.take k)) ∧ Below w.heap.size w wr)
  case atStart => exact ⟨0, by omega, by omega, rfl, by rw [List.take_zero]; exact own_nil _ _, Below.refl _ _⟩
  case round =>
    obtain ⟨k, hk, hg, rfl, hO, hBr⟩ := hrel
    have HO := Lib.hid hO
    clear hO
    by_cases hlt : k < n
    · obtain ⟨⟨px, py⟩, hp⟩ : ∃ r, xs[k]? = some r := ⟨_, List.getElem?_eq_getElem (by rw [HN.out]; exact hlt)⟩
      obtain ⟨b, off, rfl, hlt0, hc⟩ := HX.out (by rw [HN.out]; omega)
      obtain ⟨c0, c1⟩ := (hc k _ hp).upto hBr hlt0
      have hlt2 : (k : Int) < (n : Int) := by omega
      dsimp only at c0 c1
      have hsn : shiftL q (xs.take (k + 1)) = shiftL q (xs.take k) ++ [⟨px + q.x, py + q.y⟩] := by rw [List.take_add_one, hp]; simp [shiftL]
      have HSN := Lib.hid hsn
      have hb0 : Below wr.heap.size wr (wr.alloc (.cells #[.int .i64 px, .int .i64 py] 23)) := (Below.refl _ wr).alloc (Nat.le_refl _) _
      have hsh := HS.out ⟨px, py⟩ (wr.alloc (.cells #[.int .i64 px, .int .i64 py] 23)) (HNR.out _ (List.mem_of_getElem? hp)) (hBr.trans (hb0.mono hBr.size))
      have HSH := Lib.hid hsh
      have hll : (shiftL q (xs.take k)).length = k := by simp [shiftL, HN.out]; omega
      have HLL := Lib.hid hll
      clear hc hp hsn hsh hll
      dsimp only at HSH
      generalize px + q.x = X at *
      generalize py + q.y = Y at *
      go_wp2_with fail
      refine HSH.out.mono ?_
      rintro e w1 ⟨rfl, hb1⟩
      have hB1 : Below wr.heap.size wr w1 := hb0.trans (hb1.mono hb0.size)
      clear hb1 hb0
      have HO1 := Lib.hid ((HO.out.later hB1).later ((Below.refl _ w1).alloc (Nat.le_refl _) (.cells #[.int .i64 X, .int .i64 Y] 23)))
      have hp1 : Pts? (w1.alloc (.cells #[.int .i64 X, .int .i64 Y] 23)).heap.size (w1.alloc (.cells #[.int .i64 X, .int .i64 Y] 23)) (some ⟨w1.heap.size, 0, none⟩) [⟨X, Y⟩] := fun _ => ⟨w1.heap.size, 0, rfl, by simp, fun i r hr => by
        match i, hr with
        | 0, hr => cases hr; exact ⟨by go_cell, by go_cell⟩
        | i + 1, hr => simp at hr⟩
      have HP1 := Lib.hid hp1
      have hwz : w.heap.size ≤ (w1.alloc (.cells #[.int .i64 X, .int .i64 Y] 23)).heap.size := Nat.le_trans hBr.size (Nat.le_trans hB1.size (by simp))
      clear hp1
      go_wp2_with (at_builtin; go_must (refine wpList_append_pts _ (by rfl) (.tmp 14) (.tmp 18) 39 Tryz.underlying39 (by rfl) w.heap.size _ _ (by rfl) HO1.out (some ⟨w1.heap.size, 0, none⟩) 1 1 [⟨X, Y⟩] (by rfl) (fun h => by cases h) rfl HP1.out (by rw [HLL.out]; omega) hwz ?_))
      intro v7 w7 hown7 hg7 hat7
      have hB2 : Below w.heap.size w (w1.alloc (.cells #[.int .i64 X, .int .i64 Y] 23)) := (hBr.trans (hB1.mono hBr.size)).alloc (Nat.le_trans hBr.size hB1.size) _
      have hB7 : Below w.heap.size w w7 := hB2.grown hg7 hB2.size (fun j e => (own_block_lt HO1.out e).1)
      rw [← HSN.out] at hown7
      have HO7 := Lib.hid hown7
      clear hown7 hg7 hat7 hB2 HO1 HO HP1 c0 c1
      go_wp2_with fail
      go_roundg (gk - 1)
      case measure => omega
      case rel => exact ⟨k + 1, by omega, by omega, by go_num, HO7.out, hB7⟩
    · have hnlt : ¬ ((k : Int) < (n : Int)) := by omega
      have hO9 := HO.out
      rw [List.take_of_length_le (by rw [HN.out]; omega)] at hO9
      have HO9 := Lib.hid hO9
      clear hO9 HO
      go_wp2_with fail
      go_ret
      exact ⟨_, rfl, HO9.out, hBr⟩
end Go.Proofs.YtnhdnkeiijiiaaaGreat
namespace Go.Proofs.YtnhdnkeiijiiaaaGreat
open Go.RowKit Go.Shelf
set_option linter.unusedSimpArgs false
set_option linter.unusedVariables false
attribute [local go_sem ↓] Go.wp_at_zero Go.wp_at_succ
set_option maxHeartbeats 1600000 in
set_option maxRecDepth 100000 in
theorem are_one (b : Nat) (A : Option Addr) (n c : Nat) (xs : List Pt) (w : World) (hn : xs.length = n) (hb : b < w.heap.size) (h0 : w.cell? ⟨b, 0, none⟩ = some (.slice A n c)) (hx : Pts? w.heap.size w A xs) (hI : Ok64 xs) :
    Calls Tryz.prog 47 #[.slice (some ⟨b, 0, none⟩) 1 1] w fun e w' => e = .returned (.bool (validB xs)) ∧ Below w.heap.size w w' := by
  have hr : Reg? w.heap.size w (some ⟨b, 0, none⟩) [xs] := fun _ => ⟨b, 0, rfl, hb, fun i r hr => by
    match i, hr with
    | 0, hr => cases hr; exact ⟨A, c, by rw [hn]; exact h0, hx⟩
    | i + 1, hr => simp at hr⟩
  have v := arePolygons_any (some ⟨b, 0, none⟩) 1 1 [xs] w rfl (by omega) hr (by intro r hr; rw [List.mem_singleton.1 hr]; exact hI)
  simpa using v
set_option maxHeartbeats 1600000 in
set_option maxRecDepth 100000 in
theorem Shift_bad (q : Pt) (A : Option Addr) (n c : Nat) (xs : List Pt) (w : World) (hn : xs.length = n) (hx : Pts? w.heap.size w A xs) (hI : Ok64 xs) (hv : validB xs = false) :
    Calls Tryz.prog 24 #[.slice A n c, q.val] w fun e w' => e = .returned (.tuple #[.slice none 0 0, .int .i64 1]) ∧ Below w.heap.size w w' := by
  have v := fun (b : Nat) (W : World) (hb : b < W.heap.size) (h0 : W.cell? ⟨b, 0, none⟩ = some (.slice A n c)) (hB : Below w.heap.size w W) => are_one b A n c xs W hn hb h0 (hx.later hB) hI
  rw [hv] at v
  have HV := Lib.hid v
  clear v hx hI hn hv
  obtain ⟨qx, qy⟩ := q
  go_enter Tryz.func24, Tryz.ntmps24
  go_wp2_with fail
  refine (HV.out _ _ (by simp) (by go_cell) (by go_grown)).mono ?_
  rintro e w1 ⟨rfl, hb1⟩
  have hB : Below w.heap.size w w1 := below_after (by go_grown) hb1
  go_wp2_with fail
  go_ret2
  exact ⟨rfl, hB⟩
end Go.Proofs.YtnhdnkeiijiiaaaGreat
namespace Go.Proofs.YtnhdnkeiijiiaaaGreat
open Go.RowKit Go.Shelf
set_option linter.unusedSimpArgs false
set_option linter.unusedVariables false
attribute [local go_sem ↓] Go.wp_at_zero Go.wp_at_succ
set_option maxHeartbeats 1600000 in
set_option maxRecDepth 100000 in
theorem Shift_place (q : Pt) (A : Option Addr) (n c : Nat) (xs : List Pt) (w : World) (hn : xs.length = n) (hx : Pts? w.heap.size w A xs) (hI : Ok64 xs) (hv : validB xs = true) (hq : plB q = false) (hqI : I64 q.x ∧ I64 q.y) :
    Calls Tryz.prog 24 #[.slice A n c, q.val] w fun e w' => e = .returned (.tuple #[.slice none 0 0, .int .i64 1]) ∧ Below w.heap.size w w' := by
  have v := fun (b : Nat) (W : World) (hb : b < W.heap.size) (h0 : W.cell? ⟨b, 0, none⟩ = some (.slice A n c)) (hB : Below w.heap.size w W) => are_one b A n c xs W hn hb h0 (hx.later hB) hI
  rw [hv] at v
  have HV := Lib.hid v
  have u := fun W => mIsPlace_any q W hqI
  rw [hq] at u
  have HU := Lib.hid u
  clear v hx hI hn hv u hqI hq
  obtain ⟨qx, qy⟩ := q
  go_enter Tryz.func24, Tryz.ntmps24
  go_wp2_with fail
  refine (HV.out _ _ (by simp) (by go_cell) (by go_grown)).mono ?_
  rintro e w1 ⟨rfl, hb1⟩
  have hB : Below w.heap.size w w1 := below_after (by go_grown) hb1
  have r0 : w1.cell? ⟨w.heap.size, 0, none⟩ = some (.int .i64 qx) := kp hb1 (by go_cell)
  have r1 : w1.cell? ⟨w.heap.size, 1, none⟩ = some (.int .i64 qy) := kp hb1 (by go_cell)
  clear hb1
  go_wp2_with fail
  refine (HU.out _).mono ?_
  rintro e w2 ⟨rfl, hb2⟩
  have hB2 : Below w.heap.size w w2 := hB.trans (hb2.mono hB.size)
  go_wp2_with fail
  go_ret2
  exact ⟨rfl, hB2⟩
end Go.Proofs.YtnhdnkeiijiiaaaGreat
namespace Go.Proofs.YtnhdnkeiijiiaaaGreat
open Go.RowKit Go.Shelf
set_option linter.unusedSimpArgs false
set_option linter.unusedVariables false
attribute [local go_sem ↓] Go.wp_at_zero Go.wp_at_succ
set_option maxHeartbeats 1600000 in
set_option maxRecDepth 100000 in
theorem Shift_ok (q : Pt) (A : Option Addr) (n c : Nat) (xs : List Pt) (w : World) (hn : xs.length = n) (h64 : n ≤ 64) (hx : Pts? w.heap.size w A xs) (hI : Ok64 xs) (hv : validB xs = true) (hq : plB q = true) (hqI : I64 q.x ∧ I64 q.y) (hnr : ∀ p ∈ xs, Nr p) (hs : validB (shiftL q xs) = true) (hsI : Ok64 (shiftL q xs)) :
    Calls Tryz.prog 24 #[.slice A n c, q.val] w fun e w' => ∃ v, e = .returned (.tuple #[v, .int .i64 0]) ∧ Own w' w.heap.size v (shiftL q xs) ∧ Below w.heap.size w w' := by
  have v := fun (b : Nat) (W : World) (hb : b < W.heap.size) (h0 : W.cell? ⟨b, 0, none⟩ = some (.slice A n c)) (hB : Below w.heap.size w W) => are_one b A n c xs W hn hb h0 (hx.later hB) hI
  rw [hv] at v
  have HV := Lib.hid v
  have u := fun W => mIsPlace_any q W hqI
  rw [hq] at u
  have HU := Lib.hid u
  have t := fun (b : Nat) (W : World) (hB : Below w.heap.size w W) (h0 : W.cell? ⟨b, 0, none⟩ = some (.int .i64 q.x)) (h1 : W.cell? ⟨b, 1, none⟩ = some (.int .i64 q.y)) (hb : b < W.heap.size) => each_any q b A n c xs W hn (by omega) (hx.later hB) hnr (nr_of_pl hq) h0 h1 hb
  have HT := Lib.hid t
  have z := fun (b : Nat) (B : Option Addr) (c2 : Nat) (W : World) (hb : b < W.heap.size) (h0 : W.cell? ⟨b, 0, none⟩ = some (.slice B (shiftL q xs).length c2)) (hp : Pts? W.heap.size W B (shiftL q xs)) => are_one b B _ c2 (shiftL q xs) W rfl hb h0 hp hsI
  rw [hs] at z
  have HZ := Lib.hid z
  clear v hx hI hn hv u hqI hq t z hs hsI hnr
  generalize shiftL q xs = zs at *
  obtain ⟨qx, qy⟩ := q
  dsimp only at HT
  go_enter Tryz.func24, Tryz.ntmps24
  go_wp2_with fail
  refine (HV.out _ _ (by simp) (by go_cell) (by go_grown)).mono ?_
  rintro e w1 ⟨rfl, hb1⟩
  have hB : Below w.heap.size w w1 := below_after (by go_grown) hb1
  have r0 : w1.cell? ⟨w.heap.size, 0, none⟩ = some (.int .i64 qx) := kp hb1 (by go_cell)
  have r1 : w1.cell? ⟨w.heap.size, 1, none⟩ = some (.int .i64 qy) := kp hb1 (by go_cell)
  have hs1 : w.heap.size < w1.heap.size := Nat.lt_of_lt_of_le (by simp; omega) hb1.size
  clear hb1
  go_wp2_with fail
  refine (HU.out _).mono ?_
  rintro e w2 ⟨rfl, hb2⟩
  have hB2 : Below w.heap.size w w2 := hB.trans (hb2.mono hB.size)
  replace r0 := kp hb2 r0
  replace r1 := kp hb2 r1
  have hs2 : w.heap.size < w2.heap.size := Nat.lt_of_lt_of_le hs1 hb2.size
  clear hb2
  go_wp2_with fail
  refine (HT.out _ _ hB2 r0 r1 hs2).mono ?_
  rintro e w3 ⟨v3, rfl, ho3, hb3⟩
  obtain ⟨A3, c3, rfl, -, -, -, hp3⟩ := ho3.slice
  have hB3 : Below w.heap.size w w3 := hB2.trans (hb3.mono hB2.size)
  have HO3 := Lib.hid (own_mono ho3 hB2.size)
  have HP3 := Lib.hid hp3
  clear ho3 hp3 hb3
  go_wp2_with fail
  refine (HZ.out _ A3 c3 _ (by simp) (by go_cell) (HP3.out.later ((Below.refl _ w3).alloc (Nat.le_refl _) _))).mono ?_
  rintro e w4 ⟨rfl, hb4⟩
  have hB34 : Below w3.heap.size w3 w4 := ((Below.refl _ w3).alloc (Nat.le_refl _) _).trans (hb4.mono (by simp))
  have HO4 := Lib.hid (HO3.out.later hB34)
  have hB4 : Below w.heap.size w w4 := hB3.trans (hB34.mono hB3.size)
  clear hb4
  go_wp2_with fail
  go_ret2
  exact ⟨_, rfl, HO4.out, hB4⟩
set_option maxHeartbeats 1600000 in
set_option maxRecDepth 100000 in
theorem Shift_out (q : Pt) (A : Option Addr) (n c : Nat) (xs : List Pt) (w : World) (hn : xs.length = n) (h64 : n ≤ 64) (hx : Pts? w.heap.size w A xs) (hI : Ok64 xs) (hv : validB xs = true) (hq : plB q = true) (hqI : I64 q.x ∧ I64 q.y) (hnr : ∀ p ∈ xs, Nr p) (hs : validB (shiftL q xs) = false) (hsI : Ok64 (shiftL q xs)) :
    Calls Tryz.prog 24 #[.slice A n c, q.val] w fun e w' => e = .returned (.tuple #[.slice none 0 0, .int .i64 3]) ∧ Below w.heap.size w w' := by
  have v := fun (b : Nat) (W : World) (hb : b < W.heap.size) (h0 : W.cell? ⟨b, 0, none⟩ = some (.slice A n c)) (hB : Below w.heap.size w W) => are_one b A n c xs W hn hb h0 (hx.later hB) hI
  rw [hv] at v
  have HV := Lib.hid v
  have u := fun W => mIsPlace_any q W hqI
  rw [hq] at u
  have HU := Lib.hid u
  have t := fun (b : Nat) (W : World) (hB : Below w.heap.size w W) (h0 : W.cell? ⟨b, 0, none⟩ = some (.int .i64 q.x)) (h1 : W.cell? ⟨b, 1, none⟩ = some (.int .i64 q.y)) (hb : b < W.heap.size) => each_any q b A n c xs W hn (by omega) (hx.later hB) hnr (nr_of_pl hq) h0 h1 hb
  have HT := Lib.hid t
  have z := fun (b : Nat) (B : Option Addr) (c2 : Nat) (W : World) (hb : b < W.heap.size) (h0 : W.cell? ⟨b, 0, none⟩ = some (.slice B (shiftL q xs).length c2)) (hp : Pts? W.heap.size W B (shiftL q xs)) => are_one b B _ c2 (shiftL q xs) W rfl hb h0 hp hsI
  rw [hs] at z
  have HZ := Lib.hid z
  clear v hx hI hn hv u hqI hq t z hs hsI hnr
  generalize shiftL q xs = zs at *
  obtain ⟨qx, qy⟩ := q
  dsimp only at HT
  go_enter Tryz.func24, Tryz.ntmps24
  go_wp2_with fail
  refine (HV.out _ _ (by simp) (by go_cell) (by go_grown)).mono ?_
  rintro e w1 ⟨rfl, hb1⟩
  have hB : Below w.heap.size w w1 := below_after (by go_grown) hb1
  have r0 : w1.cell? ⟨w.heap.size, 0, none⟩ = some (.int .i64 qx) := kp hb1 (by go_cell)
  have r1 : w1.cell? ⟨w.heap.size, 1, none⟩ = some (.int .i64 qy) := kp hb1 (by go_cell)
  have hs1 : w.heap.size < w1.heap.size := Nat.lt_of_lt_of_le (by simp; omega) hb1.size
  clear hb1
  go_wp2_with fail
  refine (HU.out _).mono ?_
  rintro e w2 ⟨rfl, hb2⟩
  have hB2 : Below w.heap.size w w2 := hB.trans (hb2.mono hB.size)
  replace r0 := kp hb2 r0
  replace r1 := kp hb2 r1
  have hs2 : w.heap.size < w2.heap.size := Nat.lt_of_lt_of_le hs1 hb2.size
  clear hb2
  go_wp2_with fail
  refine (HT.out _ _ hB2 r0 r1 hs2).mono ?_
  rintro e w3 ⟨v3, rfl, ho3, hb3⟩
  obtain ⟨A3, c3, rfl, -, -, -, hp3⟩ := ho3.slice
  have hB3 : Below w.heap.size w w3 := hB2.trans (hb3.mono hB2.size)
  have HO3 := Lib.hid (own_mono ho3 hB2.size)
  have HP3 := Lib.hid hp3
  clear ho3 hp3 hb3
  go_wp2_with fail
  refine (HZ.out _ A3 c3 _ (by simp) (by go_cell) (HP3.out.later ((Below.refl _ w3).alloc (Nat.le_refl _) _))).mono ?_
  rintro e w4 ⟨rfl, hb4⟩
  have hB34 : Below w3.heap.size w3 w4 := ((Below.refl _ w3).alloc (Nat.le_refl _) _).trans (hb4.mono (by simp))
  have HO4 := Lib.hid (HO3.out.later hB34)
  have hB4 : Below w.heap.size w w4 := hB3.trans (hB34.mono hB3.size)
  clear hb4
  go_wp2_with fail
  go_ret2
  exact ⟨rfl, hB4⟩
end Go.Proofs.YtnhdnkeiijiiaaaGreat
namespace Go.Proofs.YtnhdnkeiijiiaaaGreat
open Go.RowKit Go.Shelf
set_option linter.unusedSimpArgs false
set_option linter.unusedVariables false
attribute [local go_sem ↓] Go.wp_at_zero Go.wp_at_succ
/-- a point turned to the left, so many times -/
def leftS (p : Pt) : Nat → Pt
  | 0 => p
  | k + 1 => ⟨-(leftS p k).y, (leftS p k).x⟩
theorem leftS_nr (p : Pt) (h : -200000000 ≤ p.x ∧ p.x ≤ 200000000 ∧ -200000000 ≤ p.y ∧ p.y ≤ 200000000) : ∀ k, -200000000 ≤ (leftS p k).x ∧ (leftS p k).x ≤ 200000000 ∧ -200000000 ≤ (leftS p k).y ∧ (leftS p k).y ≤ 200000000
  | 0 => h
  | k + 1 => by
    have ih := leftS_nr p h k
    simp only [leftS]
    omega
set_option maxHeartbeats 1600000 in
set_option maxRecDepth 100000 in
theorem left_any (p : Pt) (t : Nat) (w : World) (hp : -200000000 ≤ p.x ∧ p.x ≤ 200000000 ∧ -200000000 ≤ p.y ∧ p.y ≤ 200000000) (ht : t ≤ 1000) :
    Calls Tryz.prog 85 #[p.val, .int .i64 t] w fun e w' => e = .returned (leftS p (t % 4)).val ∧ Below w.heap.size w w' := by
  have hm : (t : Int).tmod 4 = ((t % 4 : Nat) : Int) := by rw [Int.tmod_eq_emod_of_nonneg (by omega)]; omega
  have hm4 : t % 4 < 4 := Nat.mod_lt _ (by omega)
  have HL := Lib.hid (leftS_nr p hp)
  generalize t % 4 = m at *
  go_enter Tryz.func85, Tryz.ntmps85
  go_wp2_with fail
  clear hp
  go_loopg [7] (m + 1) (fun g s7 wr => ∃ k : Nat, k ≤ m ∧ g + k = m + 1 ∧ s7 = .int .i64 k ∧ Below w.heap.size w wr ∧ w.heap.size + 1 < wr.heap.size ∧ wr.cell? ⟨w.heap.size, 0, none⟩ = some (.int .i64 (leftS p k).x) ∧ wr.cell? ⟨w.heap.size, 1, none⟩ = some (.int .i64 (leftS p k).y) ∧ wr.frozen? ⟨w.heap.size, 0, none⟩ = false ∧ wr.frozen? ⟨w.heap.size, 1, none⟩ = false
    ∧ wr.cell? ⟨w.heap.size + 1, 0, none⟩ = some (.int .i64 0) ∧ wr.cell? ⟨w.heap.size + 1, 1, none⟩ = some (.int .i64 0) ∧ wr.frozen? ⟨w.heap.size + 1, 0, none⟩ = false ∧ wr.frozen? ⟨w.heap.size + 1, 1, none⟩ = false)
  case atStart => exact ⟨0, by omega, by omega, rfl, by go_grown, by simp, (by show _ = some (Value.int .i64 p.x); go_cell), (by show _ = some (Value.int .i64 p.y); go_cell), by go_simp, by go_simp, by go_cell, by go_cell, by go_simp, by go_simp⟩
  case round =>
    obtain ⟨k, hk, hg, rfl, hB, hsz, c0, c1, f0, f1, d0, d1, g0, g1⟩ := hrel
    have hl := HL.out k
    have hs : leftS p (k + 1) = ⟨-(leftS p k).y, (leftS p k).x⟩ := rfl
    by_cases hlt : k < m
    · generalize leftS p k = L at *
      obtain ⟨lx, ly⟩ := L
      dsimp only at hl c0 c1 hs ⊢
      have HS := Lib.hid hs
      clear hs
      have hlt2 : (k : Int) < (m : Int) := by omega
      have q1 : IntKind.i64.wrap (-ly) = -ly := IntWalk.i64_in _ (by omega)
      go_wp2_with fail
      go_roundg (gk - 1)
      case measure => omega
      case rel => exact ⟨k + 1, by omega, by omega, by go_num, by go_grown, by simpa using hsz, (by rw [HS.out]; go_cell), (by rw [HS.out]; go_cell), by go_simp, by go_simp, by go_cell, by go_cell, by go_simp, by go_simp⟩
    · obtain rfl : k = m := by omega
      have hnlt : ¬ ((k : Int) < (k : Int)) := by omega
      clear hs
      obtain ⟨lx, ly, hL⟩ : ∃ lx ly, leftS p k = ⟨lx, ly⟩ := ⟨_, _, rfl⟩
      rw [hL] at hl c0 c1
      have HLL := Lib.hid hL
      clear hL
      dsimp only at hl c0 c1
      go_wp2_with fail
      refine ret_span1 rfl rfl rfl ⟨by rw [HLL.out]; go_cell, by rw [HLL.out]; go_cell⟩ ⟨rfl, by first | exact hB | go_grown⟩
end Go.Proofs.YtnhdnkeiijiiaaaGreat
