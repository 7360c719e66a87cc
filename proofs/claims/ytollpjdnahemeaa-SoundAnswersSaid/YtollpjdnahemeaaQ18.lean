import Derived.Test.YtollpjdnahemeaaQ17A
import Derived.Test.YtollpjdnahemeaaQ17B
import Derived.Test.YtollpjdnahemeaaQ17C
namespace Go.Proofs.Ytollpjdnahemeaa
open Go.RowKit Go.Shelf
set_option linter.unusedSimpArgs false
set_option linter.unusedVariables false
attribute [local go_sem ↓] Go.wp_at_zero Go.wp_at_succ
theorem ans_walk (A : Option Addr) (n c : Nat) (xs : List Wt) (ct clo chi cdr dl dh tlo thi sent there back wrong which : Int) (w : World) (hn : xs.length = n) (hx : Wts? w.heap.size w A xs) (hw0 : 0 ≤ which) (hw1 : which < 18446744073709551616) : Calls Try.prog 20 #[.slice A n c, .agg #[.int .i64 ct, .int .i64 clo, .int .i64 chi, .int .i64 cdr], .agg #[.int .i64 dl, .int .i64 dh], .agg #[.int .i64 tlo, .int .i64 thi], .int .i64 sent, .int .i64 there, .int .i64 back, .int .i64 wrong, .int .u64 which] w fun e w' => e = .returned (.bool true) ∧ Below w.heap.size w w' := by
  by_cases h0 : n ≤ 25
  · cases h1 : clkB ct clo chi cdr with
    | false => exact ans_1 A n c xs ct clo chi cdr dl dh tlo thi sent there back wrong which w h0 h1
    | true =>
      cases h2 : timB tlo thi with
      | false => exact ans_2 A n c xs ct clo chi cdr dl dh tlo thi sent there back wrong which w h0 h1 h2
      | true =>
        by_cases h3 : there < 0
        · exact ans_3 A n c xs ct clo chi cdr dl dh tlo thi sent there back wrong which w h0 h1 h2 h3
        · by_cases h4 : 20000 < there
          · exact ans_4 A n c xs ct clo chi cdr dl dh tlo thi sent there back wrong which w h0 h1 h2 h3 h4
          · by_cases h5 : back < 0
            · exact ans_5 A n c xs ct clo chi cdr dl dh tlo thi sent there back wrong which w h0 h1 h2 h3 h4 h5
            · by_cases h6 : 20000 < back
              · exact ans_6 A n c xs ct clo chi cdr dl dh tlo thi sent there back wrong which w h0 h1 h2 h3 h4 h5 h6
              · cases h7 : readB sent with
                | false => exact ans_7 A n c xs ct clo chi cdr dl dh tlo thi sent there back wrong which w h0 h1 h2 h3 h4 h5 h6 h7
                | true =>
                  cases hs : (wValid xs && depB dl dh) with
                  | false => exact ans_sp A n c xs ct clo chi cdr dl dh tlo thi sent there back wrong which w hn hx h0 h1 h2 h3 h4 h5 h6 h7 hs
                  | true =>
                    by_cases hle : min ((speedP dl dh xs).2 * there / 1000) ((speedP dl dh xs).2 * back / 1000) < max (-(-((speedP dl dh xs).1 * there) / 1000)) (-(-((speedP dl dh xs).1 * back) / 1000))
                    · exact ans_gt A n c xs ct clo chi cdr dl dh tlo thi sent there back wrong which w hn hx h0 h1 h2 h3 h4 h5 h6 h7 hs hle
                    · by_cases hg : there + back + (tlo + which % (thi - tlo + 1)) + wrong.tmod 4 < 0
                      · exact ans_g1 A n c xs ct clo chi cdr dl dh tlo thi sent there back wrong which w hn hx h0 h1 h2 h3 h4 h5 h6 h7 hs hle hw0 hw1 _ _ _ _ rfl rfl rfl rfl hg
                      · by_cases hg2 : 1000000000 < there + back + (tlo + which % (thi - tlo + 1)) + wrong.tmod 4
                        · exact ans_g2 A n c xs ct clo chi cdr dl dh tlo thi sent there back wrong which w hn hx h0 h1 h2 h3 h4 h5 h6 h7 hs hle hw0 hw1 _ _ _ _ rfl rfl rfl rfl hg2
                        · cases hin : (decide (-(cdr * (there + back + (tlo + which % (thi - tlo + 1)) + wrong.tmod 4) / 1000000) ≤ wrong.tmod 4) && decide (wrong.tmod 4 ≤ cdr * (there + back + (tlo + which % (thi - tlo + 1)) + wrong.tmod 4) / 1000000)) with
                          | false => exact ans_in A n c xs ct clo chi cdr dl dh tlo thi sent there back wrong which w hn hx h0 h1 h2 h3 h4 h5 h6 h7 hs hle hw0 hw1 _ _ _ _ rfl rfl rfl rfl (by omega) (by omega) hin
                          | true =>
                            have tb := (timB_iff tlo thi).1 h2
                            have vr := in_range tlo thi which tb.2.1
                            have dr := in_range (max (-(-((speedP dl dh xs).1 * there) / 1000)) (-(-((speedP dl dh xs).1 * back) / 1000))) (min ((speedP dl dh xs).2 * there / 1000) ((speedP dl dh xs).2 * back / 1000)) which (by omega)
                            have hin2 : -(cdr * (there + back + (tlo + which % (thi - tlo + 1)) + wrong.tmod 4) / 1000000) ≤ wrong.tmod 4 ∧ wrong.tmod 4 ≤ cdr * (there + back + (tlo + which % (thi - tlo + 1)) + wrong.tmod 4) / 1000000 := by
                              simp only [Bool.and_eq_true, decide_eq_true_eq] at hin; exact hin
                            rcases ans_plain (xs := xs) (dv := tlo + which % (thi - tlo + 1)) (r4 := wrong.tmod 4) hs h1 h2 h7 (by omega) (by omega) (by omega) (by omega) vr.1 vr.2 (tmod4 wrong).1 (tmod4 wrong).2 (by omega) (by omega) hin2.1 hin2.2 dr.1 dr.2 with ⟨e9, h2s, rfl | ⟨rfl, he⟩⟩ | ⟨y1, y2, h2s, hd1, hd2⟩
                            · exact ans_err1 A n c xs ct clo chi cdr dl dh tlo thi sent there back wrong which w hn hx h0 h1 h2 h3 h4 h5 h6 h7 hs hle hw0 hw1 _ _ _ _ rfl rfl rfl rfl (by omega) (by omega) hin h2s
                            · exact ans_err2 A n c xs ct clo chi cdr dl dh tlo thi sent there back wrong which w hn hx h0 h1 h2 h3 h4 h5 h6 h7 hs hle hw0 hw1 _ _ _ _ rfl rfl rfl rfl (by omega) (by omega) hin h2s he
                            · exact ans_ok A n c xs ct clo chi cdr dl dh tlo thi sent there back wrong which w hn hx h0 h1 h2 h3 h4 h5 h6 h7 hs hle hw0 hw1 _ _ _ _ rfl rfl rfl rfl (by omega) (by omega) hin y1 y2 h2s hd1 hd2
  · exact ans_0 A n c xs ct clo chi cdr dl dh tlo thi sent there back wrong which w (by omega)
end Go.Proofs.Ytollpjdnahemeaa
