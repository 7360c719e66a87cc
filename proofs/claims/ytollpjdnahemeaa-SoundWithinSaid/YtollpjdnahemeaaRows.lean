/-
  No cell of these rows narrows 'for every input' (looked for: loops, veiled, ifaces, maps, wideKeys, modest, calm, conditions, laid).
  DERIVED. THE GIVEN ROWS OF THIS SEAT. 21 by the template 'for every input the law returns true; each argument reads behind the call as it read before'; 0 by the template 'total and deterministic' (their statements: YtollpjdnahemeaaTotals.lean).
  GIVEN WITH THE SEED: the statements are not yours to turn. If you find one false, say at which input.
  Laid BY PROGRAM, IN A SANDBOX (cutbox-rows.mjs): the forced cells as the released guide's own fill.sh prints them over the translation b6700364060e74f3… (all of the seat's roots in one cut). By AI agents, Wed Nov 11 2026. No macro, syntax, notation, axiom, sorry.
-/
import Derived.Test.YtollpjdnahemeaaChecked
import GoSem.Claim
import GoSem.ClaimJoined
import GoSem.ClaimMapViews
import Derived.JoinedTies
import Derived.KernelRfl
namespace Go.Proofs.Ytollpjdnahemeaa
/- THE CELL 'sum', in the pinned program and in every row, IS THE sha256 OF THE DUMP (.gsa) THAT YtollpjdnahemeaaProg.lean LOADS. Nothing in Lean hashes anything: it is a label: what it is worth is what the hold of that sum in a sandbox is worth. -/
noncomputable def Try.pinned : Pinned := { name := "ytollpjdnahemeaa", sum := "b6700364060e74f32a2ce09f539312ebf6370dc991d417edb3ef5f134dbc8df7", checked := Try.checked }
namespace Rows
def none {H : Type} : Left H := { results := [], args := [] }

/-- 'landfalllaw02.SpanTimes': WHATEVER THE INPUT: true; the input reads as it did. -/
def spanTimesSpec : ChangeSpec := { name := "spanTimes", fn := fun _ => fun
  | [d1, d2, d3, d4] => { results := [.lit (.bool true)], args := [d1, d2, d3, d4] }
  | _ => none }
def spanTimesRow : OpenClaim := { program := "ytollpjdnahemeaa", sum := "b6700364060e74f32a2ce09f539312ebf6370dc991d417edb3ef5f134dbc8df7", func := "landfall/landfalllaw02.SpanTimes", spec := "spanTimes", unfollowed := true, recurses := true, apart := false }
def SpanTimesSaid : Prop := spanTimesRow.holds Try.pinned (OpenSpec.ofChange spanTimesSpec)

/-- ITS FALSE NEIGHBOUR: 'it returns false'. Refute it at one input. -/
def spanTimesWrong : ChangeSpec := { name := "spanTimes", fn := fun _ => fun
  | [d1, d2, d3, d4] => { results := [.lit (.bool false)], args := [d1, d2, d3, d4] }
  | _ => none }
def SpanTimesWrongFalsely : Prop := spanTimesRow.holds Try.pinned (OpenSpec.ofChange spanTimesWrong)

/-- 'landfalllaw02.SpanAdds': WHATEVER THE INPUT: true; the input reads as it did. -/
def spanAddsSpec : ChangeSpec := { name := "spanAdds", fn := fun _ => fun
  | [d1, d2, d3, d4, d5] => { results := [.lit (.bool true)], args := [d1, d2, d3, d4, d5] }
  | _ => none }
def spanAddsRow : OpenClaim := { program := "ytollpjdnahemeaa", sum := "b6700364060e74f32a2ce09f539312ebf6370dc991d417edb3ef5f134dbc8df7", func := "landfall/landfalllaw02.SpanAdds", spec := "spanAdds", unfollowed := true, recurses := true, apart := false }
def SpanAddsSaid : Prop := spanAddsRow.holds Try.pinned (OpenSpec.ofChange spanAddsSpec)

/-- ITS FALSE NEIGHBOUR: 'it returns false'. Refute it at one input. -/
def spanAddsWrong : ChangeSpec := { name := "spanAdds", fn := fun _ => fun
  | [d1, d2, d3, d4, d5] => { results := [.lit (.bool false)], args := [d1, d2, d3, d4, d5] }
  | _ => none }
def SpanAddsWrongFalsely : Prop := spanAddsRow.holds Try.pinned (OpenSpec.ofChange spanAddsWrong)

/-- 'landfalllaw02.SpanSubs': WHATEVER THE INPUT: true; the input reads as it did. -/
def spanSubsSpec : ChangeSpec := { name := "spanSubs", fn := fun _ => fun
  | [d1, d2, d3, d4] => { results := [.lit (.bool true)], args := [d1, d2, d3, d4] }
  | _ => none }
def spanSubsRow : OpenClaim := { program := "ytollpjdnahemeaa", sum := "b6700364060e74f32a2ce09f539312ebf6370dc991d417edb3ef5f134dbc8df7", func := "landfall/landfalllaw02.SpanSubs", spec := "spanSubs", unfollowed := true, recurses := true, apart := false }
def SpanSubsSaid : Prop := spanSubsRow.holds Try.pinned (OpenSpec.ofChange spanSubsSpec)

/-- ITS FALSE NEIGHBOUR: 'it returns false'. Refute it at one input. -/
def spanSubsWrong : ChangeSpec := { name := "spanSubs", fn := fun _ => fun
  | [d1, d2, d3, d4] => { results := [.lit (.bool false)], args := [d1, d2, d3, d4] }
  | _ => none }
def SpanSubsWrongFalsely : Prop := spanSubsRow.holds Try.pinned (OpenSpec.ofChange spanSubsWrong)

/-- 'landfalllaw02.SpanMeets': WHATEVER THE INPUT: true; the input reads as it did. -/
def spanMeetsSpec : ChangeSpec := { name := "spanMeets", fn := fun _ => fun
  | [d1, d2, d3] => { results := [.lit (.bool true)], args := [d1, d2, d3] }
  | _ => none }
def spanMeetsRow : OpenClaim := { program := "ytollpjdnahemeaa", sum := "b6700364060e74f32a2ce09f539312ebf6370dc991d417edb3ef5f134dbc8df7", func := "landfall/landfalllaw02.SpanMeets", spec := "spanMeets", unfollowed := true, recurses := true, apart := false }
def SpanMeetsSaid : Prop := spanMeetsRow.holds Try.pinned (OpenSpec.ofChange spanMeetsSpec)

/-- ITS FALSE NEIGHBOUR: 'it returns false'. Refute it at one input. -/
def spanMeetsWrong : ChangeSpec := { name := "spanMeets", fn := fun _ => fun
  | [d1, d2, d3] => { results := [.lit (.bool false)], args := [d1, d2, d3] }
  | _ => none }
def SpanMeetsWrongFalsely : Prop := spanMeetsRow.holds Try.pinned (OpenSpec.ofChange spanMeetsWrong)

/-- 'landfalllaw02.SpanJoins': WHATEVER THE INPUT: true; the input reads as it did. -/
def spanJoinsSpec : ChangeSpec := { name := "spanJoins", fn := fun _ => fun
  | [d1, d2] => { results := [.lit (.bool true)], args := [d1, d2] }
  | _ => none }
def spanJoinsRow : OpenClaim := { program := "ytollpjdnahemeaa", sum := "b6700364060e74f32a2ce09f539312ebf6370dc991d417edb3ef5f134dbc8df7", func := "landfall/landfalllaw02.SpanJoins", spec := "spanJoins", unfollowed := true, recurses := true, apart := false }
def SpanJoinsSaid : Prop := spanJoinsRow.holds Try.pinned (OpenSpec.ofChange spanJoinsSpec)

/-- ITS FALSE NEIGHBOUR: 'it returns false'. Refute it at one input. -/
def spanJoinsWrong : ChangeSpec := { name := "spanJoins", fn := fun _ => fun
  | [d1, d2] => { results := [.lit (.bool false)], args := [d1, d2] }
  | _ => none }
def SpanJoinsWrongFalsely : Prop := spanJoinsRow.holds Try.pinned (OpenSpec.ofChange spanJoinsWrong)

/-- 'landfalllaw02.SpanWider': WHATEVER THE INPUT: true; the input reads as it did. -/
def spanWiderSpec : ChangeSpec := { name := "spanWider", fn := fun _ => fun
  | [d1, d2, d3] => { results := [.lit (.bool true)], args := [d1, d2, d3] }
  | _ => none }
def spanWiderRow : OpenClaim := { program := "ytollpjdnahemeaa", sum := "b6700364060e74f32a2ce09f539312ebf6370dc991d417edb3ef5f134dbc8df7", func := "landfall/landfalllaw02.SpanWider", spec := "spanWider", unfollowed := true, recurses := true, apart := false }
def SpanWiderSaid : Prop := spanWiderRow.holds Try.pinned (OpenSpec.ofChange spanWiderSpec)

/-- ITS FALSE NEIGHBOUR: 'it returns false'. Refute it at one input. -/
def spanWiderWrong : ChangeSpec := { name := "spanWider", fn := fun _ => fun
  | [d1, d2, d3] => { results := [.lit (.bool false)], args := [d1, d2, d3] }
  | _ => none }
def SpanWiderWrongFalsely : Prop := spanWiderRow.holds Try.pinned (OpenSpec.ofChange spanWiderWrong)

/-- 'landfalllaw02.SpanMatchesReference': WHATEVER THE INPUT: true; the input reads as it did. -/
def spanMatchesReferenceSpec : ChangeSpec := { name := "spanMatchesReference", fn := fun _ => fun
  | [d1, d2, d3] => { results := [.lit (.bool true)], args := [d1, d2, d3] }
  | _ => none }
def spanMatchesReferenceRow : OpenClaim := { program := "ytollpjdnahemeaa", sum := "b6700364060e74f32a2ce09f539312ebf6370dc991d417edb3ef5f134dbc8df7", func := "landfall/landfalllaw02.SpanMatchesReference", spec := "spanMatchesReference", unfollowed := true, recurses := true, apart := false }
def SpanMatchesReferenceSaid : Prop := spanMatchesReferenceRow.holds Try.pinned (OpenSpec.ofChange spanMatchesReferenceSpec)

/-- ITS FALSE NEIGHBOUR: 'it returns false'. Refute it at one input. -/
def spanMatchesReferenceWrong : ChangeSpec := { name := "spanMatchesReference", fn := fun _ => fun
  | [d1, d2, d3] => { results := [.lit (.bool false)], args := [d1, d2, d3] }
  | _ => none }
def SpanMatchesReferenceWrongFalsely : Prop := spanMatchesReferenceRow.holds Try.pinned (OpenSpec.ofChange spanMatchesReferenceWrong)

/-- 'landfalllaw14.ClockMatchesReference': WHATEVER THE INPUT: true; the input reads as it did. -/
def clockMatchesReferenceSpec : ChangeSpec := { name := "clockMatchesReference", fn := fun _ => fun
  | [d1, d2, d3, d4] => { results := [.lit (.bool true)], args := [d1, d2, d3, d4] }
  | _ => none }
def clockMatchesReferenceRow : OpenClaim := { program := "ytollpjdnahemeaa", sum := "b6700364060e74f32a2ce09f539312ebf6370dc991d417edb3ef5f134dbc8df7", func := "landfall/landfalllaw14.ClockMatchesReference", spec := "clockMatchesReference", unfollowed := true, recurses := true, apart := false }
def ClockMatchesReferenceSaid : Prop := clockMatchesReferenceRow.holds Try.pinned (OpenSpec.ofChange clockMatchesReferenceSpec)

/-- ITS FALSE NEIGHBOUR: 'it returns false'. Refute it at one input. -/
def clockMatchesReferenceWrong : ChangeSpec := { name := "clockMatchesReference", fn := fun _ => fun
  | [d1, d2, d3, d4] => { results := [.lit (.bool false)], args := [d1, d2, d3, d4] }
  | _ => none }
def ClockMatchesReferenceWrongFalsely : Prop := clockMatchesReferenceRow.holds Try.pinned (OpenSpec.ofChange clockMatchesReferenceWrong)

/-- 'landfalllaw14.ClockTrue': WHATEVER THE INPUT: true; the input reads as it did. -/
def clockTrueSpec : ChangeSpec := { name := "clockTrue", fn := fun _ => fun
  | [d1, d2, d3, d4] => { results := [.lit (.bool true)], args := [d1, d2, d3, d4] }
  | _ => none }
def clockTrueRow : OpenClaim := { program := "ytollpjdnahemeaa", sum := "b6700364060e74f32a2ce09f539312ebf6370dc991d417edb3ef5f134dbc8df7", func := "landfall/landfalllaw14.ClockTrue", spec := "clockTrue", unfollowed := true, recurses := true, apart := false }
def ClockTrueSaid : Prop := clockTrueRow.holds Try.pinned (OpenSpec.ofChange clockTrueSpec)

/-- ITS FALSE NEIGHBOUR: 'it returns false'. Refute it at one input. -/
def clockTrueWrong : ChangeSpec := { name := "clockTrue", fn := fun _ => fun
  | [d1, d2, d3, d4] => { results := [.lit (.bool false)], args := [d1, d2, d3, d4] }
  | _ => none }
def ClockTrueWrongFalsely : Prop := clockTrueRow.holds Try.pinned (OpenSpec.ofChange clockTrueWrong)

/-- 'landfalllaw14.ClockReadings': WHATEVER THE INPUT: true; the input reads as it did. -/
def clockReadingsSpec : ChangeSpec := { name := "clockReadings", fn := fun _ => fun
  | [d1, d2, d3] => { results := [.lit (.bool true)], args := [d1, d2, d3] }
  | _ => none }
def clockReadingsRow : OpenClaim := { program := "ytollpjdnahemeaa", sum := "b6700364060e74f32a2ce09f539312ebf6370dc991d417edb3ef5f134dbc8df7", func := "landfall/landfalllaw14.ClockReadings", spec := "clockReadings", unfollowed := true, recurses := true, apart := false }
def ClockReadingsSaid : Prop := clockReadingsRow.holds Try.pinned (OpenSpec.ofChange clockReadingsSpec)

/-- ITS FALSE NEIGHBOUR: 'it returns false'. Refute it at one input. -/
def clockReadingsWrong : ChangeSpec := { name := "clockReadings", fn := fun _ => fun
  | [d1, d2, d3] => { results := [.lit (.bool false)], args := [d1, d2, d3] }
  | _ => none }
def ClockReadingsWrongFalsely : Prop := clockReadingsRow.holds Try.pinned (OpenSpec.ofChange clockReadingsWrong)

/-- 'landfalllaw14.ClockSets': WHATEVER THE INPUT: true; the input reads as it did. -/
def clockSetsSpec : ChangeSpec := { name := "clockSets", fn := fun _ => fun
  | [d1, d2, d3, d4, d5, d6] => { results := [.lit (.bool true)], args := [d1, d2, d3, d4, d5, d6] }
  | _ => none }
def clockSetsRow : OpenClaim := { program := "ytollpjdnahemeaa", sum := "b6700364060e74f32a2ce09f539312ebf6370dc991d417edb3ef5f134dbc8df7", func := "landfall/landfalllaw14.ClockSets", spec := "clockSets", unfollowed := true, recurses := true, apart := false }
def ClockSetsSaid : Prop := clockSetsRow.holds Try.pinned (OpenSpec.ofChange clockSetsSpec)

/-- ITS FALSE NEIGHBOUR: 'it returns false'. Refute it at one input. -/
def clockSetsWrong : ChangeSpec := { name := "clockSets", fn := fun _ => fun
  | [d1, d2, d3, d4, d5, d6] => { results := [.lit (.bool false)], args := [d1, d2, d3, d4, d5, d6] }
  | _ => none }
def ClockSetsWrongFalsely : Prop := clockSetsRow.holds Try.pinned (OpenSpec.ofChange clockSetsWrong)

/-- 'landfalllaw14.ClockOrder': WHATEVER THE INPUT: true; the input reads as it did. -/
def clockOrderSpec : ChangeSpec := { name := "clockOrder", fn := fun _ => fun
  | [d1, d2, d3] => { results := [.lit (.bool true)], args := [d1, d2, d3] }
  | _ => none }
def clockOrderRow : OpenClaim := { program := "ytollpjdnahemeaa", sum := "b6700364060e74f32a2ce09f539312ebf6370dc991d417edb3ef5f134dbc8df7", func := "landfall/landfalllaw14.ClockOrder", spec := "clockOrder", unfollowed := true, recurses := true, apart := false }
def ClockOrderSaid : Prop := clockOrderRow.holds Try.pinned (OpenSpec.ofChange clockOrderSpec)

/-- ITS FALSE NEIGHBOUR: 'it returns false'. Refute it at one input. -/
def clockOrderWrong : ChangeSpec := { name := "clockOrder", fn := fun _ => fun
  | [d1, d2, d3] => { results := [.lit (.bool false)], args := [d1, d2, d3] }
  | _ => none }
def ClockOrderWrongFalsely : Prop := clockOrderRow.holds Try.pinned (OpenSpec.ofChange clockOrderWrong)

/-- 'landfalllaw14.ClockBetter': WHATEVER THE INPUT: true; the input reads as it did. -/
def clockBetterSpec : ChangeSpec := { name := "clockBetter", fn := fun _ => fun
  | [d1, d2, d3, d4, d5] => { results := [.lit (.bool true)], args := [d1, d2, d3, d4, d5] }
  | _ => none }
def clockBetterRow : OpenClaim := { program := "ytollpjdnahemeaa", sum := "b6700364060e74f32a2ce09f539312ebf6370dc991d417edb3ef5f134dbc8df7", func := "landfall/landfalllaw14.ClockBetter", spec := "clockBetter", unfollowed := true, recurses := true, apart := false }
def ClockBetterSaid : Prop := clockBetterRow.holds Try.pinned (OpenSpec.ofChange clockBetterSpec)

/-- ITS FALSE NEIGHBOUR: 'it returns false'. Refute it at one input. -/
def clockBetterWrong : ChangeSpec := { name := "clockBetter", fn := fun _ => fun
  | [d1, d2, d3, d4, d5] => { results := [.lit (.bool false)], args := [d1, d2, d3, d4, d5] }
  | _ => none }
def ClockBetterWrongFalsely : Prop := clockBetterRow.holds Try.pinned (OpenSpec.ofChange clockBetterWrong)

/-- 'landfalllaw14.ClockApart': WHATEVER THE INPUT: true; the input reads as it did. -/
def clockApartSpec : ChangeSpec := { name := "clockApart", fn := fun _ => fun
  | [d1, d2, d3, d4] => { results := [.lit (.bool true)], args := [d1, d2, d3, d4] }
  | _ => none }
def clockApartRow : OpenClaim := { program := "ytollpjdnahemeaa", sum := "b6700364060e74f32a2ce09f539312ebf6370dc991d417edb3ef5f134dbc8df7", func := "landfall/landfalllaw14.ClockApart", spec := "clockApart", unfollowed := true, recurses := true, apart := false }
def ClockApartSaid : Prop := clockApartRow.holds Try.pinned (OpenSpec.ofChange clockApartSpec)

/-- ITS FALSE NEIGHBOUR: 'it returns false'. Refute it at one input. -/
def clockApartWrong : ChangeSpec := { name := "clockApart", fn := fun _ => fun
  | [d1, d2, d3, d4] => { results := [.lit (.bool false)], args := [d1, d2, d3, d4] }
  | _ => none }
def ClockApartWrongFalsely : Prop := clockApartRow.holds Try.pinned (OpenSpec.ofChange clockApartWrong)

/-- 'landfalllaw17.SoundMatchesReference': WHATEVER THE INPUT: true; the input reads as it did. -/
def soundMatchesReferenceSpec : ChangeSpec := { name := "soundMatchesReference", fn := fun _ => fun
  | [d1, d2, d3, d4, d5, d6] => { results := [.lit (.bool true)], args := [d1, d2, d3, d4, d5, d6] }
  | _ => none }
def soundMatchesReferenceRow : OpenClaim := { program := "ytollpjdnahemeaa", sum := "b6700364060e74f32a2ce09f539312ebf6370dc991d417edb3ef5f134dbc8df7", func := "landfall/landfalllaw17.SoundMatchesReference", spec := "soundMatchesReference", unfollowed := true, recurses := true, apart := false }
def SoundMatchesReferenceSaid : Prop := soundMatchesReferenceRow.holds Try.pinned (OpenSpec.ofChange soundMatchesReferenceSpec)

/-- ITS FALSE NEIGHBOUR: 'it returns false'. Refute it at one input. -/
def soundMatchesReferenceWrong : ChangeSpec := { name := "soundMatchesReference", fn := fun _ => fun
  | [d1, d2, d3, d4, d5, d6] => { results := [.lit (.bool false)], args := [d1, d2, d3, d4, d5, d6] }
  | _ => none }
def SoundMatchesReferenceWrongFalsely : Prop := soundMatchesReferenceRow.holds Try.pinned (OpenSpec.ofChange soundMatchesReferenceWrong)

/-- 'landfalllaw17.SoundTouches': WHATEVER THE INPUT: true; the input reads as it did. -/
def soundTouchesSpec : ChangeSpec := { name := "soundTouches", fn := fun _ => fun
  | [d1, d2] => { results := [.lit (.bool true)], args := [d1, d2] }
  | _ => none }
def soundTouchesRow : OpenClaim := { program := "ytollpjdnahemeaa", sum := "b6700364060e74f32a2ce09f539312ebf6370dc991d417edb3ef5f134dbc8df7", func := "landfall/landfalllaw17.SoundTouches", spec := "soundTouches", unfollowed := true, recurses := true, apart := false }
def SoundTouchesSaid : Prop := soundTouchesRow.holds Try.pinned (OpenSpec.ofChange soundTouchesSpec)

/-- ITS FALSE NEIGHBOUR: 'it returns false'. Refute it at one input. -/
def soundTouchesWrong : ChangeSpec := { name := "soundTouches", fn := fun _ => fun
  | [d1, d2] => { results := [.lit (.bool false)], args := [d1, d2] }
  | _ => none }
def SoundTouchesWrongFalsely : Prop := soundTouchesRow.holds Try.pinned (OpenSpec.ofChange soundTouchesWrong)

/-- 'landfalllaw17.SoundTravels': WHATEVER THE INPUT: true; the input reads as it did. -/
def soundTravelsSpec : ChangeSpec := { name := "soundTravels", fn := fun _ => fun
  | [d1, d2, d3, d4, d5] => { results := [.lit (.bool true)], args := [d1, d2, d3, d4, d5] }
  | _ => none }
def soundTravelsRow : OpenClaim := { program := "ytollpjdnahemeaa", sum := "b6700364060e74f32a2ce09f539312ebf6370dc991d417edb3ef5f134dbc8df7", func := "landfall/landfalllaw17.SoundTravels", spec := "soundTravels", unfollowed := true, recurses := true, apart := false }
def SoundTravelsSaid : Prop := soundTravelsRow.holds Try.pinned (OpenSpec.ofChange soundTravelsSpec)

/-- ITS FALSE NEIGHBOUR: 'it returns false'. Refute it at one input. -/
def soundTravelsWrong : ChangeSpec := { name := "soundTravels", fn := fun _ => fun
  | [d1, d2, d3, d4, d5] => { results := [.lit (.bool false)], args := [d1, d2, d3, d4, d5] }
  | _ => none }
def SoundTravelsWrongFalsely : Prop := soundTravelsRow.holds Try.pinned (OpenSpec.ofChange soundTravelsWrong)

/-- 'landfalllaw17.SoundAnswers': WHATEVER THE INPUT: true; the input reads as it did. -/
def soundAnswersSpec : ChangeSpec := { name := "soundAnswers", fn := fun _ => fun
  | [d1, d2, d3, d4, d5, d6, d7, d8, d9] => { results := [.lit (.bool true)], args := [d1, d2, d3, d4, d5, d6, d7, d8, d9] }
  | _ => none }
def soundAnswersRow : OpenClaim := { program := "ytollpjdnahemeaa", sum := "b6700364060e74f32a2ce09f539312ebf6370dc991d417edb3ef5f134dbc8df7", func := "landfall/landfalllaw17.SoundAnswers", spec := "soundAnswers", unfollowed := true, recurses := true, apart := false }
def SoundAnswersSaid : Prop := soundAnswersRow.holds Try.pinned (OpenSpec.ofChange soundAnswersSpec)

/-- ITS FALSE NEIGHBOUR: 'it returns false'. Refute it at one input. -/
def soundAnswersWrong : ChangeSpec := { name := "soundAnswers", fn := fun _ => fun
  | [d1, d2, d3, d4, d5, d6, d7, d8, d9] => { results := [.lit (.bool false)], args := [d1, d2, d3, d4, d5, d6, d7, d8, d9] }
  | _ => none }
def SoundAnswersWrongFalsely : Prop := soundAnswersRow.holds Try.pinned (OpenSpec.ofChange soundAnswersWrong)

/-- 'landfalllaw17.SoundWithin': WHATEVER THE INPUT: true; the input reads as it did. -/
def soundWithinSpec : ChangeSpec := { name := "soundWithin", fn := fun _ => fun
  | [d1, d2, d3, d4, d5, d6, d7, d8] => { results := [.lit (.bool true)], args := [d1, d2, d3, d4, d5, d6, d7, d8] }
  | _ => none }
def soundWithinRow : OpenClaim := { program := "ytollpjdnahemeaa", sum := "b6700364060e74f32a2ce09f539312ebf6370dc991d417edb3ef5f134dbc8df7", func := "landfall/landfalllaw17.SoundWithin", spec := "soundWithin", unfollowed := true, recurses := true, apart := false }
def SoundWithinSaid : Prop := soundWithinRow.holds Try.pinned (OpenSpec.ofChange soundWithinSpec)

/-- ITS FALSE NEIGHBOUR: 'it returns false'. Refute it at one input. -/
def soundWithinWrong : ChangeSpec := { name := "soundWithin", fn := fun _ => fun
  | [d1, d2, d3, d4, d5, d6, d7, d8] => { results := [.lit (.bool false)], args := [d1, d2, d3, d4, d5, d6, d7, d8] }
  | _ => none }
def SoundWithinWrongFalsely : Prop := soundWithinRow.holds Try.pinned (OpenSpec.ofChange soundWithinWrong)

/-- 'landfalllaw17.SoundDivided': WHATEVER THE INPUT: true; the input reads as it did. -/
def soundDividedSpec : ChangeSpec := { name := "soundDivided", fn := fun _ => fun
  | [d1, d2, d3, d4, d5, d6, d7, d8] => { results := [.lit (.bool true)], args := [d1, d2, d3, d4, d5, d6, d7, d8] }
  | _ => none }
def soundDividedRow : OpenClaim := { program := "ytollpjdnahemeaa", sum := "b6700364060e74f32a2ce09f539312ebf6370dc991d417edb3ef5f134dbc8df7", func := "landfall/landfalllaw17.SoundDivided", spec := "soundDivided", unfollowed := true, recurses := true, apart := false }
def SoundDividedSaid : Prop := soundDividedRow.holds Try.pinned (OpenSpec.ofChange soundDividedSpec)

/-- ITS FALSE NEIGHBOUR: 'it returns false'. Refute it at one input. -/
def soundDividedWrong : ChangeSpec := { name := "soundDivided", fn := fun _ => fun
  | [d1, d2, d3, d4, d5, d6, d7, d8] => { results := [.lit (.bool false)], args := [d1, d2, d3, d4, d5, d6, d7, d8] }
  | _ => none }
def SoundDividedWrongFalsely : Prop := soundDividedRow.holds Try.pinned (OpenSpec.ofChange soundDividedWrong)

/-- 'landfalllaw17.SoundOffsets': WHATEVER THE INPUT: true; the input reads as it did. -/
def soundOffsetsSpec : ChangeSpec := { name := "soundOffsets", fn := fun _ => fun
  | [d1, d2, d3, d4, d5, d6, d7, d8] => { results := [.lit (.bool true)], args := [d1, d2, d3, d4, d5, d6, d7, d8] }
  | _ => none }
def soundOffsetsRow : OpenClaim := { program := "ytollpjdnahemeaa", sum := "b6700364060e74f32a2ce09f539312ebf6370dc991d417edb3ef5f134dbc8df7", func := "landfall/landfalllaw17.SoundOffsets", spec := "soundOffsets", unfollowed := true, recurses := true, apart := false }
def SoundOffsetsSaid : Prop := soundOffsetsRow.holds Try.pinned (OpenSpec.ofChange soundOffsetsSpec)

/-- ITS FALSE NEIGHBOUR: 'it returns false'. Refute it at one input. -/
def soundOffsetsWrong : ChangeSpec := { name := "soundOffsets", fn := fun _ => fun
  | [d1, d2, d3, d4, d5, d6, d7, d8] => { results := [.lit (.bool false)], args := [d1, d2, d3, d4, d5, d6, d7, d8] }
  | _ => none }
def SoundOffsetsWrongFalsely : Prop := soundOffsetsRow.holds Try.pinned (OpenSpec.ofChange soundOffsetsWrong)

/- THE SECOND FORM. 'bulk': how many values and letters a reading holds, each counted each time it is reached (what is shared counts as often as it is met; a slice's spare places count too). A statement '..UptoSaid' is the law's where the arguments, and the package variables that the reading takes, are together of bulk at most 1048576: NARROWER than '..Said'. Prove '..Said' where nothing that the law and all that it calls make is longer than what came in: it says more and counts as full. Else prove '..UptoSaid'. A law counts once. -/
mutual
def uptoBulk {H : Type} : DataW H → Nat
  | .lit (.string bytes) => bytes.length + 1
  | .lit _ => 1
  | .nil => 1
  | .ptr d => uptoBulk d + 1
  | .slice elems spare => uptoBulkAll elems + uptoBulkAll spare + 1
  | .agg parts => uptoBulkAll parts + 1
  | .iface _ d => uptoBulk d + 1
  | .map entries => uptoBulkEntries entries + 1
  | .held _ => 1
def uptoBulkAll {H : Type} : List (DataW H) → Nat
  | [] => 0
  | d :: r => uptoBulk d + uptoBulkAll r
def uptoBulkEntries {H : Type} : List (Lit × DataW H) → Nat
  | [] => 0
  | x :: r => uptoBulkEntry x + uptoBulkEntries r
def uptoBulkEntry {H : Type} : Lit × DataW H → Nat
  | (.string bytes, d) => bytes.length + uptoBulk d + 1
  | (_, d) => uptoBulk d + 1
 end
def uptoSmall : (H : Type) → List (DataW H) → Bool := fun _ ds => decide (uptoBulkAll ds ≤ 1048576)
def OpenSpec.upto (s : _root_.Go.ChangeSpec) : _root_.Go.OpenSpec := { _root_.Go.OpenSpec.ofChange s with cond := some uptoSmall }

/-- 'landfalllaw02.SpanTimes', WHERE WHAT IT READS IS OF BULK AT MOST 1048576: true; the input reads as it did. -/
def spanTimesUptoRow : OpenClaim := { program := "ytollpjdnahemeaa", sum := "b6700364060e74f32a2ce09f539312ebf6370dc991d417edb3ef5f134dbc8df7", func := "landfall/landfalllaw02.SpanTimes", spec := "spanTimes", unfollowed := true, recurses := true, apart := false, narrowed := true }
def SpanTimesUptoSaid : Prop := spanTimesUptoRow.holds Try.pinned (OpenSpec.upto spanTimesSpec)

/-- 'landfalllaw02.SpanAdds', WHERE WHAT IT READS IS OF BULK AT MOST 1048576: true; the input reads as it did. -/
def spanAddsUptoRow : OpenClaim := { program := "ytollpjdnahemeaa", sum := "b6700364060e74f32a2ce09f539312ebf6370dc991d417edb3ef5f134dbc8df7", func := "landfall/landfalllaw02.SpanAdds", spec := "spanAdds", unfollowed := true, recurses := true, apart := false, narrowed := true }
def SpanAddsUptoSaid : Prop := spanAddsUptoRow.holds Try.pinned (OpenSpec.upto spanAddsSpec)

/-- 'landfalllaw02.SpanSubs', WHERE WHAT IT READS IS OF BULK AT MOST 1048576: true; the input reads as it did. -/
def spanSubsUptoRow : OpenClaim := { program := "ytollpjdnahemeaa", sum := "b6700364060e74f32a2ce09f539312ebf6370dc991d417edb3ef5f134dbc8df7", func := "landfall/landfalllaw02.SpanSubs", spec := "spanSubs", unfollowed := true, recurses := true, apart := false, narrowed := true }
def SpanSubsUptoSaid : Prop := spanSubsUptoRow.holds Try.pinned (OpenSpec.upto spanSubsSpec)

/-- 'landfalllaw02.SpanMeets', WHERE WHAT IT READS IS OF BULK AT MOST 1048576: true; the input reads as it did. -/
def spanMeetsUptoRow : OpenClaim := { program := "ytollpjdnahemeaa", sum := "b6700364060e74f32a2ce09f539312ebf6370dc991d417edb3ef5f134dbc8df7", func := "landfall/landfalllaw02.SpanMeets", spec := "spanMeets", unfollowed := true, recurses := true, apart := false, narrowed := true }
def SpanMeetsUptoSaid : Prop := spanMeetsUptoRow.holds Try.pinned (OpenSpec.upto spanMeetsSpec)

/-- 'landfalllaw02.SpanJoins', WHERE WHAT IT READS IS OF BULK AT MOST 1048576: true; the input reads as it did. -/
def spanJoinsUptoRow : OpenClaim := { program := "ytollpjdnahemeaa", sum := "b6700364060e74f32a2ce09f539312ebf6370dc991d417edb3ef5f134dbc8df7", func := "landfall/landfalllaw02.SpanJoins", spec := "spanJoins", unfollowed := true, recurses := true, apart := false, narrowed := true }
def SpanJoinsUptoSaid : Prop := spanJoinsUptoRow.holds Try.pinned (OpenSpec.upto spanJoinsSpec)

/-- 'landfalllaw02.SpanWider', WHERE WHAT IT READS IS OF BULK AT MOST 1048576: true; the input reads as it did. -/
def spanWiderUptoRow : OpenClaim := { program := "ytollpjdnahemeaa", sum := "b6700364060e74f32a2ce09f539312ebf6370dc991d417edb3ef5f134dbc8df7", func := "landfall/landfalllaw02.SpanWider", spec := "spanWider", unfollowed := true, recurses := true, apart := false, narrowed := true }
def SpanWiderUptoSaid : Prop := spanWiderUptoRow.holds Try.pinned (OpenSpec.upto spanWiderSpec)

/-- 'landfalllaw02.SpanMatchesReference', WHERE WHAT IT READS IS OF BULK AT MOST 1048576: true; the input reads as it did. -/
def spanMatchesReferenceUptoRow : OpenClaim := { program := "ytollpjdnahemeaa", sum := "b6700364060e74f32a2ce09f539312ebf6370dc991d417edb3ef5f134dbc8df7", func := "landfall/landfalllaw02.SpanMatchesReference", spec := "spanMatchesReference", unfollowed := true, recurses := true, apart := false, narrowed := true }
def SpanMatchesReferenceUptoSaid : Prop := spanMatchesReferenceUptoRow.holds Try.pinned (OpenSpec.upto spanMatchesReferenceSpec)

/-- 'landfalllaw14.ClockMatchesReference', WHERE WHAT IT READS IS OF BULK AT MOST 1048576: true; the input reads as it did. -/
def clockMatchesReferenceUptoRow : OpenClaim := { program := "ytollpjdnahemeaa", sum := "b6700364060e74f32a2ce09f539312ebf6370dc991d417edb3ef5f134dbc8df7", func := "landfall/landfalllaw14.ClockMatchesReference", spec := "clockMatchesReference", unfollowed := true, recurses := true, apart := false, narrowed := true }
def ClockMatchesReferenceUptoSaid : Prop := clockMatchesReferenceUptoRow.holds Try.pinned (OpenSpec.upto clockMatchesReferenceSpec)

/-- 'landfalllaw14.ClockTrue', WHERE WHAT IT READS IS OF BULK AT MOST 1048576: true; the input reads as it did. -/
def clockTrueUptoRow : OpenClaim := { program := "ytollpjdnahemeaa", sum := "b6700364060e74f32a2ce09f539312ebf6370dc991d417edb3ef5f134dbc8df7", func := "landfall/landfalllaw14.ClockTrue", spec := "clockTrue", unfollowed := true, recurses := true, apart := false, narrowed := true }
def ClockTrueUptoSaid : Prop := clockTrueUptoRow.holds Try.pinned (OpenSpec.upto clockTrueSpec)

/-- 'landfalllaw14.ClockReadings', WHERE WHAT IT READS IS OF BULK AT MOST 1048576: true; the input reads as it did. -/
def clockReadingsUptoRow : OpenClaim := { program := "ytollpjdnahemeaa", sum := "b6700364060e74f32a2ce09f539312ebf6370dc991d417edb3ef5f134dbc8df7", func := "landfall/landfalllaw14.ClockReadings", spec := "clockReadings", unfollowed := true, recurses := true, apart := false, narrowed := true }
def ClockReadingsUptoSaid : Prop := clockReadingsUptoRow.holds Try.pinned (OpenSpec.upto clockReadingsSpec)

/-- 'landfalllaw14.ClockSets', WHERE WHAT IT READS IS OF BULK AT MOST 1048576: true; the input reads as it did. -/
def clockSetsUptoRow : OpenClaim := { program := "ytollpjdnahemeaa", sum := "b6700364060e74f32a2ce09f539312ebf6370dc991d417edb3ef5f134dbc8df7", func := "landfall/landfalllaw14.ClockSets", spec := "clockSets", unfollowed := true, recurses := true, apart := false, narrowed := true }
def ClockSetsUptoSaid : Prop := clockSetsUptoRow.holds Try.pinned (OpenSpec.upto clockSetsSpec)

/-- 'landfalllaw14.ClockOrder', WHERE WHAT IT READS IS OF BULK AT MOST 1048576: true; the input reads as it did. -/
def clockOrderUptoRow : OpenClaim := { program := "ytollpjdnahemeaa", sum := "b6700364060e74f32a2ce09f539312ebf6370dc991d417edb3ef5f134dbc8df7", func := "landfall/landfalllaw14.ClockOrder", spec := "clockOrder", unfollowed := true, recurses := true, apart := false, narrowed := true }
def ClockOrderUptoSaid : Prop := clockOrderUptoRow.holds Try.pinned (OpenSpec.upto clockOrderSpec)

/-- 'landfalllaw14.ClockBetter', WHERE WHAT IT READS IS OF BULK AT MOST 1048576: true; the input reads as it did. -/
def clockBetterUptoRow : OpenClaim := { program := "ytollpjdnahemeaa", sum := "b6700364060e74f32a2ce09f539312ebf6370dc991d417edb3ef5f134dbc8df7", func := "landfall/landfalllaw14.ClockBetter", spec := "clockBetter", unfollowed := true, recurses := true, apart := false, narrowed := true }
def ClockBetterUptoSaid : Prop := clockBetterUptoRow.holds Try.pinned (OpenSpec.upto clockBetterSpec)

/-- 'landfalllaw14.ClockApart', WHERE WHAT IT READS IS OF BULK AT MOST 1048576: true; the input reads as it did. -/
def clockApartUptoRow : OpenClaim := { program := "ytollpjdnahemeaa", sum := "b6700364060e74f32a2ce09f539312ebf6370dc991d417edb3ef5f134dbc8df7", func := "landfall/landfalllaw14.ClockApart", spec := "clockApart", unfollowed := true, recurses := true, apart := false, narrowed := true }
def ClockApartUptoSaid : Prop := clockApartUptoRow.holds Try.pinned (OpenSpec.upto clockApartSpec)

/-- 'landfalllaw17.SoundMatchesReference', WHERE WHAT IT READS IS OF BULK AT MOST 1048576: true; the input reads as it did. -/
def soundMatchesReferenceUptoRow : OpenClaim := { program := "ytollpjdnahemeaa", sum := "b6700364060e74f32a2ce09f539312ebf6370dc991d417edb3ef5f134dbc8df7", func := "landfall/landfalllaw17.SoundMatchesReference", spec := "soundMatchesReference", unfollowed := true, recurses := true, apart := false, narrowed := true }
def SoundMatchesReferenceUptoSaid : Prop := soundMatchesReferenceUptoRow.holds Try.pinned (OpenSpec.upto soundMatchesReferenceSpec)

/-- 'landfalllaw17.SoundTouches', WHERE WHAT IT READS IS OF BULK AT MOST 1048576: true; the input reads as it did. -/
def soundTouchesUptoRow : OpenClaim := { program := "ytollpjdnahemeaa", sum := "b6700364060e74f32a2ce09f539312ebf6370dc991d417edb3ef5f134dbc8df7", func := "landfall/landfalllaw17.SoundTouches", spec := "soundTouches", unfollowed := true, recurses := true, apart := false, narrowed := true }
def SoundTouchesUptoSaid : Prop := soundTouchesUptoRow.holds Try.pinned (OpenSpec.upto soundTouchesSpec)

/-- 'landfalllaw17.SoundTravels', WHERE WHAT IT READS IS OF BULK AT MOST 1048576: true; the input reads as it did. -/
def soundTravelsUptoRow : OpenClaim := { program := "ytollpjdnahemeaa", sum := "b6700364060e74f32a2ce09f539312ebf6370dc991d417edb3ef5f134dbc8df7", func := "landfall/landfalllaw17.SoundTravels", spec := "soundTravels", unfollowed := true, recurses := true, apart := false, narrowed := true }
def SoundTravelsUptoSaid : Prop := soundTravelsUptoRow.holds Try.pinned (OpenSpec.upto soundTravelsSpec)

/-- 'landfalllaw17.SoundAnswers', WHERE WHAT IT READS IS OF BULK AT MOST 1048576: true; the input reads as it did. -/
def soundAnswersUptoRow : OpenClaim := { program := "ytollpjdnahemeaa", sum := "b6700364060e74f32a2ce09f539312ebf6370dc991d417edb3ef5f134dbc8df7", func := "landfall/landfalllaw17.SoundAnswers", spec := "soundAnswers", unfollowed := true, recurses := true, apart := false, narrowed := true }
def SoundAnswersUptoSaid : Prop := soundAnswersUptoRow.holds Try.pinned (OpenSpec.upto soundAnswersSpec)

/-- 'landfalllaw17.SoundWithin', WHERE WHAT IT READS IS OF BULK AT MOST 1048576: true; the input reads as it did. -/
def soundWithinUptoRow : OpenClaim := { program := "ytollpjdnahemeaa", sum := "b6700364060e74f32a2ce09f539312ebf6370dc991d417edb3ef5f134dbc8df7", func := "landfall/landfalllaw17.SoundWithin", spec := "soundWithin", unfollowed := true, recurses := true, apart := false, narrowed := true }
def SoundWithinUptoSaid : Prop := soundWithinUptoRow.holds Try.pinned (OpenSpec.upto soundWithinSpec)

/-- 'landfalllaw17.SoundDivided', WHERE WHAT IT READS IS OF BULK AT MOST 1048576: true; the input reads as it did. -/
def soundDividedUptoRow : OpenClaim := { program := "ytollpjdnahemeaa", sum := "b6700364060e74f32a2ce09f539312ebf6370dc991d417edb3ef5f134dbc8df7", func := "landfall/landfalllaw17.SoundDivided", spec := "soundDivided", unfollowed := true, recurses := true, apart := false, narrowed := true }
def SoundDividedUptoSaid : Prop := soundDividedUptoRow.holds Try.pinned (OpenSpec.upto soundDividedSpec)

/-- 'landfalllaw17.SoundOffsets', WHERE WHAT IT READS IS OF BULK AT MOST 1048576: true; the input reads as it did. -/
def soundOffsetsUptoRow : OpenClaim := { program := "ytollpjdnahemeaa", sum := "b6700364060e74f32a2ce09f539312ebf6370dc991d417edb3ef5f134dbc8df7", func := "landfall/landfalllaw17.SoundOffsets", spec := "soundOffsets", unfollowed := true, recurses := true, apart := false, narrowed := true }
def SoundOffsetsUptoSaid : Prop := soundOffsetsUptoRow.holds Try.pinned (OpenSpec.upto soundOffsetsSpec)

end Rows
end Go.Proofs.Ytollpjdnahemeaa
