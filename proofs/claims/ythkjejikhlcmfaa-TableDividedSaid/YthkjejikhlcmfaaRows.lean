/-
  No cell of these rows narrows 'for every input' (looked for: loops, veiled, ifaces, maps, wideKeys, modest, calm, conditions, laid).
  DERIVED. THE GIVEN ROWS OF THIS SEAT. 7 by the template 'for every input the law returns true; each argument reads behind the call as it read before'; 0 by the template 'total and deterministic' (their statements: YthkjejikhlcmfaaTotals.lean).
  GIVEN WITH THE SEED: the statements are not yours to turn. If you find one false, say at which input.
  Laid BY PROGRAM, IN A SANDBOX (cutbox-rows.mjs): the forced cells as the released guide's own fill.sh prints them over the translation 236a3296f65d8e97… (all of the seat's roots in one cut). By AI agents, Wed Nov 11 2026. No macro, syntax, notation, axiom, sorry.
-/
import Derived.Test.YthkjejikhlcmfaaChecked
import GoSem.Claim
import GoSem.ClaimJoined
import GoSem.ClaimMapViews
import Derived.JoinedTies
import Derived.KernelRfl
namespace Go.Proofs.Ythkjejikhlcmfaa
/- THE CELL 'sum', in the pinned program and in every row, IS THE sha256 OF THE DUMP (.gsa) THAT YthkjejikhlcmfaaProg.lean LOADS. Nothing in Lean hashes anything: it is a label: what it is worth is what the hold of that sum in a sandbox is worth. -/
noncomputable def Try.pinned : Pinned := { name := "ythkjejikhlcmfaa", sum := "236a3296f65d8e979a774098d497db3dae2a3938242e4a60b6a7da14c6e80519", checked := Try.checked }
namespace Rows
def none {H : Type} : Left H := { results := [], args := [] }

/-- 'landfalllaw12.TableMatchesReference': WHATEVER THE INPUT: true; the input reads as it did. -/
def tableMatchesReferenceSpec : ChangeSpec := { name := "tableMatchesReference", fn := fun _ => fun
  | [d1, d2, d3, d4] => { results := [.lit (.bool true)], args := [d1, d2, d3, d4] }
  | _ => none }
def tableMatchesReferenceRow : OpenClaim := { program := "ythkjejikhlcmfaa", sum := "236a3296f65d8e979a774098d497db3dae2a3938242e4a60b6a7da14c6e80519", func := "landfall/landfalllaw12.TableMatchesReference", spec := "tableMatchesReference", unfollowed := true, recurses := true, apart := false }
def TableMatchesReferenceSaid : Prop := tableMatchesReferenceRow.holds Try.pinned (OpenSpec.ofChange tableMatchesReferenceSpec)

/-- ITS FALSE NEIGHBOUR: 'it returns false'. Refute it at one input. -/
def tableMatchesReferenceWrong : ChangeSpec := { name := "tableMatchesReference", fn := fun _ => fun
  | [d1, d2, d3, d4] => { results := [.lit (.bool false)], args := [d1, d2, d3, d4] }
  | _ => none }
def TableMatchesReferenceWrongFalsely : Prop := tableMatchesReferenceRow.holds Try.pinned (OpenSpec.ofChange tableMatchesReferenceWrong)

/-- 'landfalllaw12.TableFirst': WHATEVER THE INPUT: true; the input reads as it did. -/
def tableFirstSpec : ChangeSpec := { name := "tableFirst", fn := fun _ => fun
  | [d1, d2, d3, d4] => { results := [.lit (.bool true)], args := [d1, d2, d3, d4] }
  | _ => none }
def tableFirstRow : OpenClaim := { program := "ythkjejikhlcmfaa", sum := "236a3296f65d8e979a774098d497db3dae2a3938242e4a60b6a7da14c6e80519", func := "landfall/landfalllaw12.TableFirst", spec := "tableFirst", unfollowed := true, recurses := true, apart := false }
def TableFirstSaid : Prop := tableFirstRow.holds Try.pinned (OpenSpec.ofChange tableFirstSpec)

/-- ITS FALSE NEIGHBOUR: 'it returns false'. Refute it at one input. -/
def tableFirstWrong : ChangeSpec := { name := "tableFirst", fn := fun _ => fun
  | [d1, d2, d3, d4] => { results := [.lit (.bool false)], args := [d1, d2, d3, d4] }
  | _ => none }
def TableFirstWrongFalsely : Prop := tableFirstRow.holds Try.pinned (OpenSpec.ofChange tableFirstWrong)

/-- 'landfalllaw12.TableFurther': WHATEVER THE INPUT: true; the input reads as it did. -/
def tableFurtherSpec : ChangeSpec := { name := "tableFurther", fn := fun _ => fun
  | [d1, d2, d3, d4, d5] => { results := [.lit (.bool true)], args := [d1, d2, d3, d4, d5] }
  | _ => none }
def tableFurtherRow : OpenClaim := { program := "ythkjejikhlcmfaa", sum := "236a3296f65d8e979a774098d497db3dae2a3938242e4a60b6a7da14c6e80519", func := "landfall/landfalllaw12.TableFurther", spec := "tableFurther", unfollowed := true, recurses := true, apart := false }
def TableFurtherSaid : Prop := tableFurtherRow.holds Try.pinned (OpenSpec.ofChange tableFurtherSpec)

/-- ITS FALSE NEIGHBOUR: 'it returns false'. Refute it at one input. -/
def tableFurtherWrong : ChangeSpec := { name := "tableFurther", fn := fun _ => fun
  | [d1, d2, d3, d4, d5] => { results := [.lit (.bool false)], args := [d1, d2, d3, d4, d5] }
  | _ => none }
def TableFurtherWrongFalsely : Prop := tableFurtherRow.holds Try.pinned (OpenSpec.ofChange tableFurtherWrong)

/-- 'landfalllaw12.TableCovered': WHATEVER THE INPUT: true; the input reads as it did. -/
def tableCoveredSpec : ChangeSpec := { name := "tableCovered", fn := fun _ => fun
  | [d1, d2, d3, d4, d5, d6] => { results := [.lit (.bool true)], args := [d1, d2, d3, d4, d5, d6] }
  | _ => none }
def tableCoveredRow : OpenClaim := { program := "ythkjejikhlcmfaa", sum := "236a3296f65d8e979a774098d497db3dae2a3938242e4a60b6a7da14c6e80519", func := "landfall/landfalllaw12.TableCovered", spec := "tableCovered", unfollowed := true, recurses := true, apart := false }
def TableCoveredSaid : Prop := tableCoveredRow.holds Try.pinned (OpenSpec.ofChange tableCoveredSpec)

/-- ITS FALSE NEIGHBOUR: 'it returns false'. Refute it at one input. -/
def tableCoveredWrong : ChangeSpec := { name := "tableCovered", fn := fun _ => fun
  | [d1, d2, d3, d4, d5, d6] => { results := [.lit (.bool false)], args := [d1, d2, d3, d4, d5, d6] }
  | _ => none }
def TableCoveredWrongFalsely : Prop := tableCoveredRow.holds Try.pinned (OpenSpec.ofChange tableCoveredWrong)

/-- 'landfalllaw12.TableDivided': WHATEVER THE INPUT: true; the input reads as it did. -/
def tableDividedSpec : ChangeSpec := { name := "tableDivided", fn := fun _ => fun
  | [d1, d2, d3, d4, d5, d6] => { results := [.lit (.bool true)], args := [d1, d2, d3, d4, d5, d6] }
  | _ => none }
def tableDividedRow : OpenClaim := { program := "ythkjejikhlcmfaa", sum := "236a3296f65d8e979a774098d497db3dae2a3938242e4a60b6a7da14c6e80519", func := "landfall/landfalllaw12.TableDivided", spec := "tableDivided", unfollowed := true, recurses := true, apart := false }
def TableDividedSaid : Prop := tableDividedRow.holds Try.pinned (OpenSpec.ofChange tableDividedSpec)

/-- ITS FALSE NEIGHBOUR: 'it returns false'. Refute it at one input. -/
def tableDividedWrong : ChangeSpec := { name := "tableDivided", fn := fun _ => fun
  | [d1, d2, d3, d4, d5, d6] => { results := [.lit (.bool false)], args := [d1, d2, d3, d4, d5, d6] }
  | _ => none }
def TableDividedWrongFalsely : Prop := tableDividedRow.holds Try.pinned (OpenSpec.ofChange tableDividedWrong)

/-- 'landfalllaw12.TableLess': WHATEVER THE INPUT: true; the input reads as it did. -/
def tableLessSpec : ChangeSpec := { name := "tableLess", fn := fun _ => fun
  | [d1, d2, d3, d4, d5, d6] => { results := [.lit (.bool true)], args := [d1, d2, d3, d4, d5, d6] }
  | _ => none }
def tableLessRow : OpenClaim := { program := "ythkjejikhlcmfaa", sum := "236a3296f65d8e979a774098d497db3dae2a3938242e4a60b6a7da14c6e80519", func := "landfall/landfalllaw12.TableLess", spec := "tableLess", unfollowed := true, recurses := true, apart := false }
def TableLessSaid : Prop := tableLessRow.holds Try.pinned (OpenSpec.ofChange tableLessSpec)

/-- ITS FALSE NEIGHBOUR: 'it returns false'. Refute it at one input. -/
def tableLessWrong : ChangeSpec := { name := "tableLess", fn := fun _ => fun
  | [d1, d2, d3, d4, d5, d6] => { results := [.lit (.bool false)], args := [d1, d2, d3, d4, d5, d6] }
  | _ => none }
def TableLessWrongFalsely : Prop := tableLessRow.holds Try.pinned (OpenSpec.ofChange tableLessWrong)

/-- 'landfalllaw12.TableOrder': WHATEVER THE INPUT: true; the input reads as it did. -/
def tableOrderSpec : ChangeSpec := { name := "tableOrder", fn := fun _ => fun
  | [d1, d2, d3, d4, d5] => { results := [.lit (.bool true)], args := [d1, d2, d3, d4, d5] }
  | _ => none }
def tableOrderRow : OpenClaim := { program := "ythkjejikhlcmfaa", sum := "236a3296f65d8e979a774098d497db3dae2a3938242e4a60b6a7da14c6e80519", func := "landfall/landfalllaw12.TableOrder", spec := "tableOrder", unfollowed := true, recurses := true, apart := false }
def TableOrderSaid : Prop := tableOrderRow.holds Try.pinned (OpenSpec.ofChange tableOrderSpec)

/-- ITS FALSE NEIGHBOUR: 'it returns false'. Refute it at one input. -/
def tableOrderWrong : ChangeSpec := { name := "tableOrder", fn := fun _ => fun
  | [d1, d2, d3, d4, d5] => { results := [.lit (.bool false)], args := [d1, d2, d3, d4, d5] }
  | _ => none }
def TableOrderWrongFalsely : Prop := tableOrderRow.holds Try.pinned (OpenSpec.ofChange tableOrderWrong)

/- THE SECOND FORM. 'bulk': how many values and letters a reading holds, each counted each time it is reached (what is shared counts as often as it is met; a slice's spare places count too). A statement '..UptoSaid' is the law's where the arguments, and the package variables that the reading takes, are together of bulk at most 1048576: NARROWER than '..Said'. Prove '..Said' where nothing that the law and all that it calls make is longer than what came in: it says more and counts as full. Else prove '..UptoSaid'. A law counts once. -/
mutual
def uptoBulk {H : Type} : DataW H → Nat
  | .lit (.string bytes) => bytes.length + 1
  | .lit _ => 1
  | .nil => 1
  | .ptr d => uptoBulk d + 1
  | .slice elems spare => uptoBulkAll elems + uptoBulkAll spare + 1
  | .agg parts => uptoBulkAll parts + 1
  | .iface _ d => uptoBulk d + 1
  | .map entries => uptoBulkEntries entries + 1
  | .held _ => 1
def uptoBulkAll {H : Type} : List (DataW H) → Nat
  | [] => 0
  | d :: r => uptoBulk d + uptoBulkAll r
def uptoBulkEntries {H : Type} : List (Lit × DataW H) → Nat
  | [] => 0
  | x :: r => uptoBulkEntry x + uptoBulkEntries r
def uptoBulkEntry {H : Type} : Lit × DataW H → Nat
  | (.string bytes, d) => bytes.length + uptoBulk d + 1
  | (_, d) => uptoBulk d + 1
 end
def uptoSmall : (H : Type) → List (DataW H) → Bool := fun _ ds => decide (uptoBulkAll ds ≤ 1048576)
def OpenSpec.upto (s : _root_.Go.ChangeSpec) : _root_.Go.OpenSpec := { _root_.Go.OpenSpec.ofChange s with cond := some uptoSmall }

/-- 'landfalllaw12.TableMatchesReference', WHERE WHAT IT READS IS OF BULK AT MOST 1048576: true; the input reads as it did. -/
def tableMatchesReferenceUptoRow : OpenClaim := { program := "ythkjejikhlcmfaa", sum := "236a3296f65d8e979a774098d497db3dae2a3938242e4a60b6a7da14c6e80519", func := "landfall/landfalllaw12.TableMatchesReference", spec := "tableMatchesReference", unfollowed := true, recurses := true, apart := false, narrowed := true }
def TableMatchesReferenceUptoSaid : Prop := tableMatchesReferenceUptoRow.holds Try.pinned (OpenSpec.upto tableMatchesReferenceSpec)

/-- 'landfalllaw12.TableFirst', WHERE WHAT IT READS IS OF BULK AT MOST 1048576: true; the input reads as it did. -/
def tableFirstUptoRow : OpenClaim := { program := "ythkjejikhlcmfaa", sum := "236a3296f65d8e979a774098d497db3dae2a3938242e4a60b6a7da14c6e80519", func := "landfall/landfalllaw12.TableFirst", spec := "tableFirst", unfollowed := true, recurses := true, apart := false, narrowed := true }
def TableFirstUptoSaid : Prop := tableFirstUptoRow.holds Try.pinned (OpenSpec.upto tableFirstSpec)

/-- 'landfalllaw12.TableFurther', WHERE WHAT IT READS IS OF BULK AT MOST 1048576: true; the input reads as it did. -/
def tableFurtherUptoRow : OpenClaim := { program := "ythkjejikhlcmfaa", sum := "236a3296f65d8e979a774098d497db3dae2a3938242e4a60b6a7da14c6e80519", func := "landfall/landfalllaw12.TableFurther", spec := "tableFurther", unfollowed := true, recurses := true, apart := false, narrowed := true }
def TableFurtherUptoSaid : Prop := tableFurtherUptoRow.holds Try.pinned (OpenSpec.upto tableFurtherSpec)

/-- 'landfalllaw12.TableCovered', WHERE WHAT IT READS IS OF BULK AT MOST 1048576: true; the input reads as it did. -/
def tableCoveredUptoRow : OpenClaim := { program := "ythkjejikhlcmfaa", sum := "236a3296f65d8e979a774098d497db3dae2a3938242e4a60b6a7da14c6e80519", func := "landfall/landfalllaw12.TableCovered", spec := "tableCovered", unfollowed := true, recurses := true, apart := false, narrowed := true }
def TableCoveredUptoSaid : Prop := tableCoveredUptoRow.holds Try.pinned (OpenSpec.upto tableCoveredSpec)

/-- 'landfalllaw12.TableDivided', WHERE WHAT IT READS IS OF BULK AT MOST 1048576: true; the input reads as it did. -/
def tableDividedUptoRow : OpenClaim := { program := "ythkjejikhlcmfaa", sum := "236a3296f65d8e979a774098d497db3dae2a3938242e4a60b6a7da14c6e80519", func := "landfall/landfalllaw12.TableDivided", spec := "tableDivided", unfollowed := true, recurses := true, apart := false, narrowed := true }
def TableDividedUptoSaid : Prop := tableDividedUptoRow.holds Try.pinned (OpenSpec.upto tableDividedSpec)

/-- 'landfalllaw12.TableLess', WHERE WHAT IT READS IS OF BULK AT MOST 1048576: true; the input reads as it did. -/
def tableLessUptoRow : OpenClaim := { program := "ythkjejikhlcmfaa", sum := "236a3296f65d8e979a774098d497db3dae2a3938242e4a60b6a7da14c6e80519", func := "landfall/landfalllaw12.TableLess", spec := "tableLess", unfollowed := true, recurses := true, apart := false, narrowed := true }
def TableLessUptoSaid : Prop := tableLessUptoRow.holds Try.pinned (OpenSpec.upto tableLessSpec)

/-- 'landfalllaw12.TableOrder', WHERE WHAT IT READS IS OF BULK AT MOST 1048576: true; the input reads as it did. -/
def tableOrderUptoRow : OpenClaim := { program := "ythkjejikhlcmfaa", sum := "236a3296f65d8e979a774098d497db3dae2a3938242e4a60b6a7da14c6e80519", func := "landfall/landfalllaw12.TableOrder", spec := "tableOrder", unfollowed := true, recurses := true, apart := false, narrowed := true }
def TableOrderUptoSaid : Prop := tableOrderUptoRow.holds Try.pinned (OpenSpec.upto tableOrderSpec)

end Rows
end Go.Proofs.Ythkjejikhlcmfaa
