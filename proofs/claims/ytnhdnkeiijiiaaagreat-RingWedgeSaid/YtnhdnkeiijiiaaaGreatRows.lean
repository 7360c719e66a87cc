/-
  No cell of these rows narrows 'for every input' (looked for: loops, veiled, ifaces, maps, wideKeys, modest, calm, conditions, laid).
  DERIVED. THE GIVEN ROWS OF THIS SEAT. 4 by the template 'for every input the law returns true; each argument reads behind the call as it read before'; 0 by the template 'total and deterministic' (their statements: YtnhdnkeiijiiaaaGreatTotals.lean).
  GIVEN WITH THE SEED: the statements are not yours to turn. If you find one false, say at which input.
  Laid BY PROGRAM, IN A SANDBOX (cutbox-rows.mjs): the forced cells as the released guide's own fill.sh prints them over the translation a47da4f0520b68a3… (all of the seat's roots in one cut). By AI agents, Wed Nov 11 2026. No macro, syntax, notation, axiom, sorry.
-/
import Derived.Test.YtnhdnkeiijiiaaaGreatChecked
import GoSem.Claim
import GoSem.ClaimJoined
import GoSem.ClaimMapViews
import Derived.JoinedTies
import Derived.KernelRfl
namespace Go.Proofs.YtnhdnkeiijiiaaaGreat
/- THE CELL 'sum', in the pinned program and in every row, IS THE sha256 OF THE DUMP (.gsa) THAT YtnhdnkeiijiiaaaGreatProg.lean LOADS. Nothing in Lean hashes anything: it is a label: what it is worth is what the hold of that sum in a sandbox is worth. -/
noncomputable def Tryz.pinned : Pinned := { name := "ytnhdnkeiijiiaaagreat", sum := "a47da4f0520b68a3bd7cc438930ba2f7cee2836abe4778bd7d00c447183cbeb3", checked := Tryz.checked }
namespace Rows
def none {H : Type} : Left H := { results := [], args := [] }

/-- 'landfalllaw10.RingHas': WHATEVER THE INPUT: true; the input reads as it did. -/
def ringHasSpec : ChangeSpec := { name := "ringHas", fn := fun _ => fun
  | [d1, d2, d3] => { results := [.lit (.bool true)], args := [d1, d2, d3] }
  | _ => none }
def ringHasRow : OpenClaim := { program := "ytnhdnkeiijiiaaagreat", sum := "a47da4f0520b68a3bd7cc438930ba2f7cee2836abe4778bd7d00c447183cbeb3", func := "landfall/landfalllaw10.RingHas", spec := "ringHas", unfollowed := true, recurses := true, apart := false }
def RingHasSaid : Prop := ringHasRow.holds Tryz.pinned (OpenSpec.ofChange ringHasSpec)

/-- ITS FALSE NEIGHBOUR: 'it returns false'. Refute it at one input. -/
def ringHasWrong : ChangeSpec := { name := "ringHas", fn := fun _ => fun
  | [d1, d2, d3] => { results := [.lit (.bool false)], args := [d1, d2, d3] }
  | _ => none }
def RingHasWrongFalsely : Prop := ringHasRow.holds Tryz.pinned (OpenSpec.ofChange ringHasWrong)

/-- 'landfalllaw10.RingTight': WHATEVER THE INPUT: true; the input reads as it did. -/
def ringTightSpec : ChangeSpec := { name := "ringTight", fn := fun _ => fun
  | [d1, d2, d3] => { results := [.lit (.bool true)], args := [d1, d2, d3] }
  | _ => none }
def ringTightRow : OpenClaim := { program := "ytnhdnkeiijiiaaagreat", sum := "a47da4f0520b68a3bd7cc438930ba2f7cee2836abe4778bd7d00c447183cbeb3", func := "landfall/landfalllaw10.RingTight", spec := "ringTight", unfollowed := true, recurses := true, apart := false }
def RingTightSaid : Prop := ringTightRow.holds Tryz.pinned (OpenSpec.ofChange ringTightSpec)

/-- ITS FALSE NEIGHBOUR: 'it returns false'. Refute it at one input. -/
def ringTightWrong : ChangeSpec := { name := "ringTight", fn := fun _ => fun
  | [d1, d2, d3] => { results := [.lit (.bool false)], args := [d1, d2, d3] }
  | _ => none }
def RingTightWrongFalsely : Prop := ringTightRow.holds Tryz.pinned (OpenSpec.ofChange ringTightWrong)

/-- 'landfalllaw10.RingWedge': WHATEVER THE INPUT: true; the input reads as it did. -/
def ringWedgeSpec : ChangeSpec := { name := "ringWedge", fn := fun _ => fun
  | [d1, d2, d3, d4, d5] => { results := [.lit (.bool true)], args := [d1, d2, d3, d4, d5] }
  | _ => none }
def ringWedgeRow : OpenClaim := { program := "ytnhdnkeiijiiaaagreat", sum := "a47da4f0520b68a3bd7cc438930ba2f7cee2836abe4778bd7d00c447183cbeb3", func := "landfall/landfalllaw10.RingWedge", spec := "ringWedge", unfollowed := true, recurses := true, apart := false }
def RingWedgeSaid : Prop := ringWedgeRow.holds Tryz.pinned (OpenSpec.ofChange ringWedgeSpec)

/-- ITS FALSE NEIGHBOUR: 'it returns false'. Refute it at one input. -/
def ringWedgeWrong : ChangeSpec := { name := "ringWedge", fn := fun _ => fun
  | [d1, d2, d3, d4, d5] => { results := [.lit (.bool false)], args := [d1, d2, d3, d4, d5] }
  | _ => none }
def RingWedgeWrongFalsely : Prop := ringWedgeRow.holds Tryz.pinned (OpenSpec.ofChange ringWedgeWrong)

/-- 'landfalllaw10.RingNear': WHATEVER THE INPUT: true; the input reads as it did. -/
def ringNearSpec : ChangeSpec := { name := "ringNear", fn := fun _ => fun
  | [d1, d2, d3, d4] => { results := [.lit (.bool true)], args := [d1, d2, d3, d4] }
  | _ => none }
def ringNearRow : OpenClaim := { program := "ytnhdnkeiijiiaaagreat", sum := "a47da4f0520b68a3bd7cc438930ba2f7cee2836abe4778bd7d00c447183cbeb3", func := "landfall/landfalllaw10.RingNear", spec := "ringNear", unfollowed := true, recurses := true, apart := false }
def RingNearSaid : Prop := ringNearRow.holds Tryz.pinned (OpenSpec.ofChange ringNearSpec)

/-- ITS FALSE NEIGHBOUR: 'it returns false'. Refute it at one input. -/
def ringNearWrong : ChangeSpec := { name := "ringNear", fn := fun _ => fun
  | [d1, d2, d3, d4] => { results := [.lit (.bool false)], args := [d1, d2, d3, d4] }
  | _ => none }
def RingNearWrongFalsely : Prop := ringNearRow.holds Tryz.pinned (OpenSpec.ofChange ringNearWrong)

/- THE SECOND FORM. 'bulk': how many values and letters a reading holds, each counted each time it is reached (what is shared counts as often as it is met; a slice's spare places count too). A statement '..UptoSaid' is the law's where the arguments, and the package variables that the reading takes, are together of bulk at most 1048576: NARROWER than '..Said'. Prove '..Said' where nothing that the law and all that it calls make is longer than what came in: it says more and counts as full. Else prove '..UptoSaid'. A law counts once. -/
mutual
def uptoBulk {H : Type} : DataW H → Nat
  | .lit (.string bytes) => bytes.length + 1
  | .lit _ => 1
  | .nil => 1
  | .ptr d => uptoBulk d + 1
  | .slice elems spare => uptoBulkAll elems + uptoBulkAll spare + 1
  | .agg parts => uptoBulkAll parts + 1
  | .iface _ d => uptoBulk d + 1
  | .map entries => uptoBulkEntries entries + 1
  | .held _ => 1
def uptoBulkAll {H : Type} : List (DataW H) → Nat
  | [] => 0
  | d :: r => uptoBulk d + uptoBulkAll r
def uptoBulkEntries {H : Type} : List (Lit × DataW H) → Nat
  | [] => 0
  | x :: r => uptoBulkEntry x + uptoBulkEntries r
def uptoBulkEntry {H : Type} : Lit × DataW H → Nat
  | (.string bytes, d) => bytes.length + uptoBulk d + 1
  | (_, d) => uptoBulk d + 1
 end
def uptoSmall : (H : Type) → List (DataW H) → Bool := fun _ ds => decide (uptoBulkAll ds ≤ 1048576)
def OpenSpec.upto (s : _root_.Go.ChangeSpec) : _root_.Go.OpenSpec := { _root_.Go.OpenSpec.ofChange s with cond := some uptoSmall }

/-- 'landfalllaw10.RingHas', WHERE WHAT IT READS IS OF BULK AT MOST 1048576: true; the input reads as it did. -/
def ringHasUptoRow : OpenClaim := { program := "ytnhdnkeiijiiaaagreat", sum := "a47da4f0520b68a3bd7cc438930ba2f7cee2836abe4778bd7d00c447183cbeb3", func := "landfall/landfalllaw10.RingHas", spec := "ringHas", unfollowed := true, recurses := true, apart := false, narrowed := true }
def RingHasUptoSaid : Prop := ringHasUptoRow.holds Tryz.pinned (OpenSpec.upto ringHasSpec)

/-- 'landfalllaw10.RingTight', WHERE WHAT IT READS IS OF BULK AT MOST 1048576: true; the input reads as it did. -/
def ringTightUptoRow : OpenClaim := { program := "ytnhdnkeiijiiaaagreat", sum := "a47da4f0520b68a3bd7cc438930ba2f7cee2836abe4778bd7d00c447183cbeb3", func := "landfall/landfalllaw10.RingTight", spec := "ringTight", unfollowed := true, recurses := true, apart := false, narrowed := true }
def RingTightUptoSaid : Prop := ringTightUptoRow.holds Tryz.pinned (OpenSpec.upto ringTightSpec)

/-- 'landfalllaw10.RingWedge', WHERE WHAT IT READS IS OF BULK AT MOST 1048576: true; the input reads as it did. -/
def ringWedgeUptoRow : OpenClaim := { program := "ytnhdnkeiijiiaaagreat", sum := "a47da4f0520b68a3bd7cc438930ba2f7cee2836abe4778bd7d00c447183cbeb3", func := "landfall/landfalllaw10.RingWedge", spec := "ringWedge", unfollowed := true, recurses := true, apart := false, narrowed := true }
def RingWedgeUptoSaid : Prop := ringWedgeUptoRow.holds Tryz.pinned (OpenSpec.upto ringWedgeSpec)

/-- 'landfalllaw10.RingNear', WHERE WHAT IT READS IS OF BULK AT MOST 1048576: true; the input reads as it did. -/
def ringNearUptoRow : OpenClaim := { program := "ytnhdnkeiijiiaaagreat", sum := "a47da4f0520b68a3bd7cc438930ba2f7cee2836abe4778bd7d00c447183cbeb3", func := "landfall/landfalllaw10.RingNear", spec := "ringNear", unfollowed := true, recurses := true, apart := false, narrowed := true }
def RingNearUptoSaid : Prop := ringNearUptoRow.holds Tryz.pinned (OpenSpec.upto ringNearSpec)

end Rows
end Go.Proofs.YtnhdnkeiijiiaaaGreat
