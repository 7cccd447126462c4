/-
  No cell of these rows narrows 'for every input' (looked for: loops, veiled, ifaces, maps, wideKeys, modest, calm, conditions, laid).
  DERIVED. THE GIVEN ROWS OF THIS SEAT. 13 by the template 'for every input the law returns true; each argument reads behind the call as it read before'; 0 by the template 'total and deterministic' (their statements: YtnldmnlfocigaaaTotals.lean).
  GIVEN WITH THE SEED: the statements are not yours to turn. If you find one false, say at which input.
  Laid BY PROGRAM, IN A SANDBOX (cutbox-rows.mjs): the forced cells as the released guide's own fill.sh prints them over the translation e4939bbd247ffe8a… (all of the seat's roots in one cut). By AI agents, Wed Nov 11 2026. No macro, syntax, notation, axiom, sorry.
-/
import Derived.Test.YtnldmnlfocigaaaChecked
import GoSem.Claim
import GoSem.ClaimJoined
import GoSem.ClaimMapViews
import Derived.JoinedTies
import Derived.KernelRfl
namespace Go.Proofs.Ytnldmnlfocigaaa
/- THE CELL 'sum', in the pinned program and in every row, IS THE sha256 OF THE DUMP (.gsa) THAT YtnldmnlfocigaaaProg.lean LOADS. Nothing in Lean hashes anything: it is a label: what it is worth is what the hold of that sum in a sandbox is worth. -/
noncomputable def Try.pinned : Pinned := { name := "ytnldmnlfocigaaa", sum := "e4939bbd247ffe8adebea174c4b5b114f917d52e846264411b23fa745f6678cf", checked := Try.checked }
namespace Rows
def none {H : Type} : Left H := { results := [], args := [] }

/-- 'laws.FnEverySides': WHATEVER THE INPUT: true; the input reads as it did. -/
def fnEverySidesSpec : ChangeSpec := { name := "fnEverySides", fn := fun _ => fun
  | [d1, d2] => { results := [.lit (.bool true)], args := [d1, d2] }
  | _ => none }
def fnEverySidesRow : OpenClaim := { program := "ytnldmnlfocigaaa", sum := "e4939bbd247ffe8adebea174c4b5b114f917d52e846264411b23fa745f6678cf", func := "loop.example/g03319/laws.FnEverySides", spec := "fnEverySides", unfollowed := true, recurses := true, apart := false }
def FnEverySidesSaid : Prop := fnEverySidesRow.holds Try.pinned (OpenSpec.ofChange fnEverySidesSpec)

/-- ITS FALSE NEIGHBOUR: 'it returns false'. Refute it at one input. -/
def fnEverySidesWrong : ChangeSpec := { name := "fnEverySides", fn := fun _ => fun
  | [d1, d2] => { results := [.lit (.bool false)], args := [d1, d2] }
  | _ => none }
def FnEverySidesWrongFalsely : Prop := fnEverySidesRow.holds Try.pinned (OpenSpec.ofChange fnEverySidesWrong)

/-- 'laws.FnExactLeastDifference': WHATEVER THE INPUT: true; the input reads as it did. -/
def fnExactLeastDifferenceSpec : ChangeSpec := { name := "fnExactLeastDifference", fn := fun _ => fun
  | [d] => { results := [.lit (.bool true)], args := [d] }
  | _ => none }
def fnExactLeastDifferenceRow : OpenClaim := { program := "ytnldmnlfocigaaa", sum := "e4939bbd247ffe8adebea174c4b5b114f917d52e846264411b23fa745f6678cf", func := "loop.example/g03319/laws.FnExactLeastDifference", spec := "fnExactLeastDifference", unfollowed := true, recurses := true, apart := false }
def FnExactLeastDifferenceSaid : Prop := fnExactLeastDifferenceRow.holds Try.pinned (OpenSpec.ofChange fnExactLeastDifferenceSpec)

/-- ITS FALSE NEIGHBOUR: 'it returns false'. Refute it at one input. -/
def fnExactLeastDifferenceWrong : ChangeSpec := { name := "fnExactLeastDifference", fn := fun _ => fun
  | [d] => { results := [.lit (.bool false)], args := [d] }
  | _ => none }
def FnExactLeastDifferenceWrongFalsely : Prop := fnExactLeastDifferenceRow.holds Try.pinned (OpenSpec.ofChange fnExactLeastDifferenceWrong)

/-- 'laws.FnExactLay': WHATEVER THE INPUT: true; the input reads as it did. -/
def fnExactLaySpec : ChangeSpec := { name := "fnExactLay", fn := fun _ => fun
  | [d] => { results := [.lit (.bool true)], args := [d] }
  | _ => none }
def fnExactLayRow : OpenClaim := { program := "ytnldmnlfocigaaa", sum := "e4939bbd247ffe8adebea174c4b5b114f917d52e846264411b23fa745f6678cf", func := "loop.example/g03319/laws.FnExactLay", spec := "fnExactLay", unfollowed := true, recurses := true, apart := false }
def FnExactLaySaid : Prop := fnExactLayRow.holds Try.pinned (OpenSpec.ofChange fnExactLaySpec)

/-- ITS FALSE NEIGHBOUR: 'it returns false'. Refute it at one input. -/
def fnExactLayWrong : ChangeSpec := { name := "fnExactLay", fn := fun _ => fun
  | [d] => { results := [.lit (.bool false)], args := [d] }
  | _ => none }
def FnExactLayWrongFalsely : Prop := fnExactLayRow.holds Try.pinned (OpenSpec.ofChange fnExactLayWrong)

/-- 'laws.FnSides': WHATEVER THE INPUT: true; the input reads as it did. -/
def fnSidesSpec : ChangeSpec := { name := "fnSides", fn := fun _ => fun
  | [d] => { results := [.lit (.bool true)], args := [d] }
  | _ => none }
def fnSidesRow : OpenClaim := { program := "ytnldmnlfocigaaa", sum := "e4939bbd247ffe8adebea174c4b5b114f917d52e846264411b23fa745f6678cf", func := "loop.example/g03319/laws.FnSides", spec := "fnSides", unfollowed := true, recurses := true, apart := false }
def FnSidesSaid : Prop := fnSidesRow.holds Try.pinned (OpenSpec.ofChange fnSidesSpec)

/-- ITS FALSE NEIGHBOUR: 'it returns false'. Refute it at one input. -/
def fnSidesWrong : ChangeSpec := { name := "fnSides", fn := fun _ => fun
  | [d] => { results := [.lit (.bool false)], args := [d] }
  | _ => none }
def FnSidesWrongFalsely : Prop := fnSidesRow.holds Try.pinned (OpenSpec.ofChange fnSidesWrong)

/-- 'laws.FnExactPiecesOk': WHATEVER THE INPUT: true; the input reads as it did. -/
def fnExactPiecesOkSpec : ChangeSpec := { name := "fnExactPiecesOk", fn := fun _ => fun
  | [d] => { results := [.lit (.bool true)], args := [d] }
  | _ => none }
def fnExactPiecesOkRow : OpenClaim := { program := "ytnldmnlfocigaaa", sum := "e4939bbd247ffe8adebea174c4b5b114f917d52e846264411b23fa745f6678cf", func := "loop.example/g03319/laws.FnExactPiecesOk", spec := "fnExactPiecesOk", recurses := true, apart := false }
def FnExactPiecesOkSaid : Prop := fnExactPiecesOkRow.holds Try.pinned (OpenSpec.ofChange fnExactPiecesOkSpec)

/-- ITS FALSE NEIGHBOUR: 'it returns false'. Refute it at one input. -/
def fnExactPiecesOkWrong : ChangeSpec := { name := "fnExactPiecesOk", fn := fun _ => fun
  | [d] => { results := [.lit (.bool false)], args := [d] }
  | _ => none }
def FnExactPiecesOkWrongFalsely : Prop := fnExactPiecesOkRow.holds Try.pinned (OpenSpec.ofChange fnExactPiecesOkWrong)

/-- 'laws.FnExactBoxBound': WHATEVER THE INPUT: true; the input reads as it did. -/
def fnExactBoxBoundSpec : ChangeSpec := { name := "fnExactBoxBound", fn := fun _ => fun
  | [d1, d2] => { results := [.lit (.bool true)], args := [d1, d2] }
  | _ => none }
def fnExactBoxBoundRow : OpenClaim := { program := "ytnldmnlfocigaaa", sum := "e4939bbd247ffe8adebea174c4b5b114f917d52e846264411b23fa745f6678cf", func := "loop.example/g03319/laws.FnExactBoxBound", spec := "fnExactBoxBound", unfollowed := true, recurses := true, apart := false }
def FnExactBoxBoundSaid : Prop := fnExactBoxBoundRow.holds Try.pinned (OpenSpec.ofChange fnExactBoxBoundSpec)

/-- ITS FALSE NEIGHBOUR: 'it returns false'. Refute it at one input. -/
def fnExactBoxBoundWrong : ChangeSpec := { name := "fnExactBoxBound", fn := fun _ => fun
  | [d1, d2] => { results := [.lit (.bool false)], args := [d1, d2] }
  | _ => none }
def FnExactBoxBoundWrongFalsely : Prop := fnExactBoxBoundRow.holds Try.pinned (OpenSpec.ofChange fnExactBoxBoundWrong)

/-- 'laws.FnExactFewestBoxes': WHATEVER THE INPUT: true; the input reads as it did. -/
def fnExactFewestBoxesSpec : ChangeSpec := { name := "fnExactFewestBoxes", fn := fun _ => fun
  | [d1, d2] => { results := [.lit (.bool true)], args := [d1, d2] }
  | _ => none }
def fnExactFewestBoxesRow : OpenClaim := { program := "ytnldmnlfocigaaa", sum := "e4939bbd247ffe8adebea174c4b5b114f917d52e846264411b23fa745f6678cf", func := "loop.example/g03319/laws.FnExactFewestBoxes", spec := "fnExactFewestBoxes", unfollowed := true, recurses := true, apart := false }
def FnExactFewestBoxesSaid : Prop := fnExactFewestBoxesRow.holds Try.pinned (OpenSpec.ofChange fnExactFewestBoxesSpec)

/-- ITS FALSE NEIGHBOUR: 'it returns false'. Refute it at one input. -/
def fnExactFewestBoxesWrong : ChangeSpec := { name := "fnExactFewestBoxes", fn := fun _ => fun
  | [d1, d2] => { results := [.lit (.bool false)], args := [d1, d2] }
  | _ => none }
def FnExactFewestBoxesWrongFalsely : Prop := fnExactFewestBoxesRow.holds Try.pinned (OpenSpec.ofChange fnExactFewestBoxesWrong)

/-- 'laws.FnEveryPacking': WHATEVER THE INPUT: true; the input reads as it did. -/
def fnEveryPackingSpec : ChangeSpec := { name := "fnEveryPacking", fn := fun _ => fun
  | [d1, d2, d3] => { results := [.lit (.bool true)], args := [d1, d2, d3] }
  | _ => none }
def fnEveryPackingRow : OpenClaim := { program := "ytnldmnlfocigaaa", sum := "e4939bbd247ffe8adebea174c4b5b114f917d52e846264411b23fa745f6678cf", func := "loop.example/g03319/laws.FnEveryPacking", spec := "fnEveryPacking", unfollowed := true, recurses := true, apart := false }
def FnEveryPackingSaid : Prop := fnEveryPackingRow.holds Try.pinned (OpenSpec.ofChange fnEveryPackingSpec)

/-- ITS FALSE NEIGHBOUR: 'it returns false'. Refute it at one input. -/
def fnEveryPackingWrong : ChangeSpec := { name := "fnEveryPacking", fn := fun _ => fun
  | [d1, d2, d3] => { results := [.lit (.bool false)], args := [d1, d2, d3] }
  | _ => none }
def FnEveryPackingWrongFalsely : Prop := fnEveryPackingRow.holds Try.pinned (OpenSpec.ofChange fnEveryPackingWrong)

/-- 'laws.FnExactFirstFit': WHATEVER THE INPUT: true; the input reads as it did. -/
def fnExactFirstFitSpec : ChangeSpec := { name := "fnExactFirstFit", fn := fun _ => fun
  | [d1, d2] => { results := [.lit (.bool true)], args := [d1, d2] }
  | _ => none }
def fnExactFirstFitRow : OpenClaim := { program := "ytnldmnlfocigaaa", sum := "e4939bbd247ffe8adebea174c4b5b114f917d52e846264411b23fa745f6678cf", func := "loop.example/g03319/laws.FnExactFirstFit", spec := "fnExactFirstFit", unfollowed := true, recurses := true, apart := false }
def FnExactFirstFitSaid : Prop := fnExactFirstFitRow.holds Try.pinned (OpenSpec.ofChange fnExactFirstFitSpec)

/-- ITS FALSE NEIGHBOUR: 'it returns false'. Refute it at one input. -/
def fnExactFirstFitWrong : ChangeSpec := { name := "fnExactFirstFit", fn := fun _ => fun
  | [d1, d2] => { results := [.lit (.bool false)], args := [d1, d2] }
  | _ => none }
def FnExactFirstFitWrongFalsely : Prop := fnExactFirstFitRow.holds Try.pinned (OpenSpec.ofChange fnExactFirstFitWrong)

/-- 'laws.FnBoxesRight': WHATEVER THE INPUT: true; the input reads as it did. -/
def fnBoxesRightSpec : ChangeSpec := { name := "fnBoxesRight", fn := fun _ => fun
  | [d] => { results := [.lit (.bool true)], args := [d] }
  | _ => none }
def fnBoxesRightRow : OpenClaim := { program := "ytnldmnlfocigaaa", sum := "e4939bbd247ffe8adebea174c4b5b114f917d52e846264411b23fa745f6678cf", func := "loop.example/g03319/laws.FnBoxesRight", spec := "fnBoxesRight", unfollowed := true, recurses := true, apart := false }
def FnBoxesRightSaid : Prop := fnBoxesRightRow.holds Try.pinned (OpenSpec.ofChange fnBoxesRightSpec)

/-- ITS FALSE NEIGHBOUR: 'it returns false'. Refute it at one input. -/
def fnBoxesRightWrong : ChangeSpec := { name := "fnBoxesRight", fn := fun _ => fun
  | [d] => { results := [.lit (.bool false)], args := [d] }
  | _ => none }
def FnBoxesRightWrongFalsely : Prop := fnBoxesRightRow.holds Try.pinned (OpenSpec.ofChange fnBoxesRightWrong)

/-- 'laws.FnExactBoxesOk': WHATEVER THE INPUT: true; the input reads as it did. -/
def fnExactBoxesOkSpec : ChangeSpec := { name := "fnExactBoxesOk", fn := fun _ => fun
  | [d1, d2, d3] => { results := [.lit (.bool true)], args := [d1, d2, d3] }
  | _ => none }
def fnExactBoxesOkRow : OpenClaim := { program := "ytnldmnlfocigaaa", sum := "e4939bbd247ffe8adebea174c4b5b114f917d52e846264411b23fa745f6678cf", func := "loop.example/g03319/laws.FnExactBoxesOk", spec := "fnExactBoxesOk", unfollowed := true, recurses := true, apart := false }
def FnExactBoxesOkSaid : Prop := fnExactBoxesOkRow.holds Try.pinned (OpenSpec.ofChange fnExactBoxesOkSpec)

/-- ITS FALSE NEIGHBOUR: 'it returns false'. Refute it at one input. -/
def fnExactBoxesOkWrong : ChangeSpec := { name := "fnExactBoxesOk", fn := fun _ => fun
  | [d1, d2, d3] => { results := [.lit (.bool false)], args := [d1, d2, d3] }
  | _ => none }
def FnExactBoxesOkWrongFalsely : Prop := fnExactBoxesOkRow.holds Try.pinned (OpenSpec.ofChange fnExactBoxesOkWrong)

/-- 'laws.FnExactRepack': WHATEVER THE INPUT: true; the input reads as it did. -/
def fnExactRepackSpec : ChangeSpec := { name := "fnExactRepack", fn := fun _ => fun
  | [d1, d2] => { results := [.lit (.bool true)], args := [d1, d2] }
  | _ => none }
def fnExactRepackRow : OpenClaim := { program := "ytnldmnlfocigaaa", sum := "e4939bbd247ffe8adebea174c4b5b114f917d52e846264411b23fa745f6678cf", func := "loop.example/g03319/laws.FnExactRepack", spec := "fnExactRepack", unfollowed := true, recurses := true, apart := false }
def FnExactRepackSaid : Prop := fnExactRepackRow.holds Try.pinned (OpenSpec.ofChange fnExactRepackSpec)

/-- ITS FALSE NEIGHBOUR: 'it returns false'. Refute it at one input. -/
def fnExactRepackWrong : ChangeSpec := { name := "fnExactRepack", fn := fun _ => fun
  | [d1, d2] => { results := [.lit (.bool false)], args := [d1, d2] }
  | _ => none }
def FnExactRepackWrongFalsely : Prop := fnExactRepackRow.holds Try.pinned (OpenSpec.ofChange fnExactRepackWrong)

/-- 'laws.FnPacked': WHATEVER THE INPUT: true; the input reads as it did. -/
def fnPackedSpec : ChangeSpec := { name := "fnPacked", fn := fun _ => fun
  | [d] => { results := [.lit (.bool true)], args := [d] }
  | _ => none }
def fnPackedRow : OpenClaim := { program := "ytnldmnlfocigaaa", sum := "e4939bbd247ffe8adebea174c4b5b114f917d52e846264411b23fa745f6678cf", func := "loop.example/g03319/laws.FnPacked", spec := "fnPacked", unfollowed := true, recurses := true, apart := false }
def FnPackedSaid : Prop := fnPackedRow.holds Try.pinned (OpenSpec.ofChange fnPackedSpec)

/-- ITS FALSE NEIGHBOUR: 'it returns false'. Refute it at one input. -/
def fnPackedWrong : ChangeSpec := { name := "fnPacked", fn := fun _ => fun
  | [d] => { results := [.lit (.bool false)], args := [d] }
  | _ => none }
def FnPackedWrongFalsely : Prop := fnPackedRow.holds Try.pinned (OpenSpec.ofChange fnPackedWrong)

/- THE SECOND FORM. 'bulk': how many values and letters a reading holds, each counted each time it is reached (what is shared counts as often as it is met; a slice's spare places count too). A statement '..UptoSaid' is the law's where the arguments, and the package variables that the reading takes, are together of bulk at most 1048576: NARROWER than '..Said'. Prove '..Said' where nothing that the law and all that it calls make is longer than what came in: it says more and counts as full. Else prove '..UptoSaid'. A law counts once. -/
mutual
def uptoBulk {H : Type} : DataW H → Nat
  | .lit (.string bytes) => bytes.length + 1
  | .lit _ => 1
  | .nil => 1
  | .ptr d => uptoBulk d + 1
  | .slice elems spare => uptoBulkAll elems + uptoBulkAll spare + 1
  | .agg parts => uptoBulkAll parts + 1
  | .iface _ d => uptoBulk d + 1
  | .map entries => uptoBulkEntries entries + 1
  | .held _ => 1
def uptoBulkAll {H : Type} : List (DataW H) → Nat
  | [] => 0
  | d :: r => uptoBulk d + uptoBulkAll r
def uptoBulkEntries {H : Type} : List (Lit × DataW H) → Nat
  | [] => 0
  | x :: r => uptoBulkEntry x + uptoBulkEntries r
def uptoBulkEntry {H : Type} : Lit × DataW H → Nat
  | (.string bytes, d) => bytes.length + uptoBulk d + 1
  | (_, d) => uptoBulk d + 1
 end
def uptoSmall : (H : Type) → List (DataW H) → Bool := fun _ ds => decide (uptoBulkAll ds ≤ 1048576)
def OpenSpec.upto (s : _root_.Go.ChangeSpec) : _root_.Go.OpenSpec := { _root_.Go.OpenSpec.ofChange s with cond := some uptoSmall }

/-- 'laws.FnEverySides', WHERE WHAT IT READS IS OF BULK AT MOST 1048576: true; the input reads as it did. -/
def fnEverySidesUptoRow : OpenClaim := { program := "ytnldmnlfocigaaa", sum := "e4939bbd247ffe8adebea174c4b5b114f917d52e846264411b23fa745f6678cf", func := "loop.example/g03319/laws.FnEverySides", spec := "fnEverySides", unfollowed := true, recurses := true, apart := false, narrowed := true }
def FnEverySidesUptoSaid : Prop := fnEverySidesUptoRow.holds Try.pinned (OpenSpec.upto fnEverySidesSpec)

/-- 'laws.FnExactLeastDifference', WHERE WHAT IT READS IS OF BULK AT MOST 1048576: true; the input reads as it did. -/
def fnExactLeastDifferenceUptoRow : OpenClaim := { program := "ytnldmnlfocigaaa", sum := "e4939bbd247ffe8adebea174c4b5b114f917d52e846264411b23fa745f6678cf", func := "loop.example/g03319/laws.FnExactLeastDifference", spec := "fnExactLeastDifference", unfollowed := true, recurses := true, apart := false, narrowed := true }
def FnExactLeastDifferenceUptoSaid : Prop := fnExactLeastDifferenceUptoRow.holds Try.pinned (OpenSpec.upto fnExactLeastDifferenceSpec)

/-- 'laws.FnExactLay', WHERE WHAT IT READS IS OF BULK AT MOST 1048576: true; the input reads as it did. -/
def fnExactLayUptoRow : OpenClaim := { program := "ytnldmnlfocigaaa", sum := "e4939bbd247ffe8adebea174c4b5b114f917d52e846264411b23fa745f6678cf", func := "loop.example/g03319/laws.FnExactLay", spec := "fnExactLay", unfollowed := true, recurses := true, apart := false, narrowed := true }
def FnExactLayUptoSaid : Prop := fnExactLayUptoRow.holds Try.pinned (OpenSpec.upto fnExactLaySpec)

/-- 'laws.FnSides', WHERE WHAT IT READS IS OF BULK AT MOST 1048576: true; the input reads as it did. -/
def fnSidesUptoRow : OpenClaim := { program := "ytnldmnlfocigaaa", sum := "e4939bbd247ffe8adebea174c4b5b114f917d52e846264411b23fa745f6678cf", func := "loop.example/g03319/laws.FnSides", spec := "fnSides", unfollowed := true, recurses := true, apart := false, narrowed := true }
def FnSidesUptoSaid : Prop := fnSidesUptoRow.holds Try.pinned (OpenSpec.upto fnSidesSpec)

/-- 'laws.FnExactPiecesOk', WHERE WHAT IT READS IS OF BULK AT MOST 1048576: true; the input reads as it did. -/
def fnExactPiecesOkUptoRow : OpenClaim := { program := "ytnldmnlfocigaaa", sum := "e4939bbd247ffe8adebea174c4b5b114f917d52e846264411b23fa745f6678cf", func := "loop.example/g03319/laws.FnExactPiecesOk", spec := "fnExactPiecesOk", recurses := true, apart := false, narrowed := true }
def FnExactPiecesOkUptoSaid : Prop := fnExactPiecesOkUptoRow.holds Try.pinned (OpenSpec.upto fnExactPiecesOkSpec)

/-- 'laws.FnExactBoxBound', WHERE WHAT IT READS IS OF BULK AT MOST 1048576: true; the input reads as it did. -/
def fnExactBoxBoundUptoRow : OpenClaim := { program := "ytnldmnlfocigaaa", sum := "e4939bbd247ffe8adebea174c4b5b114f917d52e846264411b23fa745f6678cf", func := "loop.example/g03319/laws.FnExactBoxBound", spec := "fnExactBoxBound", unfollowed := true, recurses := true, apart := false, narrowed := true }
def FnExactBoxBoundUptoSaid : Prop := fnExactBoxBoundUptoRow.holds Try.pinned (OpenSpec.upto fnExactBoxBoundSpec)

/-- 'laws.FnExactFewestBoxes', WHERE WHAT IT READS IS OF BULK AT MOST 1048576: true; the input reads as it did. -/
def fnExactFewestBoxesUptoRow : OpenClaim := { program := "ytnldmnlfocigaaa", sum := "e4939bbd247ffe8adebea174c4b5b114f917d52e846264411b23fa745f6678cf", func := "loop.example/g03319/laws.FnExactFewestBoxes", spec := "fnExactFewestBoxes", unfollowed := true, recurses := true, apart := false, narrowed := true }
def FnExactFewestBoxesUptoSaid : Prop := fnExactFewestBoxesUptoRow.holds Try.pinned (OpenSpec.upto fnExactFewestBoxesSpec)

/-- 'laws.FnEveryPacking', WHERE WHAT IT READS IS OF BULK AT MOST 1048576: true; the input reads as it did. -/
def fnEveryPackingUptoRow : OpenClaim := { program := "ytnldmnlfocigaaa", sum := "e4939bbd247ffe8adebea174c4b5b114f917d52e846264411b23fa745f6678cf", func := "loop.example/g03319/laws.FnEveryPacking", spec := "fnEveryPacking", unfollowed := true, recurses := true, apart := false, narrowed := true }
def FnEveryPackingUptoSaid : Prop := fnEveryPackingUptoRow.holds Try.pinned (OpenSpec.upto fnEveryPackingSpec)

/-- 'laws.FnExactFirstFit', WHERE WHAT IT READS IS OF BULK AT MOST 1048576: true; the input reads as it did. -/
def fnExactFirstFitUptoRow : OpenClaim := { program := "ytnldmnlfocigaaa", sum := "e4939bbd247ffe8adebea174c4b5b114f917d52e846264411b23fa745f6678cf", func := "loop.example/g03319/laws.FnExactFirstFit", spec := "fnExactFirstFit", unfollowed := true, recurses := true, apart := false, narrowed := true }
def FnExactFirstFitUptoSaid : Prop := fnExactFirstFitUptoRow.holds Try.pinned (OpenSpec.upto fnExactFirstFitSpec)

/-- 'laws.FnBoxesRight', WHERE WHAT IT READS IS OF BULK AT MOST 1048576: true; the input reads as it did. -/
def fnBoxesRightUptoRow : OpenClaim := { program := "ytnldmnlfocigaaa", sum := "e4939bbd247ffe8adebea174c4b5b114f917d52e846264411b23fa745f6678cf", func := "loop.example/g03319/laws.FnBoxesRight", spec := "fnBoxesRight", unfollowed := true, recurses := true, apart := false, narrowed := true }
def FnBoxesRightUptoSaid : Prop := fnBoxesRightUptoRow.holds Try.pinned (OpenSpec.upto fnBoxesRightSpec)

/-- 'laws.FnExactBoxesOk', WHERE WHAT IT READS IS OF BULK AT MOST 1048576: true; the input reads as it did. -/
def fnExactBoxesOkUptoRow : OpenClaim := { program := "ytnldmnlfocigaaa", sum := "e4939bbd247ffe8adebea174c4b5b114f917d52e846264411b23fa745f6678cf", func := "loop.example/g03319/laws.FnExactBoxesOk", spec := "fnExactBoxesOk", unfollowed := true, recurses := true, apart := false, narrowed := true }
def FnExactBoxesOkUptoSaid : Prop := fnExactBoxesOkUptoRow.holds Try.pinned (OpenSpec.upto fnExactBoxesOkSpec)

/-- 'laws.FnExactRepack', WHERE WHAT IT READS IS OF BULK AT MOST 1048576: true; the input reads as it did. -/
def fnExactRepackUptoRow : OpenClaim := { program := "ytnldmnlfocigaaa", sum := "e4939bbd247ffe8adebea174c4b5b114f917d52e846264411b23fa745f6678cf", func := "loop.example/g03319/laws.FnExactRepack", spec := "fnExactRepack", unfollowed := true, recurses := true, apart := false, narrowed := true }
def FnExactRepackUptoSaid : Prop := fnExactRepackUptoRow.holds Try.pinned (OpenSpec.upto fnExactRepackSpec)

/-- 'laws.FnPacked', WHERE WHAT IT READS IS OF BULK AT MOST 1048576: true; the input reads as it did. -/
def fnPackedUptoRow : OpenClaim := { program := "ytnldmnlfocigaaa", sum := "e4939bbd247ffe8adebea174c4b5b114f917d52e846264411b23fa745f6678cf", func := "loop.example/g03319/laws.FnPacked", spec := "fnPacked", unfollowed := true, recurses := true, apart := false, narrowed := true }
def FnPackedUptoSaid : Prop := fnPackedUptoRow.holds Try.pinned (OpenSpec.upto fnPackedSpec)

end Rows
end Go.Proofs.Ytnldmnlfocigaaa
