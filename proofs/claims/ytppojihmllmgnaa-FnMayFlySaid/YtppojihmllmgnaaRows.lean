/-
  No cell of these rows narrows 'for every input' (looked for: loops, veiled, ifaces, maps, wideKeys, modest, calm, conditions, laid).
  DERIVED. THE GIVEN ROWS OF THIS SEAT. 16 by the template 'for every input the law returns true; each argument reads behind the call as it read before'; 0 by the template 'total and deterministic' (their statements: YtppojihmllmgnaaTotals.lean).
  GIVEN WITH THE SEED: the statements are not yours to turn. If you find one false, say at which input.
  Laid BY PROGRAM, IN A SANDBOX (cutbox-rows.mjs): the forced cells as the released guide's own fill.sh prints them over the translation c4e39a14acdb335b… (all of the seat's roots in one cut). By AI agents, Wed Nov 11 2026. No macro, syntax, notation, axiom, sorry.
-/
import Derived.Test.YtppojihmllmgnaaChecked
import GoSem.Claim
import GoSem.ClaimJoined
import GoSem.ClaimMapViews
import Derived.JoinedTies
import Derived.KernelRfl
namespace Go.Proofs.Ytppojihmllmgnaa
/- THE CELL 'sum', in the pinned program and in every row, IS THE sha256 OF THE DUMP (.gsa) THAT YtppojihmllmgnaaProg.lean LOADS. Nothing in Lean hashes anything: it is a label: what it is worth is what the hold of that sum in a sandbox is worth. -/
noncomputable def Try.pinned : Pinned := { name := "ytppojihmllmgnaa", sum := "c4e39a14acdb335b57a48d72d8cdc37d689d2efde4cabbfd9530fd2794c9867a", checked := Try.checked }
namespace Rows
def none {H : Type} : Left H := { results := [], args := [] }

/-- 'laws.FnExactNoteOk': WHATEVER THE INPUT: true; the input reads as it did. -/
def fnExactNoteOkSpec : ChangeSpec := { name := "fnExactNoteOk", fn := fun _ => fun
  | [d] => { results := [.lit (.bool true)], args := [d] }
  | _ => none }
def fnExactNoteOkRow : OpenClaim := { program := "ytppojihmllmgnaa", sum := "c4e39a14acdb335b57a48d72d8cdc37d689d2efde4cabbfd9530fd2794c9867a", func := "loop.example/g03319/laws.FnExactNoteOk", spec := "fnExactNoteOk", apart := false }
def FnExactNoteOkSaid : Prop := fnExactNoteOkRow.holds Try.pinned (OpenSpec.ofChange fnExactNoteOkSpec)

/-- ITS FALSE NEIGHBOUR: 'it returns false'. Refute it at one input. -/
def fnExactNoteOkWrong : ChangeSpec := { name := "fnExactNoteOk", fn := fun _ => fun
  | [d] => { results := [.lit (.bool false)], args := [d] }
  | _ => none }
def FnExactNoteOkWrongFalsely : Prop := fnExactNoteOkRow.holds Try.pinned (OpenSpec.ofChange fnExactNoteOkWrong)

/-- 'laws.FnExactNotesOk': WHATEVER THE INPUT: true; the input reads as it did. -/
def fnExactNotesOkSpec : ChangeSpec := { name := "fnExactNotesOk", fn := fun _ => fun
  | [d] => { results := [.lit (.bool true)], args := [d] }
  | _ => none }
def fnExactNotesOkRow : OpenClaim := { program := "ytppojihmllmgnaa", sum := "c4e39a14acdb335b57a48d72d8cdc37d689d2efde4cabbfd9530fd2794c9867a", func := "loop.example/g03319/laws.FnExactNotesOk", spec := "fnExactNotesOk", apart := false }
def FnExactNotesOkSaid : Prop := fnExactNotesOkRow.holds Try.pinned (OpenSpec.ofChange fnExactNotesOkSpec)

/-- ITS FALSE NEIGHBOUR: 'it returns false'. Refute it at one input. -/
def fnExactNotesOkWrong : ChangeSpec := { name := "fnExactNotesOk", fn := fun _ => fun
  | [d] => { results := [.lit (.bool false)], args := [d] }
  | _ => none }
def FnExactNotesOkWrongFalsely : Prop := fnExactNotesOkRow.holds Try.pinned (OpenSpec.ofChange fnExactNotesOkWrong)

/-- 'laws.FnExactGaps': WHATEVER THE INPUT: true; the input reads as it did. -/
def fnExactGapsSpec : ChangeSpec := { name := "fnExactGaps", fn := fun _ => fun
  | [d] => { results := [.lit (.bool true)], args := [d] }
  | _ => none }
def fnExactGapsRow : OpenClaim := { program := "ytppojihmllmgnaa", sum := "c4e39a14acdb335b57a48d72d8cdc37d689d2efde4cabbfd9530fd2794c9867a", func := "loop.example/g03319/laws.FnExactGaps", spec := "fnExactGaps", apart := false }
def FnExactGapsSaid : Prop := fnExactGapsRow.holds Try.pinned (OpenSpec.ofChange fnExactGapsSpec)

/-- ITS FALSE NEIGHBOUR: 'it returns false'. Refute it at one input. -/
def fnExactGapsWrong : ChangeSpec := { name := "fnExactGaps", fn := fun _ => fun
  | [d] => { results := [.lit (.bool false)], args := [d] }
  | _ => none }
def FnExactGapsWrongFalsely : Prop := fnExactGapsRow.holds Try.pinned (OpenSpec.ofChange fnExactGapsWrong)

/-- 'laws.FnExactAboard': WHATEVER THE INPUT: true; the input reads as it did. -/
def fnExactAboardSpec : ChangeSpec := { name := "fnExactAboard", fn := fun _ => fun
  | [d1, d2, d3] => { results := [.lit (.bool true)], args := [d1, d2, d3] }
  | _ => none }
def fnExactAboardRow : OpenClaim := { program := "ytppojihmllmgnaa", sum := "c4e39a14acdb335b57a48d72d8cdc37d689d2efde4cabbfd9530fd2794c9867a", func := "loop.example/g03319/laws.FnExactAboard", spec := "fnExactAboard", unfollowed := true, recurses := true, apart := false }
def FnExactAboardSaid : Prop := fnExactAboardRow.holds Try.pinned (OpenSpec.ofChange fnExactAboardSpec)

/-- ITS FALSE NEIGHBOUR: 'it returns false'. Refute it at one input. -/
def fnExactAboardWrong : ChangeSpec := { name := "fnExactAboard", fn := fun _ => fun
  | [d1, d2, d3] => { results := [.lit (.bool false)], args := [d1, d2, d3] }
  | _ => none }
def FnExactAboardWrongFalsely : Prop := fnExactAboardRow.holds Try.pinned (OpenSpec.ofChange fnExactAboardWrong)

/-- 'laws.FnExactPulled': WHATEVER THE INPUT: true; the input reads as it did. -/
def fnExactPulledSpec : ChangeSpec := { name := "fnExactPulled", fn := fun _ => fun
  | [d1, d2, d3] => { results := [.lit (.bool true)], args := [d1, d2, d3] }
  | _ => none }
def fnExactPulledRow : OpenClaim := { program := "ytppojihmllmgnaa", sum := "c4e39a14acdb335b57a48d72d8cdc37d689d2efde4cabbfd9530fd2794c9867a", func := "loop.example/g03319/laws.FnExactPulled", spec := "fnExactPulled", unfollowed := true, recurses := true, apart := false }
def FnExactPulledSaid : Prop := fnExactPulledRow.holds Try.pinned (OpenSpec.ofChange fnExactPulledSpec)

/-- ITS FALSE NEIGHBOUR: 'it returns false'. Refute it at one input. -/
def fnExactPulledWrong : ChangeSpec := { name := "fnExactPulled", fn := fun _ => fun
  | [d1, d2, d3] => { results := [.lit (.bool false)], args := [d1, d2, d3] }
  | _ => none }
def FnExactPulledWrongFalsely : Prop := fnExactPulledRow.holds Try.pinned (OpenSpec.ofChange fnExactPulledWrong)

/-- 'laws.FnExactOwnerOf': WHATEVER THE INPUT: true; the input reads as it did. -/
def fnExactOwnerOfSpec : ChangeSpec := { name := "fnExactOwnerOf", fn := fun _ => fun
  | [d1, d2] => { results := [.lit (.bool true)], args := [d1, d2] }
  | _ => none }
def fnExactOwnerOfRow : OpenClaim := { program := "ytppojihmllmgnaa", sum := "c4e39a14acdb335b57a48d72d8cdc37d689d2efde4cabbfd9530fd2794c9867a", func := "loop.example/g03319/laws.FnExactOwnerOf", spec := "fnExactOwnerOf", unfollowed := true, recurses := true, apart := false }
def FnExactOwnerOfSaid : Prop := fnExactOwnerOfRow.holds Try.pinned (OpenSpec.ofChange fnExactOwnerOfSpec)

/-- ITS FALSE NEIGHBOUR: 'it returns false'. Refute it at one input. -/
def fnExactOwnerOfWrong : ChangeSpec := { name := "fnExactOwnerOf", fn := fun _ => fun
  | [d1, d2] => { results := [.lit (.bool false)], args := [d1, d2] }
  | _ => none }
def FnExactOwnerOfWrongFalsely : Prop := fnExactOwnerOfRow.holds Try.pinned (OpenSpec.ofChange fnExactOwnerOfWrong)

/-- 'laws.FnExactMayFly': WHATEVER THE INPUT: true; the input reads as it did. -/
def fnExactMayFlySpec : ChangeSpec := { name := "fnExactMayFly", fn := fun _ => fun
  | [d1, d2, d3] => { results := [.lit (.bool true)], args := [d1, d2, d3] }
  | _ => none }
def fnExactMayFlyRow : OpenClaim := { program := "ytppojihmllmgnaa", sum := "c4e39a14acdb335b57a48d72d8cdc37d689d2efde4cabbfd9530fd2794c9867a", func := "loop.example/g03319/laws.FnExactMayFly", spec := "fnExactMayFly", unfollowed := true, recurses := true, apart := false }
def FnExactMayFlySaid : Prop := fnExactMayFlyRow.holds Try.pinned (OpenSpec.ofChange fnExactMayFlySpec)

/-- ITS FALSE NEIGHBOUR: 'it returns false'. Refute it at one input. -/
def fnExactMayFlyWrong : ChangeSpec := { name := "fnExactMayFly", fn := fun _ => fun
  | [d1, d2, d3] => { results := [.lit (.bool false)], args := [d1, d2, d3] }
  | _ => none }
def FnExactMayFlyWrongFalsely : Prop := fnExactMayFlyRow.holds Try.pinned (OpenSpec.ofChange fnExactMayFlyWrong)

/-- 'laws.FnExactUnknown': WHATEVER THE INPUT: true; the input reads as it did. -/
def fnExactUnknownSpec : ChangeSpec := { name := "fnExactUnknown", fn := fun _ => fun
  | [d1, d2] => { results := [.lit (.bool true)], args := [d1, d2] }
  | _ => none }
def fnExactUnknownRow : OpenClaim := { program := "ytppojihmllmgnaa", sum := "c4e39a14acdb335b57a48d72d8cdc37d689d2efde4cabbfd9530fd2794c9867a", func := "loop.example/g03319/laws.FnExactUnknown", spec := "fnExactUnknown", unfollowed := true, recurses := true, apart := false }
def FnExactUnknownSaid : Prop := fnExactUnknownRow.holds Try.pinned (OpenSpec.ofChange fnExactUnknownSpec)

/-- ITS FALSE NEIGHBOUR: 'it returns false'. Refute it at one input. -/
def fnExactUnknownWrong : ChangeSpec := { name := "fnExactUnknown", fn := fun _ => fun
  | [d1, d2] => { results := [.lit (.bool false)], args := [d1, d2] }
  | _ => none }
def FnExactUnknownWrongFalsely : Prop := fnExactUnknownRow.holds Try.pinned (OpenSpec.ofChange fnExactUnknownWrong)

/-- 'laws.FnExactOffList': WHATEVER THE INPUT: true; the input reads as it did. -/
def fnExactOffListSpec : ChangeSpec := { name := "fnExactOffList", fn := fun _ => fun
  | [d1, d2, d3] => { results := [.lit (.bool true)], args := [d1, d2, d3] }
  | _ => none }
def fnExactOffListRow : OpenClaim := { program := "ytppojihmllmgnaa", sum := "c4e39a14acdb335b57a48d72d8cdc37d689d2efde4cabbfd9530fd2794c9867a", func := "loop.example/g03319/laws.FnExactOffList", spec := "fnExactOffList", unfollowed := true, recurses := true, apart := false }
def FnExactOffListSaid : Prop := fnExactOffListRow.holds Try.pinned (OpenSpec.ofChange fnExactOffListSpec)

/-- ITS FALSE NEIGHBOUR: 'it returns false'. Refute it at one input. -/
def fnExactOffListWrong : ChangeSpec := { name := "fnExactOffList", fn := fun _ => fun
  | [d1, d2, d3] => { results := [.lit (.bool false)], args := [d1, d2, d3] }
  | _ => none }
def FnExactOffListWrongFalsely : Prop := fnExactOffListRow.holds Try.pinned (OpenSpec.ofChange fnExactOffListWrong)

/-- 'laws.FnEveryMerge': WHATEVER THE INPUT: true; the input reads as it did. -/
def fnEveryMergeSpec : ChangeSpec := { name := "fnEveryMerge", fn := fun _ => fun
  | [d1, d2, d3] => { results := [.lit (.bool true)], args := [d1, d2, d3] }
  | _ => none }
def fnEveryMergeRow : OpenClaim := { program := "ytppojihmllmgnaa", sum := "c4e39a14acdb335b57a48d72d8cdc37d689d2efde4cabbfd9530fd2794c9867a", func := "loop.example/g03319/laws.FnEveryMerge", spec := "fnEveryMerge", unfollowed := true, recurses := true, apart := false }
def FnEveryMergeSaid : Prop := fnEveryMergeRow.holds Try.pinned (OpenSpec.ofChange fnEveryMergeSpec)

/-- ITS FALSE NEIGHBOUR: 'it returns false'. Refute it at one input. -/
def fnEveryMergeWrong : ChangeSpec := { name := "fnEveryMerge", fn := fun _ => fun
  | [d1, d2, d3] => { results := [.lit (.bool false)], args := [d1, d2, d3] }
  | _ => none }
def FnEveryMergeWrongFalsely : Prop := fnEveryMergeRow.holds Try.pinned (OpenSpec.ofChange fnEveryMergeWrong)

/-- 'laws.FnExactAddNote': WHATEVER THE INPUT: true; the input reads as it did. -/
def fnExactAddNoteSpec : ChangeSpec := { name := "fnExactAddNote", fn := fun _ => fun
  | [d1, d2] => { results := [.lit (.bool true)], args := [d1, d2] }
  | _ => none }
def fnExactAddNoteRow : OpenClaim := { program := "ytppojihmllmgnaa", sum := "c4e39a14acdb335b57a48d72d8cdc37d689d2efde4cabbfd9530fd2794c9867a", func := "loop.example/g03319/laws.FnExactAddNote", spec := "fnExactAddNote", unfollowed := true, recurses := true, apart := false }
def FnExactAddNoteSaid : Prop := fnExactAddNoteRow.holds Try.pinned (OpenSpec.ofChange fnExactAddNoteSpec)

/-- ITS FALSE NEIGHBOUR: 'it returns false'. Refute it at one input. -/
def fnExactAddNoteWrong : ChangeSpec := { name := "fnExactAddNote", fn := fun _ => fun
  | [d1, d2] => { results := [.lit (.bool false)], args := [d1, d2] }
  | _ => none }
def FnExactAddNoteWrongFalsely : Prop := fnExactAddNoteRow.holds Try.pinned (OpenSpec.ofChange fnExactAddNoteWrong)

/-- 'laws.FnExactMergeNotes': WHATEVER THE INPUT: true; the input reads as it did. -/
def fnExactMergeNotesSpec : ChangeSpec := { name := "fnExactMergeNotes", fn := fun _ => fun
  | [d1, d2] => { results := [.lit (.bool true)], args := [d1, d2] }
  | _ => none }
def fnExactMergeNotesRow : OpenClaim := { program := "ytppojihmllmgnaa", sum := "c4e39a14acdb335b57a48d72d8cdc37d689d2efde4cabbfd9530fd2794c9867a", func := "loop.example/g03319/laws.FnExactMergeNotes", spec := "fnExactMergeNotes", unfollowed := true, recurses := true, apart := false }
def FnExactMergeNotesSaid : Prop := fnExactMergeNotesRow.holds Try.pinned (OpenSpec.ofChange fnExactMergeNotesSpec)

/-- ITS FALSE NEIGHBOUR: 'it returns false'. Refute it at one input. -/
def fnExactMergeNotesWrong : ChangeSpec := { name := "fnExactMergeNotes", fn := fun _ => fun
  | [d1, d2] => { results := [.lit (.bool false)], args := [d1, d2] }
  | _ => none }
def FnExactMergeNotesWrongFalsely : Prop := fnExactMergeNotesRow.holds Try.pinned (OpenSpec.ofChange fnExactMergeNotesWrong)

/-- 'laws.FnExactHeldUp': WHATEVER THE INPUT: true; the input reads as it did. -/
def fnExactHeldUpSpec : ChangeSpec := { name := "fnExactHeldUp", fn := fun _ => fun
  | [d1, d2] => { results := [.lit (.bool true)], args := [d1, d2] }
  | _ => none }
def fnExactHeldUpRow : OpenClaim := { program := "ytppojihmllmgnaa", sum := "c4e39a14acdb335b57a48d72d8cdc37d689d2efde4cabbfd9530fd2794c9867a", func := "loop.example/g03319/laws.FnExactHeldUp", spec := "fnExactHeldUp", unfollowed := true, recurses := true, apart := false }
def FnExactHeldUpSaid : Prop := fnExactHeldUpRow.holds Try.pinned (OpenSpec.ofChange fnExactHeldUpSpec)

/-- ITS FALSE NEIGHBOUR: 'it returns false'. Refute it at one input. -/
def fnExactHeldUpWrong : ChangeSpec := { name := "fnExactHeldUp", fn := fun _ => fun
  | [d1, d2] => { results := [.lit (.bool false)], args := [d1, d2] }
  | _ => none }
def FnExactHeldUpWrongFalsely : Prop := fnExactHeldUpRow.holds Try.pinned (OpenSpec.ofChange fnExactHeldUpWrong)

/-- 'laws.FnAdded': WHATEVER THE INPUT: true; the input reads as it did. -/
def fnAddedSpec : ChangeSpec := { name := "fnAdded", fn := fun _ => fun
  | [d] => { results := [.lit (.bool true)], args := [d] }
  | _ => none }
def fnAddedRow : OpenClaim := { program := "ytppojihmllmgnaa", sum := "c4e39a14acdb335b57a48d72d8cdc37d689d2efde4cabbfd9530fd2794c9867a", func := "loop.example/g03319/laws.FnAdded", spec := "fnAdded", unfollowed := true, recurses := true, apart := false }
def FnAddedSaid : Prop := fnAddedRow.holds Try.pinned (OpenSpec.ofChange fnAddedSpec)

/-- ITS FALSE NEIGHBOUR: 'it returns false'. Refute it at one input. -/
def fnAddedWrong : ChangeSpec := { name := "fnAdded", fn := fun _ => fun
  | [d] => { results := [.lit (.bool false)], args := [d] }
  | _ => none }
def FnAddedWrongFalsely : Prop := fnAddedRow.holds Try.pinned (OpenSpec.ofChange fnAddedWrong)

/-- 'laws.FnMerged': WHATEVER THE INPUT: true; the input reads as it did. -/
def fnMergedSpec : ChangeSpec := { name := "fnMerged", fn := fun _ => fun
  | [d] => { results := [.lit (.bool true)], args := [d] }
  | _ => none }
def fnMergedRow : OpenClaim := { program := "ytppojihmllmgnaa", sum := "c4e39a14acdb335b57a48d72d8cdc37d689d2efde4cabbfd9530fd2794c9867a", func := "loop.example/g03319/laws.FnMerged", spec := "fnMerged", unfollowed := true, recurses := true, apart := false }
def FnMergedSaid : Prop := fnMergedRow.holds Try.pinned (OpenSpec.ofChange fnMergedSpec)

/-- ITS FALSE NEIGHBOUR: 'it returns false'. Refute it at one input. -/
def fnMergedWrong : ChangeSpec := { name := "fnMerged", fn := fun _ => fun
  | [d] => { results := [.lit (.bool false)], args := [d] }
  | _ => none }
def FnMergedWrongFalsely : Prop := fnMergedRow.holds Try.pinned (OpenSpec.ofChange fnMergedWrong)

/-- 'laws.FnMayFly': WHATEVER THE INPUT: true; the input reads as it did. -/
def fnMayFlySpec : ChangeSpec := { name := "fnMayFly", fn := fun _ => fun
  | [d] => { results := [.lit (.bool true)], args := [d] }
  | _ => none }
def fnMayFlyRow : OpenClaim := { program := "ytppojihmllmgnaa", sum := "c4e39a14acdb335b57a48d72d8cdc37d689d2efde4cabbfd9530fd2794c9867a", func := "loop.example/g03319/laws.FnMayFly", spec := "fnMayFly", unfollowed := true, recurses := true, apart := false }
def FnMayFlySaid : Prop := fnMayFlyRow.holds Try.pinned (OpenSpec.ofChange fnMayFlySpec)

/-- ITS FALSE NEIGHBOUR: 'it returns false'. Refute it at one input. -/
def fnMayFlyWrong : ChangeSpec := { name := "fnMayFly", fn := fun _ => fun
  | [d] => { results := [.lit (.bool false)], args := [d] }
  | _ => none }
def FnMayFlyWrongFalsely : Prop := fnMayFlyRow.holds Try.pinned (OpenSpec.ofChange fnMayFlyWrong)

/- THE SECOND FORM. 'bulk': how many values and letters a reading holds, each counted each time it is reached (what is shared counts as often as it is met; a slice's spare places count too). A statement '..UptoSaid' is the law's where the arguments, and the package variables that the reading takes, are together of bulk at most 1048576: NARROWER than '..Said'. Prove '..Said' where nothing that the law and all that it calls make is longer than what came in: it says more and counts as full. Else prove '..UptoSaid'. A law counts once. -/
mutual
def uptoBulk {H : Type} : DataW H → Nat
  | .lit (.string bytes) => bytes.length + 1
  | .lit _ => 1
  | .nil => 1
  | .ptr d => uptoBulk d + 1
  | .slice elems spare => uptoBulkAll elems + uptoBulkAll spare + 1
  | .agg parts => uptoBulkAll parts + 1
  | .iface _ d => uptoBulk d + 1
  | .map entries => uptoBulkEntries entries + 1
  | .held _ => 1
def uptoBulkAll {H : Type} : List (DataW H) → Nat
  | [] => 0
  | d :: r => uptoBulk d + uptoBulkAll r
def uptoBulkEntries {H : Type} : List (Lit × DataW H) → Nat
  | [] => 0
  | x :: r => uptoBulkEntry x + uptoBulkEntries r
def uptoBulkEntry {H : Type} : Lit × DataW H → Nat
  | (.string bytes, d) => bytes.length + uptoBulk d + 1
  | (_, d) => uptoBulk d + 1
 end
def uptoSmall : (H : Type) → List (DataW H) → Bool := fun _ ds => decide (uptoBulkAll ds ≤ 1048576)
def OpenSpec.upto (s : _root_.Go.ChangeSpec) : _root_.Go.OpenSpec := { _root_.Go.OpenSpec.ofChange s with cond := some uptoSmall }

/-- 'laws.FnExactNoteOk', WHERE WHAT IT READS IS OF BULK AT MOST 1048576: true; the input reads as it did. -/
def fnExactNoteOkUptoRow : OpenClaim := { program := "ytppojihmllmgnaa", sum := "c4e39a14acdb335b57a48d72d8cdc37d689d2efde4cabbfd9530fd2794c9867a", func := "loop.example/g03319/laws.FnExactNoteOk", spec := "fnExactNoteOk", apart := false, narrowed := true }
def FnExactNoteOkUptoSaid : Prop := fnExactNoteOkUptoRow.holds Try.pinned (OpenSpec.upto fnExactNoteOkSpec)

/-- 'laws.FnExactNotesOk', WHERE WHAT IT READS IS OF BULK AT MOST 1048576: true; the input reads as it did. -/
def fnExactNotesOkUptoRow : OpenClaim := { program := "ytppojihmllmgnaa", sum := "c4e39a14acdb335b57a48d72d8cdc37d689d2efde4cabbfd9530fd2794c9867a", func := "loop.example/g03319/laws.FnExactNotesOk", spec := "fnExactNotesOk", apart := false, narrowed := true }
def FnExactNotesOkUptoSaid : Prop := fnExactNotesOkUptoRow.holds Try.pinned (OpenSpec.upto fnExactNotesOkSpec)

/-- 'laws.FnExactGaps', WHERE WHAT IT READS IS OF BULK AT MOST 1048576: true; the input reads as it did. -/
def fnExactGapsUptoRow : OpenClaim := { program := "ytppojihmllmgnaa", sum := "c4e39a14acdb335b57a48d72d8cdc37d689d2efde4cabbfd9530fd2794c9867a", func := "loop.example/g03319/laws.FnExactGaps", spec := "fnExactGaps", apart := false, narrowed := true }
def FnExactGapsUptoSaid : Prop := fnExactGapsUptoRow.holds Try.pinned (OpenSpec.upto fnExactGapsSpec)

/-- 'laws.FnExactAboard', WHERE WHAT IT READS IS OF BULK AT MOST 1048576: true; the input reads as it did. -/
def fnExactAboardUptoRow : OpenClaim := { program := "ytppojihmllmgnaa", sum := "c4e39a14acdb335b57a48d72d8cdc37d689d2efde4cabbfd9530fd2794c9867a", func := "loop.example/g03319/laws.FnExactAboard", spec := "fnExactAboard", unfollowed := true, recurses := true, apart := false, narrowed := true }
def FnExactAboardUptoSaid : Prop := fnExactAboardUptoRow.holds Try.pinned (OpenSpec.upto fnExactAboardSpec)

/-- 'laws.FnExactPulled', WHERE WHAT IT READS IS OF BULK AT MOST 1048576: true; the input reads as it did. -/
def fnExactPulledUptoRow : OpenClaim := { program := "ytppojihmllmgnaa", sum := "c4e39a14acdb335b57a48d72d8cdc37d689d2efde4cabbfd9530fd2794c9867a", func := "loop.example/g03319/laws.FnExactPulled", spec := "fnExactPulled", unfollowed := true, recurses := true, apart := false, narrowed := true }
def FnExactPulledUptoSaid : Prop := fnExactPulledUptoRow.holds Try.pinned (OpenSpec.upto fnExactPulledSpec)

/-- 'laws.FnExactOwnerOf', WHERE WHAT IT READS IS OF BULK AT MOST 1048576: true; the input reads as it did. -/
def fnExactOwnerOfUptoRow : OpenClaim := { program := "ytppojihmllmgnaa", sum := "c4e39a14acdb335b57a48d72d8cdc37d689d2efde4cabbfd9530fd2794c9867a", func := "loop.example/g03319/laws.FnExactOwnerOf", spec := "fnExactOwnerOf", unfollowed := true, recurses := true, apart := false, narrowed := true }
def FnExactOwnerOfUptoSaid : Prop := fnExactOwnerOfUptoRow.holds Try.pinned (OpenSpec.upto fnExactOwnerOfSpec)

/-- 'laws.FnExactMayFly', WHERE WHAT IT READS IS OF BULK AT MOST 1048576: true; the input reads as it did. -/
def fnExactMayFlyUptoRow : OpenClaim := { program := "ytppojihmllmgnaa", sum := "c4e39a14acdb335b57a48d72d8cdc37d689d2efde4cabbfd9530fd2794c9867a", func := "loop.example/g03319/laws.FnExactMayFly", spec := "fnExactMayFly", unfollowed := true, recurses := true, apart := false, narrowed := true }
def FnExactMayFlyUptoSaid : Prop := fnExactMayFlyUptoRow.holds Try.pinned (OpenSpec.upto fnExactMayFlySpec)

/-- 'laws.FnExactUnknown', WHERE WHAT IT READS IS OF BULK AT MOST 1048576: true; the input reads as it did. -/
def fnExactUnknownUptoRow : OpenClaim := { program := "ytppojihmllmgnaa", sum := "c4e39a14acdb335b57a48d72d8cdc37d689d2efde4cabbfd9530fd2794c9867a", func := "loop.example/g03319/laws.FnExactUnknown", spec := "fnExactUnknown", unfollowed := true, recurses := true, apart := false, narrowed := true }
def FnExactUnknownUptoSaid : Prop := fnExactUnknownUptoRow.holds Try.pinned (OpenSpec.upto fnExactUnknownSpec)

/-- 'laws.FnExactOffList', WHERE WHAT IT READS IS OF BULK AT MOST 1048576: true; the input reads as it did. -/
def fnExactOffListUptoRow : OpenClaim := { program := "ytppojihmllmgnaa", sum := "c4e39a14acdb335b57a48d72d8cdc37d689d2efde4cabbfd9530fd2794c9867a", func := "loop.example/g03319/laws.FnExactOffList", spec := "fnExactOffList", unfollowed := true, recurses := true, apart := false, narrowed := true }
def FnExactOffListUptoSaid : Prop := fnExactOffListUptoRow.holds Try.pinned (OpenSpec.upto fnExactOffListSpec)

/-- 'laws.FnEveryMerge', WHERE WHAT IT READS IS OF BULK AT MOST 1048576: true; the input reads as it did. -/
def fnEveryMergeUptoRow : OpenClaim := { program := "ytppojihmllmgnaa", sum := "c4e39a14acdb335b57a48d72d8cdc37d689d2efde4cabbfd9530fd2794c9867a", func := "loop.example/g03319/laws.FnEveryMerge", spec := "fnEveryMerge", unfollowed := true, recurses := true, apart := false, narrowed := true }
def FnEveryMergeUptoSaid : Prop := fnEveryMergeUptoRow.holds Try.pinned (OpenSpec.upto fnEveryMergeSpec)

/-- 'laws.FnExactAddNote', WHERE WHAT IT READS IS OF BULK AT MOST 1048576: true; the input reads as it did. -/
def fnExactAddNoteUptoRow : OpenClaim := { program := "ytppojihmllmgnaa", sum := "c4e39a14acdb335b57a48d72d8cdc37d689d2efde4cabbfd9530fd2794c9867a", func := "loop.example/g03319/laws.FnExactAddNote", spec := "fnExactAddNote", unfollowed := true, recurses := true, apart := false, narrowed := true }
def FnExactAddNoteUptoSaid : Prop := fnExactAddNoteUptoRow.holds Try.pinned (OpenSpec.upto fnExactAddNoteSpec)

/-- 'laws.FnExactMergeNotes', WHERE WHAT IT READS IS OF BULK AT MOST 1048576: true; the input reads as it did. -/
def fnExactMergeNotesUptoRow : OpenClaim := { program := "ytppojihmllmgnaa", sum := "c4e39a14acdb335b57a48d72d8cdc37d689d2efde4cabbfd9530fd2794c9867a", func := "loop.example/g03319/laws.FnExactMergeNotes", spec := "fnExactMergeNotes", unfollowed := true, recurses := true, apart := false, narrowed := true }
def FnExactMergeNotesUptoSaid : Prop := fnExactMergeNotesUptoRow.holds Try.pinned (OpenSpec.upto fnExactMergeNotesSpec)

/-- 'laws.FnExactHeldUp', WHERE WHAT IT READS IS OF BULK AT MOST 1048576: true; the input reads as it did. -/
def fnExactHeldUpUptoRow : OpenClaim := { program := "ytppojihmllmgnaa", sum := "c4e39a14acdb335b57a48d72d8cdc37d689d2efde4cabbfd9530fd2794c9867a", func := "loop.example/g03319/laws.FnExactHeldUp", spec := "fnExactHeldUp", unfollowed := true, recurses := true, apart := false, narrowed := true }
def FnExactHeldUpUptoSaid : Prop := fnExactHeldUpUptoRow.holds Try.pinned (OpenSpec.upto fnExactHeldUpSpec)

/-- 'laws.FnAdded', WHERE WHAT IT READS IS OF BULK AT MOST 1048576: true; the input reads as it did. -/
def fnAddedUptoRow : OpenClaim := { program := "ytppojihmllmgnaa", sum := "c4e39a14acdb335b57a48d72d8cdc37d689d2efde4cabbfd9530fd2794c9867a", func := "loop.example/g03319/laws.FnAdded", spec := "fnAdded", unfollowed := true, recurses := true, apart := false, narrowed := true }
def FnAddedUptoSaid : Prop := fnAddedUptoRow.holds Try.pinned (OpenSpec.upto fnAddedSpec)

/-- 'laws.FnMerged', WHERE WHAT IT READS IS OF BULK AT MOST 1048576: true; the input reads as it did. -/
def fnMergedUptoRow : OpenClaim := { program := "ytppojihmllmgnaa", sum := "c4e39a14acdb335b57a48d72d8cdc37d689d2efde4cabbfd9530fd2794c9867a", func := "loop.example/g03319/laws.FnMerged", spec := "fnMerged", unfollowed := true, recurses := true, apart := false, narrowed := true }
def FnMergedUptoSaid : Prop := fnMergedUptoRow.holds Try.pinned (OpenSpec.upto fnMergedSpec)

/-- 'laws.FnMayFly', WHERE WHAT IT READS IS OF BULK AT MOST 1048576: true; the input reads as it did. -/
def fnMayFlyUptoRow : OpenClaim := { program := "ytppojihmllmgnaa", sum := "c4e39a14acdb335b57a48d72d8cdc37d689d2efde4cabbfd9530fd2794c9867a", func := "loop.example/g03319/laws.FnMayFly", spec := "fnMayFly", unfollowed := true, recurses := true, apart := false, narrowed := true }
def FnMayFlyUptoSaid : Prop := fnMayFlyUptoRow.holds Try.pinned (OpenSpec.upto fnMayFlySpec)

end Rows
end Go.Proofs.Ytppojihmllmgnaa
