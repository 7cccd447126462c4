/-
  No cell of these rows narrows 'for every input' (looked for: loops, veiled, ifaces, maps, wideKeys, modest, calm, conditions, laid).
  DERIVED. THE GIVEN ROWS OF THIS SEAT. 5 by the template 'for every input the law returns true; each argument reads behind the call as it read before'; 0 by the template 'total and deterministic' (their statements: YtpmjopbgccajgaaGreatTotals.lean).
  GIVEN WITH THE SEED: the statements are not yours to turn. If you find one false, say at which input.
  Laid BY PROGRAM, IN A SANDBOX (cutbox-rows.mjs): the forced cells as the released guide's own fill.sh prints them over the translation ef3c25a518a5328f… (all of the seat's roots in one cut). By AI agents, Wed Nov 11 2026. No macro, syntax, notation, axiom, sorry.
-/
import Derived.Test.YtpmjopbgccajgaaGreatChecked
import GoSem.Claim
import GoSem.ClaimJoined
import GoSem.ClaimMapViews
import Derived.JoinedTies
import Derived.KernelRfl
namespace Go.Proofs.YtpmjopbgccajgaaGreat
/- THE CELL 'sum', in the pinned program and in every row, IS THE sha256 OF THE DUMP (.gsa) THAT YtpmjopbgccajgaaGreatProg.lean LOADS. Nothing in Lean hashes anything: it is a label: what it is worth is what the hold of that sum in a sandbox is worth. -/
noncomputable def Tryz.pinned : Pinned := { name := "ytpmjopbgccajgaagreat", sum := "ef3c25a518a5328f9de3307dedb286513d91d227defa5c2be714423fdeb8645a", checked := Tryz.checked }
namespace Rows
def none {H : Type} : Left H := { results := [], args := [] }

/-- 'laws.FnHallDeparts': WHATEVER THE INPUT: true; the input reads as it did. -/
def fnHallDepartsSpec : ChangeSpec := { name := "fnHallDeparts", fn := fun _ => fun
  | [d] => { results := [.lit (.bool true)], args := [d] }
  | _ => none }
def fnHallDepartsRow : OpenClaim := { program := "ytpmjopbgccajgaagreat", sum := "ef3c25a518a5328f9de3307dedb286513d91d227defa5c2be714423fdeb8645a", func := "loop.example/g03319/laws.FnHallDeparts", spec := "fnHallDeparts", unfollowed := true, recurses := true, apart := false }
def FnHallDepartsSaid : Prop := fnHallDepartsRow.holds Tryz.pinned (OpenSpec.ofChange fnHallDepartsSpec)

/-- ITS FALSE NEIGHBOUR: 'it returns false'. Refute it at one input. -/
def fnHallDepartsWrong : ChangeSpec := { name := "fnHallDeparts", fn := fun _ => fun
  | [d] => { results := [.lit (.bool false)], args := [d] }
  | _ => none }
def FnHallDepartsWrongFalsely : Prop := fnHallDepartsRow.holds Tryz.pinned (OpenSpec.ofChange fnHallDepartsWrong)

/-- 'laws.FnExactCanDepart': WHATEVER THE INPUT: true; the input reads as it did. -/
def fnExactCanDepartSpec : ChangeSpec := { name := "fnExactCanDepart", fn := fun _ => fun
  | [d1, d2] => { results := [.lit (.bool true)], args := [d1, d2] }
  | _ => none }
def fnExactCanDepartRow : OpenClaim := { program := "ytpmjopbgccajgaagreat", sum := "ef3c25a518a5328f9de3307dedb286513d91d227defa5c2be714423fdeb8645a", func := "loop.example/g03319/laws.FnExactCanDepart", spec := "fnExactCanDepart", unfollowed := true, recurses := true, apart := false }
def FnExactCanDepartSaid : Prop := fnExactCanDepartRow.holds Tryz.pinned (OpenSpec.ofChange fnExactCanDepartSpec)

/-- ITS FALSE NEIGHBOUR: 'it returns false'. Refute it at one input. -/
def fnExactCanDepartWrong : ChangeSpec := { name := "fnExactCanDepart", fn := fun _ => fun
  | [d1, d2] => { results := [.lit (.bool false)], args := [d1, d2] }
  | _ => none }
def FnExactCanDepartWrongFalsely : Prop := fnExactCanDepartRow.holds Tryz.pinned (OpenSpec.ofChange fnExactCanDepartWrong)

/-- 'laws.FnHallValid': WHATEVER THE INPUT: true; the input reads as it did. -/
def fnHallValidSpec : ChangeSpec := { name := "fnHallValid", fn := fun _ => fun
  | [d] => { results := [.lit (.bool true)], args := [d] }
  | _ => none }
def fnHallValidRow : OpenClaim := { program := "ytpmjopbgccajgaagreat", sum := "ef3c25a518a5328f9de3307dedb286513d91d227defa5c2be714423fdeb8645a", func := "loop.example/g03319/laws.FnHallValid", spec := "fnHallValid", unfollowed := true, recurses := true, apart := false }
def FnHallValidSaid : Prop := fnHallValidRow.holds Tryz.pinned (OpenSpec.ofChange fnHallValidSpec)

/-- ITS FALSE NEIGHBOUR: 'it returns false'. Refute it at one input. -/
def fnHallValidWrong : ChangeSpec := { name := "fnHallValid", fn := fun _ => fun
  | [d] => { results := [.lit (.bool false)], args := [d] }
  | _ => none }
def FnHallValidWrongFalsely : Prop := fnHallValidRow.holds Tryz.pinned (OpenSpec.ofChange fnHallValidWrong)

/-- 'laws.FnExactApply': WHATEVER THE INPUT: true; the input reads as it did. -/
def fnExactApplySpec : ChangeSpec := { name := "fnExactApply", fn := fun _ => fun
  | [d1, d2] => { results := [.lit (.bool true)], args := [d1, d2] }
  | _ => none }
def fnExactApplyRow : OpenClaim := { program := "ytpmjopbgccajgaagreat", sum := "ef3c25a518a5328f9de3307dedb286513d91d227defa5c2be714423fdeb8645a", func := "loop.example/g03319/laws.FnExactApply", spec := "fnExactApply", unfollowed := true, recurses := true, apart := false }
def FnExactApplySaid : Prop := fnExactApplyRow.holds Tryz.pinned (OpenSpec.ofChange fnExactApplySpec)

/-- ITS FALSE NEIGHBOUR: 'it returns false'. Refute it at one input. -/
def fnExactApplyWrong : ChangeSpec := { name := "fnExactApply", fn := fun _ => fun
  | [d1, d2] => { results := [.lit (.bool false)], args := [d1, d2] }
  | _ => none }
def FnExactApplyWrongFalsely : Prop := fnExactApplyRow.holds Tryz.pinned (OpenSpec.ofChange fnExactApplyWrong)

/-- 'laws.FnExactRunHall': WHATEVER THE INPUT: true; the input reads as it did. -/
def fnExactRunHallSpec : ChangeSpec := { name := "fnExactRunHall", fn := fun _ => fun
  | [d1, d2] => { results := [.lit (.bool true)], args := [d1, d2] }
  | _ => none }
def fnExactRunHallRow : OpenClaim := { program := "ytpmjopbgccajgaagreat", sum := "ef3c25a518a5328f9de3307dedb286513d91d227defa5c2be714423fdeb8645a", func := "loop.example/g03319/laws.FnExactRunHall", spec := "fnExactRunHall", unfollowed := true, recurses := true, apart := false }
def FnExactRunHallSaid : Prop := fnExactRunHallRow.holds Tryz.pinned (OpenSpec.ofChange fnExactRunHallSpec)

/-- ITS FALSE NEIGHBOUR: 'it returns false'. Refute it at one input. -/
def fnExactRunHallWrong : ChangeSpec := { name := "fnExactRunHall", fn := fun _ => fun
  | [d1, d2] => { results := [.lit (.bool false)], args := [d1, d2] }
  | _ => none }
def FnExactRunHallWrongFalsely : Prop := fnExactRunHallRow.holds Tryz.pinned (OpenSpec.ofChange fnExactRunHallWrong)

/- THE SECOND FORM. 'bulk': how many values and letters a reading holds, each counted each time it is reached (what is shared counts as often as it is met; a slice's spare places count too). A statement '..UptoSaid' is the law's where the arguments, and the package variables that the reading takes, are together of bulk at most 1048576: NARROWER than '..Said'. Prove '..Said' where nothing that the law and all that it calls make is longer than what came in: it says more and counts as full. Else prove '..UptoSaid'. A law counts once. -/
mutual
def uptoBulk {H : Type} : DataW H → Nat
  | .lit (.string bytes) => bytes.length + 1
  | .lit _ => 1
  | .nil => 1
  | .ptr d => uptoBulk d + 1
  | .slice elems spare => uptoBulkAll elems + uptoBulkAll spare + 1
  | .agg parts => uptoBulkAll parts + 1
  | .iface _ d => uptoBulk d + 1
  | .map entries => uptoBulkEntries entries + 1
  | .held _ => 1
def uptoBulkAll {H : Type} : List (DataW H) → Nat
  | [] => 0
  | d :: r => uptoBulk d + uptoBulkAll r
def uptoBulkEntries {H : Type} : List (Lit × DataW H) → Nat
  | [] => 0
  | x :: r => uptoBulkEntry x + uptoBulkEntries r
def uptoBulkEntry {H : Type} : Lit × DataW H → Nat
  | (.string bytes, d) => bytes.length + uptoBulk d + 1
  | (_, d) => uptoBulk d + 1
 end
def uptoSmall : (H : Type) → List (DataW H) → Bool := fun _ ds => decide (uptoBulkAll ds ≤ 1048576)
def OpenSpec.upto (s : _root_.Go.ChangeSpec) : _root_.Go.OpenSpec := { _root_.Go.OpenSpec.ofChange s with cond := some uptoSmall }

/-- 'laws.FnHallDeparts', WHERE WHAT IT READS IS OF BULK AT MOST 1048576: true; the input reads as it did. -/
def fnHallDepartsUptoRow : OpenClaim := { program := "ytpmjopbgccajgaagreat", sum := "ef3c25a518a5328f9de3307dedb286513d91d227defa5c2be714423fdeb8645a", func := "loop.example/g03319/laws.FnHallDeparts", spec := "fnHallDeparts", unfollowed := true, recurses := true, apart := false, narrowed := true }
def FnHallDepartsUptoSaid : Prop := fnHallDepartsUptoRow.holds Tryz.pinned (OpenSpec.upto fnHallDepartsSpec)

/-- 'laws.FnExactCanDepart', WHERE WHAT IT READS IS OF BULK AT MOST 1048576: true; the input reads as it did. -/
def fnExactCanDepartUptoRow : OpenClaim := { program := "ytpmjopbgccajgaagreat", sum := "ef3c25a518a5328f9de3307dedb286513d91d227defa5c2be714423fdeb8645a", func := "loop.example/g03319/laws.FnExactCanDepart", spec := "fnExactCanDepart", unfollowed := true, recurses := true, apart := false, narrowed := true }
def FnExactCanDepartUptoSaid : Prop := fnExactCanDepartUptoRow.holds Tryz.pinned (OpenSpec.upto fnExactCanDepartSpec)

/-- 'laws.FnHallValid', WHERE WHAT IT READS IS OF BULK AT MOST 1048576: true; the input reads as it did. -/
def fnHallValidUptoRow : OpenClaim := { program := "ytpmjopbgccajgaagreat", sum := "ef3c25a518a5328f9de3307dedb286513d91d227defa5c2be714423fdeb8645a", func := "loop.example/g03319/laws.FnHallValid", spec := "fnHallValid", unfollowed := true, recurses := true, apart := false, narrowed := true }
def FnHallValidUptoSaid : Prop := fnHallValidUptoRow.holds Tryz.pinned (OpenSpec.upto fnHallValidSpec)

/-- 'laws.FnExactApply', WHERE WHAT IT READS IS OF BULK AT MOST 1048576: true; the input reads as it did. -/
def fnExactApplyUptoRow : OpenClaim := { program := "ytpmjopbgccajgaagreat", sum := "ef3c25a518a5328f9de3307dedb286513d91d227defa5c2be714423fdeb8645a", func := "loop.example/g03319/laws.FnExactApply", spec := "fnExactApply", unfollowed := true, recurses := true, apart := false, narrowed := true }
def FnExactApplyUptoSaid : Prop := fnExactApplyUptoRow.holds Tryz.pinned (OpenSpec.upto fnExactApplySpec)

/-- 'laws.FnExactRunHall', WHERE WHAT IT READS IS OF BULK AT MOST 1048576: true; the input reads as it did. -/
def fnExactRunHallUptoRow : OpenClaim := { program := "ytpmjopbgccajgaagreat", sum := "ef3c25a518a5328f9de3307dedb286513d91d227defa5c2be714423fdeb8645a", func := "loop.example/g03319/laws.FnExactRunHall", spec := "fnExactRunHall", unfollowed := true, recurses := true, apart := false, narrowed := true }
def FnExactRunHallUptoSaid : Prop := fnExactRunHallUptoRow.holds Tryz.pinned (OpenSpec.upto fnExactRunHallSpec)

end Rows
end Go.Proofs.YtpmjopbgccajgaaGreat
