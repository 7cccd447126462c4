/- What an argument that reads as data is, type by type. No condition. By a program of this session. -/
import Derived.Test.YtppojihmllmgnaaOpens
import Derived.Test.YtppojihmllmgnaaF
namespace Go.Proofs.Ytppojihmllmgnaa.F
open Go.RowKit Go.Proofs.YtppojihmllmgnaaW.PrintWords Go.Proofs.YtppojihmllmgnaaW.PrintLast Go.Proofs.Ytppojihmllmgnaa.Opn
set_option linter.unusedVariables false
theorem op3 : Opens Try.prog 3 (Kd.int .i64) (fun x => (Lit.int .i64 x).wf = true) := Opens.int .i64 Try.underlying3 (by kernel_rfl)
def W23 (x : S23) : Prop := (Lit.int .i64 x.f0).wf = true ∧ (Lit.int .i64 x.f1).wf = true ∧ (Lit.int .i64 x.f2).wf = true ∧ (Lit.int .i64 x.f3).wf = true ∧ (Lit.int .i64 x.f4).wf = true
theorem op23 : Opens Try.prog 23 k23 W23 := Opens.struct Try.underlying23 (by kernel_rfl) (Flds.cons rfl op3 (Flds.cons rfl op3 (Flds.cons rfl op3 (Flds.cons rfl op3 (Flds.one rfl op3))))) (fun x : S23 => (x.f0, x.f1, x.f2, x.f3, x.f4)) (fun y => ⟨y.1, y.2.1, y.2.2.1, y.2.2.2.1, y.2.2.2.2⟩) (fun _ => rfl)
theorem op28 : Opens Try.prog 28 (Kd.slice 23 k23) (fun x => (x.length ≤ maxLen ∧ ∀ y ∈ x, W23 y)) := Opens.slice Try.underlying28 (by kernel_rfl) op23
theorem op47 : Opens Try.prog 47 (Kd.slice 3 (Kd.int .i64)) (fun x => (x.length ≤ maxLen ∧ ∀ y ∈ x, (Lit.int .i64 y).wf = true)) := Opens.slice Try.underlying47 (by kernel_rfl) op3
def W25 (x : S25) : Prop := (Lit.int .i64 x.f0).wf = true ∧ (Lit.int .i64 x.f1).wf = true ∧ (Lit.int .i64 x.f2).wf = true ∧ (Lit.int .i64 x.f3).wf = true ∧ (Lit.int .i64 x.f4).wf = true
theorem op25 : Opens Try.prog 25 k25 W25 := Opens.struct Try.underlying25 (by kernel_rfl) (Flds.cons rfl op3 (Flds.cons rfl op3 (Flds.cons rfl op3 (Flds.cons rfl op3 (Flds.one rfl op3))))) (fun x : S25 => (x.f0, x.f1, x.f2, x.f3, x.f4)) (fun y => ⟨y.1, y.2.1, y.2.2.1, y.2.2.2.1, y.2.2.2.2⟩) (fun _ => rfl)
theorem op31 : Opens Try.prog 31 (Kd.slice 25 k25) (fun x => (x.length ≤ maxLen ∧ ∀ y ∈ x, W25 y)) := Opens.slice Try.underlying31 (by kernel_rfl) op25
theorem op5 : Opens Try.prog 5 (Kd.int .u8) (fun x => (Lit.int .u8 x).wf = true) := Opens.int .u8 Try.underlying5 (by kernel_rfl)
theorem op59 : Opens Try.prog 59 (Kd.slice 5 (Kd.int .u8)) (fun x => (x.length ≤ maxLen ∧ ∀ y ∈ x, (Lit.int .u8 y).wf = true)) := Opens.slice Try.underlying59 (by kernel_rfl) op5
end Go.Proofs.Ytppojihmllmgnaa.F
