/- What an argument that reads as data is, type by type. No condition. By a program of this session. -/
import Derived.Test.YtnldmnlfocigaaaOpens
import Derived.Test.YtnldmnlfocigaaaF
namespace Go.Proofs.Ytnldmnlfocigaaa.F
open Go.RowKit Go.Proofs.YtnldmnlfocigaaaW.PrintWords Go.Proofs.YtnldmnlfocigaaaW.PrintLast Go.Proofs.Ytnldmnlfocigaaa.Opn
set_option linter.unusedVariables false
theorem op3 : Opens Try.prog 3 (Kd.int .i64) (fun x => (Lit.int .i64 x).wf = true) := Opens.int .i64 Try.underlying3 (by kernel_rfl)
theorem op22 : Opens Try.prog 22 (Kd.slice 3 (Kd.int .i64)) (fun x => (x.length ≤ maxLen ∧ ∀ y ∈ x, (Lit.int .i64 y).wf = true)) := Opens.slice Try.underlying22 (by kernel_rfl) op3
theorem op4 : Opens Try.prog 4 Kd.bool (fun x => True) := Opens.bool Try.underlying4 (by kernel_rfl)
theorem op23 : Opens Try.prog 23 (Kd.slice 4 Kd.bool) (fun x => (x.length ≤ maxLen ∧ ∀ y ∈ x, True)) := Opens.slice Try.underlying23 (by kernel_rfl) op4
theorem op5 : Opens Try.prog 5 (Kd.int .u8) (fun x => (Lit.int .u8 x).wf = true) := Opens.int .u8 Try.underlying5 (by kernel_rfl)
theorem op34 : Opens Try.prog 34 (Kd.slice 5 (Kd.int .u8)) (fun x => (x.length ≤ maxLen ∧ ∀ y ∈ x, (Lit.int .u8 y).wf = true)) := Opens.slice Try.underlying34 (by kernel_rfl) op5
def W82 (x : S82) : Prop := (Lit.int .i64 x.f0).wf = true ∧ (Lit.int .i64 x.f1).wf = true ∧ (Lit.int .i64 x.f2).wf = true
theorem op82 : Opens Try.prog 82 k82 W82 := Opens.struct Try.underlying82 (by kernel_rfl) (Flds.cons rfl op3 (Flds.cons rfl op3 (Flds.one rfl op3))) (fun x : S82 => (x.f0, x.f1, x.f2)) (fun y => ⟨y.1, y.2.1, y.2.2⟩) (fun _ => rfl)
theorem op39 : Opens Try.prog 39 (Kd.slice 82 k82) (fun x => (x.length ≤ maxLen ∧ ∀ y ∈ x, W82 y)) := Opens.slice Try.underlying39 (by kernel_rfl) op82
def W47 (x : S47) : Prop := (Lit.int .i64 x.f0).wf = true ∧ (Lit.int .i64 x.f1).wf = true
theorem op47 : Opens Try.prog 47 k47 W47 := Opens.struct Try.underlying47 (by kernel_rfl) (Flds.cons rfl op3 (Flds.one rfl op3)) (fun x : S47 => (x.f0, x.f1)) (fun y => ⟨y.1, y.2⟩) (fun _ => rfl)
def W49 (x : S49) : Prop := (Lit.int .i64 x.f0).wf = true ∧ (Lit.int .i64 x.f1).wf = true
theorem op49 : Opens Try.prog 49 k49 W49 := Opens.struct Try.underlying49 (by kernel_rfl) (Flds.cons rfl op3 (Flds.one rfl op3)) (fun x : S49 => (x.f0, x.f1)) (fun y => ⟨y.1, y.2⟩) (fun _ => rfl)
def W80 (x : S80) : Prop := (Lit.int .i64 x.f0).wf = true ∧ (Lit.int .i64 x.f1).wf = true ∧ (Lit.int .i64 x.f2).wf = true
theorem op80 : Opens Try.prog 80 k80 W80 := Opens.struct Try.underlying80 (by kernel_rfl) (Flds.cons rfl op3 (Flds.cons rfl op3 (Flds.one rfl op3))) (fun x : S80 => (x.f0, x.f1, x.f2)) (fun y => ⟨y.1, y.2.1, y.2.2⟩) (fun _ => rfl)
theorem op42 : Opens Try.prog 42 (Kd.slice 80 k80) (fun x => (x.length ≤ maxLen ∧ ∀ y ∈ x, W80 y)) := Opens.slice Try.underlying42 (by kernel_rfl) op80
def W62 (x : S62) : Prop := (Lit.int .i64 x.f0).wf = true ∧ (Lit.int .i64 x.f1).wf = true ∧ (x.f2.length ≤ maxLen ∧ ∀ y ∈ x.f2, (Lit.int .i64 y).wf = true)
theorem op62 : Opens Try.prog 62 k62 W62 := Opens.struct Try.underlying62 (by kernel_rfl) (Flds.cons rfl op3 (Flds.cons rfl op3 (Flds.one rfl op22))) (fun x : S62 => (x.f0, x.f1, x.f2)) (fun y => ⟨y.1, y.2.1, y.2.2⟩) (fun _ => rfl)
theorem op52 : Opens Try.prog 52 (Kd.slice 62 k62) (fun x => (x.length ≤ maxLen ∧ ∀ y ∈ x, W62 y)) := Opens.slice Try.underlying52 (by kernel_rfl) op62
def W99 (x : S99) : Prop := (Lit.int .i64 x.f0).wf = true ∧ (Lit.int .i64 x.f1).wf = true ∧ (x.f2.length ≤ maxLen ∧ ∀ y ∈ x.f2, (Lit.int .i64 y).wf = true)
theorem op99 : Opens Try.prog 99 k99 W99 := Opens.struct Try.underlying99 (by kernel_rfl) (Flds.cons rfl op3 (Flds.cons rfl op3 (Flds.one rfl op22))) (fun x : S99 => (x.f0, x.f1, x.f2)) (fun y => ⟨y.1, y.2.1, y.2.2⟩) (fun _ => rfl)
theorem op63 : Opens Try.prog 63 (Kd.slice 99 k99) (fun x => (x.length ≤ maxLen ∧ ∀ y ∈ x, W99 y)) := Opens.slice Try.underlying63 (by kernel_rfl) op99
end Go.Proofs.Ytnldmnlfocigaaa.F
