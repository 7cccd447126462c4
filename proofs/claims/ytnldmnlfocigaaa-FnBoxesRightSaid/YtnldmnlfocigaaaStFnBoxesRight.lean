/- The pure statement of FnBoxesRight. By a program of this session. -/
import Derived.Test.YtnldmnlfocigaaaKinds
import Derived.Test.YtnldmnlfocigaaaF12
namespace Go.Proofs.Ytnldmnlfocigaaa.F
open Go.RowKit
def laws_FnBoxesRight.PureR : Prop := ∀ (x0 : (List Int)), (x0.length ≤ maxLen ∧ ∀ y ∈ x0, (Lit.int .u8 y).wf = true) → ∃ k, laws_FnBoxesRight.f k x0 = some true
end Go.Proofs.Ytnldmnlfocigaaa.F
