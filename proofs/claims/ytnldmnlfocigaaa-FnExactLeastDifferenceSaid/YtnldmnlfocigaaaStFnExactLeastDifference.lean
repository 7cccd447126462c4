/- The pure statement of FnExactLeastDifference. By a program of this session. -/
import Derived.Test.YtnldmnlfocigaaaKinds
import Derived.Test.YtnldmnlfocigaaaF4
namespace Go.Proofs.Ytnldmnlfocigaaa.F
open Go.RowKit
def laws_FnExactLeastDifference.PureR : Prop := ∀ (x0 : (List Int)), (x0.length ≤ maxLen ∧ ∀ y ∈ x0, (Lit.int .i64 y).wf = true) → ∃ k, laws_FnExactLeastDifference.f k x0 = some true
end Go.Proofs.Ytnldmnlfocigaaa.F
