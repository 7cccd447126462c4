/- The pure statement of FnEverySides. By a program of this session. -/
import Derived.Test.YtnldmnlfocigaaaKinds
import Derived.Test.YtnldmnlfocigaaaF3
namespace Go.Proofs.Ytnldmnlfocigaaa.F
open Go.RowKit
def laws_FnEverySides.Pure : Prop := ∀ (x0 : (List Int)) (x1 : (List Bool)), (x0.length ≤ maxLen ∧ ∀ y ∈ x0, (Lit.int .i64 y).wf = true) → (x1.length ≤ maxLen ∧ ∀ y ∈ x1, True) → ∃ k, laws_FnEverySides.f k x0 x1 = some true
end Go.Proofs.Ytnldmnlfocigaaa.F
