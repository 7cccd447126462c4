/- The pure statement of FnExactFirstFit. By a program of this session. -/
import Derived.Test.YtnldmnlfocigaaaKinds
import Derived.Test.YtnldmnlfocigaaaF11
namespace Go.Proofs.Ytnldmnlfocigaaa.F
open Go.RowKit
def laws_FnExactFirstFit.Pure : Prop := ∀ (x0 : S47) (x1 : (List S82)), W47 x0 → (x1.length ≤ maxLen ∧ ∀ y ∈ x1, W82 y) → ∃ k, laws_FnExactFirstFit.f k (x0.f0) (x0.f1) x1 = some true
end Go.Proofs.Ytnldmnlfocigaaa.F
