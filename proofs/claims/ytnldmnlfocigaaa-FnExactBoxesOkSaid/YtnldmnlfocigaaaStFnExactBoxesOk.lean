/- The pure statement of FnExactBoxesOk. By a program of this session. -/
import Derived.Test.YtnldmnlfocigaaaKinds
import Derived.Test.YtnldmnlfocigaaaF13
namespace Go.Proofs.Ytnldmnlfocigaaa.F
open Go.RowKit
def laws_FnExactBoxesOk.Pure : Prop := ∀ (x0 : S47) (x1 : (List S82)) (x2 : (List S99)), W47 x0 → (x1.length ≤ maxLen ∧ ∀ y ∈ x1, W82 y) → (x2.length ≤ maxLen ∧ ∀ y ∈ x2, W99 y) → ∃ k, laws_FnExactBoxesOk.f k (x0.f0) (x0.f1) x1 x2 = some true
end Go.Proofs.Ytnldmnlfocigaaa.F
