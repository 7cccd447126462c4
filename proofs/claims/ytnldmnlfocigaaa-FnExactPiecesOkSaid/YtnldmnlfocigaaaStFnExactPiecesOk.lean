/- The pure statement of FnExactPiecesOk. By a program of this session. -/
import Derived.Test.YtnldmnlfocigaaaKinds
import Derived.Test.YtnldmnlfocigaaaF7
namespace Go.Proofs.Ytnldmnlfocigaaa.F
open Go.RowKit
def laws_FnExactPiecesOk.Pure : Prop := ∀ (x0 : (List S82)), (x0.length ≤ maxLen ∧ ∀ y ∈ x0, W82 y) → ∃ k, laws_FnExactPiecesOk.f k x0 = some true
end Go.Proofs.Ytnldmnlfocigaaa.F
