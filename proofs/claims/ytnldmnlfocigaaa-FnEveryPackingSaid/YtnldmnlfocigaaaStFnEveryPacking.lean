/- The pure statement of FnEveryPacking. By a program of this session. -/
import Derived.Test.YtnldmnlfocigaaaKinds
import Derived.Test.YtnldmnlfocigaaaF10
namespace Go.Proofs.Ytnldmnlfocigaaa.F
open Go.RowKit
def laws_FnEveryPacking.Pure : Prop := ∀ (x0 : S49) (x1 : (List S80)) (x2 : (List S62)), W49 x0 → (x1.length ≤ maxLen ∧ ∀ y ∈ x1, W80 y) → (x2.length ≤ maxLen ∧ ∀ y ∈ x2, W62 y) → ∃ k, laws_FnEveryPacking.f k (x0.f0) (x0.f1) x1 x2 = some true
end Go.Proofs.Ytnldmnlfocigaaa.F
