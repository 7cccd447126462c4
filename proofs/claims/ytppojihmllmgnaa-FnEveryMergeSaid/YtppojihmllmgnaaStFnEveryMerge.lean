/- The pure statement of FnEveryMerge. By a program of this session. -/
import Derived.Test.YtppojihmllmgnaaKinds
import Derived.Test.YtppojihmllmgnaaF12
namespace Go.Proofs.Ytppojihmllmgnaa.F
open Go.RowKit
def laws_FnEveryMerge.Pure : Prop := ∀ (x0 : (List S25)) (x1 : (List S25)) (x2 : (List S25)), (x0.length ≤ maxLen ∧ ∀ y ∈ x0, W25 y) → (x1.length ≤ maxLen ∧ ∀ y ∈ x1, W25 y) → (x2.length ≤ maxLen ∧ ∀ y ∈ x2, W25 y) → ∃ k, laws_FnEveryMerge.f k x0 x1 x2 = some true
end Go.Proofs.Ytppojihmllmgnaa.F
