/- The pure statement of FnExactGaps. By a program of this session. -/
import Derived.Test.YtppojihmllmgnaaKinds
import Derived.Test.YtppojihmllmgnaaF5
namespace Go.Proofs.Ytppojihmllmgnaa.F
open Go.RowKit
def laws_FnExactGaps.Pure : Prop := ∀ (x0 : (List S23)), (x0.length ≤ maxLen ∧ ∀ y ∈ x0, W23 y) → ∃ k, laws_FnExactGaps.f k x0 = some true
end Go.Proofs.Ytppojihmllmgnaa.F
