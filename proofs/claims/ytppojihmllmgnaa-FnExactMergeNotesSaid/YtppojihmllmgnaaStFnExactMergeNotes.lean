/- The pure statement of FnExactMergeNotes. By a program of this session. -/
import Derived.Test.YtppojihmllmgnaaKinds
import Derived.Test.YtppojihmllmgnaaF14
namespace Go.Proofs.Ytppojihmllmgnaa.F
open Go.RowKit
def laws_FnExactMergeNotes.Pure : Prop := ∀ (x0 : (List S23)) (x1 : (List S23)), (x0.length ≤ maxLen ∧ ∀ y ∈ x0, W23 y) → (x1.length ≤ maxLen ∧ ∀ y ∈ x1, W23 y) → ∃ k, laws_FnExactMergeNotes.f k x0 x1 = some true
end Go.Proofs.Ytppojihmllmgnaa.F
