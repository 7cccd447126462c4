/- The pure statement of FnExactNotesOk. By a program of this session. -/
import Derived.Test.YtppojihmllmgnaaKinds
import Derived.Test.YtppojihmllmgnaaF4
namespace Go.Proofs.Ytppojihmllmgnaa.F
open Go.RowKit
def laws_FnExactNotesOk.Pure : Prop := ∀ (x0 : (List S23)), (x0.length ≤ maxLen ∧ ∀ y ∈ x0, W23 y) → ∃ k, laws_FnExactNotesOk.f k x0 = some true
end Go.Proofs.Ytppojihmllmgnaa.F
