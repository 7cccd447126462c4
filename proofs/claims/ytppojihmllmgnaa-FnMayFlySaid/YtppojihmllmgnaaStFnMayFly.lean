/- The pure statement of FnMayFly. By a program of this session. -/
import Derived.Test.YtppojihmllmgnaaKinds
import Derived.Test.YtppojihmllmgnaaF18
namespace Go.Proofs.Ytppojihmllmgnaa.F
open Go.RowKit
def laws_FnMayFly.Pure : Prop := ∀ (x0 : (List Int)), (x0.length ≤ maxLen ∧ ∀ y ∈ x0, (Lit.int .u8 y).wf = true) → ∃ k, laws_FnMayFly.f k x0 = some true
end Go.Proofs.Ytppojihmllmgnaa.F
