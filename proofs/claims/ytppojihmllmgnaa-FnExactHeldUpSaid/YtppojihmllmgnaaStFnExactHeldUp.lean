/- The pure statement of FnExactHeldUp. By a program of this session. -/
import Derived.Test.YtppojihmllmgnaaKinds
import Derived.Test.YtppojihmllmgnaaF15
namespace Go.Proofs.Ytppojihmllmgnaa.F
open Go.RowKit
def laws_FnExactHeldUp.Pure : Prop := ∀ (x0 : (List S23)) (x1 : Int), (x0.length ≤ maxLen ∧ ∀ y ∈ x0, W23 y) → (Lit.int .i64 x1).wf = true → ∃ k, laws_FnExactHeldUp.f k x0 x1 = some true
end Go.Proofs.Ytppojihmllmgnaa.F
