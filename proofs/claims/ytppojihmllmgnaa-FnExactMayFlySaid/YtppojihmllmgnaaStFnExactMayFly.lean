/- The pure statement of FnExactMayFly. By a program of this session. -/
import Derived.Test.YtppojihmllmgnaaKinds
import Derived.Test.YtppojihmllmgnaaF9
namespace Go.Proofs.Ytppojihmllmgnaa.F
open Go.RowKit
def laws_FnExactMayFly.Pure : Prop := ∀ (x0 : (List S23)) (x1 : Int) (x2 : Int), (x0.length ≤ maxLen ∧ ∀ y ∈ x0, W23 y) → (Lit.int .i64 x1).wf = true → (Lit.int .i64 x2).wf = true → ∃ k, laws_FnExactMayFly.f k x0 x1 x2 = some true
end Go.Proofs.Ytppojihmllmgnaa.F
