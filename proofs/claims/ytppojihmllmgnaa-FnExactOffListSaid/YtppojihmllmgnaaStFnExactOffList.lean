/- The pure statement of FnExactOffList. By a program of this session. -/
import Derived.Test.YtppojihmllmgnaaKinds
import Derived.Test.YtppojihmllmgnaaF11
namespace Go.Proofs.Ytppojihmllmgnaa.F
open Go.RowKit
def laws_FnExactOffList.Pure : Prop := ∀ (x0 : (List S23)) (x1 : Int) (x2 : (List Int)), (x0.length ≤ maxLen ∧ ∀ y ∈ x0, W23 y) → (Lit.int .i64 x1).wf = true → (x2.length ≤ maxLen ∧ ∀ y ∈ x2, (Lit.int .i64 y).wf = true) → ∃ k, laws_FnExactOffList.f k x0 x1 x2 = some true
end Go.Proofs.Ytppojihmllmgnaa.F
