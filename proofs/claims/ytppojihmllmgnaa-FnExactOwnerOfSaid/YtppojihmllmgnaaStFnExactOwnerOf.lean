/- The pure statement of FnExactOwnerOf. By a program of this session. -/
import Derived.Test.YtppojihmllmgnaaKinds
import Derived.Test.YtppojihmllmgnaaF8
namespace Go.Proofs.Ytppojihmllmgnaa.F
open Go.RowKit
def laws_FnExactOwnerOf.Pure : Prop := ∀ (x0 : (List S23)) (x1 : Int), (x0.length ≤ maxLen ∧ ∀ y ∈ x0, W23 y) → (Lit.int .i64 x1).wf = true → ∃ k, laws_FnExactOwnerOf.f k x0 x1 = some true
end Go.Proofs.Ytppojihmllmgnaa.F
