/- The pure statement of FnExactAddNote. By a program of this session. -/
import Derived.Test.YtppojihmllmgnaaKinds
import Derived.Test.YtppojihmllmgnaaF13
namespace Go.Proofs.Ytppojihmllmgnaa.F
open Go.RowKit
def laws_FnExactAddNote.Pure : Prop := ∀ (x0 : (List S23)) (x1 : S23), (x0.length ≤ maxLen ∧ ∀ y ∈ x0, W23 y) → W23 x1 → ∃ k, laws_FnExactAddNote.f k x0 (x1.f0) (x1.f1) (x1.f2) (x1.f3) (x1.f4) = some true
end Go.Proofs.Ytppojihmllmgnaa.F
