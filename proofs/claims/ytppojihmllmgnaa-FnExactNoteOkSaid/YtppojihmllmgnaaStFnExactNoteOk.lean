/- The pure statement of FnExactNoteOk. By a program of this session. -/
import Derived.Test.YtppojihmllmgnaaKinds
import Derived.Test.YtppojihmllmgnaaF3
namespace Go.Proofs.Ytppojihmllmgnaa.F
open Go.RowKit
def laws_FnExactNoteOk.Pure : Prop := ∀ (x0 : S23), W23 x0 → ∃ k, laws_FnExactNoteOk.f k (x0.f0) (x0.f1) (x0.f2) (x0.f3) (x0.f4) = some true
end Go.Proofs.Ytppojihmllmgnaa.F
