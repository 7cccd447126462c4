/- The pure statement of FnPacked. By a program of this session. -/
import Derived.Test.YtcfbjloblbhdhaaEngD
import Derived.Test.YtcfbjloblbhdhaaDFnPacked
namespace Go.Proofs.Ytcfbjloblbhdhaa.Eng
def laws_FnPacked.Pure : Prop := ∀ (x0 : K22.den), Wf K22 x0 → ∃ k, laws_FnPacked.f k x0.1 = some (true, ())
end Go.Proofs.Ytcfbjloblbhdhaa.Eng
