/- The pure statement of FnExactRepack. By a program of this session. -/
import Derived.Test.YtcfbjloblbhdhaaEngD
import Derived.Test.YtcfbjloblbhdhaaDFnExactRepack
namespace Go.Proofs.Ytcfbjloblbhdhaa.Eng
def laws_FnExactRepack.Pure : Prop := ∀ (x0 : K41.den) (x1 : K43.den), Wf K41 x0 → Wf K43 x1 → ∃ k, laws_FnExactRepack.f k x0 x1.1 = some (true, ())
end Go.Proofs.Ytcfbjloblbhdhaa.Eng
