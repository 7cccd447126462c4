/- The pure statement of FnAdded. By a program of this session. -/
import Derived.Test.YtcfbjloblbhdhaaEngD
import Derived.Test.YtcfbjloblbhdhaaDFnAdded
namespace Go.Proofs.Ytcfbjloblbhdhaa.Eng
def laws_FnAdded.Pure : Prop := ∀ (x0 : K22.den), Wf K22 x0 → ∃ k, laws_FnAdded.f k x0.1 = some (true, ())
end Go.Proofs.Ytcfbjloblbhdhaa.Eng
