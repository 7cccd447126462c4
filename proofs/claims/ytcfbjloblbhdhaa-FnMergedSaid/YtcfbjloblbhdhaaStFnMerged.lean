/- The pure statement of FnMerged. By a program of this session. -/
import Derived.Test.YtcfbjloblbhdhaaEngD
import Derived.Test.YtcfbjloblbhdhaaDFnMerged
namespace Go.Proofs.Ytcfbjloblbhdhaa.Eng
def laws_FnMerged.Pure : Prop := ∀ (x0 : K22.den), Wf K22 x0 → ∃ k, laws_FnMerged.f k x0.1 = some (true, ())
end Go.Proofs.Ytcfbjloblbhdhaa.Eng
