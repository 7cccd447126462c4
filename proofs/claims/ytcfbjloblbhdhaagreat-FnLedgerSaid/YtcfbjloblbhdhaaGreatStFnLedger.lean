/- The pure statement of FnLedger. By a program of this session. -/
import Derived.Test.YtcfbjloblbhdhaaGreatEngD
import Derived.Test.YtcfbjloblbhdhaaGreatDFnLedger
namespace Go.Proofs.YtcfbjloblbhdhaaGreat.Eng
def laws_FnLedger.Pure : Prop := ∀ (x0 : K22.den), Wf K22 x0 → ∃ k, laws_FnLedger.f k x0.1 = some (true, ())
end Go.Proofs.YtcfbjloblbhdhaaGreat.Eng
