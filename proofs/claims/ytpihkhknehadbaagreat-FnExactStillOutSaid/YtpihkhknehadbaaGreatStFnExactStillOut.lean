/- The pure statement of FnExactStillOut. By a program of this session. -/
import Derived.Test.YtpihkhknehadbaaGreatEngD
import Derived.Test.YtpihkhknehadbaaGreatDFnExactStillOut
namespace Go.Proofs.YtpihkhknehadbaaGreat.Eng
def laws_FnExactStillOut.Pure : Prop := ∀ (x0 : K40.den) (x1 : K2.den), Wf K40 x0 → Wf K2 x1 → ∃ k, laws_FnExactStillOut.f k x0 x1.1 = some (true, ())
end Go.Proofs.YtpihkhknehadbaaGreat.Eng
