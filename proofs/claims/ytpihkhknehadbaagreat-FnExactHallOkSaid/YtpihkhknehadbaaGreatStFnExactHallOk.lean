/- The pure statement of FnExactHallOk. By a program of this session. -/
import Derived.Test.YtpihkhknehadbaaGreatEngOpen
import Derived.Test.YtpihkhknehadbaaGreatDFnExactHallOk
namespace Go.Proofs.YtpihkhknehadbaaGreat.Eng
def laws_FnExactHallOk.Pure : Prop := ∀ (x0 : K40.den), Wf K40 x0 → ∃ k, laws_FnExactHallOk.f k x0 = some (true, ())
end Go.Proofs.YtpihkhknehadbaaGreat.Eng
