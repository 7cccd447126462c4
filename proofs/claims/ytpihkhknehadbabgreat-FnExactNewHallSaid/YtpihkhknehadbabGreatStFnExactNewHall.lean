/- The pure statement of FnExactNewHall. By a program of this session. -/
import Derived.Test.YtpihkhknehadbabGreatEngD
import Derived.Test.YtpihkhknehadbabGreatDFnExactNewHall
namespace Go.Proofs.YtpihkhknehadbabGreat.Eng
def laws_FnExactNewHall.Pure : Prop := ∀ (x0 : K22.den) (x1 : K25.den) (x2 : K28.den) (x3 : K32.den) (x4 : K35.den) (x5 : K37.den), Wf K22 x0 → Wf K25 x1 → Wf K28 x2 → Wf K32 x3 → Wf K35 x4 → Wf K37 x5 → ∃ k, laws_FnExactNewHall.f k x0 x1 x2 x3 x4 x5.1 = some (true, ())
end Go.Proofs.YtpihkhknehadbabGreat.Eng
