/- The pure statement of FnExactCanDepart. By a program of this session. -/
import Derived.Test.YtpmjopbgccajgaaGreatEngD
import Derived.Test.YtpmjopbgccajgaaGreatDFnExactCanDepart
namespace Go.Proofs.YtpmjopbgccajgaaGreat.Eng
def laws_FnExactCanDepart.Pure : Prop := ∀ (x0 : K42.den) (x1 : K2.den), Wf K42 x0 → Wf K2 x1 → ∃ k, laws_FnExactCanDepart.f k x0 x1.1 = some (true, ())
end Go.Proofs.YtpmjopbgccajgaaGreat.Eng
