/- The pure statement of FnExactApply. By a program of this session. -/
import Derived.Test.YtpmjopbgccajgaaGreatEngD
import Derived.Test.YtpmjopbgccajgaaGreatDFnExactApply
namespace Go.Proofs.YtpmjopbgccajgaaGreat.Eng
def laws_FnExactApply.Pure : Prop := ∀ (x0 : K42.den) (x1 : K50.den), Wf K42 x0 → Wf K50 x1 → ∃ k, laws_FnExactApply.f k x0 x1 = some (true, ())
end Go.Proofs.YtpmjopbgccajgaaGreat.Eng
