/- The store of lanes: what the program's functions compute. No condition. -/
import Derived.Test.YtpmjopbgccajgaaGreatPIb
import Derived.Test.YtpmjopbgccajgaaGreatD
namespace Go.Proofs.YtpmjopbgccajgaaGreat.Eng
set_option linter.unusedVariables false
set_option linter.unusedSimpArgs false
end Go.Proofs.YtpmjopbgccajgaaGreat.Eng
