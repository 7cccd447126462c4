/- Applying a departure: what the program's functions compute. No condition. -/
import Derived.Test.YtpmjopbgccajgaaGreatPIf
import Derived.Test.YtpmjopbgccajgaaGreatD
namespace Go.Proofs.YtpmjopbgccajgaaGreat.Eng
set_option linter.unusedVariables false
set_option linter.unusedSimpArgs false
end Go.Proofs.YtpmjopbgccajgaaGreat.Eng
