/- The pure functions are what the evaluator computes of the program's code. By a program of this session. No condition. -/
import Derived.Test.YtcfbjloblbhdhaaD
import Derived.Test.YtcfbjloblbhdhaaProg
import Derived.KernelRfl
namespace Go.Proofs.Ytcfbjloblbhdhaa.Eng
open Go.Proofs
set_option linter.unusedVariables false
set_option maxRecDepth 100000 in
theorem spec_l01In.eq (k : Nat) (x0 : Int) (x1 : Int) (x2 : Int) : evFn tabO false [] [] Try.f61 spec_l01In.sig k (x0, x1, x2, ()) = spec_l01In.f k x0 x1 x2 := by kernel_rfl

end Go.Proofs.Ytcfbjloblbhdhaa.Eng
