/- What an argument that reads as data is, type by type. No condition. By a program of this session. -/
import Derived.Test.YtcfbjloblbhdhaaGreatEngD
import Derived.Test.YtcfbjloblbhdhaaGreatTy
import Derived.Test.YtcfbjloblbhdhaaGreatProg
import Derived.KernelRfl
namespace Go.Proofs.YtcfbjloblbhdhaaGreat.Eng
open Go.RowKit Go.Proofs
set_option linter.unusedVariables false
theorem op5 : OpE Tryz.prog 5 K5 := opE_int Tryz.underlying5 (by kernel_rfl)
theorem op22 : OpE Tryz.prog 22 K22 := opE_slice Tryz.underlying22 (by kernel_rfl) op5 (of_decide_eq_true (by kernel_rfl))
end Go.Proofs.YtcfbjloblbhdhaaGreat.Eng
