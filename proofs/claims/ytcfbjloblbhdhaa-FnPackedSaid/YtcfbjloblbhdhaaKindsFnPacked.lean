/- What an argument that reads as data is, type by type. No condition. By a program of this session. -/
import Derived.Test.YtcfbjloblbhdhaaEngD
import Derived.Test.YtcfbjloblbhdhaaTy
import Derived.Test.YtcfbjloblbhdhaaProg
import Derived.KernelRfl
namespace Go.Proofs.Ytcfbjloblbhdhaa.Eng
open Go.RowKit Go.Proofs
set_option linter.unusedVariables false
theorem op5 : OpE Try.prog 5 K5 := opE_int Try.underlying5 (by kernel_rfl)
theorem op22 : OpE Try.prog 22 K22 := opE_slice Try.underlying22 (by kernel_rfl) op5 (of_decide_eq_true (by kernel_rfl))
theorem op3 : OpE Try.prog 3 K2 := opE_int Try.underlying3 (by kernel_rfl)
theorem op42 : OpE Try.prog 42 K41 := opE_struct Try.underlying42 (by kernel_rfl) (.cons (by kernel_rfl) op3 (.cons (by kernel_rfl) op3 .nil)) (by kernel_rfl)
theorem op82 : OpE Try.prog 82 K79 := opE_struct Try.underlying82 (by kernel_rfl) (.cons (by kernel_rfl) op3 (.cons (by kernel_rfl) op3 (.cons (by kernel_rfl) op3 .nil))) (by kernel_rfl)
theorem op43 : OpE Try.prog 43 K43 := opE_slice Try.underlying43 (by kernel_rfl) op82 (of_decide_eq_true (by kernel_rfl))
end Go.Proofs.Ytcfbjloblbhdhaa.Eng
