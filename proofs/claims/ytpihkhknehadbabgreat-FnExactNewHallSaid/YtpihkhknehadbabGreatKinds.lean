/- What an argument that reads as data is, type by type. No condition. By a program of this session. -/
import Derived.Test.YtpihkhknehadbabGreatEngD
import Derived.Test.YtpihkhknehadbabGreatTy
import Derived.Test.YtpihkhknehadbabGreatProg
import Derived.KernelRfl
namespace Go.Proofs.YtpihkhknehadbabGreat.Eng
open Go.RowKit Go.Proofs
set_option linter.unusedVariables false
theorem op3 : OpE Tryz.prog 3 K2 := opE_int Tryz.underlying3 (by kernel_rfl)
theorem op22 : OpE Tryz.prog 22 K22 := opE_slice Tryz.underlying22 (by kernel_rfl) op3 (of_decide_eq_true (by kernel_rfl))
theorem op24 : OpE Tryz.prog 24 K22 := opE_struct Tryz.underlying24 (by kernel_rfl) (.cons (by kernel_rfl) op22 .nil) (by kernel_rfl)
theorem op26 : OpE Tryz.prog 26 K25 := opE_struct Tryz.underlying26 (by kernel_rfl) (.cons (by kernel_rfl) op3 (.cons (by kernel_rfl) op3 .nil)) (by kernel_rfl)
theorem op4 : OpE Tryz.prog 4 K4 := opE_bool Tryz.underlying4 (by kernel_rfl)
theorem op139 : OpE Tryz.prog 139 K132 := opE_struct Tryz.underlying139 (by kernel_rfl) (.cons (by kernel_rfl) op3 (.cons (by kernel_rfl) op3 (.cons (by kernel_rfl) op3 .nil))) (by kernel_rfl)
theorem op27 : OpE Tryz.prog 27 K27 := opE_slice Tryz.underlying27 (by kernel_rfl) op139 (of_decide_eq_true (by kernel_rfl))
theorem op29 : OpE Tryz.prog 29 K28 := opE_struct Tryz.underlying29 (by kernel_rfl) (.cons (by kernel_rfl) op3 (.cons (by kernel_rfl) op3 (.cons (by kernel_rfl) op4 (.cons (by kernel_rfl) op27 .nil)))) (by kernel_rfl)
theorem op114 : OpE Tryz.prog 114 K113 := opE_struct Tryz.underlying114 (by kernel_rfl) (.cons (by kernel_rfl) op3 (.cons (by kernel_rfl) op3 (.cons (by kernel_rfl) op22 .nil))) (by kernel_rfl)
theorem op30 : OpE Tryz.prog 30 K30 := opE_slice Tryz.underlying30 (by kernel_rfl) op114 (of_decide_eq_true (by kernel_rfl))
theorem op117 : OpE Tryz.prog 117 K116 := opE_struct Tryz.underlying117 (by kernel_rfl) (.cons (by kernel_rfl) op3 (.cons (by kernel_rfl) op22 .nil)) (by kernel_rfl)
theorem op31 : OpE Tryz.prog 31 K31 := opE_slice Tryz.underlying31 (by kernel_rfl) op117 (of_decide_eq_true (by kernel_rfl))
theorem op33 : OpE Tryz.prog 33 K32 := opE_struct Tryz.underlying33 (by kernel_rfl) (.cons (by kernel_rfl) op22 (.cons (by kernel_rfl) op3 (.cons (by kernel_rfl) op30 (.cons (by kernel_rfl) op31 .nil)))) (by kernel_rfl)
theorem op173 : OpE Tryz.prog 173 K25 := opE_struct Tryz.underlying173 (by kernel_rfl) (.cons (by kernel_rfl) op3 (.cons (by kernel_rfl) op3 .nil)) (by kernel_rfl)
theorem op119 : OpE Tryz.prog 119 K119 := opE_slice Tryz.underlying119 (by kernel_rfl) op173 (of_decide_eq_true (by kernel_rfl))
theorem op34 : OpE Tryz.prog 34 K34 := opE_slice Tryz.underlying34 (by kernel_rfl) op119 (of_decide_eq_true (by kernel_rfl))
theorem op36 : OpE Tryz.prog 36 K35 := opE_struct Tryz.underlying36 (by kernel_rfl) (.cons (by kernel_rfl) op3 (.cons (by kernel_rfl) op34 .nil)) (by kernel_rfl)
theorem op96 : OpE Tryz.prog 96 K93 := opE_struct Tryz.underlying96 (by kernel_rfl) (.cons (by kernel_rfl) op3 (.cons (by kernel_rfl) op3 (.cons (by kernel_rfl) op3 (.cons (by kernel_rfl) op4 (.cons (by kernel_rfl) op3 .nil))))) (by kernel_rfl)
theorem op37 : OpE Tryz.prog 37 K37 := opE_slice Tryz.underlying37 (by kernel_rfl) op96 (of_decide_eq_true (by kernel_rfl))
end Go.Proofs.YtpihkhknehadbabGreat.Eng
