/- What an argument that reads as data is, type by type. No condition. By a program of this session. -/
import Derived.Test.YtpmjopbgccajgaaGreatEngD
import Derived.Test.YtpmjopbgccajgaaGreatTy
import Derived.Test.YtpmjopbgccajgaaGreatProg
import Derived.KernelRfl
namespace Go.Proofs.YtpmjopbgccajgaaGreat.Eng
open Go.RowKit Go.Proofs
set_option linter.unusedVariables false
theorem op3 : OpE Tryz.prog 3 K2 := opE_int Tryz.underlying3 (by kernel_rfl)
theorem op24 : OpE Tryz.prog 24 K24 := opE_slice Tryz.underlying24 (by kernel_rfl) op3 (of_decide_eq_true (by kernel_rfl))
theorem op74 : OpE Tryz.prog 74 K24 := opE_struct Tryz.underlying74 (by kernel_rfl) (.cons (by kernel_rfl) op24 .nil) (by kernel_rfl)
theorem op75 : OpE Tryz.prog 75 K27 := opE_struct Tryz.underlying75 (by kernel_rfl) (.cons (by kernel_rfl) op3 (.cons (by kernel_rfl) op3 .nil)) (by kernel_rfl)
theorem op4 : OpE Tryz.prog 4 K4 := opE_bool Tryz.underlying4 (by kernel_rfl)
theorem op302 : OpE Tryz.prog 302 K46 := opE_struct Tryz.underlying302 (by kernel_rfl) (.cons (by kernel_rfl) op3 (.cons (by kernel_rfl) op3 (.cons (by kernel_rfl) op3 .nil))) (by kernel_rfl)
theorem op76 : OpE Tryz.prog 76 K29 := opE_slice Tryz.underlying76 (by kernel_rfl) op302 (of_decide_eq_true (by kernel_rfl))
theorem op78 : OpE Tryz.prog 78 K30 := opE_struct Tryz.underlying78 (by kernel_rfl) (.cons (by kernel_rfl) op3 (.cons (by kernel_rfl) op3 (.cons (by kernel_rfl) op4 (.cons (by kernel_rfl) op76 .nil)))) (by kernel_rfl)
theorem op296 : OpE Tryz.prog 296 K64 := opE_struct Tryz.underlying296 (by kernel_rfl) (.cons (by kernel_rfl) op3 (.cons (by kernel_rfl) op3 (.cons (by kernel_rfl) op24 .nil))) (by kernel_rfl)
theorem op79 : OpE Tryz.prog 79 K32 := opE_slice Tryz.underlying79 (by kernel_rfl) op296 (of_decide_eq_true (by kernel_rfl))
theorem op298 : OpE Tryz.prog 298 K204 := opE_struct Tryz.underlying298 (by kernel_rfl) (.cons (by kernel_rfl) op3 (.cons (by kernel_rfl) op24 .nil)) (by kernel_rfl)
theorem op80 : OpE Tryz.prog 80 K33 := opE_slice Tryz.underlying80 (by kernel_rfl) op298 (of_decide_eq_true (by kernel_rfl))
theorem op82 : OpE Tryz.prog 82 K34 := opE_struct Tryz.underlying82 (by kernel_rfl) (.cons (by kernel_rfl) op24 (.cons (by kernel_rfl) op3 (.cons (by kernel_rfl) op79 (.cons (by kernel_rfl) op80 .nil)))) (by kernel_rfl)
theorem op340 : OpE Tryz.prog 340 K27 := opE_struct Tryz.underlying340 (by kernel_rfl) (.cons (by kernel_rfl) op3 (.cons (by kernel_rfl) op3 .nil)) (by kernel_rfl)
theorem op300 : OpE Tryz.prog 300 K173 := opE_slice Tryz.underlying300 (by kernel_rfl) op340 (of_decide_eq_true (by kernel_rfl))
theorem op83 : OpE Tryz.prog 83 K36 := opE_slice Tryz.underlying83 (by kernel_rfl) op300 (of_decide_eq_true (by kernel_rfl))
theorem op85 : OpE Tryz.prog 85 K37 := opE_struct Tryz.underlying85 (by kernel_rfl) (.cons (by kernel_rfl) op3 (.cons (by kernel_rfl) op83 .nil)) (by kernel_rfl)
theorem op102 : OpE Tryz.prog 102 K48 := opE_struct Tryz.underlying102 (by kernel_rfl) (.cons (by kernel_rfl) op3 (.cons (by kernel_rfl) op3 (.cons (by kernel_rfl) op3 (.cons (by kernel_rfl) op3 (.cons (by kernel_rfl) op3 .nil))))) (by kernel_rfl)
theorem op86 : OpE Tryz.prog 86 K39 := opE_slice Tryz.underlying86 (by kernel_rfl) op102 (of_decide_eq_true (by kernel_rfl))
theorem op241 : OpE Tryz.prog 241 K66 := opE_struct Tryz.underlying241 (by kernel_rfl) (.cons (by kernel_rfl) op3 (.cons (by kernel_rfl) op3 (.cons (by kernel_rfl) op3 (.cons (by kernel_rfl) op4 (.cons (by kernel_rfl) op3 .nil))))) (by kernel_rfl)
theorem op87 : OpE Tryz.prog 87 K40 := opE_slice Tryz.underlying87 (by kernel_rfl) op241 (of_decide_eq_true (by kernel_rfl))
theorem op101 : OpE Tryz.prog 101 K46 := opE_struct Tryz.underlying101 (by kernel_rfl) (.cons (by kernel_rfl) op3 (.cons (by kernel_rfl) op3 (.cons (by kernel_rfl) op3 .nil))) (by kernel_rfl)
theorem op243 : OpE Tryz.prog 243 K46 := opE_struct Tryz.underlying243 (by kernel_rfl) (.cons (by kernel_rfl) op3 (.cons (by kernel_rfl) op3 (.cons (by kernel_rfl) op3 .nil))) (by kernel_rfl)
theorem op245 : OpE Tryz.prog 245 K61 := opE_struct Tryz.underlying245 (by kernel_rfl) (.cons (by kernel_rfl) op101 (.cons (by kernel_rfl) op3 (.cons (by kernel_rfl) op3 (.cons (by kernel_rfl) op3 (.cons (by kernel_rfl) op3 (.cons (by kernel_rfl) op243 .nil)))))) (by kernel_rfl)
theorem op88 : OpE Tryz.prog 88 K41 := opE_slice Tryz.underlying88 (by kernel_rfl) op245 (of_decide_eq_true (by kernel_rfl))
theorem op90 : OpE Tryz.prog 90 K42 := opE_struct Tryz.underlying90 (by kernel_rfl) (.cons (by kernel_rfl) op3 (.cons (by kernel_rfl) op74 (.cons (by kernel_rfl) op75 (.cons (by kernel_rfl) op78 (.cons (by kernel_rfl) op82 (.cons (by kernel_rfl) op85 (.cons (by kernel_rfl) op86 (.cons (by kernel_rfl) op87 (.cons (by kernel_rfl) op88 .nil))))))))) (by kernel_rfl)
theorem op104 : OpE Tryz.prog 104 K50 := opE_struct Tryz.underlying104 (by kernel_rfl) (.cons (by kernel_rfl) op3 (.cons (by kernel_rfl) op3 (.cons (by kernel_rfl) op3 (.cons (by kernel_rfl) op3 (.cons (by kernel_rfl) op3 (.cons (by kernel_rfl) op3 (.cons (by kernel_rfl) op101 (.cons (by kernel_rfl) op102 .nil)))))))) (by kernel_rfl)
end Go.Proofs.YtpmjopbgccajgaaGreat.Eng
