/- What an argument that reads as data is, type by type. No condition. By a program of this session. -/
import Derived.Test.YtpihkhknehadbaaGreatEngD
import Derived.Test.YtpihkhknehadbaaGreatTy
import Derived.Test.YtpihkhknehadbaaGreatProg
import Derived.KernelRfl
namespace Go.Proofs.YtpihkhknehadbaaGreat.Eng
open Go.RowKit Go.Proofs
set_option linter.unusedVariables false
theorem op3 : OpE Tryz.prog 3 K2 := opE_int Tryz.underlying3 (by kernel_rfl)
theorem op22 : OpE Tryz.prog 22 K22 := opE_slice Tryz.underlying22 (by kernel_rfl) op3 (of_decide_eq_true (by kernel_rfl))
theorem op24 : OpE Tryz.prog 24 K22 := opE_struct Tryz.underlying24 (by kernel_rfl) (.cons (by kernel_rfl) op22 .nil) (by kernel_rfl)
theorem op26 : OpE Tryz.prog 26 K25 := opE_struct Tryz.underlying26 (by kernel_rfl) (.cons (by kernel_rfl) op3 (.cons (by kernel_rfl) op3 .nil)) (by kernel_rfl)
theorem op4 : OpE Tryz.prog 4 K4 := opE_bool Tryz.underlying4 (by kernel_rfl)
theorem op214 : OpE Tryz.prog 214 K72 := opE_struct Tryz.underlying214 (by kernel_rfl) (.cons (by kernel_rfl) op3 (.cons (by kernel_rfl) op3 (.cons (by kernel_rfl) op3 .nil))) (by kernel_rfl)
theorem op27 : OpE Tryz.prog 27 K27 := opE_slice Tryz.underlying27 (by kernel_rfl) op214 (of_decide_eq_true (by kernel_rfl))
theorem op29 : OpE Tryz.prog 29 K28 := opE_struct Tryz.underlying29 (by kernel_rfl) (.cons (by kernel_rfl) op3 (.cons (by kernel_rfl) op3 (.cons (by kernel_rfl) op4 (.cons (by kernel_rfl) op27 .nil)))) (by kernel_rfl)
theorem op208 : OpE Tryz.prog 208 K102 := opE_struct Tryz.underlying208 (by kernel_rfl) (.cons (by kernel_rfl) op3 (.cons (by kernel_rfl) op3 (.cons (by kernel_rfl) op22 .nil))) (by kernel_rfl)
theorem op30 : OpE Tryz.prog 30 K30 := opE_slice Tryz.underlying30 (by kernel_rfl) op208 (of_decide_eq_true (by kernel_rfl))
theorem op210 : OpE Tryz.prog 210 K147 := opE_struct Tryz.underlying210 (by kernel_rfl) (.cons (by kernel_rfl) op3 (.cons (by kernel_rfl) op22 .nil)) (by kernel_rfl)
theorem op31 : OpE Tryz.prog 31 K31 := opE_slice Tryz.underlying31 (by kernel_rfl) op210 (of_decide_eq_true (by kernel_rfl))
theorem op33 : OpE Tryz.prog 33 K32 := opE_struct Tryz.underlying33 (by kernel_rfl) (.cons (by kernel_rfl) op22 (.cons (by kernel_rfl) op3 (.cons (by kernel_rfl) op30 (.cons (by kernel_rfl) op31 .nil)))) (by kernel_rfl)
theorem op244 : OpE Tryz.prog 244 K25 := opE_struct Tryz.underlying244 (by kernel_rfl) (.cons (by kernel_rfl) op3 (.cons (by kernel_rfl) op3 .nil)) (by kernel_rfl)
theorem op212 : OpE Tryz.prog 212 K104 := opE_slice Tryz.underlying212 (by kernel_rfl) op244 (of_decide_eq_true (by kernel_rfl))
theorem op34 : OpE Tryz.prog 34 K34 := opE_slice Tryz.underlying34 (by kernel_rfl) op212 (of_decide_eq_true (by kernel_rfl))
theorem op36 : OpE Tryz.prog 36 K35 := opE_struct Tryz.underlying36 (by kernel_rfl) (.cons (by kernel_rfl) op3 (.cons (by kernel_rfl) op34 .nil)) (by kernel_rfl)
theorem op159 : OpE Tryz.prog 159 K150 := opE_struct Tryz.underlying159 (by kernel_rfl) (.cons (by kernel_rfl) op3 (.cons (by kernel_rfl) op3 (.cons (by kernel_rfl) op3 (.cons (by kernel_rfl) op3 (.cons (by kernel_rfl) op3 .nil))))) (by kernel_rfl)
theorem op37 : OpE Tryz.prog 37 K37 := opE_slice Tryz.underlying37 (by kernel_rfl) op159 (of_decide_eq_true (by kernel_rfl))
theorem op161 : OpE Tryz.prog 161 K97 := opE_struct Tryz.underlying161 (by kernel_rfl) (.cons (by kernel_rfl) op3 (.cons (by kernel_rfl) op3 (.cons (by kernel_rfl) op3 (.cons (by kernel_rfl) op4 (.cons (by kernel_rfl) op3 .nil))))) (by kernel_rfl)
theorem op38 : OpE Tryz.prog 38 K38 := opE_slice Tryz.underlying38 (by kernel_rfl) op161 (of_decide_eq_true (by kernel_rfl))
theorem op163 : OpE Tryz.prog 163 K72 := opE_struct Tryz.underlying163 (by kernel_rfl) (.cons (by kernel_rfl) op3 (.cons (by kernel_rfl) op3 (.cons (by kernel_rfl) op3 .nil))) (by kernel_rfl)
theorem op164 : OpE Tryz.prog 164 K72 := opE_struct Tryz.underlying164 (by kernel_rfl) (.cons (by kernel_rfl) op3 (.cons (by kernel_rfl) op3 (.cons (by kernel_rfl) op3 .nil))) (by kernel_rfl)
theorem op166 : OpE Tryz.prog 166 K76 := opE_struct Tryz.underlying166 (by kernel_rfl) (.cons (by kernel_rfl) op163 (.cons (by kernel_rfl) op3 (.cons (by kernel_rfl) op3 (.cons (by kernel_rfl) op3 (.cons (by kernel_rfl) op3 (.cons (by kernel_rfl) op164 .nil)))))) (by kernel_rfl)
theorem op39 : OpE Tryz.prog 39 K39 := opE_slice Tryz.underlying39 (by kernel_rfl) op166 (of_decide_eq_true (by kernel_rfl))
theorem op41 : OpE Tryz.prog 41 K40 := opE_struct Tryz.underlying41 (by kernel_rfl) (.cons (by kernel_rfl) op3 (.cons (by kernel_rfl) op24 (.cons (by kernel_rfl) op26 (.cons (by kernel_rfl) op29 (.cons (by kernel_rfl) op33 (.cons (by kernel_rfl) op36 (.cons (by kernel_rfl) op37 (.cons (by kernel_rfl) op38 (.cons (by kernel_rfl) op39 .nil))))))))) (by kernel_rfl)
theorem op5 : OpE Tryz.prog 5 K5 := opE_int Tryz.underlying5 (by kernel_rfl)
theorem op69 : OpE Tryz.prog 69 K69 := opE_slice Tryz.underlying69 (by kernel_rfl) op5 (of_decide_eq_true (by kernel_rfl))
end Go.Proofs.YtpihkhknehadbaaGreat.Eng
