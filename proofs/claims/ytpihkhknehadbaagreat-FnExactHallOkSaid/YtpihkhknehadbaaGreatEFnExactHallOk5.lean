/- The pure functions are what the evaluator computes of the program's code. By a program of this session. No condition. -/
import Derived.Test.YtpihkhknehadbaaGreatDFnExactHallOk
import Derived.Test.YtpihkhknehadbaaGreatProg
import Derived.KernelRfl
namespace Go.Proofs.YtpihkhknehadbaaGreat.Eng
open Go.Proofs
set_option linter.unusedVariables false
set_option maxRecDepth 100000 in
theorem laws_FnExactHallOk.eq (k : Nat) (x0 : (Int × List (Int × Unit) × Int × Int × Int × Int × Bool × List (Int × Int × Int × Unit) × List (Int × Unit) × Int × List (Int × Int × List (Int × Unit) × Unit) × List (Int × List (Int × Unit) × Unit) × Int × List (List (Int × Int × Unit) × Unit) × List (Int × Int × Int × Int × Int × Unit) × List (Int × Int × Int × Bool × Int × Unit) × List (Int × Int × Int × Int × Int × Int × Int × Int × Int × Int × Unit) × Unit)) : evFn tabO false [(8, .sig laws_szHall.sig), (9, .sig spec_HallOk.sig), (10, .sig laws_toHall.sig), (11, .sig impl_HallOk.sig), (12, .sig laws_eqHall.sig)] [] Tryz.f3 laws_FnExactHallOk.sig k (x0, ()) = laws_FnExactHallOk.f k x0 := by kernel_rfl

end Go.Proofs.YtpihkhknehadbaaGreat.Eng
