/- The contracts of the program's functions. By a program of this session. No condition. -/
import Derived.Test.YtpmjopbgccajgaaGreatK
import Derived.Test.YtpmjopbgccajgaaGreatEFnExactCanDepart1
namespace Go.Proofs.YtpmjopbgccajgaaGreat.Eng
open Go.Proofs
set_option linter.unusedVariables false
theorem laws_FnExactCanDepart.ok:FnOk Tryz.prog 4 laws_FnExactCanDepart.sig:=fn_ok (fun k x=>laws_FnExactCanDepart.eq k x.1 x.2.1) Tryz.func4 tabO_ok mixed (by kernel_rfl) (by kernel_rfl) ⟨impl_CanDepart.ok,spec_CanDepart.ok,laws_szHall.ok,laws_toHall.ok,laws_eqHall.ok,trivial⟩
end Go.Proofs.YtpmjopbgccajgaaGreat.Eng
