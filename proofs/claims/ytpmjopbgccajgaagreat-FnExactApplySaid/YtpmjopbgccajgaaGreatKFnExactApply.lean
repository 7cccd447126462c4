/- The contracts of the program's functions. By a program of this session. No condition. -/
import Derived.Test.YtpmjopbgccajgaaGreatK
import Derived.Test.YtpmjopbgccajgaaGreatEFnExactApply1
namespace Go.Proofs.YtpmjopbgccajgaaGreat.Eng
open Go.Proofs
set_option linter.unusedVariables false
theorem laws_FnExactApply.ok:FnOk Tryz.prog 6 laws_FnExactApply.sig:=qe (fun k x=>laws_FnExactApply.eq k x.1 x.2.1) Tryz.func6 q7 mixed (by kernel_rfl) (by kernel_rfl) ⟨q0cc,q0af,q06d,q05v,q06z,qtl,qx9,qxh,trivial⟩
end Go.Proofs.YtpmjopbgccajgaaGreat.Eng
