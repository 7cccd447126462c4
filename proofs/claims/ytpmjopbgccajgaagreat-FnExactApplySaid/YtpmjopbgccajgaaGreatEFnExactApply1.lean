/- The pure functions are what the evaluator computes of the program's code. By a program of this session. No condition. -/
import Derived.Test.YtpmjopbgccajgaaGreatDFnExactApply
import Derived.Test.YtpmjopbgccajgaaGreatProg
import Derived.KernelRfl
namespace Go.Proofs.YtpmjopbgccajgaaGreat.Eng
open Go.Proofs
set_option linter.unusedVariables false
set_option maxRecDepth 100000 in
theorem laws_FnExactApply.eq (k:Nat) (x0:U7) (x1:U0):q03 q05 false [(11,.sig qm7),(12,.sig qlo),(24,.sig qjo),(25,.sig qjj),(26,.sig qjv),(32,.sig qd4),(33,.sig qf3),(34,.sig qf6)] [⟨50,[],[⟨.slot 14,⟨true,2⟩,K42⟩,⟨.slot 15,⟨false,0⟩,.bool⟩]⟩,⟨12,[],[⟨.slot 6,⟨true,0⟩,K42⟩,⟨.slot 7,⟨false,0⟩,.bool⟩]⟩,⟨16,[],[⟨.slot 9,⟨true,2⟩,K42⟩,⟨.slot 10,⟨false,0⟩,.bool⟩]⟩] Tryz.f6 laws_FnExactApply.sig k (x0,x1,())=laws_FnExactApply.f k x0 x1:=by kernel_rfl
end Go.Proofs.YtpmjopbgccajgaaGreat.Eng
