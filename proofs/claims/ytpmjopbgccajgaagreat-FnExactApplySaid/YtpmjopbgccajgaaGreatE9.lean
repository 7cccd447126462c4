/- The pure functions are what the evaluator computes of the program's code. By a program of this session. No condition. -/
import Derived.Test.YtpmjopbgccajgaaGreatD1
import Derived.Test.YtpmjopbgccajgaaGreatProg
import Derived.KernelRfl
namespace Go.Proofs.YtpmjopbgccajgaaGreat.Eng
set_option maxRecDepth 100000
open Go.Proofs
set_option linter.unusedVariables false
theorem qxf (k:Nat) (x0:U8) (x1:Int):q03 q05 false [(230,.sig q4h),(232,.sig qbm),(233,.sig qdh)] [] Tryz.f128 qf5 k (x0,x1,())=qdk k x0 x1:=by kernel_rfl
theorem qua (k:Nat) (x0:List U5) (x1:Int):q03 q05 false [] [⟨5,[],[⟨.slot 1,⟨false,0⟩,(.int .i64)⟩,⟨.slot 5,⟨false,0⟩,(.int .i64)⟩]⟩] Tryz.f292 qdl k (x0,x1,())=q7r k x0 x1:=by kernel_rfl
theorem qrr (k:Nat) (x0:List (List U5×Unit)) (x1:Int):q03 q05 false [(292,.sig qdl)] [⟨5,[],[⟨.slot 1,⟨false,0⟩,(.int .i64)⟩,⟨.slot 5,⟨false,0⟩,(.int .i64)⟩]⟩] Tryz.f234 qbl k (x0,x1,())=q67 k x0 x1:=by kernel_rfl
theorem qu6 (k:Nat) (x0:U9) (x1:Int):q03 q05 false [(234,.sig qbl)] [] Tryz.f129 qdi k (x0,x1,())=qba k x0 x1:=by kernel_rfl
theorem qu8 (k:Nat) (x0:List U2) (x1:Int):q03 q05 false [] [⟨5,[],[⟨.slot 1,⟨false,0⟩,(.int .i64)⟩,⟨.slot 5,⟨false,0⟩,(.int .i64)⟩]⟩] Tryz.f130 qdj k (x0,x1,())=q7q k x0 x1:=by kernel_rfl
theorem qqk (k:Nat) (x0:List Ud) (x1:Int):q03 q05 false [] [⟨5,[],[⟨.slot 1,⟨false,0⟩,(.int .i64)⟩,⟨.slot 5,⟨false,0⟩,(.int .i64)⟩]⟩] Tryz.f131 qa9 k (x0,x1,())=q5c k x0 x1:=by kernel_rfl
theorem que (k:Nat) (x0:List U1) (x1:Int):q03 q05 false [] [⟨5,[],[⟨.slot 1,⟨false,0⟩,(.int .i64)⟩,⟨.slot 5,⟨false,0⟩,(.int .i64)⟩]⟩] Tryz.f132 qdn k (x0,x1,())=q7t k x0 x1:=by kernel_rfl
theorem qxi (k:Nat) (x0:U7) (x1:Int):q03 q05 false [(126,.sig qbk),(127,.sig qf7),(128,.sig qf5),(129,.sig qdi),(130,.sig qdj),(131,.sig qa9),(132,.sig qdn)] [] Tryz.f34 qf6 k (x0,x1,())=q68 k x0 x1:=by kernel_rfl
end Go.Proofs.YtpmjopbgccajgaaGreat.Eng
