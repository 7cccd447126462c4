/- The pure functions are what the evaluator computes of the program's code. By a program of this session. No condition. -/
import Derived.Test.YtpmjopbgccajgaaGreatD1
import Derived.Test.YtpmjopbgccajgaaGreatProg
import Derived.KernelRfl
namespace Go.Proofs.YtpmjopbgccajgaaGreat.Eng
set_option maxRecDepth 100000
open Go.Proofs
set_option linter.unusedVariables false
theorem qzj (k:Nat) (x0:U7):q03 q05 false [(151,.sig q5r),(152,.sig q56),(153,.sig q3t)] [] Tryz.f46 q1d k (x0,())=q16 k x0:=by kernel_rfl
theorem q0a9 (k:Nat) (x0:Ua):q03 q05 false [(111,.sig q5z),(151,.sig q5r)] [] Tryz.f254 qlm k (x0,())=qbw k x0:=by kernel_rfl
theorem q000 (k:Nat) (x0:Ua):q03 q05 false [] [⟨7,[],[⟨.root 2,⟨false,2⟩,(.slice K46)⟩,⟨.slot 4,⟨false,0⟩,(.int .i64)⟩]⟩,⟨8,[],[⟨.root 2,⟨false,2⟩,(.slice K46)⟩]⟩,⟨16,[],[⟨.slot 5,⟨false,0⟩,(.int .i64)⟩]⟩] Tryz.f255 qgp k (x0,())=q84 k x0:=by kernel_rfl
theorem qzv (k:Nat) (x0:U8) (x1:Int):q03 q05 false [] [] Tryz.f309 qb3 k (x0,x1,())=q81 k x0 x1:=by kernel_rfl
theorem qw7 (k:Nat) (x0:U8) (x1:Int) (x2:Int):q03 q05 false [(218,.sig q3f)] [⟨5,[],[⟨.slot 7,⟨false,0⟩,(.int .i64)⟩]⟩] Tryz.f310 qep k (x0,x1,x2,())=q3e k x0 x1 x2:=by kernel_rfl
theorem qzx (k:Nat) (x0:U8):q03 q05 false [(153,.sig q3t),(309,.sig qb3),(310,.sig qep)] [⟨9,[],[⟨.root 2,⟨false,2⟩,(.slice K2)⟩,⟨.root 3,⟨false,2⟩,(.slice K64)⟩,⟨.slot 4,⟨false,0⟩,(.int .i64)⟩]⟩,⟨10,[],[⟨.root 2,⟨false,2⟩,(.slice K2)⟩,⟨.root 3,⟨false,2⟩,(.slice K64)⟩]⟩] Tryz.f256 qgo k (x0,())=q82 k x0:=by kernel_rfl
theorem qzd (k:Nat) (x0:U7):q03 q05 false [(46,.sig q1d),(254,.sig qlm),(255,.sig qgp),(256,.sig qgo)] [⟨21,[],[⟨.root 10,⟨false,2⟩,(.slice K61)⟩,⟨.slot 6,⟨false,0⟩,(.int .i64)⟩]⟩,⟨27,[],[⟨.root 10,⟨false,2⟩,(.slice K61)⟩,⟨.slot 7,⟨false,0⟩,(.int .i64)⟩]⟩,⟨14,[],[⟨.root 10,⟨false,2⟩,(.slice K61)⟩]⟩] Tryz.f154 qgk k (x0,())=q7x k x0:=by kernel_rfl
theorem qr8 (k:Nat) (x0:Ua):q03 q05 false [(111,.sig q5z)] [] Tryz.f311 qbe k (x0,())=q5x k x0:=by kernel_rfl
theorem q0ac (k:Nat) (x0:Ua) (x1:Int) (x2:Int):q03 q05 false [(54,.sig qy),(111,.sig q5z),(151,.sig q5r),(311,.sig qbe)] [⟨11,[],[⟨.slot 8,⟨false,0⟩,(.int .i64)⟩]⟩] Tryz.f257 qln k (x0,x1,x2,())=qbx k x0 x1 x2:=by kernel_rfl
theorem qw0 (k:Nat) (x0:U7) (x1:U0):q03 q05 false [(46,.sig q1d),(54,.sig qy),(220,.sig qfu),(257,.sig qln)] [⟨9,[],[⟨.slot 6,⟨false,0⟩,(.int .i64)⟩]⟩] Tryz.f155 qem k (x0,x1,())=q5p k x0 x1:=by kernel_rfl
theorem q09x (k:Nat) (x0:List U2) (x1:Int):q03 q05 false [] [⟨5,[],[⟨.slot 5,⟨false,0⟩,(.int .i64)⟩]⟩] Tryz.f258 qlh k (x0,x1,())=q8p k x0 x1:=by kernel_rfl
theorem qzn (k:Nat) (x0:List U2) (x1:U2):q03 q05 false [] [⟨24,[],[⟨.slot 5,⟨false,2⟩,(.slice K48)⟩]⟩,⟨9,[],[⟨.slot 5,⟨false,2⟩,(.slice K48)⟩,⟨.slot 6,⟨false,0⟩,.bool⟩,⟨.slot 7,⟨false,0⟩,(.int .i64)⟩]⟩,⟨18,[],[⟨.slot 5,⟨false,2⟩,(.slice K48)⟩,⟨.slot 6,⟨false,0⟩,.bool⟩]⟩] Tryz.f259 qgm k (x0,x1,())=q80 k x0 x1:=by kernel_rfl
theorem q00b (k:Nat) (x0:List U2) (x1:U2):q03 q05 false [(114,.sig q2p),(219,.sig qcj),(258,.sig qlh),(259,.sig qgm)] [] Tryz.f156 qgw k (x0,x1,())=q86 k x0 x1:=by kernel_rfl
theorem q0dd (k:Nat) (x0:List U2):q03 q05 false [(114,.sig q2p)] [] Tryz.f55 qmy k (x0,())=qeq k x0:=by kernel_rfl
theorem qta (k:Nat) (x0:U7) (x1:Int):q03 q05 false [(31,.sig qcl),(54,.sig qy),(55,.sig qmy)] [] Tryz.f14 qcm k (x0,x1,())=q7g k x0 x1:=by kernel_rfl
theorem qzi (k:Nat) (x0:U8) (x1:Int):q03 q05 false [(153,.sig q3t)] [⟨25,[],[⟨.slot 7,⟨false,2⟩,(.slice K2)⟩,⟨.slot 8,⟨false,0⟩,(.int .i64)⟩]⟩,⟨26,[],[⟨.slot 7,⟨false,2⟩,(.slice K2)⟩]⟩,⟨7,[],[⟨.root 2,⟨false,2⟩,(.slice K2)⟩,⟨.slot 5,⟨false,0⟩,(.int .i64)⟩]⟩,⟨8,[],[⟨.root 2,⟨false,2⟩,(.slice K2)⟩]⟩,⟨17,[],[⟨.root 3,⟨false,2⟩,(.slice K64)⟩,⟨.slot 6,⟨false,0⟩,(.int .i64)⟩]⟩] Tryz.f260 qb2 k (x0,x1,())=q47 k x0 x1:=by kernel_rfl
theorem q006 (k:Nat) (x0:List U2) (x1:Int):q03 q05 false [(114,.sig q2p)] [⟨5,[],[⟨.slot 6,⟨false,0⟩,(.int .i64)⟩]⟩,⟨6,[],[]⟩,⟨12,[],[]⟩] Tryz.f312 qgu k (x0,x1,())=qaf k x0 x1:=by kernel_rfl
theorem q059 (k:Nat) (x0:List U2) (x1:Int) (x2:Int):q03 q05 false [(114,.sig q2p)] [⟨5,[],[⟨.slot 7,⟨false,0⟩,(.int .i64)⟩]⟩,⟨6,[],[]⟩,⟨14,[],[]⟩] Tryz.f313 qj6 k (x0,x1,x2,())=qcn k x0 x1 x2:=by kernel_rfl
theorem q04t (k:Nat) (x0:List U2) (x1:Int) (x2:Int):q03 q05 false [(114,.sig q2p)] [⟨5,[],[⟨.slot 7,⟨false,0⟩,(.int .i64)⟩]⟩,⟨6,[],[]⟩,⟨14,[],[]⟩] Tryz.f314 qj0 k (x0,x1,x2,())=qci k x0 x1 x2:=by kernel_rfl
theorem q04x (k:Nat) (x0:List U2) (x1:Int) (x2:Int):q03 q05 false [(312,.sig qgu),(313,.sig qj6),(314,.sig qj0)] [] Tryz.f261 qj2 k (x0,x1,x2,())=qck k x0 x1 x2:=by kernel_rfl
theorem qwb (k:Nat) (x0:List U4):q03 q05 false [(54,.sig qy)] [⟨9,[],[⟨.slot 3,⟨false,0⟩,(.int .i64)⟩]⟩,⟨19,[],[⟨.slot 4,⟨false,0⟩,(.int .i64)⟩]⟩] Tryz.f315 q9i k (x0,())=q5u k x0:=by kernel_rfl
theorem qw3 (k:Nat) (x0:U5) (x1:(Int×Int×Ub)) (x2:U4):q03 q05 false [] [] Tryz.f352 qen k (x0,x1,x2,())=q5q k x0 x1 x2:=by kernel_rfl
theorem qzp (k:Nat) (x0:(Int×Int×Ub)) (x1:U4):q03 q05 false [] [] Tryz.f353 qgn k (x0,x1,())=q49 k x0 x1:=by kernel_rfl
theorem qwe (k:Nat) (x0:U5) (x1:List U4):q03 q05 false [(110,.sig q5w),(315,.sig q9i),(352,.sig qen),(353,.sig qgn)] [⟨20,[],[⟨.slot 7,⟨false,0⟩,(.int .i64)⟩]⟩,⟨24,[],[⟨.slot 5,⟨false,2⟩,(.slice K64)⟩]⟩,⟨11,[],[⟨.slot 5,⟨false,2⟩,(.slice K64)⟩,⟨.slot 6,⟨false,0⟩,(.int .i64)⟩]⟩,⟨17,[],[⟨.slot 7,⟨false,0⟩,(.int .i64)⟩]⟩] Tryz.f316 qer k (x0,x1,())=q5y k x0 x1:=by kernel_rfl
theorem q04p (k:Nat) (x0:U5) (x1:List U4):q03 q05 false [(110,.sig q5w),(315,.sig q9i),(316,.sig qer)] [⟨11,[],[⟨.root 1,⟨false,2⟩,(.slice K46)⟩,⟨.slot 6,⟨false,0⟩,(.int .i64)⟩]⟩,⟨17,[],[⟨.root 1,⟨false,2⟩,(.slice K46)⟩,⟨.slot 7,⟨false,0⟩,(.int .i64)⟩]⟩,⟨18,[],[⟨.root 1,⟨false,2⟩,(.slice K46)⟩]⟩] Tryz.f262 qiy k (x0,x1,())=q9g k x0 x1:=by kernel_rfl
theorem qt3 (k:Nat) (x0:U7) (x1:Int):q03 tabR true [(14,.sig qcm),(46,.sig q1d),(260,.sig qb2),(261,.sig qj2),(262,.sig qiy)] [⟨15,[],[⟨.cell 0 8,⟨false,2⟩,(.slice K2)⟩,⟨.cell 0 9,⟨false,0⟩,(.int .i64)⟩,⟨.cell 0 10,⟨false,1⟩,(.slice K64)⟩,⟨.cell 0 11,⟨false,1⟩,(.slice K204)⟩,⟨.root 10,⟨false,2⟩,(.slice K61)⟩,⟨.slot 7,⟨false,2⟩,(.slice K46)⟩,⟨.slot 8,⟨false,0⟩,(.int .i64)⟩]⟩,⟨16,[],[⟨.slot 7,⟨false,2⟩,(.slice K46)⟩,⟨.cell 0 8,⟨false,2⟩,(.slice K2)⟩,⟨.cell 0 9,⟨false,0⟩,(.int .i64)⟩,⟨.cell 0 10,⟨false,1⟩,(.slice K64)⟩,⟨.cell 0 11,⟨false,1⟩,(.slice K204)⟩,⟨.root 10,⟨false,2⟩,(.slice K61)⟩]⟩] Tryz.f157 qcd k (x0,x1,())=q54 k x0 x1:=by kernel_rfl
theorem q053 (k:Nat) (x0:Ub) (x1:U4) (x2:Int):q03 q05 false [(54,.sig qy),(109,.sig q5t),(221,.sig q5s)] [⟨7,[],[⟨.cell 1 0,⟨false,0⟩,(.int .i64)⟩,⟨.cell 1 1,⟨false,0⟩,(.int .i64)⟩]⟩,⟨12,[],[⟨.cell 1 0,⟨false,0⟩,(.int .i64)⟩,⟨.cell 1 1,⟨false,0⟩,(.int .i64)⟩]⟩] Tryz.f317 qj4 k (x0,x1,x2,())=q9k k x0 x1 x2:=by kernel_rfl
theorem q055 (k:Nat) (x0:Ub) (x1:U4) (x2:Int) (x3:Int):q03 q05 false [(54,.sig qy),(109,.sig q5t),(221,.sig q5s),(317,.sig qj4)] [] Tryz.f263 qj5 k (x0,x1,x2,x3,())=q6w k x0 x1 x2 x3:=by kernel_rfl
end Go.Proofs.YtpmjopbgccajgaaGreat.Eng
