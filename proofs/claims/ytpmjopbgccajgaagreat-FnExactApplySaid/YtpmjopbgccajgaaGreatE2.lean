/- The pure functions are what the evaluator computes of the program's code. By a program of this session. No condition. -/
import Derived.Test.YtpmjopbgccajgaaGreatD1
import Derived.Test.YtpmjopbgccajgaaGreatProg
import Derived.KernelRfl
namespace Go.Proofs.YtpmjopbgccajgaaGreat.Eng
set_option maxRecDepth 100000
open Go.Proofs
set_option linter.unusedVariables false
theorem qj8 (k:Nat) (x0:List Ud):q03 q05 false [] [] Tryz.f140 q41 k (x0,())=q1l k x0:=by kernel_rfl
theorem qlv (k:Nat) (x0:List U1):q03 q05 false [] [] Tryz.f141 q50 k (x0,())=q2b k x0:=by kernel_rfl
theorem qy5 (k:Nat) (x0:U7):q03 q05 false [(78,.sig q0j),(136,.sig q6e),(137,.sig q6d),(138,.sig q5h),(139,.sig q2w),(140,.sig q41),(141,.sig q50)] [] Tryz.f44 qfk k (x0,())=q3j k x0:=by kernel_rfl
theorem q0c4 (k:Nat) (x0:Ua):q03 q05 false [(70,.sig q6k),(136,.sig q6e)] [] Tryz.f239 qm5 k (x0,())=qc3 k x0:=by kernel_rfl
theorem q02w (k:Nat) (x0:Ua):q03 q05 false [] [⟨4,[],[⟨.slot 3,⟨false,0⟩,(.int .i64)⟩,⟨.slot 4,⟨false,0⟩,(.int .i64)⟩]⟩,⟨7,[],[⟨.root 0,⟨false,2⟩,(.slice K46)⟩,⟨.slot 3,⟨false,0⟩,(.int .i64)⟩,⟨.slot 4,⟨false,0⟩,(.int .i64)⟩,⟨.slot 12,⟨false,0⟩,(.int .i64)⟩]⟩,⟨16,[],[⟨.slot 3,⟨false,0⟩,(.int .i64)⟩,⟨.root 0,⟨false,2⟩,(.slice K46)⟩]⟩] Tryz.f240 qhm k (x0,())=q88 k x0:=by kernel_rfl
theorem q078 (k:Nat) (x0:U8) (x1:Int):q03 q05 false [] [] Tryz.f293 qdy k (x0,x1,())=q70 k x0 x1:=by kernel_rfl
theorem q077 (k:Nat) (x0:U8) (x1:Int):q03 q05 false [(337,.inl Tryz.f337 [⟨5,[],[⟨.slot 8,⟨false,0⟩,(.int .i64)⟩]⟩]),(338,.inl Tryz.f338 [])] [] Tryz.f294 qdx k (x0,x1,())=q43 k x0 x1:=by kernel_rfl
theorem qmz (k:Nat) (x0:List U6) (x1:Int):q03 q05 false [] [⟨5,[],[⟨.slot 8,⟨false,0⟩,(.int .i64)⟩]⟩] Tryz.f251 q3q k (x0,x1,())=q0r k x0 x1:=by kernel_rfl
theorem qku (k:Nat) (x0:List U6) (x1:Int):q03 q05 false [(251,.sig q3q)] [] Tryz.f295 q0u k (x0,x1,())=q06 k x0 x1:=by kernel_rfl
theorem q0eb (k:Nat) (x0:U8):q03 q05 false [(293,.sig qdy),(294,.sig qdx),(295,.sig q0u)] [⟨20,[],[⟨.root 1,⟨false,2⟩,(.slice K2)⟩,⟨.root 2,⟨false,2⟩,(.slice K64)⟩]⟩,⟨5,[],[⟨.root 1,⟨false,2⟩,(.slice K2)⟩,⟨.root 2,⟨false,2⟩,(.slice K64)⟩,⟨.slot 26,⟨false,0⟩,(.int .i64)⟩]⟩] Tryz.f241 qn8 k (x0,())=qfe k x0:=by kernel_rfl
theorem q0ed (k:Nat) (x0:U7):q03 q05 false [(239,.sig qm5),(240,.sig qhm),(241,.sig qn8)] [⟨23,[],[⟨.root 9,⟨false,2⟩,(.slice K61)⟩,⟨.slot 73,⟨false,0⟩,(.int .i64)⟩]⟩,⟨10,[],[⟨.cell 0 4,⟨false,0⟩,(.int .i64)⟩,⟨.cell 0 5,⟨false,0⟩,(.int .i64)⟩,⟨.cell 0 6,⟨false,0⟩,.bool⟩,⟨.cell 0 7,⟨false,2⟩,(.slice K46)⟩,⟨.root 9,⟨false,2⟩,(.slice K61)⟩]⟩,⟨17,[],[⟨.root 9,⟨false,2⟩,(.slice K61)⟩,⟨.slot 66,⟨false,0⟩,(.int .i64)⟩]⟩] Tryz.f143 qn9 k (x0,())=qff k x0:=by kernel_rfl
theorem qsb (k:Nat) (x0:Ua):q03 q05 false [(70,.sig q6k)] [] Tryz.f296 qbp k (x0,())=q4i k x0:=by kernel_rfl
theorem q0c9 (k:Nat) (x0:Ua) (x1:Int) (x2:Int):q03 q05 false [(70,.sig q6k),(136,.sig q6e),(177,.sig qij),(296,.sig qbp)] [] Tryz.f242 qm6 k (x0,x1,x2,())=q9d k x0 x1 x2:=by kernel_rfl
theorem q0bx (k:Nat) (x0:U7) (x1:U0):q03 q05 false [(56,.sig q6b),(76,.sig qe2),(142,.sig q3v),(187,.sig qg8),(242,.sig qm6)] [⟨12,[],[⟨.slot 5,⟨true,2⟩,K30⟩,⟨.slot 6,⟨false,0⟩,.bool⟩]⟩] Tryz.f144 qm1 k (x0,x1,())=qc1 k x0 x1:=by kernel_rfl
theorem q07b (k:Nat) (x0:List U2) (x1:Int):q03 q05 false [(297,.inl Tryz.f297 [⟨5,[],[⟨.slot 8,⟨false,0⟩,(.int .i64)⟩]⟩]),(298,.inl Tryz.f298 [])] [] Tryz.f243 qjy k (x0,x1,())=q9r k x0 x1:=by kernel_rfl
theorem q03m (k:Nat) (x0:List U2) (x1:U2):q03 q05 false [(73,.sig q2s),(139,.sig q2w),(184,.sig qe7),(243,.sig qjy),(244,.sig (sortNSig 245))] [] Tryz.f145 qhz k (x0,x1,())=q8f k x0 x1:=by kernel_rfl
theorem q03f (k:Nat) (x0:List U2) (x1:Int):q03 q05 false [(73,.sig q2s),(165,.inl Tryz.f165 [⟨5,[],[⟨.slot 6,⟨false,0⟩,(.int .i64)⟩]⟩,⟨6,[],[]⟩,⟨12,[],[]⟩]),(166,.inl Tryz.f166 [])] [] Tryz.f58 qhx k (x0,x1,())=qaz k x0 x1:=by kernel_rfl
theorem q08j (k:Nat) (x0:List U2) (x1:Int) (x2:Int):q03 q05 false [(73,.sig q2s),(165,.inl Tryz.f165 [⟨5,[],[⟨.slot 6,⟨false,0⟩,(.int .i64)⟩]⟩,⟨6,[],[]⟩,⟨12,[],[]⟩]),(167,.inl Tryz.f167 [])] [] Tryz.f59 qki k (x0,x1,x2,())=qe9 k x0 x1 x2:=by kernel_rfl
theorem q081 (k:Nat) (x0:List U2) (x1:Int) (x2:Int):q03 q05 false [(73,.sig q2s),(165,.inl Tryz.f165 [⟨5,[],[⟨.slot 6,⟨false,0⟩,(.int .i64)⟩]⟩,⟨6,[],[]⟩,⟨12,[],[]⟩]),(168,.inl Tryz.f168 [])] [] Tryz.f60 qkb k (x0,x1,x2,())=qe6 k x0 x1 x2:=by kernel_rfl
theorem q085 (k:Nat) (x0:List U2) (x1:Int) (x2:Int):q03 q05 false [(58,.sig qhx),(59,.sig qki),(60,.sig qkb)] [] Tryz.f21 qkd k (x0,x1,x2,())=qe8 k x0 x1 x2:=by kernel_rfl
theorem qkw (k:Nat) (x0:List U4):q03 q05 false [] [] Tryz.f61 q4p k (x0,())=q1t k x0:=by kernel_rfl
theorem q0cs (k:Nat) (x0:List U6):q03 q05 false [] [⟨7,[],[⟨.slot 8,⟨false,0⟩,(.int .i64)⟩]⟩] Tryz.f64 qm9 k (x0,())=qgh k x0:=by kernel_rfl
theorem qyi (k:Nat) (x0:Int):q03 q05 false [] [] Tryz.f170 qfo k (x0,())=q9e k x0:=by kernel_rfl
theorem qsl (k:Nat) (x0:Int) (x1:Int):q03 q05 false [(170,.sig qfo)] [] Tryz.f65 qbt k (x0,x1,())=q4k k x0 x1:=by kernel_rfl
theorem qy8 (k:Nat) (x0:U4) (x1:U4):q03 q05 false [(64,.sig qm9),(65,.sig qbt)] [] Tryz.f63 q9w k (x0,x1,())=q0v k x0 x1:=by kernel_rfl
theorem q8h (k:Nat) (x0:List U4) (x1:Int) (x2:Int):q03 q05 false [(63,.sig q9w)] [⟨3,[],[⟨.root 0,⟨false,2⟩,(.slice K46)⟩,⟨.slot 8,⟨false,0⟩,(.int .i64)⟩]⟩,⟨4,[],[⟨.root 0,⟨false,2⟩,(.slice K46)⟩]⟩,⟨9,[],[⟨.root 0,⟨false,2⟩,(.slice K46)⟩,⟨.slot 9,⟨false,0⟩,(.int .i64)⟩]⟩] Tryz.f267 q12 k (x0,x1,x2,())=qr k x0 x1 x2:=by kernel_rfl
theorem qa6 (k:Nat) (x0:List U4) (x1:Int) (x2:Int) (x3:Int):q03 q05 false [] [⟨3,[],[⟨.root 0,⟨false,2⟩,(.slice K46)⟩,⟨.slot 10,⟨false,0⟩,(.int .i64)⟩]⟩] Tryz.f357 q1h k (x0,x1,x2,x3,())=qz k x0 x1 x2 x3:=by kernel_rfl
theorem qc9 (k:Nat) (x0:List U4) (x1:Int) (x2:Int) (x3:Int):q03 q05 false [(357,.sig q1h)] [⟨5,[],[⟨.root 0,⟨false,2⟩,(.slice K46)⟩,⟨.slot 10,⟨false,0⟩,(.int .i64)⟩,⟨.slot 11,⟨false,0⟩,(.int .i64)⟩]⟩] Tryz.f322 q27 k (x0,x1,x2,x3,())=q07 k x0 x1 x2 x3:=by kernel_rfl
theorem qah (rf F:Nat→(List U4×U4)→Option (List U4×Unit)) (k:Nat) (x0:List U4) (x1:Int) (x2:Int) (x3:Int):q03 q05 false [(63,.sig q9w),(268,.sig (slices_symMergeCmpFunc_impl_Piece.sig0.re rf)),(322,.sig q27)] [⟨31,[],[⟨.slot 14,⟨false,0⟩,(.int .i64)⟩,⟨.slot 15,⟨false,0⟩,(.int .i64)⟩]⟩,⟨43,[],[⟨.root 0,⟨false,2⟩,(.slice K46)⟩,⟨.slot 17,⟨false,0⟩,(.int .i64)⟩]⟩,⟨7,[],[⟨.slot 10,⟨false,0⟩,(.int .i64)⟩,⟨.slot 11,⟨false,0⟩,(.int .i64)⟩]⟩,⟨64,[],[⟨.slot 20,⟨false,0⟩,(.int .i64)⟩,⟨.slot 21,⟨false,0⟩,(.int .i64)⟩]⟩,⟨67,[],[⟨.slot 20,⟨false,0⟩,(.int .i64)⟩,⟨.slot 21,⟨false,0⟩,(.int .i64)⟩]⟩,⟨82,[],[⟨.root 0,⟨false,2⟩,(.slice K46)⟩]⟩,⟨86,[],[⟨.root 0,⟨false,2⟩,(.slice K46)⟩]⟩,⟨19,[],[⟨.root 0,⟨false,2⟩,(.slice K46)⟩,⟨.slot 13,⟨false,0⟩,(.int .i64)⟩]⟩] Tryz.f268 (slices_symMergeCmpFunc_impl_Piece.sig0.re F) k (x0,x1,x2,x3,())=q0q rf k x0 x1 x2 x3:=by kernel_rfl
theorem qc7 (k:Nat) (x0:List U4) (x1:Int):q03 q05 false [(267,.sig q12),(268,.sig q3z)] [⟨32,[],[⟨.root 0,⟨false,2⟩,(.slice K46)⟩]⟩,⟨5,[],[⟨.root 0,⟨false,2⟩,(.slice K46)⟩,⟨.slot 7,⟨false,0⟩,(.int .i64)⟩,⟨.slot 8,⟨false,0⟩,(.int .i64)⟩]⟩,⟨15,[],[⟨.root 0,⟨false,2⟩,(.slice K46)⟩,⟨.slot 6,⟨false,0⟩,(.int .i64)⟩]⟩,⟨19,[],[⟨.root 0,⟨false,2⟩,(.slice K46)⟩,⟨.slot 7,⟨false,0⟩,(.int .i64)⟩,⟨.slot 8,⟨false,0⟩,(.int .i64)⟩]⟩] Tryz.f169 q26 k (x0,x1,())=q18 k x0 x1:=by kernel_rfl
theorem qbg (k:Nat) (x0:List U4):q03 q05 false [(169,.sig q26)] [] Tryz.f62 q1s k (x0,())=q0m k x0:=by kernel_rfl
end Go.Proofs.YtpmjopbgccajgaaGreat.Eng
