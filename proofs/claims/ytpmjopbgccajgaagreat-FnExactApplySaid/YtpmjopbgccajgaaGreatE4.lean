/- The pure functions are what the evaluator computes of the program's code. By a program of this session. No condition. -/
import Derived.Test.YtpmjopbgccajgaaGreatD1
import Derived.Test.YtpmjopbgccajgaaGreatProg
import Derived.KernelRfl
namespace Go.Proofs.YtpmjopbgccajgaaGreat.Eng
set_option maxRecDepth 100000
open Go.Proofs
set_option linter.unusedVariables false
theorem qgy (k:Nat) (x:List U6×U6×Unit):q0o7 q05 false [(191,.inl Tryz.f191 [⟨5,[],[⟨.slot 8,⟨false,0⟩,(.int .i64)⟩]⟩]),(253,.inl Tryz.f253 [])] [⟨11,[],[⟨.root 0,⟨false,2⟩,(.slice K2)⟩,⟨.slot 5,⟨false,0⟩,(.int .i64)⟩,⟨.slot 6,⟨false,0⟩,(.int .i64)⟩]⟩,⟨12,[],[⟨.slot 5,⟨false,0⟩,(.int .i64)⟩,⟨.root 0,⟨false,2⟩,(.slice K2)⟩]⟩] Tryz.f77 253 k x=q0f k x:=by kernel_rfl
theorem qy2 (k:Nat) (x0:U7) (x1:Int):q03 q05 false [(77,.cut q0f 253),(250,.sig qbd),(251,.sig q3q),(252,.sig qhs)] [⟨28,[],[⟨.slot 8,⟨true,2⟩,K37⟩,⟨.slot 10,⟨false,0⟩,.bool⟩]⟩,⟨34,[],[⟨.cell 0 12,⟨false,0⟩,(.int .i64)⟩,⟨.cell 0 13,⟨false,2⟩,(.slice K173)⟩,⟨.cell 10 0,⟨false,0⟩,(.int .i64)⟩,⟨.root 3,⟨false,2⟩,(.slice K2)⟩,⟨.root 4,⟨false,2⟩,(.slice K64)⟩]⟩] Tryz.f150 qfi k (x0,x1,())=q6c k x0 x1:=by kernel_rfl
theorem q033 (k:Nat) (x0:U7) (x1:U0):q03 q05 false [(142,.sig q3v),(143,.sig qn9),(144,.sig qm1),(145,.sig qhz),(146,.sig qk3),(147,.sig qk4),(148,.sig qna),(149,.sig qm0),(150,.sig qfi)] [⟨13,[],[⟨.cell 0 0,⟨false,0⟩,(.int .i64)⟩,⟨.cell 0 1,⟨false,2⟩,(.slice K2)⟩,⟨.cell 0 2,⟨false,0⟩,(.int .i64)⟩,⟨.cell 0 3,⟨false,0⟩,(.int .i64)⟩,⟨.cell 0 4,⟨false,0⟩,(.int .i64)⟩,⟨.cell 0 5,⟨false,0⟩,(.int .i64)⟩,⟨.cell 0 6,⟨false,0⟩,.bool⟩,⟨.cell 0 7,⟨false,2⟩,(.slice K46)⟩,⟨.cell 0 8,⟨false,2⟩,(.slice K2)⟩,⟨.cell 0 9,⟨false,0⟩,(.int .i64)⟩,⟨.cell 0 10,⟨false,2⟩,(.slice K64)⟩,⟨.cell 0 11,⟨false,2⟩,(.slice K204)⟩,⟨.cell 0 12,⟨false,0⟩,(.int .i64)⟩,⟨.cell 0 13,⟨false,2⟩,(.slice K173)⟩,⟨.cell 0 14,⟨false,2⟩,(.slice K48)⟩,⟨.cell 0 15,⟨false,2⟩,(.slice K66)⟩,⟨.cell 0 16,⟨false,2⟩,(.slice K61)⟩,⟨.slot 5,⟨false,0⟩,(.int .i64)⟩]⟩] Tryz.f45 qho k (x0,x1,())=q8b k x0 x1:=by kernel_rfl
theorem q0cd (k:Nat) (x0:U7) (x1:U0):q03 q05 false [(23,.sig qkf),(44,.sig qfk),(45,.sig qho)] [] Tryz.f11 qm7 k (x0,x1,())=q3m k x0 x1:=by kernel_rfl
theorem q0a1 (k:Nat) (x0:Int) (x1:Int) (x2:Int):q03 q05 false [] [] Tryz.f54 qy k (x0,x1,x2,())=qf k x0 x1 x2:=by kernel_rfl
theorem qwa (k:Nat) (x0:Ub):q03 q05 false [(54,.sig qy)] [⟨9,[],[⟨.slot 3,⟨false,0⟩,(.int .i64)⟩]⟩] Tryz.f109 q5t k (x0,())=q2h k x0:=by kernel_rfl
theorem qwc (k:Nat) (x0:U5):q03 q05 false [(54,.sig qy)] [] Tryz.f110 q5w k (x0,())=q1r k x0:=by kernel_rfl
theorem q056 (k:Nat) (x0:Ua):q03 q05 false [(54,.sig qy)] [⟨21,[],[⟨.slot 5,⟨false,0⟩,(.int .i64)⟩]⟩,⟨9,[],[⟨.slot 3,⟨false,0⟩,(.int .i64)⟩]⟩,⟨10,[],[]⟩] Tryz.f111 q5z k (x0,())=q59 k x0:=by kernel_rfl
theorem q04i (k:Nat) (x0:List U6) (x1:Int):q03 q05 false [] [⟨5,[],[⟨.slot 5,⟨false,0⟩,(.int .i64)⟩]⟩] Tryz.f218 q3f k (x0,x1,())=q2f k x0 x1:=by kernel_rfl
theorem q04y (k:Nat) (x0:U8):q03 q05 false [(54,.sig qy),(218,.sig q3f)] [⟨23,[],[⟨.slot 4,⟨false,2⟩,(.slice K2)⟩,⟨.slot 6,⟨false,0⟩,(.int .i64)⟩]⟩,⟨35,[],[⟨.slot 8,⟨false,0⟩,(.int .i64)⟩]⟩,⟨47,[],[⟨.slot 9,⟨false,0⟩,(.int .i64)⟩]⟩,⟨57,[],[⟨.slot 10,⟨false,0⟩,(.int .i64)⟩]⟩,⟨69,[],[⟨.slot 12,⟨false,0⟩,(.int .i64)⟩]⟩,⟨79,[],[⟨.slot 13,⟨false,0⟩,(.int .i64)⟩]⟩,⟨80,[],[]⟩,⟨13,[],[⟨.slot 4,⟨false,2⟩,(.slice K2)⟩,⟨.slot 5,⟨false,0⟩,(.int .i64)⟩]⟩,⟨14,[],[⟨.slot 4,⟨false,2⟩,(.slice K2)⟩]⟩] Tryz.f112 q8r k (x0,())=q58 k x0:=by kernel_rfl
theorem q002 (k:Nat) (x0:U9):q03 q05 false [(54,.sig qy),(218,.sig q3f)] [⟨21,[],[⟨.slot 3,⟨false,2⟩,(.slice K2)⟩,⟨.slot 5,⟨false,0⟩,(.int .i64)⟩]⟩,⟨11,[],[⟨.slot 3,⟨false,2⟩,(.slice K2)⟩,⟨.slot 4,⟨false,0⟩,(.int .i64)⟩]⟩] Tryz.f113 q7f k (x0,())=q34 k x0:=by kernel_rfl
theorem q04v (k:Nat) (x0:U2):q03 q05 false [(54,.sig qy)] [⟨10,[],[]⟩] Tryz.f219 qcj k (x0,())=q6u k x0:=by kernel_rfl
theorem q007 (k:Nat) (x0:List U2):q03 q05 false [(219,.sig qcj)] [⟨9,[],[⟨.slot 3,⟨false,0⟩,(.int .i64)⟩]⟩,⟨10,[],[]⟩] Tryz.f114 q2p k (x0,())=q2d k x0:=by kernel_rfl
theorem qqb (k:Nat) (x0:U7) (x1:Ud):q03 q05 false [(54,.sig qy)] [] Tryz.f115 qa4 k (x0,x1,())=q57 k x0 x1:=by kernel_rfl
theorem q0a3 (k:Nat) (x0:U4):q03 q05 false [(54,.sig qy)] [] Tryz.f220 qfu k (x0,())=qbv k x0:=by kernel_rfl
theorem qw9 (k:Nat) (x0:U4):q03 q05 false [(54,.sig qy)] [] Tryz.f221 q5s k (x0,())=q2g k x0:=by kernel_rfl
theorem qt1 (k:Nat) (x0:U7) (x1:Int):q03 q05 false [] [⟨5,[],[⟨.slot 5,⟨false,0⟩,(.int .i64)⟩]⟩] Tryz.f222 qcc k (x0,x1,())=q7c k x0 x1:=by kernel_rfl
theorem qvy (k:Nat) (x0:U7) (x1:Int):q03 q05 false [(218,.sig q3f)] [⟨5,[],[⟨.slot 5,⟨false,0⟩,(.int .i64)⟩]⟩] Tryz.f223 qel k (x0,x1,())=q4n k x0 x1:=by kernel_rfl
theorem qzr (k:Nat) (x0:U9) (x1:Int):q03 q05 false [] [⟨5,[],[⟨.slot 5,⟨false,0⟩,(.int .i64)⟩]⟩,⟨11,[],[⟨.slot 6,⟨false,0⟩,(.int .i64)⟩]⟩] Tryz.f224 q7e k (x0,x1,())=q0x k x0 x1:=by kernel_rfl
theorem qt7 (k:Nat) (x0:U7) (x1:Int):q03 q05 false [(54,.sig qy),(218,.sig q3f),(220,.sig qfu),(221,.sig q5s),(222,.sig qcc),(223,.sig qel),(224,.sig q7e)] [⟨28,[],[]⟩,⟨34,[],[]⟩,⟨38,[],[]⟩,⟨11,[],[⟨.slot 6,⟨false,0⟩,(.int .i64)⟩]⟩] Tryz.f116 qcf k (x0,x1,())=q7d k x0 x1:=by kernel_rfl
theorem q051 (k:Nat) (x0:U7):q03 q05 false [(54,.sig qy),(109,.sig q5t),(110,.sig q5w),(111,.sig q5z),(112,.sig q8r),(113,.sig q7f),(114,.sig q2p),(115,.sig qa4),(116,.sig qcf)] [⟨29,[],[⟨.slot 5,⟨false,0⟩,(.int .i64)⟩]⟩,⟨39,[],[⟨.slot 6,⟨false,0⟩,(.int .i64)⟩]⟩,⟨49,[],[⟨.slot 7,⟨false,0⟩,(.int .i64)⟩]⟩,⟨55,[],[⟨.slot 8,⟨false,0⟩,(.int .i64)⟩]⟩,⟨65,[],[⟨.slot 9,⟨false,0⟩,(.int .i64)⟩]⟩,⟨71,[],[⟨.slot 10,⟨false,0⟩,(.int .i64)⟩]⟩,⟨9,[],[⟨.slot 3,⟨false,0⟩,(.int .i64)⟩]⟩,⟨19,[],[⟨.slot 4,⟨false,0⟩,(.int .i64)⟩]⟩] Tryz.f31 qcl k (x0,())=q6v k x0:=by kernel_rfl
theorem qw8 (k:Nat) (x0:Ua):q03 q05 false [] [] Tryz.f151 q5r k (x0,())=q4o k x0:=by kernel_rfl
theorem qzs (k:Nat) (x0:U9):q03 q05 false [] [⟨7,[],[⟨.slot 3,⟨false,2⟩,(.slice K173)⟩,⟨.slot 4,⟨false,0⟩,(.int .i64)⟩]⟩] Tryz.f152 q56 k (x0,())=q0y k x0:=by kernel_rfl
theorem qzy (k:Nat) (x0:U8):q03 q05 false [] [⟨25,[],[⟨.slot 6,⟨false,2⟩,(.slice K204)⟩,⟨.slot 7,⟨false,0⟩,(.int .i64)⟩]⟩,⟨9,[],[⟨.slot 3,⟨false,2⟩,(.slice K64)⟩,⟨.slot 4,⟨false,0⟩,(.int .i64)⟩]⟩] Tryz.f153 q3t k (x0,())=q1e k x0:=by kernel_rfl
end Go.Proofs.YtpmjopbgccajgaaGreat.Eng
