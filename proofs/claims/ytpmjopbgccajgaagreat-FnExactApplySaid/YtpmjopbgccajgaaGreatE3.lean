/- The pure functions are what the evaluator computes of the program's code. By a program of this session. No condition. -/
import Derived.Test.YtpmjopbgccajgaaGreatD1
import Derived.Test.YtpmjopbgccajgaaGreatProg
import Derived.KernelRfl
namespace Go.Proofs.YtpmjopbgccajgaaGreat.Eng
set_option maxRecDepth 100000
open Go.Proofs
set_option linter.unusedVariables false
theorem qyb (k:Nat) (x0:List U4):q03 q05 false [(181,.sig q3k)] [⟨7,[],[⟨.slot 3,⟨false,2⟩,(.slice K2)⟩,⟨.slot 8,⟨false,0⟩,(.int .i64)⟩]⟩] Tryz.f171 qfl k (x0,())=q9a k x0:=by kernel_rfl
theorem qye (k:Nat) (x0:U5) (x1:List U4):q03 q05 false [(69,.sig q9y),(171,.sig qfl),(172,.inl Tryz.f172 [⟨5,[],[⟨.slot 8,⟨false,0⟩,(.int .i64)⟩]⟩,⟨12,[],[]⟩]),(173,.inl Tryz.f173 [])] [⟨22,[],[⟨.slot 5,⟨false,2⟩,(.slice K64)⟩,⟨.slot 8,⟨false,0⟩,(.int .i64)⟩]⟩,⟨26,[],[⟨.slot 5,⟨false,2⟩,(.slice K64)⟩]⟩,⟨11,[],[⟨.slot 5,⟨false,2⟩,(.slice K64)⟩,⟨.slot 19,⟨false,0⟩,(.int .i64)⟩]⟩] Tryz.f66 qfn k (x0,x1,())=q9c k x0 x1:=by kernel_rfl
theorem q07x (k:Nat) (x0:U5) (x1:List U4):q03 q05 false [(61,.sig q4p),(62,.sig q1s),(66,.sig qfn)] [] Tryz.f22 qk9 k (x0,x1,())=q9x k x0 x1:=by kernel_rfl
theorem q0em (k:Nat) (x0:List U2):q03 q05 false [(73,.sig q2s)] [] Tryz.f246 qnd k (x0,())=qfm k x0:=by kernel_rfl
theorem q07n (k:Nat) (x0:U7) (x1:Int):q03 q05 false [(21,.sig qkd),(22,.sig qk9),(56,.sig q6b),(246,.sig qnd)] [⟨21,[],[⟨.root 9,⟨false,2⟩,(.slice K61)⟩,⟨.slot 6,⟨false,2⟩,(.slice K46)⟩,⟨.slot 7,⟨false,2⟩,(.slice K2)⟩,⟨.slot 63,⟨false,0⟩,(.int .i64)⟩]⟩,⟨38,[],[⟨.slot 6,⟨false,2⟩,(.slice K46)⟩,⟨.slot 7,⟨false,2⟩,(.slice K2)⟩,⟨.root 9,⟨false,2⟩,(.slice K61)⟩]⟩] Tryz.f146 qk3 k (x0,x1,())=q9u k x0 x1:=by kernel_rfl
theorem q08d (k:Nat) (x0:Ub) (x1:U4) (x2:Int):q03 q05 false [(67,.sig q3i),(68,.sig q6i),(188,.sig q6h)] [⟨7,[],[⟨.cell 1 0,⟨false,0⟩,(.int .i64)⟩,⟨.cell 1 1,⟨false,0⟩,(.int .i64)⟩]⟩,⟨12,[],[⟨.cell 1 0,⟨false,0⟩,(.int .i64)⟩,⟨.cell 1 1,⟨false,0⟩,(.int .i64)⟩]⟩] Tryz.f300 qkg k (x0,x1,x2,())=qa0 k x0 x1 x2:=by kernel_rfl
theorem q08f (k:Nat) (x0:Ub) (x1:U4) (x2:Int) (x3:Int):q03 q05 false [(67,.sig q3i),(68,.sig q6i),(188,.sig q6h),(300,.sig qkg)] [⟨12,[],[]⟩,⟨18,[],[⟨.cell 3 0,⟨false,0⟩,(.int .i64)⟩,⟨.cell 3 1,⟨false,0⟩,(.int .i64)⟩,⟨.cell 3 2,⟨false,0⟩,(.int .i64)⟩]⟩] Tryz.f247 qkh k (x0,x1,x2,x3,())=q76 k x0 x1 x2 x3:=by kernel_rfl
theorem q07p (k:Nat) (x0:U7) (x1:Int) (x2:Int):q03 q05 false [(247,.sig qkh)] [⟨20,[],[⟨.root 9,⟨false,2⟩,(.slice K61)⟩]⟩,⟨10,[],[⟨.slot 8,⟨true,0⟩,K46⟩,⟨.slot 9,⟨false,0⟩,.bool⟩]⟩] Tryz.f147 qk4 k (x0,x1,x2,())=q9v k x0 x1 x2:=by kernel_rfl
theorem q03c (k:Nat) (x0:U8) (x1:Int) (x2:List U6):q03 q05 false [(71,.sig q9b),(78,.sig q0j),(137,.sig q6d),(294,.sig qdx)] [⟨14,[6],[⟨.cell 5 3,⟨false,2⟩,(.slice K204)⟩]⟩] Tryz.f301 qhu k (x0,x1,x2,())=q4c k x0 x1 x2:=by kernel_rfl
theorem q07u (k:Nat) (x0:U8) (x1:Int):q03 q05 false [(71,.sig q9b),(293,.sig qdy)] [] Tryz.f347 qk6 k (x0,x1,())=qe4 k x0 x1:=by kernel_rfl
theorem q089 (k:Nat) (x0:U8) (x1:Int) (x2:Int):q03 q05 false [(137,.sig q6d),(179,.sig qe3),(295,.sig q0u),(347,.sig qk6)] [] Tryz.f302 qke k (x0,x1,x2,())=q9z k x0 x1 x2:=by kernel_rfl
theorem q0eg (k:Nat) (x0:U7) (x1:Int):q03 q05 false [(301,.sig qhu),(302,.sig qke)] [⟨6,[],[⟨.slot 6,⟨true,2⟩,K34⟩,⟨.slot 7,⟨false,0⟩,.bool⟩]⟩] Tryz.f248 qii k (x0,x1,())=q71 k x0 x1:=by kernel_rfl
theorem qul (k:Nat) (x0:List U5):q03 q05 false [] [⟨7,[],[⟨.slot 3,⟨false,0⟩,(.int .i64)⟩,⟨.slot 8,⟨false,0⟩,(.int .i64)⟩]⟩] Tryz.f351 qdz k (x0,())=q20 k x0:=by kernel_rfl
theorem q02y (k:Nat) (x0:U9) (x1:Int) (x2:Int):q03 q05 false [(351,.sig qdz)] [⟨30,[],[⟨.slot 7,⟨false,0⟩,(.int .i64)⟩,⟨.slot 8,⟨false,0⟩,(.int .i64)⟩,⟨.slot 9,⟨false,0⟩,(.int .i64)⟩]⟩,⟨7,[],[⟨.slot 7,⟨false,0⟩,(.int .i64)⟩,⟨.slot 8,⟨false,0⟩,(.int .i64)⟩,⟨.slot 9,⟨false,0⟩,(.int .i64)⟩,⟨.slot 16,⟨false,0⟩,(.int .i64)⟩]⟩] Tryz.f306 qbc k (x0,x1,x2,())=q39 k x0 x1 x2:=by kernel_rfl
theorem q03j (k:Nat) (x0:U9) (x1:Int) (x2:Int):q03 q05 false [(67,.sig q3i),(72,.sig q7v),(306,.sig qbc)] [] Tryz.f303 qhy k (x0,x1,x2,())=q8e k x0 x1 x2:=by kernel_rfl
theorem q07z (k:Nat) (x0:U9) (x1:Int) (x2:Int):q03 q05 false [(81,.sig q99),(138,.sig q5h),(295,.sig q0u),(303,.sig qhy)] [] Tryz.f249 qka k (x0,x1,x2,())=q73 k x0 x1 x2:=by kernel_rfl
theorem q0ef (k:Nat) (x0:U7) (x1:Int):q03 q05 false [(248,.sig qii),(249,.sig qka)] [⟨16,[],[⟨.slot 7,⟨true,2⟩,K37⟩,⟨.slot 9,⟨false,0⟩,.bool⟩]⟩] Tryz.f148 qna k (x0,x1,())=qfg k x0 x1:=by kernel_rfl
theorem q07d (k:Nat) (x0:U9) (x1:Int):q03 q05 false [(182,.inl Tryz.f182 []),(273,.inl Tryz.f273 [⟨5,[],[⟨.slot 8,⟨false,0⟩,(.int .i64)⟩]⟩]),(348,.inl Tryz.f348 [⟨5,[],[⟨.slot 8,⟨false,0⟩,(.int .i64)⟩]⟩,⟨12,[],[]⟩]),(349,.inl Tryz.f349 []),(350,.inl Tryz.f350 [])] [] Tryz.f304 qjz k (x0,x1,())=q5g k x0 x1:=by kernel_rfl
theorem qur (k:Nat) (x0:U9) (x1:Int):q03 q05 false [] [] Tryz.f305 qe5 k (x0,x1,())=q3w k x0 x1:=by kernel_rfl
theorem q039 (k:Nat) (x0:U9) (x1:Int):q03 q05 false [(72,.sig q7v),(138,.sig q5h),(304,.sig qjz),(305,.sig qe5),(306,.sig qbc)] [⟨13,[],[⟨.cell 3 0,⟨false,0⟩,(.int .i64)⟩,⟨.cell 3 1,⟨false,2⟩,(.slice K173)⟩,⟨.slot 9,⟨false,2⟩,(.slice K46)⟩]⟩] Tryz.f250 qbd k (x0,x1,())=q1v k x0 x1:=by kernel_rfl
theorem q0bt (k:Nat) (x0:U7) (x1:Int):q03 q05 false [(248,.sig qii),(250,.sig qbd)] [] Tryz.f149 qm0 k (x0,x1,())=qc0 k x0 x1:=by kernel_rfl
theorem q036 (k:Nat) (x0:U7) (x1:Int):q03 q05 false [(295,.sig q0u),(307,.inl Tryz.f307 [⟨5,[],[⟨.slot 8,⟨false,0⟩,(.int .i64)⟩]⟩]),(308,.inl Tryz.f308 [])] [] Tryz.f252 qhs k (x0,x1,())=q5l k x0 x1:=by kernel_rfl
end Go.Proofs.YtpmjopbgccajgaaGreat.Eng
