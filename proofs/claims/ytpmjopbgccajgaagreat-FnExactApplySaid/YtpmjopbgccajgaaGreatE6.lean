/- The pure functions are what the evaluator computes of the program's code. By a program of this session. No condition. -/
import Derived.Test.YtpmjopbgccajgaaGreatD1
import Derived.Test.YtpmjopbgccajgaaGreatProg
import Derived.KernelRfl
namespace Go.Proofs.YtpmjopbgccajgaaGreat.Eng
set_option maxRecDepth 100000
open Go.Proofs
set_option linter.unusedVariables false
theorem qt5 (k:Nat) (x0:U7) (x1:Int) (x2:Int):q03 q05 false [(46,.sig q1d),(263,.sig qj5)] [⟨20,[],[⟨.root 11,⟨false,2⟩,(.slice K61)⟩]⟩,⟨8,[],[⟨.slot 8,⟨true,0⟩,K46⟩,⟨.slot 9,⟨false,0⟩,.bool⟩]⟩] Tryz.f158 qce k (x0,x1,x2,())=q55 k x0 x1 x2:=by kernel_rfl
theorem q004 (k:Nat) (x0:U8) (x1:Int) (x2:List U6):q03 tabR true [(112,.sig q8r),(153,.sig q3t)] [⟨30,[],[⟨.cell 8 3,⟨false,1⟩,(.slice K204)⟩]⟩,⟨17,[],[⟨.cell 10 1,⟨false,0⟩,(.slice K2)⟩,⟨.root 7,⟨false,1⟩,(.slice K204)⟩,⟨.slot 10,⟨false,0⟩,.bool⟩,⟨.slot 11,⟨false,0⟩,(.int .i64)⟩]⟩,⟨18,[],[⟨.slot 10,⟨false,0⟩,.bool⟩,⟨.root 7,⟨false,1⟩,(.slice K204)⟩,⟨.cell 10 1,⟨false,0⟩,(.slice K2)⟩]⟩] Tryz.f318 qgr k (x0,x1,x2,())=q4a k x0 x1 x2:=by kernel_rfl
theorem q04l (k:Nat) (x0:U8) (x1:Int):q03 q05 false [(54,.sig qy),(112,.sig q8r),(309,.sig qb3)] [] Tryz.f354 qiv k (x0,x1,())=qch k x0 x1:=by kernel_rfl
theorem q0a0 (k:Nat) (x0:U8) (x1:Int):q03 q05 false [(218,.sig q3f)] [⟨9,[],[⟨.slot 5,⟨false,0⟩,(.int .i64)⟩]⟩] Tryz.f355 qlj k (x0,x1,())=qgc k x0 x1:=by kernel_rfl
theorem q050 (k:Nat) (x0:U8) (x1:Int) (x2:Int):q03 q05 false [(153,.sig q3t),(354,.sig qiv),(355,.sig qlj)] [] Tryz.f319 qj3 k (x0,x1,x2,())=q9j k x0 x1 x2:=by kernel_rfl
theorem qzg (k:Nat) (x0:U7) (x1:Int):q03 q05 false [(46,.sig q1d),(318,.sig qgr),(319,.sig qj3)] [⟨4,[],[⟨.slot 6,⟨true,1⟩,K34⟩,⟨.slot 7,⟨false,0⟩,.bool⟩]⟩] Tryz.f264 qb1 k (x0,x1,())=q7z k x0 x1:=by kernel_rfl
theorem qw5 (k:Nat) (x0:List U5):q03 q05 false [] [⟨7,[],[⟨.slot 3,⟨false,0⟩,(.int .i64)⟩,⟨.slot 4,⟨false,0⟩,(.int .i64)⟩]⟩] Tryz.f356 qeo k (x0,())=q1q k x0:=by kernel_rfl
theorem q008 (k:Nat) (x0:U9) (x1:Int) (x2:Int):q03 q05 false [(54,.sig qy),(113,.sig q7f),(356,.sig qeo)] [⟨32,[],[⟨.slot 7,⟨false,0⟩,(.int .i64)⟩]⟩,⟨15,[],[⟨.slot 7,⟨false,0⟩,(.int .i64)⟩,⟨.slot 8,⟨false,0⟩,(.int .i64)⟩,⟨.slot 9,⟨false,0⟩,(.int .i64)⟩,⟨.slot 10,⟨false,0⟩,(.int .i64)⟩]⟩,⟨16,[],[⟨.slot 7,⟨false,0⟩,(.int .i64)⟩,⟨.slot 8,⟨false,0⟩,(.int .i64)⟩,⟨.slot 9,⟨false,0⟩,(.int .i64)⟩]⟩] Tryz.f320 qb5 k (x0,x1,x2,())=q35 k x0 x1 x2:=by kernel_rfl
theorem q04r (k:Nat) (x0:U9) (x1:Int) (x2:Int):q03 q05 false [(152,.sig q56),(224,.sig q7e),(320,.sig qb5)] [] Tryz.f265 qiz k (x0,x1,x2,())=q9h k x0 x1 x2:=by kernel_rfl
theorem qzf (k:Nat) (x0:U7) (x1:Int):q03 q05 false [(46,.sig q1d),(264,.sig qb1),(265,.sig qiz)] [] Tryz.f159 qgl k (x0,x1,())=q7y k x0 x1:=by kernel_rfl
theorem q04g (k:Nat) (x0:U9) (x1:Int) (x2:Int):q03 q05 false [(152,.sig q56)] [] Tryz.f321 qis k (x0,x1,x2,())=q9f k x0 x1 x2:=by kernel_rfl
theorem q001 (k:Nat) (x0:U9) (x1:Int):q03 q05 false [(113,.sig q7f),(152,.sig q56),(224,.sig q7e),(320,.sig qb5),(321,.sig qis)] [⟨15,[],[⟨.cell 5 0,⟨false,0⟩,(.int .i64)⟩,⟨.cell 5 1,⟨false,2⟩,(.slice K173)⟩,⟨.slot 7,⟨false,2⟩,(.slice K46)⟩]⟩] Tryz.f266 qb4 k (x0,x1,())=q33 k x0 x1:=by kernel_rfl
theorem qvu (k:Nat) (x0:U7) (x1:Int):q03 q05 false [(264,.sig qb1),(266,.sig qb4)] [] Tryz.f160 qek k (x0,x1,())=q5o k x0 x1:=by kernel_rfl
theorem qsz (k:Nat) (x0:U7) (x1:Int):q03 q05 false [(46,.sig q1d),(54,.sig qy),(260,.sig qb2),(266,.sig qb4)] [⟨22,[],[⟨.cell 3 0,⟨false,0⟩,(.int .i64)⟩,⟨.cell 3 1,⟨false,0⟩,(.slice K173)⟩]⟩,⟨10,[],[]⟩] Tryz.f161 qcb k (x0,x1,())=q53 k x0 x1:=by kernel_rfl
theorem q09v (k:Nat) (x0:U7) (x1:U0):q03 q05 false [(54,.sig qy),(154,.sig qgk),(155,.sig qem),(156,.sig qgw),(157,.sig qcd),(158,.sig qce),(159,.sig qgl),(160,.sig qek),(161,.sig qcb)] [⟨13,[],[⟨.cell 0 0,⟨false,0⟩,(.int .i64)⟩,⟨.cell 0 1,⟨false,0⟩,(.slice K2)⟩,⟨.cell 0 2,⟨false,0⟩,(.int .i64)⟩,⟨.cell 0 3,⟨false,0⟩,(.int .i64)⟩,⟨.cell 0 4,⟨false,0⟩,(.int .i64)⟩,⟨.cell 0 5,⟨false,0⟩,(.int .i64)⟩,⟨.cell 0 6,⟨false,0⟩,.bool⟩,⟨.cell 0 7,⟨false,0⟩,(.slice K46)⟩,⟨.cell 0 8,⟨false,0⟩,(.slice K2)⟩,⟨.cell 0 9,⟨false,0⟩,(.int .i64)⟩,⟨.cell 0 10,⟨false,0⟩,(.slice K64)⟩,⟨.cell 0 11,⟨false,0⟩,(.slice K204)⟩,⟨.cell 0 12,⟨false,0⟩,(.int .i64)⟩,⟨.cell 0 13,⟨false,0⟩,(.slice K173)⟩,⟨.cell 0 14,⟨false,0⟩,(.slice K48)⟩,⟨.cell 0 15,⟨false,0⟩,(.slice K66)⟩,⟨.cell 0 16,⟨false,0⟩,(.slice K61)⟩,⟨.slot 6,⟨false,0⟩,(.int .i64)⟩]⟩] Tryz.f47 qlg k (x0,x1,())=qbu k x0 x1:=by kernel_rfl
theorem q0ag (k:Nat) (x0:U7) (x1:U0):q03 q05 false [(31,.sig qcl),(46,.sig q1d),(47,.sig qlg)] [] Tryz.f12 qlo k (x0,x1,())=q6r k x0 x1:=by kernel_rfl
theorem q06c (k:Nat) (x0:List U6) (x1:Int):q03 q05 false [] [] Tryz.f195 q63 k (x0,x1,())=q6z k x0 x1:=by kernel_rfl
theorem qww (k:Nat) (x0:Ub) (x1:Int):q03 q05 false [(195,.sig q63)] [] Tryz.f82 qez k (x0,x1,())=qd6 k x0 x1:=by kernel_rfl
theorem q01y (k:Nat) (x0:List U4) (x1:Int):q03 q05 false [] [] Tryz.f196 qhc k (x0,x1,())=qg2 k x0 x1:=by kernel_rfl
theorem q06i (k:Nat) (x0:Ua) (x1:Int):q03 q05 false [(196,.sig qhc)] [] Tryz.f83 qjp k (x0,x1,())=qig k x0 x1:=by kernel_rfl
theorem q021 (k:Nat) (x0:(Int×Int×Ub)) (x1:Int):q03 q05 false [(195,.sig q63)] [] Tryz.f278 qhd k (x0,x1,())=qg4 k x0 x1:=by kernel_rfl
theorem qx1 (k:Nat) (x0:List (Int×Int×Ub)) (x1:Int):q03 q05 false [(278,.sig qhd)] [⟨11,[],[⟨.slot 1,⟨false,0⟩,(.int .i64)⟩,⟨.slot 5,⟨false,0⟩,(.int .i64)⟩]⟩] Tryz.f197 qf1 k (x0,x1,())=q90 k x0 x1:=by kernel_rfl
theorem q065 (k:Nat) (x0:(Int×Ub)) (x1:Int):q03 q05 false [(195,.sig q63)] [] Tryz.f279 qjm k (x0,x1,())=qid k x0 x1:=by kernel_rfl
theorem q01o (k:Nat) (x0:List (Int×Ub)) (x1:Int):q03 q05 false [(279,.sig qjm)] [⟨11,[],[⟨.slot 1,⟨false,0⟩,(.int .i64)⟩,⟨.slot 5,⟨false,0⟩,(.int .i64)⟩]⟩] Tryz.f198 qh8 k (x0,x1,())=qar k x0 x1:=by kernel_rfl
theorem q069 (k:Nat) (x0:U8) (x1:Int):q03 q05 false [(195,.sig q63),(197,.sig qf1),(198,.sig qh8)] [] Tryz.f84 qjn k (x0,x1,())=qie k x0 x1:=by kernel_rfl
end Go.Proofs.YtpmjopbgccajgaaGreat.Eng
