/- The pure functions are what the evaluator computes of the program's code. By a program of this session. No condition. -/
import Derived.Test.YtpmjopbgccajgaaGreatD1
import Derived.Test.YtpmjopbgccajgaaGreatProg
import Derived.KernelRfl
namespace Go.Proofs.YtpmjopbgccajgaaGreat.Eng
set_option maxRecDepth 100000
open Go.Proofs
set_option linter.unusedVariables false
theorem q01w (k:Nat) (x0:List U5) (x1:Int):q03 q05 false [] [] Tryz.f280 qhb k (x0,x1,())=qg1 k x0 x1:=by kernel_rfl
theorem qwy (k:Nat) (x0:List (List U5×Unit)) (x1:Int):q03 q05 false [(280,.sig qhb)] [⟨11,[],[⟨.slot 1,⟨false,0⟩,(.int .i64)⟩,⟨.slot 5,⟨false,0⟩,(.int .i64)⟩]⟩] Tryz.f199 qf0 k (x0,x1,())=q8z k x0 x1:=by kernel_rfl
theorem q01q (k:Nat) (x0:U9) (x1:Int):q03 q05 false [(199,.sig qf0)] [] Tryz.f85 qh9 k (x0,x1,())=qfz k x0 x1:=by kernel_rfl
theorem q01t (k:Nat) (x0:List U2) (x1:Int):q03 q05 false [] [] Tryz.f86 qha k (x0,x1,())=qg0 k x0 x1:=by kernel_rfl
theorem qto (k:Nat) (x0:List Ud) (x1:Int):q03 q05 false [] [] Tryz.f87 qd7 k (x0,x1,())=qb7 k x0 x1:=by kernel_rfl
theorem q023 (k:Nat) (x0:List U1) (x1:Int):q03 q05 false [] [] Tryz.f88 qhe k (x0,x1,())=qg5 k x0 x1:=by kernel_rfl
theorem q06e (k:Nat) (x0:U7) (x1:Int):q03 q05 false [(82,.sig qez),(83,.sig qjp),(84,.sig qjn),(85,.sig qh9),(86,.sig qha),(87,.sig qd7),(88,.sig qhe)] [] Tryz.f24 qjo k (x0,x1,())=q9o k x0 x1:=by kernel_rfl
theorem q05u (k:Nat) (x0:List U6):q03 q05 false [] [⟨7,[],[⟨.root 0,⟨false,2⟩,(.slice K2)⟩,⟨.slot 4,⟨false,0⟩,(.int .i64)⟩]⟩] Tryz.f200 q62 k (x0,())=q5a k x0:=by kernel_rfl
theorem qwk (k:Nat) (x0:Ub):q03 q05 false [(200,.sig q62)] [] Tryz.f89 qeu k (x0,())=q8w k x0:=by kernel_rfl
theorem qwm (k:Nat) (x0:U5):q03 q05 false [] [] Tryz.f90 qev k (x0,())=qd1 k x0:=by kernel_rfl
theorem q05t (k:Nat) (x0:U4):q03 q05 false [] [] Tryz.f281 qji k (x0,())=qia k x0:=by kernel_rfl
theorem q01g (k:Nat) (x0:List U4):q03 q05 false [(281,.sig qji)] [⟨7,[],[⟨.root 0,⟨false,2⟩,(.slice K46)⟩,⟨.slot 4,⟨false,0⟩,(.int .i64)⟩]⟩] Tryz.f201 qh5 k (x0,())=qao k x0:=by kernel_rfl
theorem q062 (k:Nat) (x0:Ua):q03 q05 false [(201,.sig qh5)] [] Tryz.f91 qjl k (x0,())=qd5 k x0:=by kernel_rfl
theorem q01k (k:Nat) (x0:(Int×Int×Ub)):q03 q05 false [(200,.sig q62)] [] Tryz.f282 qh6 k (x0,())=qap k x0:=by kernel_rfl
theorem qwu (k:Nat) (x0:List (Int×Int×Ub)):q03 q05 false [(282,.sig qh6)] [⟨7,[],[⟨.root 0,⟨false,2⟩,(.slice K64)⟩,⟨.slot 4,⟨false,0⟩,(.int .i64)⟩]⟩] Tryz.f202 qey k (x0,())=q8y k x0:=by kernel_rfl
theorem q05i (k:Nat) (x0:(Int×Ub)):q03 q05 false [(200,.sig q62)] [] Tryz.f283 qje k (x0,())=qcx k x0:=by kernel_rfl
theorem q015 (k:Nat) (x0:List (Int×Ub)):q03 q05 false [(283,.sig qje)] [⟨7,[],[⟨.root 0,⟨false,2⟩,(.slice K204)⟩,⟨.slot 4,⟨false,0⟩,(.int .i64)⟩]⟩] Tryz.f203 qh1 k (x0,())=qak k x0:=by kernel_rfl
theorem q05n (k:Nat) (x0:U8):q03 q05 false [(200,.sig q62),(202,.sig qey),(203,.sig qh1)] [] Tryz.f92 qjg k (x0,())=qd0 k x0:=by kernel_rfl
theorem q05q (k:Nat) (x0:U5):q03 q05 false [] [] Tryz.f335 qjh k (x0,())=qi9 k x0:=by kernel_rfl
theorem q01e (k:Nat) (x0:List U5):q03 q05 false [(335,.sig qjh)] [⟨7,[],[⟨.root 0,⟨false,2⟩,(.slice K27)⟩,⟨.slot 4,⟨false,0⟩,(.int .i64)⟩]⟩] Tryz.f284 qh4 k (x0,())=qan k x0:=by kernel_rfl
theorem qwo (k:Nat) (x0:List (List U5×Unit)):q03 q05 false [(284,.sig qh4)] [⟨7,[],[⟨.root 0,⟨false,2⟩,(.slice K173)⟩,⟨.slot 4,⟨false,0⟩,(.int .i64)⟩]⟩] Tryz.f204 qew k (x0,())=q8x k x0:=by kernel_rfl
theorem q017 (k:Nat) (x0:U9):q03 q05 false [(204,.sig qew)] [] Tryz.f93 qh2 k (x0,())=qal k x0:=by kernel_rfl
theorem q05l (k:Nat) (x0:U2):q03 q05 false [] [] Tryz.f118 qcy k (x0,())=qcz k x0:=by kernel_rfl
theorem q01a (k:Nat) (x0:List U2):q03 q05 false [(118,.sig qcy)] [⟨7,[],[⟨.root 0,⟨false,2⟩,(.slice K48)⟩,⟨.slot 4,⟨false,0⟩,(.int .i64)⟩]⟩] Tryz.f94 qh3 k (x0,())=qam k x0:=by kernel_rfl
theorem qwr (k:Nat) (x0:Ud):q03 q05 false [] [] Tryz.f205 qex k (x0,())=qd3 k x0:=by kernel_rfl
theorem qtk (k:Nat) (x0:List Ud):q03 q05 false [(205,.sig qex)] [⟨7,[],[⟨.root 0,⟨false,2⟩,(.slice K66)⟩,⟨.slot 4,⟨false,0⟩,(.int .i64)⟩]⟩] Tryz.f95 qd2 k (x0,())=q7j k x0:=by kernel_rfl
theorem q0ay (k:Nat) (x0:U4):q03 q05 false [] [] Tryz.f117 qfx k (x0,())=ql8 k x0:=by kernel_rfl
theorem qwi (k:Nat) (x0:U4):q03 q05 false [] [] Tryz.f285 qet k (x0,())=qjf k x0:=by kernel_rfl
theorem q060 (k:Nat) (x0:U1):q03 q05 false [(117,.sig qfx),(285,.sig qet)] [] Tryz.f206 qjk k (x0,())=qic k x0:=by kernel_rfl
theorem q01m (k:Nat) (x0:List U1):q03 q05 false [(206,.sig qjk)] [⟨7,[],[⟨.root 0,⟨false,2⟩,(.slice K61)⟩,⟨.slot 4,⟨false,0⟩,(.int .i64)⟩]⟩] Tryz.f96 qh7 k (x0,())=qaq k x0:=by kernel_rfl
theorem q05w (k:Nat) (x0:U7):q03 q05 false [(89,.sig qeu),(90,.sig qev),(91,.sig qjl),(92,.sig qjg),(93,.sig qh2),(94,.sig qh3),(95,.sig qd2),(96,.sig qh7)] [] Tryz.f25 qjj k (x0,())=q37 k x0:=by kernel_rfl
theorem q06y (k:Nat) (x0:List U6) (x1:List U6):q03 q05 false [] [⟨9,[],[⟨.slot 5,⟨false,0⟩,(.int .i64)⟩]⟩] Tryz.f207 q6a k (x0,x1,())=q5d k x0 x1:=by kernel_rfl
theorem qxo (k:Nat) (x0:Ub) (x1:Ub):q03 q05 false [(207,.sig q6a)] [] Tryz.f97 qf9 k (x0,x1,())=q92 k x0 x1:=by kernel_rfl
theorem qxq (k:Nat) (x0:U5) (x1:U5):q03 q05 false [] [] Tryz.f98 qfa k (x0,x1,())=q93 k x0 x1:=by kernel_rfl
theorem q06x (k:Nat) (x0:U4) (x1:U4):q03 q05 false [] [] Tryz.f286 qju k (x0,x1,())=qdt k x0 x1:=by kernel_rfl
theorem q02h (k:Nat) (x0:List U4) (x1:List U4):q03 q05 false [(286,.sig qju)] [⟨9,[],[⟨.slot 5,⟨false,0⟩,(.int .i64)⟩]⟩] Tryz.f208 qhj k (x0,x1,())=qaw k x0 x1:=by kernel_rfl
theorem q076 (k:Nat) (x0:Ua) (x1:Ua):q03 q05 false [(208,.sig qhj)] [] Tryz.f99 qjx k (x0,x1,())=qdw k x0 x1:=by kernel_rfl
theorem q02l (k:Nat) (x0:(Int×Int×Ub)) (x1:(Int×Int×Ub)):q03 q05 false [(207,.sig q6a)] [] Tryz.f287 qhk k (x0,x1,())=qax k x0 x1:=by kernel_rfl
theorem qxx (k:Nat) (x0:List (Int×Int×Ub)) (x1:List (Int×Int×Ub)):q03 q05 false [(287,.sig qhk)] [⟨9,[],[⟨.slot 5,⟨false,0⟩,(.int .i64)⟩]⟩] Tryz.f209 qfd k (x0,x1,())=q96 k x0 x1:=by kernel_rfl
theorem q06l (k:Nat) (x0:(Int×Ub)) (x1:(Int×Ub)):q03 q05 false [(207,.sig q6a)] [] Tryz.f288 qjq k (x0,x1,())=qdp k x0 x1:=by kernel_rfl
theorem q025 (k:Nat) (x0:List (Int×Ub)) (x1:List (Int×Ub)):q03 q05 false [(288,.sig qjq)] [⟨9,[],[⟨.slot 5,⟨false,0⟩,(.int .i64)⟩]⟩] Tryz.f210 qhf k (x0,x1,())=qas k x0 x1:=by kernel_rfl
end Go.Proofs.YtpmjopbgccajgaaGreat.Eng
