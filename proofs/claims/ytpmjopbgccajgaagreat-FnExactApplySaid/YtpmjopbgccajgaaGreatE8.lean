/- The pure functions are what the evaluator computes of the program's code. By a program of this session. No condition. -/
import Derived.Test.YtpmjopbgccajgaaGreatD1
import Derived.Test.YtpmjopbgccajgaaGreatProg
import Derived.KernelRfl
namespace Go.Proofs.YtpmjopbgccajgaaGreat.Eng
set_option maxRecDepth 100000
open Go.Proofs
set_option linter.unusedVariables false
theorem q06r (k:Nat) (x0:U8) (x1:U8):q03 q05 false [(207,.sig q6a),(209,.sig qfd),(210,.sig qhf)] [] Tryz.f100 qjs k (x0,x1,())=qdr k x0 x1:=by kernel_rfl
theorem q06u (k:Nat) (x0:U5) (x1:U5):q03 q05 false [] [] Tryz.f336 qjt k (x0,x1,())=qds k x0 x1:=by kernel_rfl
theorem q02f (k:Nat) (x0:List U5) (x1:List U5):q03 q05 false [(336,.sig qjt)] [⟨9,[],[⟨.slot 5,⟨false,0⟩,(.int .i64)⟩]⟩] Tryz.f289 qhi k (x0,x1,())=qav k x0 x1:=by kernel_rfl
theorem qxs (k:Nat) (x0:List (List U5×Unit)) (x1:List (List U5×Unit)):q03 q05 false [(289,.sig qhi)] [⟨9,[],[⟨.slot 5,⟨false,0⟩,(.int .i64)⟩]⟩] Tryz.f211 qfb k (x0,x1,())=q94 k x0 x1:=by kernel_rfl
theorem q027 (k:Nat) (x0:U9) (x1:U9):q03 q05 false [(211,.sig qfb)] [] Tryz.f101 qhg k (x0,x1,())=qat k x0 x1:=by kernel_rfl
theorem q06p (k:Nat) (x0:U2) (x1:U2):q03 q05 false [] [] Tryz.f212 qjr k (x0,x1,())=qdq k x0 x1:=by kernel_rfl
theorem q02b (k:Nat) (x0:List U2) (x1:List U2):q03 q05 false [(212,.sig qjr)] [⟨9,[],[⟨.slot 5,⟨false,0⟩,(.int .i64)⟩]⟩] Tryz.f102 qhh k (x0,x1,())=qau k x0 x1:=by kernel_rfl
theorem qxv (k:Nat) (x0:Ud) (x1:Ud):q03 q05 false [] [] Tryz.f213 qfc k (x0,x1,())=q95 k x0 x1:=by kernel_rfl
theorem qug (k:Nat) (x0:List Ud) (x1:List Ud):q03 q05 false [(213,.sig qfc)] [⟨9,[],[⟨.slot 5,⟨false,0⟩,(.int .i64)⟩]⟩] Tryz.f103 qdu k (x0,x1,())=q7u k x0 x1:=by kernel_rfl
theorem q0bc (k:Nat) (x0:U4) (x1:U4):q03 q05 false [] [] Tryz.f235 qlz k (x0,x1,())=qgg k x0 x1:=by kernel_rfl
theorem qxm (k:Nat) (x0:U4) (x1:U4):q03 q05 false [] [] Tryz.f290 qf8 k (x0,x1,())=q91 k x0 x1:=by kernel_rfl
theorem q074 (k:Nat) (x0:U1) (x1:U1):q03 q05 false [(235,.sig qlz),(290,.sig qf8)] [] Tryz.f214 qjw k (x0,x1,())=qdv k x0 x1:=by kernel_rfl
theorem q02n (k:Nat) (x0:List U1) (x1:List U1):q03 q05 false [(214,.sig qjw)] [⟨9,[],[⟨.slot 5,⟨false,0⟩,(.int .i64)⟩]⟩] Tryz.f104 qhl k (x0,x1,())=qay k x0 x1:=by kernel_rfl
theorem q070 (k:Nat) (x0:U7) (x1:U7):q03 q05 false [(97,.sig qf9),(98,.sig qfa),(99,.sig qjx),(100,.sig qjs),(101,.sig qhg),(102,.sig qhh),(103,.sig qdu),(104,.sig qhl)] [] Tryz.f26 qjv k (x0,x1,())=q5e k x0 x1:=by kernel_rfl
theorem qtm (k:Nat) (x0:U0):q03 q05 false [(117,.sig qfx),(118,.sig qcy)] [] Tryz.f32 qd4 k (x0,())=q14 k x0:=by kernel_rfl
theorem qx8 (k:Nat) (x0:List U6) (x1:Int):q03 q05 false [] [⟨5,[],[⟨.root 0,⟨false,2⟩,(.slice K2)⟩,⟨.slot 1,⟨false,0⟩,(.int .i64)⟩,⟨.slot 5,⟨false,0⟩,(.int .i64)⟩]⟩] Tryz.f225 q4g k (x0,x1,())=q3g k x0 x1:=by kernel_rfl
theorem qri (k:Nat) (x0:Ub) (x1:Int):q03 q05 false [(225,.sig q4g)] [] Tryz.f119 qbh k (x0,x1,())=q9p k x0 x1:=by kernel_rfl
theorem qtz (k:Nat) (x0:List U4) (x1:Int):q03 q05 false [] [⟨5,[],[⟨.root 0,⟨false,2⟩,(.slice K46)⟩,⟨.slot 1,⟨false,0⟩,(.int .i64)⟩,⟨.slot 5,⟨false,0⟩,(.int .i64)⟩]⟩] Tryz.f226 qdd k (x0,x1,())=q7n k x0 x1:=by kernel_rfl
theorem qxd (k:Nat) (x0:Ua) (x1:Int):q03 q05 false [(226,.sig qdd)] [] Tryz.f120 qf4 k (x0,x1,())=qdg k x0 x1:=by kernel_rfl
theorem qrn (k:Nat) (x0:List (Int×Int×Ub)) (x1:Int):q03 q05 false [(225,.sig q4g)] [⟨5,[],[⟨.root 0,⟨false,2⟩,(.slice K64)⟩,⟨.slot 1,⟨false,0⟩,(.int .i64)⟩,⟨.slot 5,⟨false,0⟩,(.int .i64)⟩]⟩] Tryz.f227 qbj k (x0,x1,())=q66 k x0 x1:=by kernel_rfl
theorem qtq (k:Nat) (x0:List (Int×Ub)) (x1:Int):q03 q05 false [(225,.sig q4g)] [⟨5,[],[⟨.root 0,⟨false,2⟩,(.slice K204)⟩,⟨.slot 1,⟨false,0⟩,(.int .i64)⟩,⟨.slot 5,⟨false,0⟩,(.int .i64)⟩]⟩] Tryz.f228 qd8 k (x0,x1,())=q7k k x0 x1:=by kernel_rfl
theorem qx5 (k:Nat) (x0:U8) (x1:Int):q03 q05 false [(225,.sig q4g),(227,.sig qbj),(228,.sig qd8)] [] Tryz.f121 qf2 k (x0,x1,())=qdb k x0 x1:=by kernel_rfl
theorem qtx (k:Nat) (x0:List U5) (x1:Int):q03 q05 false [] [⟨5,[],[⟨.root 0,⟨false,2⟩,(.slice K27)⟩,⟨.slot 1,⟨false,0⟩,(.int .i64)⟩,⟨.slot 5,⟨false,0⟩,(.int .i64)⟩]⟩] Tryz.f291 qdc k (x0,x1,())=q7m k x0 x1:=by kernel_rfl
theorem qrk (k:Nat) (x0:List (List U5×Unit)) (x1:Int):q03 q05 false [(291,.sig qdc)] [⟨5,[],[⟨.root 0,⟨false,2⟩,(.slice K173)⟩,⟨.slot 1,⟨false,0⟩,(.int .i64)⟩,⟨.slot 5,⟨false,0⟩,(.int .i64)⟩]⟩] Tryz.f229 qbi k (x0,x1,())=q64 k x0 x1:=by kernel_rfl
theorem qts (k:Nat) (x0:U9) (x1:Int):q03 q05 false [(229,.sig qbi)] [] Tryz.f122 qd9 k (x0,x1,())=qb8 k x0 x1:=by kernel_rfl
theorem qtu (k:Nat) (x0:List U2) (x1:Int):q03 q05 false [] [⟨5,[],[⟨.root 0,⟨false,2⟩,(.slice K48)⟩,⟨.slot 1,⟨false,0⟩,(.int .i64)⟩,⟨.slot 5,⟨false,0⟩,(.int .i64)⟩]⟩] Tryz.f123 qda k (x0,x1,())=q7l k x0 x1:=by kernel_rfl
theorem qqi (k:Nat) (x0:List Ud) (x1:Int):q03 q05 false [] [⟨5,[],[⟨.root 0,⟨false,2⟩,(.slice K66)⟩,⟨.slot 1,⟨false,0⟩,(.int .i64)⟩,⟨.slot 5,⟨false,0⟩,(.int .i64)⟩]⟩] Tryz.f124 qa8 k (x0,x1,())=q5b k x0 x1:=by kernel_rfl
theorem qu2 (k:Nat) (x0:List U1) (x1:Int):q03 q05 false [] [⟨5,[],[⟨.root 0,⟨false,2⟩,(.slice K61)⟩,⟨.slot 1,⟨false,0⟩,(.int .i64)⟩,⟨.slot 5,⟨false,0⟩,(.int .i64)⟩]⟩] Tryz.f125 qdf k (x0,x1,())=q7o k x0 x1:=by kernel_rfl
theorem qxa (k:Nat) (x0:U7) (x1:Int):q03 q05 false [(119,.sig qbh),(120,.sig qf4),(121,.sig qf2),(122,.sig qd9),(123,.sig qda),(124,.sig qa8),(125,.sig qdf)] [] Tryz.f33 qf3 k (x0,x1,())=q65 k x0 x1:=by kernel_rfl
theorem qxg (k:Nat) (x0:List U6) (x1:Int):q03 q05 false [] [⟨5,[],[⟨.slot 1,⟨false,0⟩,(.int .i64)⟩,⟨.slot 5,⟨false,0⟩,(.int .i64)⟩]⟩] Tryz.f230 q4h k (x0,x1,())=q3h k x0 x1:=by kernel_rfl
theorem qrp (k:Nat) (x0:Ub) (x1:Int):q03 q05 false [(230,.sig q4h)] [] Tryz.f126 qbk k (x0,x1,())=q9q k x0 x1:=by kernel_rfl
theorem quc (k:Nat) (x0:List U4) (x1:Int):q03 q05 false [] [⟨5,[],[⟨.slot 1,⟨false,0⟩,(.int .i64)⟩,⟨.slot 5,⟨false,0⟩,(.int .i64)⟩]⟩] Tryz.f231 qdm k (x0,x1,())=q7s k x0 x1:=by kernel_rfl
theorem qxk (k:Nat) (x0:Ua) (x1:Int):q03 q05 false [(231,.sig qdm)] [] Tryz.f127 qf7 k (x0,x1,())=qdo k x0 x1:=by kernel_rfl
theorem qrt (k:Nat) (x0:List (Int×Int×Ub)) (x1:Int):q03 q05 false [(230,.sig q4h)] [⟨5,[],[⟨.slot 1,⟨false,0⟩,(.int .i64)⟩,⟨.slot 5,⟨false,0⟩,(.int .i64)⟩]⟩] Tryz.f232 qbm k (x0,x1,())=q69 k x0 x1:=by kernel_rfl
theorem qu4 (k:Nat) (x0:List (Int×Ub)) (x1:Int):q03 q05 false [(230,.sig q4h)] [⟨5,[],[⟨.slot 1,⟨false,0⟩,(.int .i64)⟩,⟨.slot 5,⟨false,0⟩,(.int .i64)⟩]⟩] Tryz.f233 qdh k (x0,x1,())=q7p k x0 x1:=by kernel_rfl
end Go.Proofs.YtpmjopbgccajgaaGreat.Eng
