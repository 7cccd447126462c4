/- The pure functions are what the evaluator computes of the program's code. By a program of this session. No condition. -/
import Derived.Test.YtpmjopbgccajgaaGreatD1
import Derived.Test.YtpmjopbgccajgaaGreatProg
import Derived.KernelRfl
namespace Go.Proofs.YtpmjopbgccajgaaGreat.Eng
set_option maxRecDepth 100000
open Go.Proofs
set_option linter.unusedVariables false
theorem q07h (k:Nat) (x0:Int):q03 q05 false [] [] Tryz.f67 q3i k (x0,())=q3a k x0:=by kernel_rfl
theorem q07g (k:Nat) (x0:Int) (x1:Int):q03 q05 false [] [] Tryz.f176 qk0 k (x0,x1,())=qe0 k x0 x1:=by kernel_rfl
theorem qy9 (k:Nat) (x0:Ub):q03 q05 false [(174,.inl Tryz.f174 []),(175,.inl Tryz.f175 []),(176,.sig qk0),(191,.inl Tryz.f191 [⟨5,[],[⟨.slot 8,⟨false,0⟩,(.int .i64)⟩]⟩])] [] Tryz.f68 q6i k (x0,())=q2m k x0:=by kernel_rfl
theorem qyc (k:Nat) (x0:U5):q03 q05 false [] [] Tryz.f69 q9y k (x0,())=q3l k x0:=by kernel_rfl
theorem q0eh (k:Nat) (x0:List U4) (x1:Int):q03 q05 false [(269,.inl Tryz.f269 []),(270,.inl Tryz.f270 []),(323,.inl Tryz.f323 [⟨5,[],[⟨.slot 8,⟨false,0⟩,(.int .i64)⟩]⟩])] [] Tryz.f177 qij k (x0,x1,())=qfh k x0 x1:=by kernel_rfl
theorem q08g (k:Nat) (x0:Ua):q03 q05 false [(177,.sig qij)] [⟨11,[],[⟨.slot 3,⟨false,0⟩,(.int .i64)⟩,⟨.slot 35,⟨false,0⟩,(.int .i64)⟩]⟩] Tryz.f70 q6k k (x0,())=q2n k x0:=by kernel_rfl
theorem qs4 (k:Nat) (x0:List U6) (x1:Int):q03 q05 false [] [⟨5,[],[⟨.slot 9,⟨false,0⟩,(.int .i64)⟩]⟩,⟨12,[],[]⟩] Tryz.f178 qbn k (x0,x1,())=q6f k x0 x1:=by kernel_rfl
theorem qn2 (k:Nat) (x0:List U6):q03 q05 false [] [] Tryz.f78 q0j k (x0,())=qx k x0:=by kernel_rfl
theorem q07r (k:Nat) (x0:U8):q03 q05 false [(77,.inl Tryz.f77 [⟨11,[],[⟨.root 1,⟨false,2⟩,(.slice K2)⟩,⟨.slot 5,⟨false,0⟩,(.int .i64)⟩,⟨.slot 6,⟨false,0⟩,(.int .i64)⟩]⟩,⟨12,[],[⟨.slot 5,⟨false,0⟩,(.int .i64)⟩,⟨.root 1,⟨false,2⟩,(.slice K2)⟩]⟩]),(78,.sig q0j),(191,.inl Tryz.f191 [⟨5,[],[⟨.slot 8,⟨false,0⟩,(.int .i64)⟩]⟩]),(271,.inl Tryz.f271 [])] [⟨7,[],[⟨.slot 3,⟨false,2⟩,(.slice K2)⟩,⟨.slot 13,⟨false,0⟩,(.int .i64)⟩]⟩] Tryz.f179 qe3 k (x0,())=q72 k x0:=by kernel_rfl
theorem qph (k:Nat) (x0:List U6):q03 q05 false [(78,.sig q0j),(192,.sig sortSig),(272,.inl Tryz.f272 [⟨20,[],[⟨.slot 3,⟨false,0⟩,(.int .i64)⟩,⟨.root 0,⟨false,2⟩,(.slice K2)⟩]⟩,⟨9,[],[⟨.slot 3,⟨false,0⟩,(.int .i64)⟩]⟩,⟨19,[],[⟨.root 0,⟨false,2⟩,(.slice K2)⟩,⟨.slot 3,⟨false,0⟩,(.int .i64)⟩,⟨.slot 5,⟨false,0⟩,(.int .i64)⟩]⟩])] [] Tryz.f181 q3k k (x0,())=q0d k x0:=by kernel_rfl
theorem q086 (k:Nat) (x0:U8):q03 q05 false [(174,.inl Tryz.f174 []),(178,.sig qbn),(179,.sig qe3),(180,.inl Tryz.f180 []),(181,.sig q3k),(191,.inl Tryz.f191 [⟨5,[],[⟨.slot 8,⟨false,0⟩,(.int .i64)⟩]⟩])] [⟨27,[],[⟨.slot 5,⟨false,2⟩,(.slice K2)⟩,⟨.slot 86,⟨false,0⟩,(.int .i64)⟩]⟩,⟨13,[],[⟨.slot 4,⟨false,2⟩,(.slice K2)⟩,⟨.slot 46,⟨false,0⟩,(.int .i64)⟩]⟩] Tryz.f71 q9b k (x0,())=q1j k x0:=by kernel_rfl
theorem q07s (k:Nat) (x0:U9):q03 q05 false [] [⟨7,[],[⟨.slot 3,⟨false,2⟩,(.slice K2)⟩,⟨.slot 11,⟨false,0⟩,(.int .i64)⟩]⟩,⟨13,[],[⟨.slot 3,⟨false,2⟩,(.slice K2)⟩,⟨.slot 17,⟨false,0⟩,(.int .i64)⟩]⟩] Tryz.f81 q99 k (x0,())=q2k k x0:=by kernel_rfl
theorem q03a (k:Nat) (x0:U9):q03 q05 false [(67,.sig q3i),(81,.sig q99),(181,.sig q3k),(182,.inl Tryz.f182 []),(183,.inl Tryz.f183 []),(273,.inl Tryz.f273 [⟨5,[],[⟨.slot 8,⟨false,0⟩,(.int .i64)⟩]⟩])] [⟨9,[],[⟨.slot 28,⟨false,0⟩,(.int .i64)⟩]⟩,⟨16,[],[]⟩] Tryz.f72 q7v k (x0,())=q3b k x0:=by kernel_rfl
theorem q030 (k:Nat) (x0:Int) (x1:Int):q03 q05 false [] [] Tryz.f142 q3v k (x0,x1,())=q0p k x0 x1:=by kernel_rfl
theorem q083 (k:Nat) (x0:U2):q03 q05 false [(142,.sig q3v)] [⟨16,[],[⟨.slot 25,⟨false,0⟩,.bool⟩]⟩] Tryz.f184 qe7 k (x0,())=q74 k x0:=by kernel_rfl
theorem q03g (k:Nat) (x0:List U2):q03 q05 false [(184,.sig qe7)] [⟨5,[],[⟨.slot 7,⟨false,0⟩,(.int .i64)⟩]⟩,⟨12,[],[]⟩] Tryz.f73 q2s k (x0,())=q2e k x0:=by kernel_rfl
theorem qs6 (k:Nat) (x0:U7):q03 q05 false [(185,.inl Tryz.f185 []),(186,.inl Tryz.f186 []),(274,.inl Tryz.f274 [⟨5,[],[⟨.slot 8,⟨false,0⟩,(.int .i64)⟩]⟩,⟨12,[],[]⟩])] [] Tryz.f74 qbo k (x0,())=q6g k x0:=by kernel_rfl
theorem qy0 (k:Nat) (x0:U7) (x1:Int):q03 q05 false [(142,.sig q3v)] [] Tryz.f56 q6b k (x0,x1,())=q1u k x0 x1:=by kernel_rfl
theorem q0by (k:Nat) (x0:U4):q03 q05 false [] [] Tryz.f187 qg8 k (x0,())=qc2 k x0:=by kernel_rfl
theorem qy7 (k:Nat) (x0:U4):q03 q05 false [(67,.sig q3i)] [] Tryz.f188 q6h k (x0,())=q2l k x0:=by kernel_rfl
theorem q07j (k:Nat) (x0:U7) (x1:U1):q03 q05 false [(56,.sig q6b),(142,.sig q3v),(187,.sig qg8),(188,.sig q6h)] [⟨26,[],[⟨.slot 59,⟨false,0⟩,.bool⟩]⟩] Tryz.f75 qk2 k (x0,x1,())=qe1 k x0 x1:=by kernel_rfl
theorem q07k (k:Nat) (x0:List U1) (x1:U4):q03 q05 false [(189,.inl Tryz.f189 []),(190,.inl Tryz.f190 []),(275,.inl Tryz.f275 [⟨5,[],[⟨.slot 8,⟨false,0⟩,(.int .i64)⟩]⟩])] [] Tryz.f76 qe2 k (x0,x1,())=q9t k x0 x1:=by kernel_rfl
theorem qn1 (k:Nat) (x0:List U6) (x1:List U6):q03 q05 false [] [⟨9,[],[⟨.slot 13,⟨false,0⟩,(.int .i64)⟩]⟩] Tryz.f193 q60 k (x0,x1,())=q2x k x0 x1:=by kernel_rfl
theorem q0jg (k:Nat) (x0:U7) (x1:Int):q03 q05 false [] [⟨7,[],[⟨.slot 5,⟨false,2⟩,(.slice K2)⟩,⟨.slot 11,⟨false,0⟩,(.int .i64)⟩]⟩,⟨14,[],[⟨.slot 5,⟨false,2⟩,(.slice K2)⟩]⟩] Tryz.f194 qqm k (x0,x1,())=qop k x0 x1:=by kernel_rfl
theorem q038 (k:Nat) (x0:U7) (x1:Int) (x2:List U6):q03 q05 false [(192,.sig sortSig),(193,.sig q60),(194,.sig qqm)] [] Tryz.f80 qht k (x0,x1,x2,())=q09 k x0 x1 x2:=by kernel_rfl
theorem q08b (k:Nat) (x0:U7):q03 q05 false [(67,.sig q3i),(68,.sig q6i),(69,.sig q9y),(70,.sig q6k),(71,.sig q9b),(72,.sig q7v),(73,.sig q2s),(74,.sig qbo),(75,.sig qk2),(76,.sig qe2),(77,.inl Tryz.f77 [⟨11,[],[⟨.root 3,⟨false,2⟩,(.slice K2)⟩,⟨.slot 5,⟨false,0⟩,(.int .i64)⟩,⟨.slot 6,⟨false,0⟩,(.int .i64)⟩]⟩,⟨12,[],[⟨.slot 5,⟨false,0⟩,(.int .i64)⟩,⟨.root 3,⟨false,2⟩,(.slice K2)⟩]⟩]),(78,.sig q0j),(79,.inl Tryz.f79 []),(80,.sig qht),(81,.sig q99),(191,.inl Tryz.f191 [⟨5,[],[⟨.slot 8,⟨false,0⟩,(.int .i64)⟩]⟩])] [⟨27,[],[⟨.slot 5,⟨false,2⟩,(.slice K2)⟩,⟨.slot 87,⟨false,0⟩,(.int .i64)⟩]⟩,⟨37,[],[⟨.slot 6,⟨false,2⟩,(.slice K2)⟩,⟨.slot 101,⟨false,0⟩,(.int .i64)⟩]⟩,⟨13,[],[⟨.slot 64,⟨false,0⟩,(.int .i64)⟩]⟩] Tryz.f23 qkf k (x0,())=q75 k x0:=by kernel_rfl
theorem qlt (k:Nat) (x0:List U4):q03 q05 false [] [] Tryz.f237 q4z k (x0,())=q2a k x0:=by kernel_rfl
theorem qy6 (k:Nat) (x0:Ua):q03 q05 false [(237,.sig q4z)] [] Tryz.f136 q6e k (x0,())=q2j k x0:=by kernel_rfl
theorem qy3 (k:Nat) (x0:U8):q03 q05 false [(78,.sig q0j)] [⟨4,[],[⟨.slot 3,⟨true,2⟩,K34⟩]⟩,⟨7,[],[⟨.cell 2 2,⟨false,2⟩,(.slice K64)⟩,⟨.slot 17,⟨false,0⟩,(.int .i64)⟩]⟩,⟨19,[],[⟨.cell 2 3,⟨false,2⟩,(.slice K204)⟩,⟨.slot 35,⟨false,0⟩,(.int .i64)⟩]⟩] Tryz.f137 q6d k (x0,())=q15 k x0:=by kernel_rfl
theorem qlr (k:Nat) (x0:List U5):q03 q05 false [] [] Tryz.f238 q4y k (x0,())=q29 k x0:=by kernel_rfl
theorem qum (k:Nat) (x0:U9):q03 q05 false [(238,.sig q4y)] [⟨7,[],[⟨.cell 2 1,⟨false,2⟩,(.slice K173)⟩,⟨.slot 12,⟨false,0⟩,(.int .i64)⟩]⟩] Tryz.f138 q5h k (x0,())=q0t k x0:=by kernel_rfl
theorem qlp (k:Nat) (x0:List U2):q03 q05 false [] [] Tryz.f139 q2w k (x0,())=q0k k x0:=by kernel_rfl
end Go.Proofs.YtpmjopbgccajgaaGreat.Eng
