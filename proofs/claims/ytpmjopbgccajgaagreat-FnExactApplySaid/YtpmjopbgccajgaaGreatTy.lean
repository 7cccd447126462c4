/- Kinds of cells, the table of types. By a program of this session. No condition. -/
import Derived.Test.YtpmjopbgccajgaaGreatEngA
namespace Go.Proofs.YtpmjopbgccajgaaGreat.Eng
noncomputable section
open Go.Proofs
set_option linter.unusedVariables false
abbrev V0:Ty→Ty:=Ty.cons (.int .i64)
def K2:Ty:=(V0 .nil)
def K4:Ty:=(.cons .bool .nil)
def K12:Ty:=(.cons (.int .u64) .nil)
def K24:Ty:=(.cons (.slice (V0 .nil)) .nil)
def K27:Ty:=(V0 (V0 .nil))
def K29:Ty:=(.cons (.slice (V0 (V0 (V0 .nil)))) .nil)
def K30:Ty:=(V0 (V0 (.cons .bool (.cons (.slice (V0 (V0 (V0 .nil)))) .nil))))
def K32:Ty:=(.cons (.slice (V0 (V0 (.cons (.slice (V0 .nil)) .nil)))) .nil)
def K33:Ty:=(.cons (.slice (V0 (.cons (.slice (V0 .nil)) .nil))) .nil)
def K34:Ty:=(.cons (.slice (V0 .nil)) (V0 (.cons (.slice (V0 (V0 (.cons (.slice (V0 .nil)) .nil)))) (.cons (.slice (V0 (.cons (.slice (V0 .nil)) .nil))) .nil))))
def K36:Ty:=(.cons (.slice (.cons (.slice (V0 (V0 .nil))) .nil)) .nil)
def K37:Ty:=(V0 (.cons (.slice (.cons (.slice (V0 (V0 .nil))) .nil)) .nil))
def K39:Ty:=(.cons (.slice (V0 (V0 (V0 (V0 (V0 .nil)))))) .nil)
def K40:Ty:=(.cons (.slice (V0 (V0 (V0 (.cons .bool (V0 .nil)))))) .nil)
def K41:Ty:=(.cons (.slice (V0 (V0 (V0 (V0 (V0 (V0 (V0 (V0 (V0 (V0 .nil))))))))))) .nil)
def K42:Ty:=(V0 (.cons (.slice (V0 .nil)) (V0 (V0 (V0 (V0 (.cons .bool (.cons (.slice (V0 (V0 (V0 .nil)))) (.cons (.slice (V0 .nil)) (V0 (.cons (.slice (V0 (V0 (.cons (.slice (V0 .nil)) .nil)))) (.cons (.slice (V0 (.cons (.slice (V0 .nil)) .nil))) (V0 (.cons (.slice (.cons (.slice (V0 (V0 .nil))) .nil)) (.cons (.slice (V0 (V0 (V0 (V0 (V0 .nil)))))) (.cons (.slice (V0 (V0 (V0 (.cons .bool (V0 .nil)))))) (.cons (.slice (V0 (V0 (V0 (V0 (V0 (V0 (V0 (V0 (V0 (V0 .nil))))))))))) .nil)))))))))))))))))
def K46:Ty:=(V0 (V0 (V0 .nil)))
def K48:Ty:=(V0 (V0 (V0 (V0 (V0 .nil)))))
def K50:Ty:=(V0 (V0 (V0 (V0 (V0 (V0 (V0 (V0 (V0 (V0 (V0 (V0 (V0 (V0 .nil))))))))))))))
def K61:Ty:=(V0 (V0 (V0 (V0 (V0 (V0 (V0 (V0 (V0 (V0 .nil))))))))))
def K64:Ty:=(V0 (V0 (.cons (.slice (V0 .nil)) .nil)))
def K66:Ty:=(V0 (V0 (V0 (.cons .bool (V0 .nil)))))
def K173:Ty:=(.cons (.slice (V0 (V0 .nil))) .nil)
def K204:Ty:=(V0 (.cons (.slice (V0 .nil)) .nil))
def tabR:List (Nat×TI):=[(3,⟨false,K2,0,false,false,[]⟩),
 (4,⟨false,K4,0,false,false,[]⟩),
 (24,⟨false,K24,3,false,false,[]⟩),
 (26,⟨true,K24,0,false,false,[(0,1,false)]⟩),
 (28,⟨true,K27,0,false,true,[(0,1,false),(1,1,false)]⟩),
 (29,⟨false,K29,147,false,false,[]⟩),
 (31,⟨true,K30,0,false,false,[(0,1,false),(1,1,false),(2,1,false),(3,1,false)]⟩),
 (32,⟨false,K32,65,false,false,[]⟩),
 (33,⟨false,K33,205,false,false,[]⟩),
 (35,⟨true,K34,0,false,false,[(0,1,false),(1,1,false),(2,1,false),(3,1,false)]⟩),
 (36,⟨false,K36,173,false,false,[]⟩),
 (38,⟨true,K37,0,false,false,[(0,1,false),(1,1,false)]⟩),
 (39,⟨false,K39,49,false,false,[]⟩),
 (40,⟨false,K40,67,false,false,[]⟩),
 (41,⟨false,K41,62,false,false,[]⟩),
 (43,⟨true,K42,0,false,false,[(0,1,false),(1,1,true),(2,2,true),(4,4,true),(8,4,true),(12,2,true),(14,1,false),(15,1,false),(16,1,false)]⟩),
 (47,⟨true,K46,0,false,true,[(0,1,false),(1,1,false),(2,1,false)]⟩),
 (49,⟨true,K48,0,false,true,[(0,1,false),(1,1,false),(2,1,false),(3,1,false),(4,1,false)]⟩),
 (51,⟨true,K50,0,false,true,[(0,1,false),(1,1,false),(2,1,false),(3,1,false),(4,1,false),(5,1,false),(6,3,true),(9,5,true)]⟩),
 (60,⟨true,K46,0,false,true,[(0,1,false),(1,1,false),(2,1,false)]⟩),
 (62,⟨true,K61,0,false,true,[(0,3,true),(3,1,false),(4,1,false),(5,1,false),(6,1,false),(7,3,true)]⟩),
 (65,⟨true,K64,0,false,false,[(0,1,false),(1,1,false),(2,1,false)]⟩),
 (67,⟨true,K66,0,false,true,[(0,1,false),(1,1,false),(2,1,false),(3,1,false),(4,1,false)]⟩),
 (68,⟨false,K29,70,false,false,[]⟩),
 (70,⟨true,K46,0,false,true,[(0,1,false),(1,1,false),(2,1,false)]⟩),
 (71,⟨false,K32,215,false,false,[]⟩),
 (74,⟨true,K24,0,false,false,[(0,1,false)]⟩),
 (75,⟨true,K27,0,false,true,[(0,1,false),(1,1,false)]⟩),
 (76,⟨false,K29,302,false,false,[]⟩),
 (78,⟨true,K30,0,false,false,[(0,1,false),(1,1,false),(2,1,false),(3,1,false)]⟩),
 (79,⟨false,K32,296,false,false,[]⟩),
 (80,⟨false,K33,298,false,false,[]⟩),
 (82,⟨true,K34,0,false,false,[(0,1,false),(1,1,false),(2,1,false),(3,1,false)]⟩),
 (83,⟨false,K36,300,false,false,[]⟩),
 (85,⟨true,K37,0,false,false,[(0,1,false),(1,1,false)]⟩),
 (86,⟨false,K39,102,false,false,[]⟩),
 (87,⟨false,K40,241,false,false,[]⟩),
 (88,⟨false,K41,245,false,false,[]⟩),
 (90,⟨true,K42,0,false,false,[(0,1,false),(1,1,true),(2,2,true),(4,4,true),(8,4,true),(12,2,true),(14,1,false),(15,1,false),(16,1,false)]⟩),
 (101,⟨true,K46,0,false,true,[(0,1,false),(1,1,false),(2,1,false)]⟩),
 (102,⟨true,K48,0,false,true,[(0,1,false),(1,1,false),(2,1,false),(3,1,false),(4,1,false)]⟩),
 (104,⟨true,K50,0,false,true,[(0,1,false),(1,1,false),(2,1,false),(3,1,false),(4,1,false),(5,1,false),(6,3,true),(9,5,true)]⟩),
 (129,⟨true,K27,0,false,true,[(0,1,false),(1,1,false)]⟩),
 (147,⟨true,K46,0,false,true,[(0,1,false),(1,1,false),(2,1,false)]⟩),
 (173,⟨false,K173,175,false,false,[]⟩),
 (175,⟨true,K27,0,false,true,[(0,1,false),(1,1,false)]⟩),
 (205,⟨true,K204,0,false,false,[(0,1,false),(1,1,false)]⟩),
 (215,⟨true,K64,0,false,false,[(0,1,false),(1,1,false),(2,1,false)]⟩),
 (241,⟨true,K66,0,false,true,[(0,1,false),(1,1,false),(2,1,false),(3,1,false),(4,1,false)]⟩),
 (243,⟨true,K46,0,false,true,[(0,1,false),(1,1,false),(2,1,false)]⟩),
 (245,⟨true,K61,0,false,true,[(0,3,true),(3,1,false),(4,1,false),(5,1,false),(6,1,false),(7,3,true)]⟩),
 (279,⟨false,K29,321,false,false,[]⟩),
 (294,⟨false,K12,0,false,false,[]⟩),
 (296,⟨true,K64,0,false,false,[(0,1,false),(1,1,false),(2,1,false)]⟩),
 (298,⟨true,K204,0,false,false,[(0,1,false),(1,1,false)]⟩),
 (300,⟨false,K173,340,false,false,[]⟩),
 (302,⟨true,K46,0,false,true,[(0,1,false),(1,1,false),(2,1,false)]⟩),
 (321,⟨true,K46,0,false,true,[(0,1,false),(1,1,false),(2,1,false)]⟩),
 (340,⟨true,K27,0,false,true,[(0,1,false),(1,1,false)]⟩)]
def q05:List (Nat×TI):=[(3,⟨false,K2,0,false,false,[]⟩),
 (4,⟨false,K4,0,false,false,[]⟩),
 (24,⟨false,K24,3,false,false,[]⟩),
 (26,⟨true,K24,0,false,false,[(0,1,false)]⟩),
 (28,⟨true,K27,0,false,true,[(0,1,false),(1,1,false)]⟩),
 (29,⟨false,K29,147,false,false,[]⟩),
 (31,⟨true,K30,0,false,false,[(0,1,false),(1,1,false),(2,1,false),(3,1,false)]⟩),
 (32,⟨false,K32,65,true,false,[]⟩),
 (33,⟨false,K33,205,true,false,[]⟩),
 (35,⟨true,K34,0,false,false,[(0,1,false),(1,1,false),(2,1,false),(3,1,false)]⟩),
 (36,⟨false,K36,173,true,false,[]⟩),
 (38,⟨true,K37,0,false,false,[(0,1,false),(1,1,false)]⟩),
 (39,⟨false,K39,49,false,false,[]⟩),
 (40,⟨false,K40,67,false,false,[]⟩),
 (41,⟨false,K41,62,false,false,[]⟩),
 (43,⟨true,K42,0,false,false,[(0,1,false),(1,1,true),(2,2,true),(4,4,true),(8,4,true),(12,2,true),(14,1,false),(15,1,false),(16,1,false)]⟩),
 (47,⟨true,K46,0,false,true,[(0,1,false),(1,1,false),(2,1,false)]⟩),
 (49,⟨true,K48,0,false,true,[(0,1,false),(1,1,false),(2,1,false),(3,1,false),(4,1,false)]⟩),
 (51,⟨true,K50,0,false,true,[(0,1,false),(1,1,false),(2,1,false),(3,1,false),(4,1,false),(5,1,false),(6,3,true),(9,5,true)]⟩),
 (60,⟨true,K46,0,false,true,[(0,1,false),(1,1,false),(2,1,false)]⟩),
 (62,⟨true,K61,0,false,true,[(0,3,true),(3,1,false),(4,1,false),(5,1,false),(6,1,false),(7,3,true)]⟩),
 (65,⟨true,K64,0,false,false,[(0,1,false),(1,1,false),(2,1,false)]⟩),
 (67,⟨true,K66,0,false,true,[(0,1,false),(1,1,false),(2,1,false),(3,1,false),(4,1,false)]⟩),
 (68,⟨false,K29,70,false,false,[]⟩),
 (70,⟨true,K46,0,false,true,[(0,1,false),(1,1,false),(2,1,false)]⟩),
 (71,⟨false,K32,215,true,false,[]⟩),
 (74,⟨true,K24,0,false,false,[(0,1,false)]⟩),
 (75,⟨true,K27,0,false,true,[(0,1,false),(1,1,false)]⟩),
 (76,⟨false,K29,302,false,false,[]⟩),
 (78,⟨true,K30,0,false,false,[(0,1,false),(1,1,false),(2,1,false),(3,1,false)]⟩),
 (79,⟨false,K32,296,true,false,[]⟩),
 (80,⟨false,K33,298,true,false,[]⟩),
 (82,⟨true,K34,0,false,false,[(0,1,false),(1,1,false),(2,1,false),(3,1,false)]⟩),
 (83,⟨false,K36,300,true,false,[]⟩),
 (85,⟨true,K37,0,false,false,[(0,1,false),(1,1,false)]⟩),
 (86,⟨false,K39,102,false,false,[]⟩),
 (87,⟨false,K40,241,false,false,[]⟩),
 (88,⟨false,K41,245,false,false,[]⟩),
 (90,⟨true,K42,0,false,false,[(0,1,false),(1,1,true),(2,2,true),(4,4,true),(8,4,true),(12,2,true),(14,1,false),(15,1,false),(16,1,false)]⟩),
 (101,⟨true,K46,0,false,true,[(0,1,false),(1,1,false),(2,1,false)]⟩),
 (102,⟨true,K48,0,false,true,[(0,1,false),(1,1,false),(2,1,false),(3,1,false),(4,1,false)]⟩),
 (104,⟨true,K50,0,false,true,[(0,1,false),(1,1,false),(2,1,false),(3,1,false),(4,1,false),(5,1,false),(6,3,true),(9,5,true)]⟩),
 (129,⟨true,K27,0,false,true,[(0,1,false),(1,1,false)]⟩),
 (147,⟨true,K46,0,false,true,[(0,1,false),(1,1,false),(2,1,false)]⟩),
 (173,⟨false,K173,175,false,false,[]⟩),
 (175,⟨true,K27,0,false,true,[(0,1,false),(1,1,false)]⟩),
 (205,⟨true,K204,0,false,false,[(0,1,false),(1,1,false)]⟩),
 (215,⟨true,K64,0,false,false,[(0,1,false),(1,1,false),(2,1,false)]⟩),
 (241,⟨true,K66,0,false,true,[(0,1,false),(1,1,false),(2,1,false),(3,1,false),(4,1,false)]⟩),
 (243,⟨true,K46,0,false,true,[(0,1,false),(1,1,false),(2,1,false)]⟩),
 (245,⟨true,K61,0,false,true,[(0,3,true),(3,1,false),(4,1,false),(5,1,false),(6,1,false),(7,3,true)]⟩),
 (279,⟨false,K29,321,false,false,[]⟩),
 (294,⟨false,K12,0,false,false,[]⟩),
 (296,⟨true,K64,0,false,false,[(0,1,false),(1,1,false),(2,1,false)]⟩),
 (298,⟨true,K204,0,false,false,[(0,1,false),(1,1,false)]⟩),
 (300,⟨false,K173,340,false,false,[]⟩),
 (302,⟨true,K46,0,false,true,[(0,1,false),(1,1,false),(2,1,false)]⟩),
 (321,⟨true,K46,0,false,true,[(0,1,false),(1,1,false),(2,1,false)]⟩),
 (340,⟨true,K27,0,false,true,[(0,1,false),(1,1,false)]⟩)]
def W2 {a0 a1 a2 r:Type} (x:a0×a1×a2×r):a0×a1×a2×Unit:=(x.1,x.2.1,x.2.2.1,())
def W0 {a0 a1 a2 a3 r:Type} (x:a0×a1×a2×a3×r):a0×a1×a2×a3×Unit:=(x.1,x.2.1,x.2.2.1,x.2.2.2.1,())
def W1 {a0 a1 a2 a3 a4 r:Type} (x:a0×a1×a2×a3×a4×r):a0×a1×a2×a3×a4×Unit:=(x.1,x.2.1,x.2.2.1,x.2.2.2.1,x.2.2.2.2.1,())
def W4 {a0 a1 a2 a3 a4 a5 a6 a7 a8 a9 r:Type} (x:a0×a1×a2×a3×a4×a5×a6×a7×a8×a9×r):a0×a1×a2×a3×a4×a5×a6×a7×a8×a9×Unit:=(x.1,x.2.1,x.2.2.1,x.2.2.2.1,x.2.2.2.2.1,x.2.2.2.2.2.1,x.2.2.2.2.2.2.1,x.2.2.2.2.2.2.2.1,x.2.2.2.2.2.2.2.2.1,x.2.2.2.2.2.2.2.2.2.1,())
def W5 {a0 a1 a2 a3 a4 a5 a6 a7 a8 a9 a10 a11 a12 a13 r:Type} (x:a0×a1×a2×a3×a4×a5×a6×a7×a8×a9×a10×a11×a12×a13×r):a0×a1×a2×a3×a4×a5×a6×a7×a8×a9×a10×a11×a12×a13×Unit:=(x.1,x.2.1,x.2.2.1,x.2.2.2.1,x.2.2.2.2.1,x.2.2.2.2.2.1,x.2.2.2.2.2.2.1,x.2.2.2.2.2.2.2.1,x.2.2.2.2.2.2.2.2.1,x.2.2.2.2.2.2.2.2.2.1,x.2.2.2.2.2.2.2.2.2.2.1,x.2.2.2.2.2.2.2.2.2.2.2.1,x.2.2.2.2.2.2.2.2.2.2.2.2.1,x.2.2.2.2.2.2.2.2.2.2.2.2.2.1,())
def W3 {a0 a1 a2 a3 a4 a5 a6 a7 a8 a9 a10 a11 a12 a13 a14 a15 a16 r:Type} (x:a0×a1×a2×a3×a4×a5×a6×a7×a8×a9×a10×a11×a12×a13×a14×a15×a16×r):a0×a1×a2×a3×a4×a5×a6×a7×a8×a9×a10×a11×a12×a13×a14×a15×a16×Unit:=(x.1,x.2.1,x.2.2.1,x.2.2.2.1,x.2.2.2.2.1,x.2.2.2.2.2.1,x.2.2.2.2.2.2.1,x.2.2.2.2.2.2.2.1,x.2.2.2.2.2.2.2.2.1,x.2.2.2.2.2.2.2.2.2.1,x.2.2.2.2.2.2.2.2.2.2.1,x.2.2.2.2.2.2.2.2.2.2.2.1,x.2.2.2.2.2.2.2.2.2.2.2.2.1,x.2.2.2.2.2.2.2.2.2.2.2.2.2.1,x.2.2.2.2.2.2.2.2.2.2.2.2.2.2.1,x.2.2.2.2.2.2.2.2.2.2.2.2.2.2.2.1,x.2.2.2.2.2.2.2.2.2.2.2.2.2.2.2.2.1,())
end
abbrev U0:=Int×Int×Int×Int×Int×Int×Int×Int×Int×Int×Int×Int×Int×Int×Unit
abbrev U1:=Int×Int×Int×Int×Int×Int×Int×Int×Int×Int×Unit
abbrev U2:=Int×Int×Int×Int×Int×Unit
abbrev U3:=Int×Int×Int×Int×Unit
abbrev U4:=Int×Int×Int×Unit
abbrev U5:=Int×Int×Unit
abbrev U6:=Int×Unit
abbrev U7:=Int×List U6×Int×Int×Int×Int×Bool×List U4×List U6×Int×List (Int×Int×List U6×Unit)×List (Int×List U6×Unit)×Int×List (List U5×Unit)×List U2×List (Int×Int×Int×Bool×U6)×List U1×Unit
abbrev U8:=List U6×Int×List (Int×Int×List U6×Unit)×List (Int×List U6×Unit)×Unit
abbrev U9:=Int×List (List U5×Unit)×Unit
abbrev Ua:=Int×Int×Bool×List U4×Unit
abbrev Ub:=List U6×Unit
abbrev Uc:=Bool×Unit
abbrev Ud:=Int×Int×Int×Bool×U6
end Go.Proofs.YtpmjopbgccajgaaGreat.Eng
