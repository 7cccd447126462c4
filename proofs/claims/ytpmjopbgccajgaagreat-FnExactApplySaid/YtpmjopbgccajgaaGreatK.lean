/- The contracts of the program's functions. By a program of this session. No condition. -/
import Derived.Test.YtpmjopbgccajgaaGreatEngD
import Derived.Test.YtpmjopbgccajgaaGreatShelf
import Derived.Test.YtpmjopbgccajgaaGreatE1
import Derived.Test.YtpmjopbgccajgaaGreatE2
import Derived.Test.YtpmjopbgccajgaaGreatE3
import Derived.Test.YtpmjopbgccajgaaGreatE4
import Derived.Test.YtpmjopbgccajgaaGreatE5
import Derived.Test.YtpmjopbgccajgaaGreatE6
import Derived.Test.YtpmjopbgccajgaaGreatE7
import Derived.Test.YtpmjopbgccajgaaGreatE8
import Derived.Test.YtpmjopbgccajgaaGreatE9
import Derived.Test.YtpmjopbgccajgaaGreatSeatSortN
namespace Go.Proofs.YtpmjopbgccajgaaGreat.Eng
set_option maxRecDepth 100000
open Go.Proofs
set_option linter.unusedVariables false
theorem mixed:Tryz.prog.follows .mixedOrders=true:=by kernel_rfl
theorem q7:q7w Tryz.prog q05:=q0fd (by kernel_rfl)
theorem q0k3:q7w Tryz.prog tabR:=q0fd (by kernel_rfl)
theorem qee:FnOk Tryz.prog 192 sortSig:=q0pn ⟨Tryz.f192,Tryz.func192,by kernel_rfl,by kernel_rfl⟩ (fun blk off cap zs w h1 h2 h3=>Tryz.slices_Sort_int blk off cap zs w h1 h2 h3) Tryz.slices_Sort_int_none
theorem q89:FnOk Tryz.prog 67 q3i:=qe (fun k x=>q07h k x.1) Tryz.func67 q7 mixed (by kernel_rfl) (by kernel_rfl) trivial
theorem q07f:FnOk Tryz.prog 176 qk0:=qe (fun k x=>q07g k x.1 x.2.1) Tryz.func176 q7 mixed (by kernel_rfl) (by kernel_rfl) trivial
theorem qhw:FnOk Tryz.prog 68 q6i:=qe (fun k x=>qy9 k x.1) Tryz.func68 q7 mixed (by kernel_rfl) (by kernel_rfl) ⟨⟨Tryz.func174,by kernel_rfl⟩,⟨Tryz.func175,by kernel_rfl⟩,q07f,⟨Tryz.func191,by kernel_rfl⟩,trivial⟩
theorem qnq:FnOk Tryz.prog 69 q9y:=qe (fun k x=>qyc k x.1) Tryz.func69 q7 mixed (by kernel_rfl) (by kernel_rfl) trivial
theorem qvi:FnOk Tryz.prog 177 qij:=qe (fun k x=>q0eh k x.1 x.2.1) Tryz.func177 q7 mixed (by kernel_rfl) (by kernel_rfl) ⟨⟨Tryz.func269,by kernel_rfl⟩,⟨Tryz.func270,by kernel_rfl⟩,⟨Tryz.func323,by kernel_rfl⟩,trivial⟩
theorem qg9:FnOk Tryz.prog 70 q6k:=qe (fun k x=>q08g k x.1) Tryz.func70 q7 mixed (by kernel_rfl) (by kernel_rfl) ⟨qvi,trivial⟩
theorem qs3:FnOk Tryz.prog 178 qbn:=qe (fun k x=>qs4 k x.1 x.2.1) Tryz.func178 q7 mixed (by kernel_rfl) (by kernel_rfl) trivial
theorem q1i:FnOk Tryz.prog 78 q0j:=qe (fun k x=>qn2 k x.1) Tryz.func78 q7 mixed (by kernel_rfl) (by kernel_rfl) trivial
theorem qq1:FnOk Tryz.prog 179 qe3:=qe (fun k x=>q07r k x.1) Tryz.func179 q7 mixed (by kernel_rfl) (by kernel_rfl) ⟨⟨Tryz.func77,by kernel_rfl⟩,q1i,⟨Tryz.func191,by kernel_rfl⟩,⟨Tryz.func271,by kernel_rfl⟩,trivial⟩
theorem qaa:FnOk Tryz.prog 181 q3k:=qe (fun k x=>qph k x.1) Tryz.func181 q7 mixed (by kernel_rfl) (by kernel_rfl) ⟨q1i,qee,⟨Tryz.func272,by kernel_rfl⟩,trivial⟩
theorem qm4:FnOk Tryz.prog 71 q9b:=qe (fun k x=>q086 k x.1) Tryz.func71 q7 mixed (by kernel_rfl) (by kernel_rfl) ⟨⟨Tryz.func174,by kernel_rfl⟩,qs3,qq1,⟨Tryz.func180,by kernel_rfl⟩,qaa,⟨Tryz.func191,by kernel_rfl⟩,trivial⟩
theorem qm2:FnOk Tryz.prog 81 q99:=qe (fun k x=>q07s k x.1) Tryz.func81 q7 mixed (by kernel_rfl) (by kernel_rfl) trivial
theorem qk7:FnOk Tryz.prog 72 q7v:=qe (fun k x=>q03a k x.1) Tryz.func72 q7 mixed (by kernel_rfl) (by kernel_rfl) ⟨q89,qm2,qaa,⟨Tryz.func182,by kernel_rfl⟩,⟨Tryz.func183,by kernel_rfl⟩,⟨Tryz.func273,by kernel_rfl⟩,trivial⟩
theorem q98:FnOk Tryz.prog 142 q3v:=qe (fun k x=>q030 k x.1 x.2.1) Tryz.func142 q7 mixed (by kernel_rfl) (by kernel_rfl) trivial
theorem qq3:FnOk Tryz.prog 184 qe7:=qe (fun k x=>q083 k x.1) Tryz.func184 q7 mixed (by kernel_rfl) (by kernel_rfl) ⟨q98,trivial⟩
theorem q6j:FnOk Tryz.prog 73 q2s:=qe (fun k x=>q03g k x.1) Tryz.func73 q7 mixed (by kernel_rfl) (by kernel_rfl) ⟨qq3,trivial⟩
theorem qs5:FnOk Tryz.prog 74 qbo:=qe (fun k x=>qs6 k x.1) Tryz.func74 q7 mixed (by kernel_rfl) (by kernel_rfl) ⟨⟨Tryz.func185,by kernel_rfl⟩,⟨Tryz.func186,by kernel_rfl⟩,⟨Tryz.func274,by kernel_rfl⟩,trivial⟩
theorem qhn:FnOk Tryz.prog 56 q6b:=qe (fun k x=>qy0 k x.1 x.2.1) Tryz.func56 q7 mixed (by kernel_rfl) (by kernel_rfl) ⟨q98,trivial⟩
theorem qs7:FnOk Tryz.prog 187 qg8:=qe (fun k x=>q0by k x.1) Tryz.func187 q7 mixed (by kernel_rfl) (by kernel_rfl) trivial
theorem qhv:FnOk Tryz.prog 188 q6h:=qe (fun k x=>qy7 k x.1) Tryz.func188 q7 mixed (by kernel_rfl) (by kernel_rfl) ⟨q89,trivial⟩
theorem q07i:FnOk Tryz.prog 75 qk2:=qe (fun k x=>q07j k x.1 x.2.1) Tryz.func75 q7 mixed (by kernel_rfl) (by kernel_rfl) ⟨qhn,q98,qs7,qhv,trivial⟩
theorem qq0:FnOk Tryz.prog 76 qe2:=qe (fun k x=>q07k k x.1 x.2.1) Tryz.func76 q7 mixed (by kernel_rfl) (by kernel_rfl) ⟨⟨Tryz.func189,by kernel_rfl⟩,⟨Tryz.func190,by kernel_rfl⟩,⟨Tryz.func275,by kernel_rfl⟩,trivial⟩
theorem qn0:FnOk Tryz.prog 193 q60:=qe (fun k x=>qn1 k x.1 x.2.1) Tryz.func193 q7 mixed (by kernel_rfl) (by kernel_rfl) trivial
theorem q0jf:FnOk Tryz.prog 194 qqm:=qe (fun k x=>q0jg k x.1 x.2.1) Tryz.func194 q7 mixed (by kernel_rfl) (by kernel_rfl) trivial
theorem q037:FnOk Tryz.prog 80 qht:=qe (fun k x=>q038 k x.1 x.2.1 x.2.2.1) Tryz.func80 q7 mixed (by kernel_rfl) (by kernel_rfl) ⟨qee,qn0,q0jf,trivial⟩
theorem q08a:FnOk Tryz.prog 23 qkf:=qe (fun k x=>q08b k x.1) Tryz.func23 q7 mixed (by kernel_rfl) (by kernel_rfl) ⟨q89,qhw,qnq,qg9,qm4,qk7,q6j,qs5,q07i,qq0,⟨Tryz.func77,by kernel_rfl⟩,q1i,⟨Tryz.func79,by kernel_rfl⟩,q037,qm2,⟨Tryz.func191,by kernel_rfl⟩,trivial⟩
theorem qls:FnOk Tryz.prog 237 q4z:=qe (fun k x=>qlt k x.1) Tryz.func237 q7 mixed (by kernel_rfl) (by kernel_rfl) trivial
theorem qhr:FnOk Tryz.prog 136 q6e:=qe (fun k x=>qy6 k x.1) Tryz.func136 q7 mixed (by kernel_rfl) (by kernel_rfl) ⟨qls,trivial⟩
theorem qhq:FnOk Tryz.prog 137 q6d:=qe (fun k x=>qy3 k x.1) Tryz.func137 q7 mixed (by kernel_rfl) (by kernel_rfl) ⟨q1i,trivial⟩
theorem qlq:FnOk Tryz.prog 238 q4y:=qe (fun k x=>qlr k x.1) Tryz.func238 q7 mixed (by kernel_rfl) (by kernel_rfl) trivial
theorem qfj:FnOk Tryz.prog 138 q5h:=qe (fun k x=>qum k x.1) Tryz.func138 q7 mixed (by kernel_rfl) (by kernel_rfl) ⟨qlq,trivial⟩
theorem qai:FnOk Tryz.prog 139 q2w:=qe (fun k x=>qlp k x.1) Tryz.func139 q7 mixed (by kernel_rfl) (by kernel_rfl) trivial
theorem qj7:FnOk Tryz.prog 140 q41:=qe (fun k x=>qj8 k x.1) Tryz.func140 q7 mixed (by kernel_rfl) (by kernel_rfl) trivial
theorem qlu:FnOk Tryz.prog 141 q50:=qe (fun k x=>qlv k x.1) Tryz.func141 q7 mixed (by kernel_rfl) (by kernel_rfl) trivial
theorem qy4:FnOk Tryz.prog 44 qfk:=qe (fun k x=>qy5 k x.1) Tryz.func44 q7 mixed (by kernel_rfl) (by kernel_rfl) ⟨q1i,qhr,qhq,qfj,qai,qj7,qlu,trivial⟩
theorem q0c3:FnOk Tryz.prog 239 qm5:=qe (fun k x=>q0c4 k x.1) Tryz.func239 q7 mixed (by kernel_rfl) (by kernel_rfl) ⟨qg9,qhr,trivial⟩
theorem q02v:FnOk Tryz.prog 240 qhm:=qe (fun k x=>q02w k x.1) Tryz.func240 q7 mixed (by kernel_rfl) (by kernel_rfl) trivial
theorem qpy:FnOk Tryz.prog 293 qdy:=qe (fun k x=>q078 k x.1 x.2.1) Tryz.func293 q7 mixed (by kernel_rfl) (by kernel_rfl) trivial
theorem qpx:FnOk Tryz.prog 294 qdx:=qe (fun k x=>q077 k x.1 x.2.1) Tryz.func294 q7 mixed (by kernel_rfl) (by kernel_rfl) ⟨⟨Tryz.func337,by kernel_rfl⟩,⟨Tryz.func338,by kernel_rfl⟩,trivial⟩
theorem qco:FnOk Tryz.prog 251 q3q:=qe (fun k x=>qmz k x.1 x.2.1) Tryz.func251 q7 mixed (by kernel_rfl) (by kernel_rfl) trivial
theorem q2v:FnOk Tryz.prog 295 q0u:=qe (fun k x=>qku k x.1 x.2.1) Tryz.func295 q7 mixed (by kernel_rfl) (by kernel_rfl) ⟨qco,trivial⟩
theorem q0ea:FnOk Tryz.prog 241 qn8:=qe (fun k x=>q0eb k x.1) Tryz.func241 q7 mixed (by kernel_rfl) (by kernel_rfl) ⟨qpy,qpx,q2v,trivial⟩
theorem q0ec:FnOk Tryz.prog 143 qn9:=qe (fun k x=>q0ed k x.1) Tryz.func143 q7 mixed (by kernel_rfl) (by kernel_rfl) ⟨q0c3,q02v,q0ea,trivial⟩
theorem qsa:FnOk Tryz.prog 296 qbp:=qe (fun k x=>qsb k x.1) Tryz.func296 q7 mixed (by kernel_rfl) (by kernel_rfl) ⟨qg9,trivial⟩
theorem q0c8:FnOk Tryz.prog 242 qm6:=qe (fun k x=>q0c9 k x.1 x.2.1 x.2.2.1) Tryz.func242 q7 mixed (by kernel_rfl) (by kernel_rfl) ⟨qg9,qhr,qvi,qsa,trivial⟩
theorem q0bw:FnOk Tryz.prog 144 qm1:=qe (fun k x=>q0bx k x.1 x.2.1) Tryz.func144 q7 mixed (by kernel_rfl) (by kernel_rfl) ⟨qhn,qq0,q98,qs7,q0c8,trivial⟩
theorem q07a:FnOk Tryz.prog 243 qjy:=qe (fun k x=>q07b k x.1 x.2.1) Tryz.func243 q7 mixed (by kernel_rfl) (by kernel_rfl) ⟨⟨Tryz.func297,by kernel_rfl⟩,⟨Tryz.func298,by kernel_rfl⟩,trivial⟩
theorem q03l:FnOk Tryz.prog 145 qhz:=qe (fun k x=>q03m k x.1 x.2.1) Tryz.func145 q7 mixed (by kernel_rfl) (by kernel_rfl) ⟨q6j,qai,qq3,q07a,slices_SortFunc_impl_Note.ok,trivial⟩
theorem q03e:FnOk Tryz.prog 58 qhx:=qe (fun k x=>q03f k x.1 x.2.1) Tryz.func58 q7 mixed (by kernel_rfl) (by kernel_rfl) ⟨q6j,⟨Tryz.func165,by kernel_rfl⟩,⟨Tryz.func166,by kernel_rfl⟩,trivial⟩
theorem q08i:FnOk Tryz.prog 59 qki:=qe (fun k x=>q08j k x.1 x.2.1 x.2.2.1) Tryz.func59 q7 mixed (by kernel_rfl) (by kernel_rfl) ⟨q6j,⟨Tryz.func165,by kernel_rfl⟩,⟨Tryz.func167,by kernel_rfl⟩,trivial⟩
theorem q080:FnOk Tryz.prog 60 qkb:=qe (fun k x=>q081 k x.1 x.2.1 x.2.2.1) Tryz.func60 q7 mixed (by kernel_rfl) (by kernel_rfl) ⟨q6j,⟨Tryz.func165,by kernel_rfl⟩,⟨Tryz.func168,by kernel_rfl⟩,trivial⟩
theorem q084:FnOk Tryz.prog 21 qkd:=qe (fun k x=>q085 k x.1 x.2.1 x.2.2.1) Tryz.func21 q7 mixed (by kernel_rfl) (by kernel_rfl) ⟨q03e,q08i,q080,trivial⟩
theorem qkv:FnOk Tryz.prog 61 q4p:=qe (fun k x=>qkw k x.1) Tryz.func61 q7 mixed (by kernel_rfl) (by kernel_rfl) trivial
theorem q0cr:FnOk Tryz.prog 64 qm9:=qe (fun k x=>q0cs k x.1) Tryz.func64 q7 mixed (by kernel_rfl) (by kernel_rfl) trivial
theorem qyh:FnOk Tryz.prog 170 qfo:=qe (fun k x=>qyi k x.1) Tryz.func170 q7 mixed (by kernel_rfl) (by kernel_rfl) trivial
theorem qsk:FnOk Tryz.prog 65 qbt:=qe (fun k x=>qsl k x.1 x.2.1) Tryz.func65 q7 mixed (by kernel_rfl) (by kernel_rfl) ⟨qyh,trivial⟩
theorem qnp:FnOk Tryz.prog 63 q9w:=qe (fun k x=>qy8 k x.1 x.2.1) Tryz.func63 q7 mixed (by kernel_rfl) (by kernel_rfl) ⟨q0cr,qsk,trivial⟩
theorem q8g:FnOk Tryz.prog 267 q12:=qe (fun k x=>q8h k x.1 x.2.1 x.2.2.1) Tryz.func267 q7 mixed (by kernel_rfl) (by kernel_rfl) ⟨qnp,trivial⟩
theorem qa5:FnOk Tryz.prog 357 q1h:=qe (fun k x=>qa6 k x.1 x.2.1 x.2.2.1 x.2.2.2.1) Tryz.func357 q7 mixed (by kernel_rfl) (by kernel_rfl) trivial
theorem qc8:FnOk Tryz.prog 322 q27:=qe (fun k x=>qc9 k x.1 x.2.1 x.2.2.1 x.2.2.2.1) Tryz.func322 q7 mixed (by kernel_rfl) (by kernel_rfl) ⟨qa5,trivial⟩
theorem qag:FnOk Tryz.prog 268 q3z:=q0ri (g:=slices_symMergeCmpFunc_impl_Piece.sig0) (F:=qb) (fun _ _=>rfl) ⟨Tryz.f268,Tryz.func268,by kernel_rfl,by kernel_rfl⟩ fun m ih=>qe (fun k x=>qah (qb m) (qb (m+1)) k x.1 x.2.1 x.2.2.1 x.2.2.2.1) Tryz.func268 q7 mixed (by kernel_rfl) (by kernel_rfl) ⟨qnp,ih,qc8,trivial⟩
theorem qc6:FnOk Tryz.prog 169 q26:=qe (fun k x=>qc7 k x.1 x.2.1) Tryz.func169 q7 mixed (by kernel_rfl) (by kernel_rfl) ⟨q8g,qag,trivial⟩
theorem qbf:FnOk Tryz.prog 62 q1s:=qe (fun k x=>qbg k x.1) Tryz.func62 q7 mixed (by kernel_rfl) (by kernel_rfl) ⟨qc6,trivial⟩
theorem qya:FnOk Tryz.prog 171 qfl:=qe (fun k x=>qyb k x.1) Tryz.func171 q7 mixed (by kernel_rfl) (by kernel_rfl) ⟨qaa,trivial⟩
theorem qyd:FnOk Tryz.prog 66 qfn:=qe (fun k x=>qye k x.1 x.2.1) Tryz.func66 q7 mixed (by kernel_rfl) (by kernel_rfl) ⟨qnq,qya,⟨Tryz.func172,by kernel_rfl⟩,⟨Tryz.func173,by kernel_rfl⟩,trivial⟩
theorem q07w:FnOk Tryz.prog 22 qk9:=qe (fun k x=>q07x k x.1 x.2.1) Tryz.func22 q7 mixed (by kernel_rfl) (by kernel_rfl) ⟨qkv,qbf,qyd,trivial⟩
theorem q0el:FnOk Tryz.prog 246 qnd:=qe (fun k x=>q0em k x.1) Tryz.func246 q7 mixed (by kernel_rfl) (by kernel_rfl) ⟨q6j,trivial⟩
theorem q07m:FnOk Tryz.prog 146 qk3:=qe (fun k x=>q07n k x.1 x.2.1) Tryz.func146 q7 mixed (by kernel_rfl) (by kernel_rfl) ⟨q084,q07w,qhn,q0el,trivial⟩
theorem q08c:FnOk Tryz.prog 300 qkg:=qe (fun k x=>q08d k x.1 x.2.1 x.2.2.1) Tryz.func300 q7 mixed (by kernel_rfl) (by kernel_rfl) ⟨q89,qhw,qhv,trivial⟩
theorem q08e:FnOk Tryz.prog 247 qkh:=qe (fun k x=>q08f k x.1 x.2.1 x.2.2.1 x.2.2.2.1) Tryz.func247 q7 mixed (by kernel_rfl) (by kernel_rfl) ⟨q89,qhw,qhv,q08c,trivial⟩
theorem q07o:FnOk Tryz.prog 147 qk4:=qe (fun k x=>q07p k x.1 x.2.1 x.2.2.1) Tryz.func147 q7 mixed (by kernel_rfl) (by kernel_rfl) ⟨q08e,trivial⟩
theorem q03b:FnOk Tryz.prog 301 qhu:=qe (fun k x=>q03c k x.1 x.2.1 x.2.2.1) Tryz.func301 q7 mixed (by kernel_rfl) (by kernel_rfl) ⟨qm4,q1i,qhq,qpx,trivial⟩
theorem q07t:FnOk Tryz.prog 347 qk6:=qe (fun k x=>q07u k x.1 x.2.1) Tryz.func347 q7 mixed (by kernel_rfl) (by kernel_rfl) ⟨qm4,qpy,trivial⟩
theorem q088:FnOk Tryz.prog 302 qke:=qe (fun k x=>q089 k x.1 x.2.1 x.2.2.1) Tryz.func302 q7 mixed (by kernel_rfl) (by kernel_rfl) ⟨qhq,qq1,q2v,q07t,trivial⟩
theorem qvh:FnOk Tryz.prog 248 qii:=qe (fun k x=>q0eg k x.1 x.2.1) Tryz.func248 q7 mixed (by kernel_rfl) (by kernel_rfl) ⟨q03b,q088,trivial⟩
theorem quk:FnOk Tryz.prog 351 qdz:=qe (fun k x=>qul k x.1) Tryz.func351 q7 mixed (by kernel_rfl) (by kernel_rfl) trivial
theorem qom:FnOk Tryz.prog 306 qbc:=qe (fun k x=>q02y k x.1 x.2.1 x.2.2.1) Tryz.func306 q7 mixed (by kernel_rfl) (by kernel_rfl) ⟨quk,trivial⟩
theorem q03i:FnOk Tryz.prog 303 qhy:=qe (fun k x=>q03j k x.1 x.2.1 x.2.2.1) Tryz.func303 q7 mixed (by kernel_rfl) (by kernel_rfl) ⟨q89,qk7,qom,trivial⟩
theorem q07y:FnOk Tryz.prog 249 qka:=qe (fun k x=>q07z k x.1 x.2.1 x.2.2.1) Tryz.func249 q7 mixed (by kernel_rfl) (by kernel_rfl) ⟨qm2,qfj,q2v,q03i,trivial⟩
theorem q0ee:FnOk Tryz.prog 148 qna:=qe (fun k x=>q0ef k x.1 x.2.1) Tryz.func148 q7 mixed (by kernel_rfl) (by kernel_rfl) ⟨qvh,q07y,trivial⟩
theorem q07c:FnOk Tryz.prog 304 qjz:=qe (fun k x=>q07d k x.1 x.2.1) Tryz.func304 q7 mixed (by kernel_rfl) (by kernel_rfl) ⟨⟨Tryz.func182,by kernel_rfl⟩,⟨Tryz.func273,by kernel_rfl⟩,⟨Tryz.func348,by kernel_rfl⟩,⟨Tryz.func349,by kernel_rfl⟩,⟨Tryz.func350,by kernel_rfl⟩,trivial⟩
theorem quq:FnOk Tryz.prog 305 qe5:=qe (fun k x=>qur k x.1 x.2.1) Tryz.func305 q7 mixed (by kernel_rfl) (by kernel_rfl) trivial
theorem qoq:FnOk Tryz.prog 250 qbd:=qe (fun k x=>q039 k x.1 x.2.1) Tryz.func250 q7 mixed (by kernel_rfl) (by kernel_rfl) ⟨qk7,qfj,q07c,quq,qom,trivial⟩
theorem q0bs:FnOk Tryz.prog 149 qm0:=qe (fun k x=>q0bt k x.1 x.2.1) Tryz.func149 q7 mixed (by kernel_rfl) (by kernel_rfl) ⟨qvh,qoq,trivial⟩
theorem q035:FnOk Tryz.prog 252 qhs:=qe (fun k x=>q036 k x.1 x.2.1) Tryz.func252 q7 mixed (by kernel_rfl) (by kernel_rfl) ⟨q2v,⟨Tryz.func307,by kernel_rfl⟩,⟨Tryz.func308,by kernel_rfl⟩,trivial⟩
theorem qgx:q0js Tryz.prog 77 253 q0f:=q0si (fun k x=>qgy k x) Tryz.func77 q7 mixed (by kernel_rfl) (by kernel_rfl) ⟨⟨Tryz.func191,by kernel_rfl⟩,⟨Tryz.func253,by kernel_rfl⟩,trivial⟩
theorem qy1:FnOk Tryz.prog 150 qfi:=qe (fun k x=>qy2 k x.1 x.2.1) Tryz.func150 q7 mixed (by kernel_rfl) (by kernel_rfl) ⟨qgx,qoq,qco,q035,trivial⟩
theorem q032:FnOk Tryz.prog 45 qho:=qe (fun k x=>q033 k x.1 x.2.1) Tryz.func45 q7 mixed (by kernel_rfl) (by kernel_rfl) ⟨q98,q0ec,q0bw,q03l,q07m,q07o,q0ee,q0bs,qy1,trivial⟩
theorem q0cc:FnOk Tryz.prog 11 qm7:=qe (fun k x=>q0cd k x.1 x.2.1) Tryz.func11 q7 mixed (by kernel_rfl) (by kernel_rfl) ⟨q08a,qy4,q032,trivial⟩
theorem q0b:FnOk Tryz.prog 54 qy:=qe (fun k x=>q0a1 k x.1 x.2.1 x.2.2.1) Tryz.func54 q7 mixed (by kernel_rfl) (by kernel_rfl) trivial
theorem qgt:FnOk Tryz.prog 109 q5t:=qe (fun k x=>qwa k x.1) Tryz.func109 q7 mixed (by kernel_rfl) (by kernel_rfl) ⟨q0b,trivial⟩
theorem qgv:FnOk Tryz.prog 110 q5w:=qe (fun k x=>qwc k x.1) Tryz.func110 q7 mixed (by kernel_rfl) (by kernel_rfl) ⟨q0b,trivial⟩
theorem qfv:FnOk Tryz.prog 111 q5z:=qe (fun k x=>q056 k x.1) Tryz.func111 q7 mixed (by kernel_rfl) (by kernel_rfl) ⟨q0b,trivial⟩
theorem q83:FnOk Tryz.prog 218 q3f:=qe (fun k x=>q04i k x.1 x.2.1) Tryz.func218 q7 mixed (by kernel_rfl) (by kernel_rfl) trivial
theorem qll:FnOk Tryz.prog 112 q8r:=qe (fun k x=>q04y k x.1) Tryz.func112 q7 mixed (by kernel_rfl) (by kernel_rfl) ⟨q0b,q83,trivial⟩
theorem qiw:FnOk Tryz.prog 113 q7f:=qe (fun k x=>q002 k x.1) Tryz.func113 q7 mixed (by kernel_rfl) (by kernel_rfl) ⟨q0b,q83,trivial⟩
theorem qpr:FnOk Tryz.prog 219 qcj:=qe (fun k x=>q04v k x.1) Tryz.func219 q7 mixed (by kernel_rfl) (by kernel_rfl) ⟨q0b,trivial⟩
theorem q5v:FnOk Tryz.prog 114 q2p:=qe (fun k x=>q007 k x.1) Tryz.func114 q7 mixed (by kernel_rfl) (by kernel_rfl) ⟨qpr,trivial⟩
theorem qqa:FnOk Tryz.prog 115 qa4:=qe (fun k x=>qqb k x.1 x.2.1) Tryz.func115 q7 mixed (by kernel_rfl) (by kernel_rfl) ⟨q0b,trivial⟩
theorem qr4:FnOk Tryz.prog 220 qfu:=qe (fun k x=>q0a3 k x.1) Tryz.func220 q7 mixed (by kernel_rfl) (by kernel_rfl) ⟨q0b,trivial⟩
theorem qgs:FnOk Tryz.prog 221 q5s:=qe (fun k x=>qw9 k x.1) Tryz.func221 q7 mixed (by kernel_rfl) (by kernel_rfl) ⟨q0b,trivial⟩
theorem qt0:FnOk Tryz.prog 222 qcc:=qe (fun k x=>qt1 k x.1 x.2.1) Tryz.func222 q7 mixed (by kernel_rfl) (by kernel_rfl) trivial
theorem qvx:FnOk Tryz.prog 223 qel:=qe (fun k x=>qvy k x.1 x.2.1) Tryz.func223 q7 mixed (by kernel_rfl) (by kernel_rfl) ⟨q83,trivial⟩
theorem qit:FnOk Tryz.prog 224 q7e:=qe (fun k x=>qzr k x.1 x.2.1) Tryz.func224 q7 mixed (by kernel_rfl) (by kernel_rfl) trivial
theorem qt6:FnOk Tryz.prog 116 qcf:=qe (fun k x=>qt7 k x.1 x.2.1) Tryz.func116 q7 mixed (by kernel_rfl) (by kernel_rfl) ⟨q0b,q83,qr4,qgs,qt0,qvx,qit,trivial⟩
theorem qpt:FnOk Tryz.prog 31 qcl:=qe (fun k x=>q051 k x.1) Tryz.func31 q7 mixed (by kernel_rfl) (by kernel_rfl) ⟨q0b,qgt,qgv,qfv,qll,qiw,q5v,qqa,qt6,trivial⟩
theorem qgq:FnOk Tryz.prog 151 q5r:=qe (fun k x=>qw8 k x.1) Tryz.func151 q7 mixed (by kernel_rfl) (by kernel_rfl) trivial
theorem qcg:FnOk Tryz.prog 152 q56:=qe (fun k x=>qzs k x.1) Tryz.func152 q7 mixed (by kernel_rfl) (by kernel_rfl) trivial
theorem q8q:FnOk Tryz.prog 153 q3t:=qe (fun k x=>qzy k x.1) Tryz.func153 q7 mixed (by kernel_rfl) (by kernel_rfl) trivial
theorem q3d:FnOk Tryz.prog 46 q1d:=qe (fun k x=>qzj k x.1) Tryz.func46 q7 mixed (by kernel_rfl) (by kernel_rfl) ⟨qgq,qcg,q8q,trivial⟩
theorem q0a8:FnOk Tryz.prog 254 qlm:=qe (fun k x=>q0a9 k x.1) Tryz.func254 q7 mixed (by kernel_rfl) (by kernel_rfl) ⟨qfv,qgq,trivial⟩
theorem qzz:FnOk Tryz.prog 255 qgp:=qe (fun k x=>q000 k x.1) Tryz.func255 q7 mixed (by kernel_rfl) (by kernel_rfl) trivial
theorem qo3:FnOk Tryz.prog 309 qb3:=qe (fun k x=>qzv k x.1 x.2.1) Tryz.func309 q7 mixed (by kernel_rfl) (by kernel_rfl) trivial
theorem qw6:FnOk Tryz.prog 310 qep:=qe (fun k x=>qw7 k x.1 x.2.1 x.2.2.1) Tryz.func310 q7 mixed (by kernel_rfl) (by kernel_rfl) ⟨q83,trivial⟩
theorem qzw:FnOk Tryz.prog 256 qgo:=qe (fun k x=>qzx k x.1) Tryz.func256 q7 mixed (by kernel_rfl) (by kernel_rfl) ⟨q8q,qo3,qw6,trivial⟩
theorem qzc:FnOk Tryz.prog 154 qgk:=qe (fun k x=>qzd k x.1) Tryz.func154 q7 mixed (by kernel_rfl) (by kernel_rfl) ⟨q3d,q0a8,qzz,qzw,trivial⟩
theorem qr7:FnOk Tryz.prog 311 qbe:=qe (fun k x=>qr8 k x.1) Tryz.func311 q7 mixed (by kernel_rfl) (by kernel_rfl) ⟨qfv,trivial⟩
theorem q0ab:FnOk Tryz.prog 257 qln:=qe (fun k x=>q0ac k x.1 x.2.1 x.2.2.1) Tryz.func257 q7 mixed (by kernel_rfl) (by kernel_rfl) ⟨q0b,qfv,qgq,qr7,trivial⟩
theorem qvz:FnOk Tryz.prog 155 qem:=qe (fun k x=>qw0 k x.1 x.2.1) Tryz.func155 q7 mixed (by kernel_rfl) (by kernel_rfl) ⟨q3d,q0b,qr4,q0ab,trivial⟩
theorem q09w:FnOk Tryz.prog 258 qlh:=qe (fun k x=>q09x k x.1 x.2.1) Tryz.func258 q7 mixed (by kernel_rfl) (by kernel_rfl) trivial
theorem qzm:FnOk Tryz.prog 259 qgm:=qe (fun k x=>qzn k x.1 x.2.1) Tryz.func259 q7 mixed (by kernel_rfl) (by kernel_rfl) trivial
theorem q00a:FnOk Tryz.prog 156 qgw:=qe (fun k x=>q00b k x.1 x.2.1) Tryz.func156 q7 mixed (by kernel_rfl) (by kernel_rfl) ⟨q5v,qpr,q09w,qzm,trivial⟩
theorem q0dc:FnOk Tryz.prog 55 qmy:=qe (fun k x=>q0dd k x.1) Tryz.func55 q7 mixed (by kernel_rfl) (by kernel_rfl) ⟨q5v,trivial⟩
theorem qt9:FnOk Tryz.prog 14 qcm:=qe (fun k x=>qta k x.1 x.2.1) Tryz.func14 q7 mixed (by kernel_rfl) (by kernel_rfl) ⟨qpt,q0b,q0dc,trivial⟩
theorem qo2:FnOk Tryz.prog 260 qb2:=qe (fun k x=>qzi k x.1 x.2.1) Tryz.func260 q7 mixed (by kernel_rfl) (by kernel_rfl) ⟨q8q,trivial⟩
theorem q005:FnOk Tryz.prog 312 qgu:=qe (fun k x=>q006 k x.1 x.2.1) Tryz.func312 q7 mixed (by kernel_rfl) (by kernel_rfl) ⟨q5v,trivial⟩
theorem q058:FnOk Tryz.prog 313 qj6:=qe (fun k x=>q059 k x.1 x.2.1 x.2.2.1) Tryz.func313 q7 mixed (by kernel_rfl) (by kernel_rfl) ⟨q5v,trivial⟩
theorem q04s:FnOk Tryz.prog 314 qj0:=qe (fun k x=>q04t k x.1 x.2.1 x.2.2.1) Tryz.func314 q7 mixed (by kernel_rfl) (by kernel_rfl) ⟨q5v,trivial⟩
theorem q04w:FnOk Tryz.prog 261 qj2:=qe (fun k x=>q04x k x.1 x.2.1 x.2.2.1) Tryz.func261 q7 mixed (by kernel_rfl) (by kernel_rfl) ⟨q005,q058,q04s,trivial⟩
theorem qnl:FnOk Tryz.prog 315 q9i:=qe (fun k x=>qwb k x.1) Tryz.func315 q7 mixed (by kernel_rfl) (by kernel_rfl) ⟨q0b,trivial⟩
theorem qw2:FnOk Tryz.prog 352 qen:=qe (fun k x=>qw3 k x.1 x.2.1 x.2.2.1) Tryz.func352 q7 mixed (by kernel_rfl) (by kernel_rfl) trivial
theorem qzo:FnOk Tryz.prog 353 qgn:=qe (fun k x=>qzp k x.1 x.2.1) Tryz.func353 q7 mixed (by kernel_rfl) (by kernel_rfl) trivial
theorem qwd:FnOk Tryz.prog 316 qer:=qe (fun k x=>qwe k x.1 x.2.1) Tryz.func316 q7 mixed (by kernel_rfl) (by kernel_rfl) ⟨qgv,qnl,qw2,qzo,trivial⟩
theorem q04o:FnOk Tryz.prog 262 qiy:=qe (fun k x=>q04p k x.1 x.2.1) Tryz.func262 q7 mixed (by kernel_rfl) (by kernel_rfl) ⟨qgv,qnl,qwd,trivial⟩
theorem qt2:FnOk Tryz.prog 157 qcd:=qe (fun k x=>qt3 k x.1 x.2.1) Tryz.func157 q0k3 mixed (by kernel_rfl) (by kernel_rfl) ⟨qt9,q3d,qo2,q04w,q04o,trivial⟩
theorem q052:FnOk Tryz.prog 317 qj4:=qe (fun k x=>q053 k x.1 x.2.1 x.2.2.1) Tryz.func317 q7 mixed (by kernel_rfl) (by kernel_rfl) ⟨q0b,qgt,qgs,trivial⟩
theorem q054:FnOk Tryz.prog 263 qj5:=qe (fun k x=>q055 k x.1 x.2.1 x.2.2.1 x.2.2.2.1) Tryz.func263 q7 mixed (by kernel_rfl) (by kernel_rfl) ⟨q0b,qgt,qgs,q052,trivial⟩
theorem qt4:FnOk Tryz.prog 158 qce:=qe (fun k x=>qt5 k x.1 x.2.1 x.2.2.1) Tryz.func158 q7 mixed (by kernel_rfl) (by kernel_rfl) ⟨q3d,q054,trivial⟩
theorem q003:FnOk Tryz.prog 318 qgr:=qe (fun k x=>q004 k x.1 x.2.1 x.2.2.1) Tryz.func318 q0k3 mixed (by kernel_rfl) (by kernel_rfl) ⟨qll,q8q,trivial⟩
theorem q04k:FnOk Tryz.prog 354 qiv:=qe (fun k x=>q04l k x.1 x.2.1) Tryz.func354 q7 mixed (by kernel_rfl) (by kernel_rfl) ⟨q0b,qll,qo3,trivial⟩
theorem q09z:FnOk Tryz.prog 355 qlj:=qe (fun k x=>q0a0 k x.1 x.2.1) Tryz.func355 q7 mixed (by kernel_rfl) (by kernel_rfl) ⟨q83,trivial⟩
theorem q04z:FnOk Tryz.prog 319 qj3:=qe (fun k x=>q050 k x.1 x.2.1 x.2.2.1) Tryz.func319 q7 mixed (by kernel_rfl) (by kernel_rfl) ⟨q8q,q04k,q09z,trivial⟩
theorem qo1:FnOk Tryz.prog 264 qb1:=qe (fun k x=>qzg k x.1 x.2.1) Tryz.func264 q7 mixed (by kernel_rfl) (by kernel_rfl) ⟨q3d,q003,q04z,trivial⟩
theorem qw4:FnOk Tryz.prog 356 qeo:=qe (fun k x=>qw5 k x.1) Tryz.func356 q7 mixed (by kernel_rfl) (by kernel_rfl) trivial
theorem qo8:FnOk Tryz.prog 320 qb5:=qe (fun k x=>q008 k x.1 x.2.1 x.2.2.1) Tryz.func320 q7 mixed (by kernel_rfl) (by kernel_rfl) ⟨q0b,qiw,qw4,trivial⟩
theorem q04q:FnOk Tryz.prog 265 qiz:=qe (fun k x=>q04r k x.1 x.2.1 x.2.2.1) Tryz.func265 q7 mixed (by kernel_rfl) (by kernel_rfl) ⟨qcg,qit,qo8,trivial⟩
theorem qze:FnOk Tryz.prog 159 qgl:=qe (fun k x=>qzf k x.1 x.2.1) Tryz.func159 q7 mixed (by kernel_rfl) (by kernel_rfl) ⟨q3d,qo1,q04q,trivial⟩
theorem q04f:FnOk Tryz.prog 321 qis:=qe (fun k x=>q04g k x.1 x.2.1 x.2.2.1) Tryz.func321 q7 mixed (by kernel_rfl) (by kernel_rfl) ⟨qcg,trivial⟩
theorem qo4:FnOk Tryz.prog 266 qb4:=qe (fun k x=>q001 k x.1 x.2.1) Tryz.func266 q7 mixed (by kernel_rfl) (by kernel_rfl) ⟨qiw,qcg,qit,qo8,q04f,trivial⟩
theorem qvt:FnOk Tryz.prog 160 qek:=qe (fun k x=>qvu k x.1 x.2.1) Tryz.func160 q7 mixed (by kernel_rfl) (by kernel_rfl) ⟨qo1,qo4,trivial⟩
theorem qsy:FnOk Tryz.prog 161 qcb:=qe (fun k x=>qsz k x.1 x.2.1) Tryz.func161 q7 mixed (by kernel_rfl) (by kernel_rfl) ⟨q3d,q0b,qo2,qo4,trivial⟩
theorem q09u:FnOk Tryz.prog 47 qlg:=qe (fun k x=>q09v k x.1 x.2.1) Tryz.func47 q7 mixed (by kernel_rfl) (by kernel_rfl) ⟨q0b,qzc,qvz,q00a,qt2,qt4,qze,qvt,qsy,trivial⟩
theorem q0af:FnOk Tryz.prog 12 qlo:=qe (fun k x=>q0ag k x.1 x.2.1) Tryz.func12 q7 mixed (by kernel_rfl) (by kernel_rfl) ⟨qpt,q3d,q09u,trivial⟩
theorem qg3:FnOk Tryz.prog 195 q63:=qe (fun k x=>q06c k x.1 x.2.1) Tryz.func195 q7 mixed (by kernel_rfl) (by kernel_rfl) trivial
theorem qwv:FnOk Tryz.prog 82 qez:=qe (fun k x=>qww k x.1 x.2.1) Tryz.func82 q7 mixed (by kernel_rfl) (by kernel_rfl) ⟨qg3,trivial⟩
theorem q01x:FnOk Tryz.prog 196 qhc:=qe (fun k x=>q01y k x.1 x.2.1) Tryz.func196 q7 mixed (by kernel_rfl) (by kernel_rfl) trivial
theorem q06h:FnOk Tryz.prog 83 qjp:=qe (fun k x=>q06i k x.1 x.2.1) Tryz.func83 q7 mixed (by kernel_rfl) (by kernel_rfl) ⟨q01x,trivial⟩
theorem q020:FnOk Tryz.prog 278 qhd:=qe (fun k x=>q021 k x.1 x.2.1) Tryz.func278 q7 mixed (by kernel_rfl) (by kernel_rfl) ⟨qg3,trivial⟩
theorem qx0:FnOk Tryz.prog 197 qf1:=qe (fun k x=>qx1 k x.1 x.2.1) Tryz.func197 q7 mixed (by kernel_rfl) (by kernel_rfl) ⟨q020,trivial⟩
theorem q064:FnOk Tryz.prog 279 qjm:=qe (fun k x=>q065 k x.1 x.2.1) Tryz.func279 q7 mixed (by kernel_rfl) (by kernel_rfl) ⟨qg3,trivial⟩
theorem q01n:FnOk Tryz.prog 198 qh8:=qe (fun k x=>q01o k x.1 x.2.1) Tryz.func198 q7 mixed (by kernel_rfl) (by kernel_rfl) ⟨q064,trivial⟩
theorem q068:FnOk Tryz.prog 84 qjn:=qe (fun k x=>q069 k x.1 x.2.1) Tryz.func84 q7 mixed (by kernel_rfl) (by kernel_rfl) ⟨qg3,qx0,q01n,trivial⟩
theorem q01v:FnOk Tryz.prog 280 qhb:=qe (fun k x=>q01w k x.1 x.2.1) Tryz.func280 q7 mixed (by kernel_rfl) (by kernel_rfl) trivial
theorem qwx:FnOk Tryz.prog 199 qf0:=qe (fun k x=>qwy k x.1 x.2.1) Tryz.func199 q7 mixed (by kernel_rfl) (by kernel_rfl) ⟨q01v,trivial⟩
theorem q01p:FnOk Tryz.prog 85 qh9:=qe (fun k x=>q01q k x.1 x.2.1) Tryz.func85 q7 mixed (by kernel_rfl) (by kernel_rfl) ⟨qwx,trivial⟩
theorem q01s:FnOk Tryz.prog 86 qha:=qe (fun k x=>q01t k x.1 x.2.1) Tryz.func86 q7 mixed (by kernel_rfl) (by kernel_rfl) trivial
theorem qtn:FnOk Tryz.prog 87 qd7:=qe (fun k x=>qto k x.1 x.2.1) Tryz.func87 q7 mixed (by kernel_rfl) (by kernel_rfl) trivial
theorem q022:FnOk Tryz.prog 88 qhe:=qe (fun k x=>q023 k x.1 x.2.1) Tryz.func88 q7 mixed (by kernel_rfl) (by kernel_rfl) trivial
theorem q06d:FnOk Tryz.prog 24 qjo:=qe (fun k x=>q06e k x.1 x.2.1) Tryz.func24 q7 mixed (by kernel_rfl) (by kernel_rfl) ⟨qwv,q06h,q068,q01p,q01s,qtn,q022,trivial⟩
theorem qfy:FnOk Tryz.prog 200 q62:=qe (fun k x=>q05u k x.1) Tryz.func200 q7 mixed (by kernel_rfl) (by kernel_rfl) trivial
theorem qwj:FnOk Tryz.prog 89 qeu:=qe (fun k x=>qwk k x.1) Tryz.func89 q7 mixed (by kernel_rfl) (by kernel_rfl) ⟨qfy,trivial⟩
theorem qwl:FnOk Tryz.prog 90 qev:=qe (fun k x=>qwm k x.1) Tryz.func90 q7 mixed (by kernel_rfl) (by kernel_rfl) trivial
theorem q05s:FnOk Tryz.prog 281 qji:=qe (fun k x=>q05t k x.1) Tryz.func281 q7 mixed (by kernel_rfl) (by kernel_rfl) trivial
theorem q01f:FnOk Tryz.prog 201 qh5:=qe (fun k x=>q01g k x.1) Tryz.func201 q7 mixed (by kernel_rfl) (by kernel_rfl) ⟨q05s,trivial⟩
theorem q061:FnOk Tryz.prog 91 qjl:=qe (fun k x=>q062 k x.1) Tryz.func91 q7 mixed (by kernel_rfl) (by kernel_rfl) ⟨q01f,trivial⟩
theorem q01j:FnOk Tryz.prog 282 qh6:=qe (fun k x=>q01k k x.1) Tryz.func282 q7 mixed (by kernel_rfl) (by kernel_rfl) ⟨qfy,trivial⟩
theorem qwt:FnOk Tryz.prog 202 qey:=qe (fun k x=>qwu k x.1) Tryz.func202 q7 mixed (by kernel_rfl) (by kernel_rfl) ⟨q01j,trivial⟩
theorem q05h:FnOk Tryz.prog 283 qje:=qe (fun k x=>q05i k x.1) Tryz.func283 q7 mixed (by kernel_rfl) (by kernel_rfl) ⟨qfy,trivial⟩
theorem q014:FnOk Tryz.prog 203 qh1:=qe (fun k x=>q015 k x.1) Tryz.func203 q7 mixed (by kernel_rfl) (by kernel_rfl) ⟨q05h,trivial⟩
theorem q05m:FnOk Tryz.prog 92 qjg:=qe (fun k x=>q05n k x.1) Tryz.func92 q7 mixed (by kernel_rfl) (by kernel_rfl) ⟨qfy,qwt,q014,trivial⟩
theorem q05p:FnOk Tryz.prog 335 qjh:=qe (fun k x=>q05q k x.1) Tryz.func335 q7 mixed (by kernel_rfl) (by kernel_rfl) trivial
theorem q01d:FnOk Tryz.prog 284 qh4:=qe (fun k x=>q01e k x.1) Tryz.func284 q7 mixed (by kernel_rfl) (by kernel_rfl) ⟨q05p,trivial⟩
theorem qwn:FnOk Tryz.prog 204 qew:=qe (fun k x=>qwo k x.1) Tryz.func204 q7 mixed (by kernel_rfl) (by kernel_rfl) ⟨q01d,trivial⟩
theorem q016:FnOk Tryz.prog 93 qh2:=qe (fun k x=>q017 k x.1) Tryz.func93 q7 mixed (by kernel_rfl) (by kernel_rfl) ⟨qwn,trivial⟩
theorem qpv:FnOk Tryz.prog 118 qcy:=qe (fun k x=>q05l k x.1) Tryz.func118 q7 mixed (by kernel_rfl) (by kernel_rfl) trivial
theorem q019:FnOk Tryz.prog 94 qh3:=qe (fun k x=>q01a k x.1) Tryz.func94 q7 mixed (by kernel_rfl) (by kernel_rfl) ⟨qpv,trivial⟩
theorem qwq:FnOk Tryz.prog 205 qex:=qe (fun k x=>qwr k x.1) Tryz.func205 q7 mixed (by kernel_rfl) (by kernel_rfl) trivial
theorem qtj:FnOk Tryz.prog 95 qd2:=qe (fun k x=>qtk k x.1) Tryz.func95 q7 mixed (by kernel_rfl) (by kernel_rfl) ⟨qwq,trivial⟩
theorem qrg:FnOk Tryz.prog 117 qfx:=qe (fun k x=>q0ay k x.1) Tryz.func117 q7 mixed (by kernel_rfl) (by kernel_rfl) trivial
theorem qwh:FnOk Tryz.prog 285 qet:=qe (fun k x=>qwi k x.1) Tryz.func285 q7 mixed (by kernel_rfl) (by kernel_rfl) trivial
theorem q05z:FnOk Tryz.prog 206 qjk:=qe (fun k x=>q060 k x.1) Tryz.func206 q7 mixed (by kernel_rfl) (by kernel_rfl) ⟨qrg,qwh,trivial⟩
theorem q01l:FnOk Tryz.prog 96 qh7:=qe (fun k x=>q01m k x.1) Tryz.func96 q7 mixed (by kernel_rfl) (by kernel_rfl) ⟨q05z,trivial⟩
theorem q05v:FnOk Tryz.prog 25 qjj:=qe (fun k x=>q05w k x.1) Tryz.func25 q7 mixed (by kernel_rfl) (by kernel_rfl) ⟨qwj,qwl,q061,q05m,q016,q019,qtj,q01l,trivial⟩
theorem qg6:FnOk Tryz.prog 207 q6a:=qe (fun k x=>q06y k x.1 x.2.1) Tryz.func207 q7 mixed (by kernel_rfl) (by kernel_rfl) trivial
theorem qxn:FnOk Tryz.prog 97 qf9:=qe (fun k x=>qxo k x.1 x.2.1) Tryz.func97 q7 mixed (by kernel_rfl) (by kernel_rfl) ⟨qg6,trivial⟩
theorem qxp:FnOk Tryz.prog 98 qfa:=qe (fun k x=>qxq k x.1 x.2.1) Tryz.func98 q7 mixed (by kernel_rfl) (by kernel_rfl) trivial
theorem q06w:FnOk Tryz.prog 286 qju:=qe (fun k x=>q06x k x.1 x.2.1) Tryz.func286 q7 mixed (by kernel_rfl) (by kernel_rfl) trivial
theorem q02g:FnOk Tryz.prog 208 qhj:=qe (fun k x=>q02h k x.1 x.2.1) Tryz.func208 q7 mixed (by kernel_rfl) (by kernel_rfl) ⟨q06w,trivial⟩
theorem q075:FnOk Tryz.prog 99 qjx:=qe (fun k x=>q076 k x.1 x.2.1) Tryz.func99 q7 mixed (by kernel_rfl) (by kernel_rfl) ⟨q02g,trivial⟩
theorem q02k:FnOk Tryz.prog 287 qhk:=qe (fun k x=>q02l k x.1 x.2.1) Tryz.func287 q7 mixed (by kernel_rfl) (by kernel_rfl) ⟨qg6,trivial⟩
theorem qxw:FnOk Tryz.prog 209 qfd:=qe (fun k x=>qxx k x.1 x.2.1) Tryz.func209 q7 mixed (by kernel_rfl) (by kernel_rfl) ⟨q02k,trivial⟩
theorem q06k:FnOk Tryz.prog 288 qjq:=qe (fun k x=>q06l k x.1 x.2.1) Tryz.func288 q7 mixed (by kernel_rfl) (by kernel_rfl) ⟨qg6,trivial⟩
theorem q024:FnOk Tryz.prog 210 qhf:=qe (fun k x=>q025 k x.1 x.2.1) Tryz.func210 q7 mixed (by kernel_rfl) (by kernel_rfl) ⟨q06k,trivial⟩
theorem q06q:FnOk Tryz.prog 100 qjs:=qe (fun k x=>q06r k x.1 x.2.1) Tryz.func100 q7 mixed (by kernel_rfl) (by kernel_rfl) ⟨qg6,qxw,q024,trivial⟩
theorem q06t:FnOk Tryz.prog 336 qjt:=qe (fun k x=>q06u k x.1 x.2.1) Tryz.func336 q7 mixed (by kernel_rfl) (by kernel_rfl) trivial
theorem q02e:FnOk Tryz.prog 289 qhi:=qe (fun k x=>q02f k x.1 x.2.1) Tryz.func289 q7 mixed (by kernel_rfl) (by kernel_rfl) ⟨q06t,trivial⟩
theorem qxr:FnOk Tryz.prog 211 qfb:=qe (fun k x=>qxs k x.1 x.2.1) Tryz.func211 q7 mixed (by kernel_rfl) (by kernel_rfl) ⟨q02e,trivial⟩
theorem q026:FnOk Tryz.prog 101 qhg:=qe (fun k x=>q027 k x.1 x.2.1) Tryz.func101 q7 mixed (by kernel_rfl) (by kernel_rfl) ⟨qxr,trivial⟩
theorem q06o:FnOk Tryz.prog 212 qjr:=qe (fun k x=>q06p k x.1 x.2.1) Tryz.func212 q7 mixed (by kernel_rfl) (by kernel_rfl) trivial
theorem q02a:FnOk Tryz.prog 102 qhh:=qe (fun k x=>q02b k x.1 x.2.1) Tryz.func102 q7 mixed (by kernel_rfl) (by kernel_rfl) ⟨q06o,trivial⟩
theorem qxu:FnOk Tryz.prog 213 qfc:=qe (fun k x=>qxv k x.1 x.2.1) Tryz.func213 q7 mixed (by kernel_rfl) (by kernel_rfl) trivial
theorem quf:FnOk Tryz.prog 103 qdu:=qe (fun k x=>qug k x.1 x.2.1) Tryz.func103 q7 mixed (by kernel_rfl) (by kernel_rfl) ⟨qxu,trivial⟩
theorem q0bb:FnOk Tryz.prog 235 qlz:=qe (fun k x=>q0bc k x.1 x.2.1) Tryz.func235 q7 mixed (by kernel_rfl) (by kernel_rfl) trivial
theorem qxl:FnOk Tryz.prog 290 qf8:=qe (fun k x=>qxm k x.1 x.2.1) Tryz.func290 q7 mixed (by kernel_rfl) (by kernel_rfl) trivial
theorem q073:FnOk Tryz.prog 214 qjw:=qe (fun k x=>q074 k x.1 x.2.1) Tryz.func214 q7 mixed (by kernel_rfl) (by kernel_rfl) ⟨q0bb,qxl,trivial⟩
theorem q02m:FnOk Tryz.prog 104 qhl:=qe (fun k x=>q02n k x.1 x.2.1) Tryz.func104 q7 mixed (by kernel_rfl) (by kernel_rfl) ⟨q073,trivial⟩
theorem q06z:FnOk Tryz.prog 26 qjv:=qe (fun k x=>q070 k x.1 x.2.1) Tryz.func26 q7 mixed (by kernel_rfl) (by kernel_rfl) ⟨qxn,qxp,q075,q06q,q026,q02a,quf,q02m,trivial⟩
theorem qtl:FnOk Tryz.prog 32 qd4:=qe (fun k x=>qtm k x.1) Tryz.func32 q7 mixed (by kernel_rfl) (by kernel_rfl) ⟨qrg,qpv,trivial⟩
theorem qb9:FnOk Tryz.prog 225 q4g:=qe (fun k x=>qx8 k x.1 x.2.1) Tryz.func225 q7 mixed (by kernel_rfl) (by kernel_rfl) trivial
theorem qrh:FnOk Tryz.prog 119 qbh:=qe (fun k x=>qri k x.1 x.2.1) Tryz.func119 q7 mixed (by kernel_rfl) (by kernel_rfl) ⟨qb9,trivial⟩
theorem qty:FnOk Tryz.prog 226 qdd:=qe (fun k x=>qtz k x.1 x.2.1) Tryz.func226 q7 mixed (by kernel_rfl) (by kernel_rfl) trivial
theorem qxc:FnOk Tryz.prog 120 qf4:=qe (fun k x=>qxd k x.1 x.2.1) Tryz.func120 q7 mixed (by kernel_rfl) (by kernel_rfl) ⟨qty,trivial⟩
theorem qrm:FnOk Tryz.prog 227 qbj:=qe (fun k x=>qrn k x.1 x.2.1) Tryz.func227 q7 mixed (by kernel_rfl) (by kernel_rfl) ⟨qb9,trivial⟩
theorem qtp:FnOk Tryz.prog 228 qd8:=qe (fun k x=>qtq k x.1 x.2.1) Tryz.func228 q7 mixed (by kernel_rfl) (by kernel_rfl) ⟨qb9,trivial⟩
theorem qx4:FnOk Tryz.prog 121 qf2:=qe (fun k x=>qx5 k x.1 x.2.1) Tryz.func121 q7 mixed (by kernel_rfl) (by kernel_rfl) ⟨qb9,qrm,qtp,trivial⟩
theorem qtw:FnOk Tryz.prog 291 qdc:=qe (fun k x=>qtx k x.1 x.2.1) Tryz.func291 q7 mixed (by kernel_rfl) (by kernel_rfl) trivial
theorem qrj:FnOk Tryz.prog 229 qbi:=qe (fun k x=>qrk k x.1 x.2.1) Tryz.func229 q7 mixed (by kernel_rfl) (by kernel_rfl) ⟨qtw,trivial⟩
theorem qtr:FnOk Tryz.prog 122 qd9:=qe (fun k x=>qts k x.1 x.2.1) Tryz.func122 q7 mixed (by kernel_rfl) (by kernel_rfl) ⟨qrj,trivial⟩
theorem qtt:FnOk Tryz.prog 123 qda:=qe (fun k x=>qtu k x.1 x.2.1) Tryz.func123 q7 mixed (by kernel_rfl) (by kernel_rfl) trivial
theorem qqh:FnOk Tryz.prog 124 qa8:=qe (fun k x=>qqi k x.1 x.2.1) Tryz.func124 q7 mixed (by kernel_rfl) (by kernel_rfl) trivial
theorem qu1:FnOk Tryz.prog 125 qdf:=qe (fun k x=>qu2 k x.1 x.2.1) Tryz.func125 q7 mixed (by kernel_rfl) (by kernel_rfl) trivial
theorem qx9:FnOk Tryz.prog 33 qf3:=qe (fun k x=>qxa k x.1 x.2.1) Tryz.func33 q7 mixed (by kernel_rfl) (by kernel_rfl) ⟨qrh,qxc,qx4,qtr,qtt,qqh,qu1,trivial⟩
theorem qbb:FnOk Tryz.prog 230 q4h:=qe (fun k x=>qxg k x.1 x.2.1) Tryz.func230 q7 mixed (by kernel_rfl) (by kernel_rfl) trivial
theorem qro:FnOk Tryz.prog 126 qbk:=qe (fun k x=>qrp k x.1 x.2.1) Tryz.func126 q7 mixed (by kernel_rfl) (by kernel_rfl) ⟨qbb,trivial⟩
theorem qub:FnOk Tryz.prog 231 qdm:=qe (fun k x=>quc k x.1 x.2.1) Tryz.func231 q7 mixed (by kernel_rfl) (by kernel_rfl) trivial
theorem qxj:FnOk Tryz.prog 127 qf7:=qe (fun k x=>qxk k x.1 x.2.1) Tryz.func127 q7 mixed (by kernel_rfl) (by kernel_rfl) ⟨qub,trivial⟩
theorem qrs:FnOk Tryz.prog 232 qbm:=qe (fun k x=>qrt k x.1 x.2.1) Tryz.func232 q7 mixed (by kernel_rfl) (by kernel_rfl) ⟨qbb,trivial⟩
theorem qu3:FnOk Tryz.prog 233 qdh:=qe (fun k x=>qu4 k x.1 x.2.1) Tryz.func233 q7 mixed (by kernel_rfl) (by kernel_rfl) ⟨qbb,trivial⟩
theorem qxe:FnOk Tryz.prog 128 qf5:=qe (fun k x=>qxf k x.1 x.2.1) Tryz.func128 q7 mixed (by kernel_rfl) (by kernel_rfl) ⟨qbb,qrs,qu3,trivial⟩
theorem qu9:FnOk Tryz.prog 292 qdl:=qe (fun k x=>qua k x.1 x.2.1) Tryz.func292 q7 mixed (by kernel_rfl) (by kernel_rfl) trivial
theorem qrq:FnOk Tryz.prog 234 qbl:=qe (fun k x=>qrr k x.1 x.2.1) Tryz.func234 q7 mixed (by kernel_rfl) (by kernel_rfl) ⟨qu9,trivial⟩
theorem qu5:FnOk Tryz.prog 129 qdi:=qe (fun k x=>qu6 k x.1 x.2.1) Tryz.func129 q7 mixed (by kernel_rfl) (by kernel_rfl) ⟨qrq,trivial⟩
theorem qu7:FnOk Tryz.prog 130 qdj:=qe (fun k x=>qu8 k x.1 x.2.1) Tryz.func130 q7 mixed (by kernel_rfl) (by kernel_rfl) trivial
theorem qqj:FnOk Tryz.prog 131 qa9:=qe (fun k x=>qqk k x.1 x.2.1) Tryz.func131 q7 mixed (by kernel_rfl) (by kernel_rfl) trivial
theorem qud:FnOk Tryz.prog 132 qdn:=qe (fun k x=>que k x.1 x.2.1) Tryz.func132 q7 mixed (by kernel_rfl) (by kernel_rfl) trivial
theorem qxh:FnOk Tryz.prog 34 qf6:=qe (fun k x=>qxi k x.1 x.2.1) Tryz.func34 q7 mixed (by kernel_rfl) (by kernel_rfl) ⟨qro,qxj,qxe,qu5,qu7,qqj,qud,trivial⟩
end Go.Proofs.YtpmjopbgccajgaaGreat.Eng
