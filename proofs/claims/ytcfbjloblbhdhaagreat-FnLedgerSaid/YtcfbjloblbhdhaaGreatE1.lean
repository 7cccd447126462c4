/- The pure functions are what the evaluator computes of the program's code. By a program of this session. No condition. -/
import Derived.Test.YtcfbjloblbhdhaaGreatD
import Derived.Test.YtcfbjloblbhdhaaGreatProg
import Derived.KernelRfl
namespace Go.Proofs.YtcfbjloblbhdhaaGreat.Eng
open Go.Proofs
set_option linter.unusedVariables false
set_option maxRecDepth 100000 in
theorem laws_big.eq (k:Nat) (x0:List (Int×Unit)):evFn tabO false [] [] Tryz.f5 laws_big.sig k (x0,())=laws_big.f k x0:=by kernel_rfl
set_option maxRecDepth 100000 in
theorem spec_l01Byte.eq (k:Nat) (x0:(List (Int×Unit)×Int×Int×Unit)):evFn tabO false [] [⟨12,[],[⟨.slot 3,⟨false,0⟩,(.int .i64)⟩,⟨.cell 0 1,⟨false,0⟩,(.int .i64)⟩]⟩] Tryz.f87 spec_l01Byte.sig k (x0,())=spec_l01Byte.f k x0:=by kernel_rfl
set_option maxRecDepth 100000 in
theorem spec_l01Below.eq (k:Nat) (x0:(List (Int×Unit)×Int×Int×Unit)) (x1:Int):evFn tabO false [(87,.sig spec_l01Byte.sig)] [] Tryz.f25 spec_l01Below.sig k (x0,x1,())=spec_l01Below.f k x0 x1:=by kernel_rfl
set_option maxRecDepth 100000 in
theorem spec_l01PickInt.eq (k:Nat) (x0:(List (Int×Unit)×Int×Int×Unit)) (x1:List (Int×Unit)):evFn tabO false [(25,.sig spec_l01Below.sig)] [] Tryz.f60 spec_l01PickInt.sig k (x0,x1,())=spec_l01PickInt.f k x0 x1:=by kernel_rfl
set_option maxRecDepth 100000 in
theorem spec_l07Limits.eq (k:Nat) (x0:(List (Int×Unit)×Int×Int×Unit)):evFn tabO false [(25,.sig spec_l01Below.sig),(60,.sig spec_l01PickInt.sig)] [] Tryz.f86 spec_l07Limits.sig k (x0,())=spec_l07Limits.f k x0:=by kernel_rfl
set_option maxRecDepth 100000 in
theorem spec_l09New.eq (k:Nat) (x0:(List (Int×Unit)×Int×Int×Unit)):evFn tabO false [(25,.sig spec_l01Below.sig),(86,.sig spec_l07Limits.sig)] [⟨23,[],[⟨.cell 0 0,⟨false,0⟩,(.slice K5)⟩,⟨.cell 0 1,⟨false,0⟩,(.int .i64)⟩,⟨.cell 0 2,⟨false,0⟩,(.int .i64)⟩,⟨.cell 3 15,⟨false,2⟩,(.slice K86)⟩,⟨.slot 6,⟨false,0⟩,(.int .i64)⟩]⟩,⟨10,[],[⟨.cell 0 0,⟨false,0⟩,(.slice K5)⟩,⟨.cell 0 1,⟨false,0⟩,(.int .i64)⟩,⟨.cell 0 2,⟨false,0⟩,(.int .i64)⟩,⟨.cell 3 8,⟨false,2⟩,(.slice K2)⟩,⟨.cell 3 9,⟨false,0⟩,(.int .i64)⟩,⟨.cell 3 10,⟨false,2⟩,(.slice K135)⟩,⟨.cell 3 11,⟨false,2⟩,(.slice K151)⟩]⟩,⟨13,[],[⟨.cell 0 0,⟨false,0⟩,(.slice K5)⟩,⟨.cell 0 1,⟨false,0⟩,(.int .i64)⟩,⟨.cell 0 2,⟨false,0⟩,(.int .i64)⟩,⟨.cell 3 10,⟨false,2⟩,(.slice K135)⟩,⟨.slot 5,⟨false,0⟩,(.int .i64)⟩]⟩] Tryz.f24 spec_l09New.sig k (x0,())=spec_l09New.f k x0:=by kernel_rfl
set_option maxRecDepth 100000 in
theorem spec_l01In.eq (k:Nat) (x0:Int) (x1:Int) (x2:Int):evFn tabO false [] [] Tryz.f41 spec_l01In.sig k (x0,x1,x2,())=spec_l01In.f k x0 x1 x2:=by kernel_rfl
set_option maxRecDepth 100000 in
theorem spec_l02Fresh.eq (k:Nat) (x0:(Int×Int×Bool×List (Int×Int×Int×Unit)×Unit)):evFn tabO false [] [] Tryz.f94 spec_l02Fresh.sig k (x0,())=spec_l02Fresh.f k x0:=by kernel_rfl
set_option maxRecDepth 100000 in
theorem spec_l06Copy.eq (k:Nat) (x0:(Int×List (List (Int×Int×Unit)×Unit)×Unit)):evFn tabO false [] [⟨7,[],[⟨.slot 3,⟨false,2⟩,(.slice K90)⟩,⟨.slot 4,⟨false,0⟩,(.int .i64)⟩]⟩] Tryz.f95 spec_l06Copy.sig k (x0,())=spec_l06Copy.f k x0:=by kernel_rfl
set_option maxRecDepth 100000 in
theorem spec_l05Copy.eq (k:Nat) (x0:(List (Int×Unit)×Int×List (Int×Int×List (Int×Unit)×Unit)×List (Int×List (Int×Unit)×Unit)×Unit)):evFn tabO false [] [⟨25,[],[⟨.slot 6,⟨false,2⟩,(.slice K151)⟩,⟨.slot 7,⟨false,0⟩,(.int .i64)⟩]⟩,⟨9,[],[⟨.slot 3,⟨false,2⟩,(.slice K135)⟩,⟨.slot 4,⟨false,0⟩,(.int .i64)⟩]⟩] Tryz.f96 spec_l05Copy.sig k (x0,())=spec_l05Copy.f k x0:=by kernel_rfl
set_option maxRecDepth 100000 in
theorem spec_l09Copy.eq (k:Nat) (x0:(Int×List (Int×Unit)×Int×Int×Int×Int×Bool×List (Int×Int×Int×Unit)×List (Int×Unit)×Int×List (Int×Int×List (Int×Unit)×Unit)×List (Int×List (Int×Unit)×Unit)×Int×List (List (Int×Int×Unit)×Unit)×List (Int×Int×Int×Int×Int×Unit)×List (Int×Int×Int×Bool×Int×Unit)×List (Int×Int×Int×Int×Int×Int×Int×Int×Int×Int×Unit)×Unit)):evFn tabO false [(94,.sig spec_l02Fresh.sig),(95,.sig spec_l06Copy.sig),(96,.sig spec_l05Copy.sig)] [] Tryz.f27 spec_l09Copy.sig k (x0,())=spec_l09Copy.f k x0:=by kernel_rfl
set_option maxRecDepth 100000 in
theorem spec_BeltOk.eq (k:Nat) (x0:(Int×Int×Bool×List (Int×Int×Int×Unit)×Unit)):evFn tabO false [(41,.sig spec_l01In.sig)] [⟨21,[],[⟨.slot 5,⟨false,0⟩,(.int .i64)⟩]⟩,⟨9,[],[⟨.slot 3,⟨false,0⟩,(.int .i64)⟩]⟩,⟨10,[],[]⟩] Tryz.f80 spec_BeltOk.sig k (x0,())=spec_BeltOk.f k x0:=by kernel_rfl
set_option maxRecDepth 100000 in
theorem spec_Leave.eq (k:Nat) (x0:(Int×Int×Bool×List (Int×Int×Int×Unit)×Unit)):evFn tabO false [(80,.sig spec_BeltOk.sig),(94,.sig spec_l02Fresh.sig)] [] Tryz.f186 spec_Leave.sig k (x0,())=spec_Leave.f k x0:=by kernel_rfl
set_option maxRecDepth 100000 in
theorem spec_l02Step.eq (k:Nat) (x0:(Int×Int×Bool×List (Int×Int×Int×Unit)×Unit)):evFn tabO false [] [⟨7,[],[⟨.root 2,⟨false,2⟩,(.slice K47)⟩,⟨.slot 4,⟨false,0⟩,(.int .i64)⟩]⟩,⟨8,[],[⟨.root 2,⟨false,2⟩,(.slice K47)⟩]⟩,⟨16,[],[⟨.slot 5,⟨false,0⟩,(.int .i64)⟩]⟩] Tryz.f187 spec_l02Step.sig k (x0,())=spec_l02Step.f k x0:=by kernel_rfl
set_option maxRecDepth 100000 in
theorem spec_l05Tray.eq (k:Nat) (x0:(List (Int×Unit)×Int×List (Int×Int×List (Int×Unit)×Unit)×List (Int×List (Int×Unit)×Unit)×Unit)) (x1:Int):evFn tabO false [] [] Tryz.f228 spec_l05Tray.sig k (x0,x1,())=spec_l05Tray.f k x0 x1:=by kernel_rfl
set_option maxRecDepth 100000 in
theorem spec_l03Has.eq (k:Nat) (x0:List (Int×Unit)) (x1:Int):evFn tabO false [] [⟨5,[],[⟨.slot 5,⟨false,0⟩,(.int .i64)⟩]⟩] Tryz.f154 spec_l03Has.sig k (x0,x1,())=spec_l03Has.f k x0 x1:=by kernel_rfl
set_option maxRecDepth 100000 in
theorem spec_l05Wants.eq (k:Nat) (x0:(List (Int×Unit)×Int×List (Int×Int×List (Int×Unit)×Unit)×List (Int×List (Int×Unit)×Unit)×Unit)) (x1:Int) (x2:Int):evFn tabO false [(154,.sig spec_l03Has.sig)] [⟨5,[],[⟨.slot 7,⟨false,0⟩,(.int .i64)⟩]⟩] Tryz.f229 spec_l05Wants.sig k (x0,x1,x2,())=spec_l05Wants.f k x0 x1 x2:=by kernel_rfl
set_option maxRecDepth 100000 in
theorem spec_l05Step.eq (k:Nat) (x0:(List (Int×Unit)×Int×List (Int×Int×List (Int×Unit)×Unit)×List (Int×List (Int×Unit)×Unit)×Unit)):evFn tabO false [(96,.sig spec_l05Copy.sig),(228,.sig spec_l05Tray.sig),(229,.sig spec_l05Wants.sig)] [⟨9,[],[⟨.root 2,⟨false,2⟩,(.slice K2)⟩,⟨.root 3,⟨false,2⟩,(.slice K135)⟩,⟨.slot 4,⟨false,0⟩,(.int .i64)⟩]⟩,⟨10,[],[⟨.root 2,⟨false,2⟩,(.slice K2)⟩,⟨.root 3,⟨false,2⟩,(.slice K135)⟩]⟩] Tryz.f188 spec_l05Step.sig k (x0,())=spec_l05Step.f k x0:=by kernel_rfl
set_option maxRecDepth 100000 in
theorem spec_l09Tick.eq (k:Nat) (x0:(Int×List (Int×Unit)×Int×Int×Int×Int×Bool×List (Int×Int×Int×Unit)×List (Int×Unit)×Int×List (Int×Int×List (Int×Unit)×Unit)×List (Int×List (Int×Unit)×Unit)×Int×List (List (Int×Int×Unit)×Unit)×List (Int×Int×Int×Int×Int×Unit)×List (Int×Int×Int×Bool×Int×Unit)×List (Int×Int×Int×Int×Int×Int×Int×Int×Int×Int×Unit)×Unit)):evFn tabO false [(27,.sig spec_l09Copy.sig),(186,.sig spec_Leave.sig),(187,.sig spec_l02Step.sig),(188,.sig spec_l05Step.sig)] [⟨21,[],[⟨.root 10,⟨false,2⟩,(.slice K51)⟩,⟨.slot 6,⟨false,0⟩,(.int .i64)⟩]⟩,⟨27,[],[⟨.root 10,⟨false,2⟩,(.slice K51)⟩,⟨.slot 7,⟨false,0⟩,(.int .i64)⟩]⟩,⟨14,[],[⟨.root 10,⟨false,2⟩,(.slice K51)⟩]⟩] Tryz.f121 spec_l09Tick.sig k (x0,())=spec_l09Tick.f k x0:=by kernel_rfl
set_option maxRecDepth 100000 in
theorem spec_TagOk.eq (k:Nat) (x0:(Int×Int×Int×Unit)):evFn tabO false [(41,.sig spec_l01In.sig)] [] Tryz.f156 spec_TagOk.sig k (x0,())=spec_TagOk.f k x0:=by kernel_rfl
set_option maxRecDepth 100000 in
theorem spec_FreeBehind.eq (k:Nat) (x0:(Int×Int×Bool×List (Int×Int×Int×Unit)×Unit)):evFn tabO false [(80,.sig spec_BeltOk.sig)] [] Tryz.f230 spec_FreeBehind.sig k (x0,())=spec_FreeBehind.f k x0:=by kernel_rfl
set_option maxRecDepth 100000 in
theorem spec_Enter.eq (k:Nat) (x0:(Int×Int×Bool×List (Int×Int×Int×Unit)×Unit)) (x1:Int) (x2:Int):evFn tabO false [(41,.sig spec_l01In.sig),(80,.sig spec_BeltOk.sig),(94,.sig spec_l02Fresh.sig),(230,.sig spec_FreeBehind.sig)] [⟨11,[],[⟨.slot 8,⟨false,0⟩,(.int .i64)⟩]⟩] Tryz.f189 spec_Enter.sig k (x0,x1,x2,())=spec_Enter.f k x0 x1 x2:=by kernel_rfl
set_option maxRecDepth 100000 in
theorem spec_l09Check.eq (k:Nat) (x0:(Int×List (Int×Unit)×Int×Int×Int×Int×Bool×List (Int×Int×Int×Unit)×List (Int×Unit)×Int×List (Int×Int×List (Int×Unit)×Unit)×List (Int×List (Int×Unit)×Unit)×Int×List (List (Int×Int×Unit)×Unit)×List (Int×Int×Int×Int×Int×Unit)×List (Int×Int×Int×Bool×Int×Unit)×List (Int×Int×Int×Int×Int×Int×Int×Int×Int×Int×Unit)×Unit)) (x1:(Int×Int×Int×Int×Int×Int×Int×Int×Int×Int×Int×Int×Int×Int×Unit)):evFn tabO false [(27,.sig spec_l09Copy.sig),(41,.sig spec_l01In.sig),(156,.sig spec_TagOk.sig),(189,.sig spec_Enter.sig)] [⟨9,[],[⟨.slot 6,⟨false,0⟩,(.int .i64)⟩]⟩] Tryz.f122 spec_l09Check.sig k (x0,x1,())=spec_l09Check.f k x0 x1:=by kernel_rfl
set_option maxRecDepth 100000 in
theorem spec_NoteOk.eq (k:Nat) (x0:(Int×Int×Int×Int×Int×Unit)):evFn tabO false [(41,.sig spec_l01In.sig)] [⟨10,[],[]⟩] Tryz.f155 spec_NoteOk.sig k (x0,())=spec_NoteOk.f k x0:=by kernel_rfl
set_option maxRecDepth 100000 in
theorem spec_NotesOk.eq (k:Nat) (x0:List (Int×Int×Int×Int×Int×Unit)):evFn tabO false [(155,.sig spec_NoteOk.sig)] [⟨9,[],[⟨.slot 3,⟨false,0⟩,(.int .i64)⟩]⟩,⟨10,[],[]⟩] Tryz.f83 spec_NotesOk.sig k (x0,())=spec_NotesOk.f k x0:=by kernel_rfl
set_option maxRecDepth 100000 in
theorem spec_l08At.eq (k:Nat) (x0:List (Int×Int×Int×Int×Int×Unit)) (x1:Int):evFn tabO false [] [⟨5,[],[⟨.slot 5,⟨false,0⟩,(.int .i64)⟩]⟩] Tryz.f190 spec_l08At.sig k (x0,x1,())=spec_l08At.f k x0 x1:=by kernel_rfl
set_option maxRecDepth 100000 in
theorem spec_l08With.eq (k:Nat) (x0:List (Int×Int×Int×Int×Int×Unit)) (x1:(Int×Int×Int×Int×Int×Unit)):evFn tabO false [] [⟨24,[],[⟨.slot 5,⟨false,2⟩,(.slice K116)⟩]⟩,⟨9,[],[⟨.slot 5,⟨false,2⟩,(.slice K116)⟩,⟨.slot 6,⟨false,0⟩,.bool⟩,⟨.slot 7,⟨false,0⟩,(.int .i64)⟩]⟩,⟨18,[],[⟨.slot 5,⟨false,2⟩,(.slice K116)⟩,⟨.slot 6,⟨false,0⟩,.bool⟩]⟩] Tryz.f191 spec_l08With.sig k (x0,x1,())=spec_l08With.f k x0 x1:=by kernel_rfl
set_option maxRecDepth 100000 in
theorem spec_AddNote.eq (k:Nat) (x0:List (Int×Int×Int×Int×Int×Unit)) (x1:(Int×Int×Int×Int×Int×Unit)):evFn tabO false [(83,.sig spec_NotesOk.sig),(155,.sig spec_NoteOk.sig),(190,.sig spec_l08At.sig),(191,.sig spec_l08With.sig)] [] Tryz.f123 spec_AddNote.sig k (x0,x1,())=spec_AddNote.f k x0 x1:=by kernel_rfl
set_option maxRecDepth 100000 in
theorem spec_PolicyOk.eq (k:Nat) (x0:(List (Int×Unit)×Unit)):evFn tabO false [(41,.sig spec_l01In.sig)] [⟨9,[],[⟨.slot 3,⟨false,0⟩,(.int .i64)⟩]⟩] Tryz.f78 spec_PolicyOk.sig k (x0,())=spec_PolicyOk.f k x0:=by kernel_rfl
set_option maxRecDepth 100000 in
theorem spec_LimitsOk.eq (k:Nat) (x0:(Int×Int×Unit)):evFn tabO false [(41,.sig spec_l01In.sig)] [] Tryz.f79 spec_LimitsOk.sig k (x0,())=spec_LimitsOk.f k x0:=by kernel_rfl
set_option maxRecDepth 100000 in
theorem spec_LoopOk.eq (k:Nat) (x0:(List (Int×Unit)×Int×List (Int×Int×List (Int×Unit)×Unit)×List (Int×List (Int×Unit)×Unit)×Unit)):evFn tabO false [(41,.sig spec_l01In.sig),(154,.sig spec_l03Has.sig)] [⟨23,[],[⟨.slot 4,⟨false,2⟩,(.slice K2)⟩,⟨.slot 6,⟨false,0⟩,(.int .i64)⟩]⟩,⟨35,[],[⟨.slot 8,⟨false,0⟩,(.int .i64)⟩]⟩,⟨47,[],[⟨.slot 9,⟨false,0⟩,(.int .i64)⟩]⟩,⟨57,[],[⟨.slot 10,⟨false,0⟩,(.int .i64)⟩]⟩,⟨69,[],[⟨.slot 12,⟨false,0⟩,(.int .i64)⟩]⟩,⟨79,[],[⟨.slot 13,⟨false,0⟩,(.int .i64)⟩]⟩,⟨80,[],[]⟩,⟨13,[],[⟨.slot 4,⟨false,2⟩,(.slice K2)⟩,⟨.slot 5,⟨false,0⟩,(.int .i64)⟩]⟩,⟨14,[],[⟨.slot 4,⟨false,2⟩,(.slice K2)⟩]⟩] Tryz.f81 spec_LoopOk.sig k (x0,())=spec_LoopOk.f k x0:=by kernel_rfl
end Go.Proofs.YtcfbjloblbhdhaaGreat.Eng
