/- The pure functions are what the evaluator computes of the program's code. By a program of this session. No condition. -/
import Derived.Test.YtpmjopbgccajgaaGreatD
import Derived.Test.YtpmjopbgccajgaaGreatProg
import Derived.KernelRfl
namespace Go.Proofs.YtpmjopbgccajgaaGreat.Eng
open Go.Proofs
set_option linter.unusedVariables false
set_option maxRecDepth 100000 in
theorem slices_Clone_impl_Flight.eq (k:Nat) (x0:List (Int×Int×Int×Bool×Int×Unit)):evFn tabO false [] [] Tryz.f140 slices_Clone_impl_Flight.sig k (x0,())=slices_Clone_impl_Flight.f k x0:=by kernel_rfl
set_option maxRecDepth 100000 in
theorem slices_Clone_impl_Case.eq (k:Nat) (x0:List (Int×Int×Int×Int×Int×Int×Int×Int×Int×Int×Unit)):evFn tabO false [] [] Tryz.f141 slices_Clone_impl_Case.sig k (x0,())=slices_Clone_impl_Case.f k x0:=by kernel_rfl
set_option maxRecDepth 100000 in
theorem impl_copyHall.eq (k:Nat) (x0:(Int×List (Int×Unit)×Int×Int×Int×Int×Bool×List (Int×Int×Int×Unit)×List (Int×Unit)×Int×List (Int×Int×List (Int×Unit)×Unit)×List (Int×List (Int×Unit)×Unit)×Int×List (List (Int×Int×Unit)×Unit)×List (Int×Int×Int×Int×Int×Unit)×List (Int×Int×Int×Bool×Int×Unit)×List (Int×Int×Int×Int×Int×Int×Int×Int×Int×Int×Unit)×Unit)):evFn tabO false [(78,.sig slices_Clone_int_int.sig),(136,.sig impl_copyBelt.sig),(137,.sig impl_copyLoop.sig),(138,.sig impl_copyStore.sig),(139,.sig slices_Clone_impl_Note.sig),(140,.sig slices_Clone_impl_Flight.sig),(141,.sig slices_Clone_impl_Case.sig)] [] Tryz.f44 impl_copyHall.sig k (x0,())=impl_copyHall.f k x0:=by kernel_rfl
set_option maxRecDepth 100000 in
theorem impl_Leave.eq (k:Nat) (x0:(Int×Int×Bool×List (Int×Int×Int×Unit)×Unit)):evFn tabO false [(70,.sig impl_BeltOk.sig),(136,.sig impl_copyBelt.sig)] [] Tryz.f239 impl_Leave.sig k (x0,())=impl_Leave.f k x0:=by kernel_rfl
set_option maxRecDepth 100000 in
theorem impl_stepped.eq (k:Nat) (x0:(Int×Int×Bool×List (Int×Int×Int×Unit)×Unit)):evFn tabO false [] [⟨4,[],[⟨.slot 3,⟨false,0⟩,(.int .i64)⟩,⟨.slot 4,⟨false,0⟩,(.int .i64)⟩]⟩,⟨7,[],[⟨.root 0,⟨false,2⟩,(.slice K46)⟩,⟨.slot 3,⟨false,0⟩,(.int .i64)⟩,⟨.slot 4,⟨false,0⟩,(.int .i64)⟩,⟨.slot 12,⟨false,0⟩,(.int .i64)⟩]⟩,⟨16,[],[⟨.slot 3,⟨false,0⟩,(.int .i64)⟩,⟨.root 0,⟨false,2⟩,(.slice K46)⟩]⟩] Tryz.f240 impl_stepped.sig k (x0,())=impl_stepped.f k x0:=by kernel_rfl
set_option maxRecDepth 100000 in
theorem impl_trayAt.eq (k:Nat) (x0:(List (Int×Unit)×Int×List (Int×Int×List (Int×Unit)×Unit)×List (Int×List (Int×Unit)×Unit)×Unit)) (x1:Int):evFn tabO false [] [] Tryz.f293 impl_trayAt.sig k (x0,x1,())=impl_trayAt.f k x0 x1:=by kernel_rfl
set_option maxRecDepth 100000 in
theorem impl_wantOf.eq (k:Nat) (x0:(List (Int×Unit)×Int×List (Int×Int×List (Int×Unit)×Unit)×List (Int×List (Int×Unit)×Unit)×Unit)) (x1:Int):evFn tabO false [(337,.inl Tryz.f337 [⟨5,[],[⟨.slot 8,⟨false,0⟩,(.int .i64)⟩]⟩]),(338,.inl Tryz.f338 [])] [] Tryz.f294 impl_wantOf.sig k (x0,x1,())=impl_wantOf.f k x0 x1:=by kernel_rfl
set_option maxRecDepth 100000 in
theorem slices_Index_int_int.eq (k:Nat) (x0:List (Int×Unit)) (x1:Int):evFn tabO false [] [⟨5,[],[⟨.slot 8,⟨false,0⟩,(.int .i64)⟩]⟩] Tryz.f251 slices_Index_int_int.sig k (x0,x1,())=slices_Index_int_int.f k x0 x1:=by kernel_rfl
set_option maxRecDepth 100000 in
theorem slices_Contains_int_int.eq (k:Nat) (x0:List (Int×Unit)) (x1:Int):evFn tabO false [(251,.sig slices_Index_int_int.sig)] [] Tryz.f295 slices_Contains_int_int.sig k (x0,x1,())=slices_Contains_int_int.f k x0 x1:=by kernel_rfl
set_option maxRecDepth 100000 in
theorem impl_turn.eq (k:Nat) (x0:(List (Int×Unit)×Int×List (Int×Int×List (Int×Unit)×Unit)×List (Int×List (Int×Unit)×Unit)×Unit)):evFn tabO false [(293,.sig impl_trayAt.sig),(294,.sig impl_wantOf.sig),(295,.sig slices_Contains_int_int.sig)] [⟨20,[],[⟨.root 1,⟨false,2⟩,(.slice K2)⟩,⟨.root 2,⟨false,2⟩,(.slice K64)⟩]⟩,⟨5,[],[⟨.root 1,⟨false,2⟩,(.slice K2)⟩,⟨.root 2,⟨false,2⟩,(.slice K64)⟩,⟨.slot 26,⟨false,0⟩,(.int .i64)⟩]⟩] Tryz.f241 impl_turn.sig k (x0,())=impl_turn.f k x0:=by kernel_rfl
set_option maxRecDepth 100000 in
theorem impl_tick.eq (k:Nat) (x0:(Int×List (Int×Unit)×Int×Int×Int×Int×Bool×List (Int×Int×Int×Unit)×List (Int×Unit)×Int×List (Int×Int×List (Int×Unit)×Unit)×List (Int×List (Int×Unit)×Unit)×Int×List (List (Int×Int×Unit)×Unit)×List (Int×Int×Int×Int×Int×Unit)×List (Int×Int×Int×Bool×Int×Unit)×List (Int×Int×Int×Int×Int×Int×Int×Int×Int×Int×Unit)×Unit)):evFn tabO false [(239,.sig impl_Leave.sig),(240,.sig impl_stepped.sig),(241,.sig impl_turn.sig)] [⟨23,[],[⟨.root 9,⟨false,2⟩,(.slice K61)⟩,⟨.slot 73,⟨false,0⟩,(.int .i64)⟩]⟩,⟨10,[],[⟨.cell 0 4,⟨false,0⟩,(.int .i64)⟩,⟨.cell 0 5,⟨false,0⟩,(.int .i64)⟩,⟨.cell 0 6,⟨false,0⟩,.bool⟩,⟨.cell 0 7,⟨false,2⟩,(.slice K46)⟩,⟨.root 9,⟨false,2⟩,(.slice K61)⟩]⟩,⟨17,[],[⟨.root 9,⟨false,2⟩,(.slice K61)⟩,⟨.slot 66,⟨false,0⟩,(.int .i64)⟩]⟩] Tryz.f143 impl_tick.sig k (x0,())=impl_tick.f k x0:=by kernel_rfl
set_option maxRecDepth 100000 in
theorem impl_FreeBehind.eq (k:Nat) (x0:(Int×Int×Bool×List (Int×Int×Int×Unit)×Unit)):evFn tabO false [(70,.sig impl_BeltOk.sig)] [] Tryz.f296 impl_FreeBehind.sig k (x0,())=impl_FreeBehind.f k x0:=by kernel_rfl
set_option maxRecDepth 100000 in
theorem impl_Enter.eq (k:Nat) (x0:(Int×Int×Bool×List (Int×Int×Int×Unit)×Unit)) (x1:Int) (x2:Int):evFn tabO false [(70,.sig impl_BeltOk.sig),(136,.sig impl_copyBelt.sig),(177,.sig impl_isOn.sig),(296,.sig impl_FreeBehind.sig)] [] Tryz.f242 impl_Enter.sig k (x0,x1,x2,())=impl_Enter.f k x0 x1 x2:=by kernel_rfl
set_option maxRecDepth 100000 in
theorem impl_check.eq (k:Nat) (x0:(Int×List (Int×Unit)×Int×Int×Int×Int×Bool×List (Int×Int×Int×Unit)×List (Int×Unit)×Int×List (Int×Int×List (Int×Unit)×Unit)×List (Int×List (Int×Unit)×Unit)×Int×List (List (Int×Int×Unit)×Unit)×List (Int×Int×Int×Int×Int×Unit)×List (Int×Int×Int×Bool×Int×Unit)×List (Int×Int×Int×Int×Int×Int×Int×Int×Int×Int×Unit)×Unit)) (x1:(Int×Int×Int×Int×Int×Int×Int×Int×Int×Int×Int×Int×Int×Int×Unit)):evFn tabO false [(56,.sig impl_isFlight.sig),(76,.sig impl_hasTag.sig),(142,.sig impl_isFrom1.sig),(187,.sig impl_TagOk.sig),(242,.sig impl_Enter.sig)] [⟨12,[],[⟨.slot 5,⟨true,2⟩,K30⟩,⟨.slot 6,⟨false,0⟩,.bool⟩]⟩] Tryz.f144 impl_check.sig k (x0,x1,())=impl_check.f k x0 x1:=by kernel_rfl
set_option maxRecDepth 100000 in
theorem impl_noteAt.eq (k:Nat) (x0:List (Int×Int×Int×Int×Int×Unit)) (x1:Int):evFn tabO false [(297,.inl Tryz.f297 [⟨5,[],[⟨.slot 8,⟨false,0⟩,(.int .i64)⟩]⟩]),(298,.inl Tryz.f298 [])] [] Tryz.f243 impl_noteAt.sig k (x0,x1,())=impl_noteAt.f k x0 x1:=by kernel_rfl
set_option maxRecDepth 100000 in
theorem impl_AddNote.eq (k:Nat) (x0:List (Int×Int×Int×Int×Int×Unit)) (x1:(Int×Int×Int×Int×Int×Unit)):evFn tabO false [(73,.sig impl_NotesOk.sig),(139,.sig slices_Clone_impl_Note.sig),(184,.sig impl_NoteOk.sig),(243,.sig impl_noteAt.sig),(244,.sig (sortNSig 245))] [] Tryz.f145 impl_AddNote.sig k (x0,x1,())=impl_AddNote.f k x0 x1:=by kernel_rfl
set_option maxRecDepth 100000 in
theorem impl_OwnerOf.eq (k:Nat) (x0:List (Int×Int×Int×Int×Int×Unit)) (x1:Int):evFn tabO false [(73,.sig impl_NotesOk.sig),(165,.inl Tryz.f165 [⟨5,[],[⟨.slot 6,⟨false,0⟩,(.int .i64)⟩]⟩,⟨6,[],[]⟩,⟨12,[],[]⟩]),(166,.inl Tryz.f166 [])] [] Tryz.f58 impl_OwnerOf.sig k (x0,x1,())=impl_OwnerOf.f k x0 x1:=by kernel_rfl
set_option maxRecDepth 100000 in
theorem impl_Aboard.eq (k:Nat) (x0:List (Int×Int×Int×Int×Int×Unit)) (x1:Int) (x2:Int):evFn tabO false [(73,.sig impl_NotesOk.sig),(165,.inl Tryz.f165 [⟨5,[],[⟨.slot 6,⟨false,0⟩,(.int .i64)⟩]⟩,⟨6,[],[]⟩,⟨12,[],[]⟩]),(167,.inl Tryz.f167 [])] [] Tryz.f59 impl_Aboard.sig k (x0,x1,x2,())=impl_Aboard.f k x0 x1 x2:=by kernel_rfl
set_option maxRecDepth 100000 in
theorem impl_Pulled.eq (k:Nat) (x0:List (Int×Int×Int×Int×Int×Unit)) (x1:Int) (x2:Int):evFn tabO false [(73,.sig impl_NotesOk.sig),(165,.inl Tryz.f165 [⟨5,[],[⟨.slot 6,⟨false,0⟩,(.int .i64)⟩]⟩,⟨6,[],[]⟩,⟨12,[],[]⟩]),(168,.inl Tryz.f168 [])] [] Tryz.f60 impl_Pulled.sig k (x0,x1,x2,())=impl_Pulled.f k x0 x1 x2:=by kernel_rfl
set_option maxRecDepth 100000 in
theorem impl_MayFly.eq (k:Nat) (x0:List (Int×Int×Int×Int×Int×Unit)) (x1:Int) (x2:Int):evFn tabO false [(58,.sig impl_OwnerOf.sig),(59,.sig impl_Aboard.sig),(60,.sig impl_Pulled.sig)] [] Tryz.f21 impl_MayFly.sig k (x0,x1,x2,())=impl_MayFly.f k x0 x1 x2:=by kernel_rfl
set_option maxRecDepth 100000 in
theorem slices_Clone_impl_Piece.eq (k:Nat) (x0:List (Int×Int×Int×Unit)):evFn tabO false [] [] Tryz.f61 slices_Clone_impl_Piece.sig k (x0,())=slices_Clone_impl_Piece.f k x0:=by kernel_rfl
set_option maxRecDepth 100000 in
theorem cmp_Or_int.eq (k:Nat) (x0:List (Int×Unit)):evFn tabO false [] [⟨7,[],[⟨.slot 8,⟨false,0⟩,(.int .i64)⟩]⟩] Tryz.f64 cmp_Or_int.sig k (x0,())=cmp_Or_int.f k x0:=by kernel_rfl
set_option maxRecDepth 100000 in
theorem cmp_isNaN_int.eq (k:Nat) (x0:Int):evFn tabO false [] [] Tryz.f170 cmp_isNaN_int.sig k (x0,())=cmp_isNaN_int.f k x0:=by kernel_rfl
set_option maxRecDepth 100000 in
theorem cmp_Compare_int.eq (k:Nat) (x0:Int) (x1:Int):evFn tabO false [(170,.sig cmp_isNaN_int.sig)] [] Tryz.f65 cmp_Compare_int.sig k (x0,x1,())=cmp_Compare_int.f k x0 x1:=by kernel_rfl
set_option maxRecDepth 100000 in
theorem impl_Repack_1.eq (k:Nat) (x0:(Int×Int×Int×Unit)) (x1:(Int×Int×Int×Unit)):evFn tabO false [(64,.sig cmp_Or_int.sig),(65,.sig cmp_Compare_int.sig)] [] Tryz.f63 impl_Repack_1.sig k (x0,x1,())=impl_Repack_1.f k x0 x1:=by kernel_rfl
set_option maxRecDepth 100000 in
theorem slices_insertionSortCmpFunc_impl_Piece.eq (k:Nat) (x0:List (Int×Int×Int×Unit)) (x1:Int) (x2:Int):evFn tabO false [(63,.sig impl_Repack_1.sig)] [⟨3,[],[⟨.root 0,⟨false,2⟩,(.slice K46)⟩,⟨.slot 8,⟨false,0⟩,(.int .i64)⟩]⟩,⟨4,[],[⟨.root 0,⟨false,2⟩,(.slice K46)⟩]⟩,⟨9,[],[⟨.root 0,⟨false,2⟩,(.slice K46)⟩,⟨.slot 9,⟨false,0⟩,(.int .i64)⟩]⟩] Tryz.f267 slices_insertionSortCmpFunc_impl_Piece.sig k (x0,x1,x2,())=slices_insertionSortCmpFunc_impl_Piece.f k x0 x1 x2:=by kernel_rfl
set_option maxRecDepth 100000 in
theorem slices_swapRangeCmpFunc_impl_Piece.eq (k:Nat) (x0:List (Int×Int×Int×Unit)) (x1:Int) (x2:Int) (x3:Int):evFn tabO false [] [⟨3,[],[⟨.root 0,⟨false,2⟩,(.slice K46)⟩,⟨.slot 10,⟨false,0⟩,(.int .i64)⟩]⟩] Tryz.f357 slices_swapRangeCmpFunc_impl_Piece.sig k (x0,x1,x2,x3,())=slices_swapRangeCmpFunc_impl_Piece.f k x0 x1 x2 x3:=by kernel_rfl
set_option maxRecDepth 100000 in
theorem slices_rotateCmpFunc_impl_Piece.eq (k:Nat) (x0:List (Int×Int×Int×Unit)) (x1:Int) (x2:Int) (x3:Int):evFn tabO false [(357,.sig slices_swapRangeCmpFunc_impl_Piece.sig)] [⟨5,[],[⟨.root 0,⟨false,2⟩,(.slice K46)⟩,⟨.slot 10,⟨false,0⟩,(.int .i64)⟩,⟨.slot 11,⟨false,0⟩,(.int .i64)⟩]⟩] Tryz.f322 slices_rotateCmpFunc_impl_Piece.sig k (x0,x1,x2,x3,())=slices_rotateCmpFunc_impl_Piece.f k x0 x1 x2 x3:=by kernel_rfl
set_option maxRecDepth 100000 in
theorem slices_symMergeCmpFunc_impl_Piece.eq (rf F:Nat→(List (Int×Int×Int×Unit)×Int×Int×Int×Unit)→Option (List (Int×Int×Int×Unit)×Unit)) (k:Nat) (x0:List (Int×Int×Int×Unit)) (x1:Int) (x2:Int) (x3:Int):evFn tabO false [(63,.sig impl_Repack_1.sig),(268,.sig (slices_symMergeCmpFunc_impl_Piece.sig0.re rf)),(322,.sig slices_rotateCmpFunc_impl_Piece.sig)] [⟨31,[],[⟨.slot 14,⟨false,0⟩,(.int .i64)⟩,⟨.slot 15,⟨false,0⟩,(.int .i64)⟩]⟩,⟨43,[],[⟨.root 0,⟨false,2⟩,(.slice K46)⟩,⟨.slot 17,⟨false,0⟩,(.int .i64)⟩]⟩,⟨7,[],[⟨.slot 10,⟨false,0⟩,(.int .i64)⟩,⟨.slot 11,⟨false,0⟩,(.int .i64)⟩]⟩,⟨64,[],[⟨.slot 20,⟨false,0⟩,(.int .i64)⟩,⟨.slot 21,⟨false,0⟩,(.int .i64)⟩]⟩,⟨67,[],[⟨.slot 20,⟨false,0⟩,(.int .i64)⟩,⟨.slot 21,⟨false,0⟩,(.int .i64)⟩]⟩,⟨82,[],[⟨.root 0,⟨false,2⟩,(.slice K46)⟩]⟩,⟨86,[],[⟨.root 0,⟨false,2⟩,(.slice K46)⟩]⟩,⟨19,[],[⟨.root 0,⟨false,2⟩,(.slice K46)⟩,⟨.slot 13,⟨false,0⟩,(.int .i64)⟩]⟩] Tryz.f268 (slices_symMergeCmpFunc_impl_Piece.sig0.re F) k (x0,x1,x2,x3,())=slices_symMergeCmpFunc_impl_Piece.body rf k x0 x1 x2 x3:=by kernel_rfl
set_option maxRecDepth 100000 in
theorem slices_stableCmpFunc_impl_Piece.eq (k:Nat) (x0:List (Int×Int×Int×Unit)) (x1:Int):evFn tabO false [(267,.sig slices_insertionSortCmpFunc_impl_Piece.sig),(268,.sig slices_symMergeCmpFunc_impl_Piece.sig)] [⟨32,[],[⟨.root 0,⟨false,2⟩,(.slice K46)⟩]⟩,⟨5,[],[⟨.root 0,⟨false,2⟩,(.slice K46)⟩,⟨.slot 7,⟨false,0⟩,(.int .i64)⟩,⟨.slot 8,⟨false,0⟩,(.int .i64)⟩]⟩,⟨15,[],[⟨.root 0,⟨false,2⟩,(.slice K46)⟩,⟨.slot 6,⟨false,0⟩,(.int .i64)⟩]⟩,⟨19,[],[⟨.root 0,⟨false,2⟩,(.slice K46)⟩,⟨.slot 7,⟨false,0⟩,(.int .i64)⟩,⟨.slot 8,⟨false,0⟩,(.int .i64)⟩]⟩] Tryz.f169 slices_stableCmpFunc_impl_Piece.sig k (x0,x1,())=slices_stableCmpFunc_impl_Piece.f k x0 x1:=by kernel_rfl
set_option maxRecDepth 100000 in
theorem slices_SortStableFunc_impl_Piece.eq (k:Nat) (x0:List (Int×Int×Int×Unit)):evFn tabO false [(169,.sig slices_stableCmpFunc_impl_Piece.sig)] [] Tryz.f62 slices_SortStableFunc_impl_Piece.sig k (x0,())=slices_SortStableFunc_impl_Piece.f k x0:=by kernel_rfl
end Go.Proofs.YtpmjopbgccajgaaGreat.Eng
