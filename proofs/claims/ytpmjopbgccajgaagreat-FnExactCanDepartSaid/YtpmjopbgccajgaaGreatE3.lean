/- The pure functions are what the evaluator computes of the program's code. By a program of this session. No condition. -/
import Derived.Test.YtpmjopbgccajgaaGreatD
import Derived.Test.YtpmjopbgccajgaaGreatProg
import Derived.KernelRfl
namespace Go.Proofs.YtpmjopbgccajgaaGreat.Eng
open Go.Proofs
set_option linter.unusedVariables false
set_option maxRecDepth 100000 in
theorem impl_PiecesOk.eq (k:Nat) (x0:List (Int×Int×Int×Unit)):evFn tabO false [(181,.sig impl_areDifferent.sig)] [⟨7,[],[⟨.slot 3,⟨false,2⟩,(.slice K2)⟩,⟨.slot 8,⟨false,0⟩,(.int .i64)⟩]⟩] Tryz.f171 impl_PiecesOk.sig k (x0,())=impl_PiecesOk.f k x0:=by kernel_rfl
set_option maxRecDepth 100000 in
theorem impl_FirstFit.eq (k:Nat) (x0:(Int×Int×Unit)) (x1:List (Int×Int×Int×Unit)):evFn tabO false [(69,.sig impl_LimitsOk.sig),(171,.sig impl_PiecesOk.sig),(172,.inl Tryz.f172 [⟨5,[],[⟨.slot 8,⟨false,0⟩,(.int .i64)⟩]⟩,⟨12,[],[]⟩]),(173,.inl Tryz.f173 [])] [⟨22,[],[⟨.slot 5,⟨false,2⟩,(.slice K64)⟩,⟨.slot 8,⟨false,0⟩,(.int .i64)⟩]⟩,⟨26,[],[⟨.slot 5,⟨false,2⟩,(.slice K64)⟩]⟩,⟨11,[],[⟨.slot 5,⟨false,2⟩,(.slice K64)⟩,⟨.slot 19,⟨false,0⟩,(.int .i64)⟩]⟩] Tryz.f66 impl_FirstFit.sig k (x0,x1,())=impl_FirstFit.f k x0 x1:=by kernel_rfl
set_option maxRecDepth 100000 in
theorem impl_Repack.eq (k:Nat) (x0:(Int×Int×Unit)) (x1:List (Int×Int×Int×Unit)):evFn tabO false [(61,.sig slices_Clone_impl_Piece.sig),(62,.sig slices_SortStableFunc_impl_Piece.sig),(66,.sig impl_FirstFit.sig)] [] Tryz.f22 impl_Repack.sig k (x0,x1,())=impl_Repack.f k x0 x1:=by kernel_rfl
set_option maxRecDepth 100000 in
theorem impl_Gaps.eq (k:Nat) (x0:List (Int×Int×Int×Int×Int×Unit)):evFn tabO false [(73,.sig impl_NotesOk.sig)] [] Tryz.f246 impl_Gaps.sig k (x0,())=impl_Gaps.f k x0:=by kernel_rfl
set_option maxRecDepth 100000 in
theorem impl_depart.eq (k:Nat) (x0:(Int×List (Int×Unit)×Int×Int×Int×Int×Bool×List (Int×Int×Int×Unit)×List (Int×Unit)×Int×List (Int×Int×List (Int×Unit)×Unit)×List (Int×List (Int×Unit)×Unit)×Int×List (List (Int×Int×Unit)×Unit)×List (Int×Int×Int×Int×Int×Unit)×List (Int×Int×Int×Bool×Int×Unit)×List (Int×Int×Int×Int×Int×Int×Int×Int×Int×Int×Unit)×Unit)) (x1:Int):evFn tabO false [(21,.sig impl_MayFly.sig),(22,.sig impl_Repack.sig),(56,.sig impl_isFlight.sig),(246,.sig impl_Gaps.sig)] [⟨21,[],[⟨.root 9,⟨false,2⟩,(.slice K61)⟩,⟨.slot 6,⟨false,2⟩,(.slice K46)⟩,⟨.slot 7,⟨false,2⟩,(.slice K2)⟩,⟨.slot 63,⟨false,0⟩,(.int .i64)⟩]⟩,⟨38,[],[⟨.slot 6,⟨false,2⟩,(.slice K46)⟩,⟨.slot 7,⟨false,2⟩,(.slice K2)⟩,⟨.root 9,⟨false,2⟩,(.slice K61)⟩]⟩] Tryz.f146 impl_depart.sig k (x0,x1,())=impl_depart.f k x0 x1:=by kernel_rfl
set_option maxRecDepth 100000 in
theorem impl_Elapse.eq (k:Nat) (x0:(List (Int×Unit)×Unit)) (x1:(Int×Int×Int×Unit)) (x2:Int):evFn tabO false [(67,.sig impl_isTick.sig),(68,.sig impl_PolicyOk.sig),(188,.sig impl_ScreenOk.sig)] [⟨7,[],[⟨.cell 1 0,⟨false,0⟩,(.int .i64)⟩,⟨.cell 1 1,⟨false,0⟩,(.int .i64)⟩]⟩,⟨12,[],[⟨.cell 1 0,⟨false,0⟩,(.int .i64)⟩,⟨.cell 1 1,⟨false,0⟩,(.int .i64)⟩]⟩] Tryz.f300 impl_Elapse.sig k (x0,x1,x2,())=impl_Elapse.f k x0 x1 x2:=by kernel_rfl
set_option maxRecDepth 100000 in
theorem impl_Decide.eq (k:Nat) (x0:(List (Int×Unit)×Unit)) (x1:(Int×Int×Int×Unit)) (x2:Int) (x3:Int):evFn tabO false [(67,.sig impl_isTick.sig),(68,.sig impl_PolicyOk.sig),(188,.sig impl_ScreenOk.sig),(300,.sig impl_Elapse.sig)] [⟨12,[],[]⟩,⟨18,[],[⟨.cell 3 0,⟨false,0⟩,(.int .i64)⟩,⟨.cell 3 1,⟨false,0⟩,(.int .i64)⟩,⟨.cell 3 2,⟨false,0⟩,(.int .i64)⟩]⟩] Tryz.f247 impl_Decide.sig k (x0,x1,x2,x3,())=impl_Decide.f k x0 x1 x2 x3:=by kernel_rfl
set_option maxRecDepth 100000 in
theorem impl_decide.eq (k:Nat) (x0:(Int×List (Int×Unit)×Int×Int×Int×Int×Bool×List (Int×Int×Int×Unit)×List (Int×Unit)×Int×List (Int×Int×List (Int×Unit)×Unit)×List (Int×List (Int×Unit)×Unit)×Int×List (List (Int×Int×Unit)×Unit)×List (Int×Int×Int×Int×Int×Unit)×List (Int×Int×Int×Bool×Int×Unit)×List (Int×Int×Int×Int×Int×Int×Int×Int×Int×Int×Unit)×Unit)) (x1:Int) (x2:Int):evFn tabO false [(247,.sig impl_Decide.sig)] [⟨20,[],[⟨.root 9,⟨false,2⟩,(.slice K61)⟩]⟩,⟨10,[],[⟨.slot 8,⟨true,0⟩,K46⟩,⟨.slot 9,⟨false,0⟩,.bool⟩]⟩] Tryz.f147 impl_decide.sig k (x0,x1,x2,())=impl_decide.f k x0 x1 x2:=by kernel_rfl
set_option maxRecDepth 100000 in
theorem impl_SetWant.eq (k:Nat) (x0:(List (Int×Unit)×Int×List (Int×Int×List (Int×Unit)×Unit)×List (Int×List (Int×Unit)×Unit)×Unit)) (x1:Int) (x2:List (Int×Unit)):evFn tabO false [(71,.sig impl_LoopOk.sig),(78,.sig slices_Clone_int_int.sig),(137,.sig impl_copyLoop.sig),(294,.sig impl_wantOf.sig)] [⟨14,[6],[⟨.cell 5 3,⟨false,2⟩,(.slice K204)⟩]⟩] Tryz.f301 impl_SetWant.sig k (x0,x1,x2,())=impl_SetWant.f k x0 x1 x2:=by kernel_rfl
set_option maxRecDepth 100000 in
theorem impl_TrayAt.eq (k:Nat) (x0:(List (Int×Unit)×Int×List (Int×Int×List (Int×Unit)×Unit)×List (Int×List (Int×Unit)×Unit)×Unit)) (x1:Int):evFn tabO false [(71,.sig impl_LoopOk.sig),(293,.sig impl_trayAt.sig)] [] Tryz.f347 impl_TrayAt.sig k (x0,x1,())=impl_TrayAt.f k x0 x1:=by kernel_rfl
set_option maxRecDepth 100000 in
theorem impl_Induct.eq (k:Nat) (x0:(List (Int×Unit)×Int×List (Int×Int×List (Int×Unit)×Unit)×List (Int×List (Int×Unit)×Unit)×Unit)) (x1:Int) (x2:Int):evFn tabO false [(137,.sig impl_copyLoop.sig),(179,.sig impl_bagsOf.sig),(295,.sig slices_Contains_int_int.sig),(347,.sig impl_TrayAt.sig)] [] Tryz.f302 impl_Induct.sig k (x0,x1,x2,())=impl_Induct.f k x0 x1 x2:=by kernel_rfl
set_option maxRecDepth 100000 in
theorem impl_onto.eq (k:Nat) (x0:(Int×List (Int×Unit)×Int×Int×Int×Int×Bool×List (Int×Int×Int×Unit)×List (Int×Unit)×Int×List (Int×Int×List (Int×Unit)×Unit)×List (Int×List (Int×Unit)×Unit)×Int×List (List (Int×Int×Unit)×Unit)×List (Int×Int×Int×Int×Int×Unit)×List (Int×Int×Int×Bool×Int×Unit)×List (Int×Int×Int×Int×Int×Int×Int×Int×Int×Int×Unit)×Unit)) (x1:Int):evFn tabO false [(301,.sig impl_SetWant.sig),(302,.sig impl_Induct.sig)] [⟨6,[],[⟨.slot 6,⟨true,2⟩,K34⟩,⟨.slot 7,⟨false,0⟩,.bool⟩]⟩] Tryz.f248 impl_onto.sig k (x0,x1,())=impl_onto.f k x0 x1:=by kernel_rfl
set_option maxRecDepth 100000 in
theorem impl_leastTime.eq (k:Nat) (x0:List (Int×Int×Unit)):evFn tabO false [] [⟨7,[],[⟨.slot 3,⟨false,0⟩,(.int .i64)⟩,⟨.slot 8,⟨false,0⟩,(.int .i64)⟩]⟩] Tryz.f351 impl_leastTime.sig k (x0,())=impl_leastTime.f k x0:=by kernel_rfl
set_option maxRecDepth 100000 in
theorem impl_laneFor.eq (k:Nat) (x0:(Int×List (List (Int×Int×Unit)×Unit)×Unit)) (x1:Int) (x2:Int):evFn tabO false [(351,.sig impl_leastTime.sig)] [⟨30,[],[⟨.slot 7,⟨false,0⟩,(.int .i64)⟩,⟨.slot 8,⟨false,0⟩,(.int .i64)⟩,⟨.slot 9,⟨false,0⟩,(.int .i64)⟩]⟩,⟨7,[],[⟨.slot 7,⟨false,0⟩,(.int .i64)⟩,⟨.slot 8,⟨false,0⟩,(.int .i64)⟩,⟨.slot 9,⟨false,0⟩,(.int .i64)⟩,⟨.slot 16,⟨false,0⟩,(.int .i64)⟩]⟩] Tryz.f306 impl_laneFor.sig k (x0,x1,x2,())=impl_laneFor.f k x0 x1 x2:=by kernel_rfl
set_option maxRecDepth 100000 in
theorem impl_LaneFor.eq (k:Nat) (x0:(Int×List (List (Int×Int×Unit)×Unit)×Unit)) (x1:Int) (x2:Int):evFn tabO false [(67,.sig impl_isTick.sig),(72,.sig impl_StoreOk.sig),(306,.sig impl_laneFor.sig)] [] Tryz.f303 impl_LaneFor.sig k (x0,x1,x2,())=impl_LaneFor.f k x0 x1 x2:=by kernel_rfl
set_option maxRecDepth 100000 in
theorem impl_PutBag.eq (k:Nat) (x0:(Int×List (List (Int×Int×Unit)×Unit)×Unit)) (x1:Int) (x2:Int):evFn tabO false [(81,.sig impl_bagsIn.sig),(138,.sig impl_copyStore.sig),(295,.sig slices_Contains_int_int.sig),(303,.sig impl_LaneFor.sig)] [] Tryz.f249 impl_PutBag.sig k (x0,x1,x2,())=impl_PutBag.f k x0 x1 x2:=by kernel_rfl
set_option maxRecDepth 100000 in
theorem impl_send.eq (k:Nat) (x0:(Int×List (Int×Unit)×Int×Int×Int×Int×Bool×List (Int×Int×Int×Unit)×List (Int×Unit)×Int×List (Int×Int×List (Int×Unit)×Unit)×List (Int×List (Int×Unit)×Unit)×Int×List (List (Int×Int×Unit)×Unit)×List (Int×Int×Int×Int×Int×Unit)×List (Int×Int×Int×Bool×Int×Unit)×List (Int×Int×Int×Int×Int×Int×Int×Int×Int×Int×Unit)×Unit)) (x1:Int):evFn tabO false [(248,.sig impl_onto.sig),(249,.sig impl_PutBag.sig)] [⟨16,[],[⟨.slot 7,⟨true,2⟩,K37⟩,⟨.slot 9,⟨false,0⟩,.bool⟩]⟩] Tryz.f148 impl_send.sig k (x0,x1,())=impl_send.f k x0 x1:=by kernel_rfl
set_option maxRecDepth 100000 in
theorem impl_laneOf.eq (k:Nat) (x0:(Int×List (List (Int×Int×Unit)×Unit)×Unit)) (x1:Int):evFn tabO false [(182,.inl Tryz.f182 []),(273,.inl Tryz.f273 [⟨5,[],[⟨.slot 8,⟨false,0⟩,(.int .i64)⟩]⟩]),(348,.inl Tryz.f348 [⟨5,[],[⟨.slot 8,⟨false,0⟩,(.int .i64)⟩]⟩,⟨12,[],[]⟩]),(349,.inl Tryz.f349 []),(350,.inl Tryz.f350 [])] [] Tryz.f304 impl_laneOf.sig k (x0,x1,())=impl_laneOf.f k x0 x1:=by kernel_rfl
set_option maxRecDepth 100000 in
theorem impl_Store_pop.eq (k:Nat) (x0:(Int×List (List (Int×Int×Unit)×Unit)×Unit)) (x1:Int):evFn tabO false [] [] Tryz.f305 impl_Store_pop.sig k (x0,x1,())=impl_Store_pop.f k x0 x1:=by kernel_rfl
set_option maxRecDepth 100000 in
theorem impl_TakeBag.eq (k:Nat) (x0:(Int×List (List (Int×Int×Unit)×Unit)×Unit)) (x1:Int):evFn tabO false [(72,.sig impl_StoreOk.sig),(138,.sig impl_copyStore.sig),(304,.sig impl_laneOf.sig),(305,.sig impl_Store_pop.sig),(306,.sig impl_laneFor.sig)] [⟨13,[],[⟨.cell 3 0,⟨false,0⟩,(.int .i64)⟩,⟨.cell 3 1,⟨false,2⟩,(.slice K173)⟩,⟨.slot 9,⟨false,2⟩,(.slice K46)⟩]⟩] Tryz.f250 impl_TakeBag.sig k (x0,x1,())=impl_TakeBag.f k x0 x1:=by kernel_rfl
set_option maxRecDepth 100000 in
theorem impl_fetch.eq (k:Nat) (x0:(Int×List (Int×Unit)×Int×Int×Int×Int×Bool×List (Int×Int×Int×Unit)×List (Int×Unit)×Int×List (Int×Int×List (Int×Unit)×Unit)×List (Int×List (Int×Unit)×Unit)×Int×List (List (Int×Int×Unit)×Unit)×List (Int×Int×Int×Int×Int×Unit)×List (Int×Int×Int×Bool×Int×Unit)×List (Int×Int×Int×Int×Int×Int×Int×Int×Int×Int×Unit)×Unit)) (x1:Int):evFn tabO false [(248,.sig impl_onto.sig),(250,.sig impl_TakeBag.sig)] [] Tryz.f149 impl_fetch.sig k (x0,x1,())=impl_fetch.f k x0 x1:=by kernel_rfl
set_option maxRecDepth 100000 in
theorem impl_chuteOf.eq (k:Nat) (x0:(Int×List (Int×Unit)×Int×Int×Int×Int×Bool×List (Int×Int×Int×Unit)×List (Int×Unit)×Int×List (Int×Int×List (Int×Unit)×Unit)×List (Int×List (Int×Unit)×Unit)×Int×List (List (Int×Int×Unit)×Unit)×List (Int×Int×Int×Int×Int×Unit)×List (Int×Int×Int×Bool×Int×Unit)×List (Int×Int×Int×Int×Int×Int×Int×Int×Int×Int×Unit)×Unit)) (x1:Int):evFn tabO false [(295,.sig slices_Contains_int_int.sig),(307,.inl Tryz.f307 [⟨5,[],[⟨.slot 8,⟨false,0⟩,(.int .i64)⟩]⟩]),(308,.inl Tryz.f308 [])] [] Tryz.f252 impl_chuteOf.sig k (x0,x1,())=impl_chuteOf.f k x0 x1:=by kernel_rfl
end Go.Proofs.YtpmjopbgccajgaaGreat.Eng
