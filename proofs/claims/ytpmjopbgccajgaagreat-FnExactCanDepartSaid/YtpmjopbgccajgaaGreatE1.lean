/- The pure functions are what the evaluator computes of the program's code. By a program of this session. No condition. -/
import Derived.Test.YtpmjopbgccajgaaGreatD
import Derived.Test.YtpmjopbgccajgaaGreatProg
import Derived.KernelRfl
namespace Go.Proofs.YtpmjopbgccajgaaGreat.Eng
open Go.Proofs
set_option linter.unusedVariables false
set_option maxRecDepth 100000 in
theorem impl_isTick.eq (k:Nat) (x0:Int):evFn tabO false [] [] Tryz.f67 impl_isTick.sig k (x0,())=impl_isTick.f k x0:=by kernel_rfl
set_option maxRecDepth 100000 in
theorem impl_isWait.eq (k:Nat) (x0:Int) (x1:Int):evFn tabO false [] [] Tryz.f176 impl_isWait.sig k (x0,x1,())=impl_isWait.f k x0 x1:=by kernel_rfl
set_option maxRecDepth 100000 in
theorem impl_PolicyOk.eq (k:Nat) (x0:(List (Int×Unit)×Unit)):evFn tabO false [(174,.inl Tryz.f174 []),(175,.inl Tryz.f175 []),(176,.sig impl_isWait.sig),(191,.inl Tryz.f191 [⟨5,[],[⟨.slot 8,⟨false,0⟩,(.int .i64)⟩]⟩])] [] Tryz.f68 impl_PolicyOk.sig k (x0,())=impl_PolicyOk.f k x0:=by kernel_rfl
set_option maxRecDepth 100000 in
theorem impl_LimitsOk.eq (k:Nat) (x0:(Int×Int×Unit)):evFn tabO false [] [] Tryz.f69 impl_LimitsOk.sig k (x0,())=impl_LimitsOk.f k x0:=by kernel_rfl
set_option maxRecDepth 100000 in
theorem impl_isOn.eq (k:Nat) (x0:List (Int×Int×Int×Unit)) (x1:Int):evFn tabO false [(269,.inl Tryz.f269 []),(270,.inl Tryz.f270 []),(323,.inl Tryz.f323 [⟨5,[],[⟨.slot 8,⟨false,0⟩,(.int .i64)⟩]⟩])] [] Tryz.f177 impl_isOn.sig k (x0,x1,())=impl_isOn.f k x0 x1:=by kernel_rfl
set_option maxRecDepth 100000 in
theorem impl_BeltOk.eq (k:Nat) (x0:(Int×Int×Bool×List (Int×Int×Int×Unit)×Unit)):evFn tabO false [(177,.sig impl_isOn.sig)] [⟨11,[],[⟨.slot 3,⟨false,0⟩,(.int .i64)⟩,⟨.slot 35,⟨false,0⟩,(.int .i64)⟩]⟩] Tryz.f70 impl_BeltOk.sig k (x0,())=impl_BeltOk.f k x0:=by kernel_rfl
set_option maxRecDepth 100000 in
theorem impl_areIndexes.eq (k:Nat) (x0:List (Int×Unit)) (x1:Int):evFn tabO false [] [⟨5,[],[⟨.slot 9,⟨false,0⟩,(.int .i64)⟩]⟩,⟨12,[],[]⟩] Tryz.f178 impl_areIndexes.sig k (x0,x1,())=impl_areIndexes.f k x0 x1:=by kernel_rfl
set_option maxRecDepth 100000 in
theorem slices_Clone_int_int.eq (k:Nat) (x0:List (Int×Unit)):evFn tabO false [] [] Tryz.f78 slices_Clone_int_int.sig k (x0,())=slices_Clone_int_int.f k x0:=by kernel_rfl
set_option maxRecDepth 100000 in
theorem impl_bagsOf.eq (k:Nat) (x0:(List (Int×Unit)×Int×List (Int×Int×List (Int×Unit)×Unit)×List (Int×List (Int×Unit)×Unit)×Unit)):evFn tabO false [(77,.inl Tryz.f77 [⟨11,[],[⟨.root 1,⟨false,2⟩,(.slice K2)⟩,⟨.slot 5,⟨false,0⟩,(.int .i64)⟩,⟨.slot 6,⟨false,0⟩,(.int .i64)⟩]⟩,⟨12,[],[⟨.slot 5,⟨false,0⟩,(.int .i64)⟩,⟨.root 1,⟨false,2⟩,(.slice K2)⟩]⟩]),(78,.sig slices_Clone_int_int.sig),(191,.inl Tryz.f191 [⟨5,[],[⟨.slot 8,⟨false,0⟩,(.int .i64)⟩]⟩]),(271,.inl Tryz.f271 [])] [⟨7,[],[⟨.slot 3,⟨false,2⟩,(.slice K2)⟩,⟨.slot 13,⟨false,0⟩,(.int .i64)⟩]⟩] Tryz.f179 impl_bagsOf.sig k (x0,())=impl_bagsOf.f k x0:=by kernel_rfl
set_option maxRecDepth 100000 in
theorem impl_areDifferent.eq (k:Nat) (x0:List (Int×Unit)):evFn tabO false [(78,.sig slices_Clone_int_int.sig),(192,.sig sortSig),(272,.inl Tryz.f272 [⟨20,[],[⟨.slot 3,⟨false,0⟩,(.int .i64)⟩,⟨.root 0,⟨false,2⟩,(.slice K2)⟩]⟩,⟨9,[],[⟨.slot 3,⟨false,0⟩,(.int .i64)⟩]⟩,⟨19,[],[⟨.root 0,⟨false,2⟩,(.slice K2)⟩,⟨.slot 3,⟨false,0⟩,(.int .i64)⟩,⟨.slot 5,⟨false,0⟩,(.int .i64)⟩]⟩])] [] Tryz.f181 impl_areDifferent.sig k (x0,())=impl_areDifferent.f k x0:=by kernel_rfl
set_option maxRecDepth 100000 in
theorem impl_LoopOk.eq (k:Nat) (x0:(List (Int×Unit)×Int×List (Int×Int×List (Int×Unit)×Unit)×List (Int×List (Int×Unit)×Unit)×Unit)):evFn tabO false [(174,.inl Tryz.f174 []),(178,.sig impl_areIndexes.sig),(179,.sig impl_bagsOf.sig),(180,.inl Tryz.f180 []),(181,.sig impl_areDifferent.sig),(191,.inl Tryz.f191 [⟨5,[],[⟨.slot 8,⟨false,0⟩,(.int .i64)⟩]⟩])] [⟨27,[],[⟨.slot 5,⟨false,2⟩,(.slice K2)⟩,⟨.slot 86,⟨false,0⟩,(.int .i64)⟩]⟩,⟨13,[],[⟨.slot 4,⟨false,2⟩,(.slice K2)⟩,⟨.slot 46,⟨false,0⟩,(.int .i64)⟩]⟩] Tryz.f71 impl_LoopOk.sig k (x0,())=impl_LoopOk.f k x0:=by kernel_rfl
set_option maxRecDepth 100000 in
theorem impl_bagsIn.eq (k:Nat) (x0:(Int×List (List (Int×Int×Unit)×Unit)×Unit)):evFn tabO false [] [⟨7,[],[⟨.slot 3,⟨false,2⟩,(.slice K2)⟩,⟨.slot 11,⟨false,0⟩,(.int .i64)⟩]⟩,⟨13,[],[⟨.slot 3,⟨false,2⟩,(.slice K2)⟩,⟨.slot 17,⟨false,0⟩,(.int .i64)⟩]⟩] Tryz.f81 impl_bagsIn.sig k (x0,())=impl_bagsIn.f k x0:=by kernel_rfl
set_option maxRecDepth 100000 in
theorem impl_StoreOk.eq (k:Nat) (x0:(Int×List (List (Int×Int×Unit)×Unit)×Unit)):evFn tabO false [(67,.sig impl_isTick.sig),(81,.sig impl_bagsIn.sig),(181,.sig impl_areDifferent.sig),(182,.inl Tryz.f182 []),(183,.inl Tryz.f183 []),(273,.inl Tryz.f273 [⟨5,[],[⟨.slot 8,⟨false,0⟩,(.int .i64)⟩]⟩])] [⟨9,[],[⟨.slot 28,⟨false,0⟩,(.int .i64)⟩]⟩,⟨16,[],[]⟩] Tryz.f72 impl_StoreOk.sig k (x0,())=impl_StoreOk.f k x0:=by kernel_rfl
set_option maxRecDepth 100000 in
theorem impl_isFrom1.eq (k:Nat) (x0:Int) (x1:Int):evFn tabO false [] [] Tryz.f142 impl_isFrom1.sig k (x0,x1,())=impl_isFrom1.f k x0 x1:=by kernel_rfl
set_option maxRecDepth 100000 in
theorem impl_NoteOk.eq (k:Nat) (x0:(Int×Int×Int×Int×Int×Unit)):evFn tabO false [(142,.sig impl_isFrom1.sig)] [⟨16,[],[⟨.slot 25,⟨false,0⟩,.bool⟩]⟩] Tryz.f184 impl_NoteOk.sig k (x0,())=impl_NoteOk.f k x0:=by kernel_rfl
set_option maxRecDepth 100000 in
theorem impl_NotesOk.eq (k:Nat) (x0:List (Int×Int×Int×Int×Int×Unit)):evFn tabO false [(184,.sig impl_NoteOk.sig)] [⟨5,[],[⟨.slot 7,⟨false,0⟩,(.int .i64)⟩]⟩,⟨12,[],[]⟩] Tryz.f73 impl_NotesOk.sig k (x0,())=impl_NotesOk.f k x0:=by kernel_rfl
set_option maxRecDepth 100000 in
theorem impl_areFlights.eq (k:Nat) (x0:(Int×List (Int×Unit)×Int×Int×Int×Int×Bool×List (Int×Int×Int×Unit)×List (Int×Unit)×Int×List (Int×Int×List (Int×Unit)×Unit)×List (Int×List (Int×Unit)×Unit)×Int×List (List (Int×Int×Unit)×Unit)×List (Int×Int×Int×Int×Int×Unit)×List (Int×Int×Int×Bool×Int×Unit)×List (Int×Int×Int×Int×Int×Int×Int×Int×Int×Int×Unit)×Unit)):evFn tabO false [(185,.inl Tryz.f185 []),(186,.inl Tryz.f186 []),(274,.inl Tryz.f274 [⟨5,[],[⟨.slot 8,⟨false,0⟩,(.int .i64)⟩]⟩,⟨12,[],[]⟩])] [] Tryz.f74 impl_areFlights.sig k (x0,())=impl_areFlights.f k x0:=by kernel_rfl
set_option maxRecDepth 100000 in
theorem impl_isFlight.eq (k:Nat) (x0:(Int×List (Int×Unit)×Int×Int×Int×Int×Bool×List (Int×Int×Int×Unit)×List (Int×Unit)×Int×List (Int×Int×List (Int×Unit)×Unit)×List (Int×List (Int×Unit)×Unit)×Int×List (List (Int×Int×Unit)×Unit)×List (Int×Int×Int×Int×Int×Unit)×List (Int×Int×Int×Bool×Int×Unit)×List (Int×Int×Int×Int×Int×Int×Int×Int×Int×Int×Unit)×Unit)) (x1:Int):evFn tabO false [(142,.sig impl_isFrom1.sig)] [] Tryz.f56 impl_isFlight.sig k (x0,x1,())=impl_isFlight.f k x0 x1:=by kernel_rfl
set_option maxRecDepth 100000 in
theorem impl_TagOk.eq (k:Nat) (x0:(Int×Int×Int×Unit)):evFn tabO false [] [] Tryz.f187 impl_TagOk.sig k (x0,())=impl_TagOk.f k x0:=by kernel_rfl
set_option maxRecDepth 100000 in
theorem impl_ScreenOk.eq (k:Nat) (x0:(Int×Int×Int×Unit)):evFn tabO false [(67,.sig impl_isTick.sig)] [] Tryz.f188 impl_ScreenOk.sig k (x0,())=impl_ScreenOk.f k x0:=by kernel_rfl
set_option maxRecDepth 100000 in
theorem impl_isCase.eq (k:Nat) (x0:(Int×List (Int×Unit)×Int×Int×Int×Int×Bool×List (Int×Int×Int×Unit)×List (Int×Unit)×Int×List (Int×Int×List (Int×Unit)×Unit)×List (Int×List (Int×Unit)×Unit)×Int×List (List (Int×Int×Unit)×Unit)×List (Int×Int×Int×Int×Int×Unit)×List (Int×Int×Int×Bool×Int×Unit)×List (Int×Int×Int×Int×Int×Int×Int×Int×Int×Int×Unit)×Unit)) (x1:(Int×Int×Int×Int×Int×Int×Int×Int×Int×Int×Unit)):evFn tabO false [(56,.sig impl_isFlight.sig),(142,.sig impl_isFrom1.sig),(187,.sig impl_TagOk.sig),(188,.sig impl_ScreenOk.sig)] [⟨26,[],[⟨.slot 59,⟨false,0⟩,.bool⟩]⟩] Tryz.f75 impl_isCase.sig k (x0,x1,())=impl_isCase.f k x0 x1:=by kernel_rfl
set_option maxRecDepth 100000 in
theorem impl_hasTag.eq (k:Nat) (x0:List (Int×Int×Int×Int×Int×Int×Int×Int×Int×Int×Unit)) (x1:(Int×Int×Int×Unit)):evFn tabO false [(189,.inl Tryz.f189 []),(190,.inl Tryz.f190 []),(275,.inl Tryz.f275 [⟨5,[],[⟨.slot 8,⟨false,0⟩,(.int .i64)⟩]⟩])] [] Tryz.f76 impl_hasTag.sig k (x0,x1,())=impl_hasTag.f k x0 x1:=by kernel_rfl
set_option maxRecDepth 100000 in
theorem slices_Equal_int_int.eq (k:Nat) (x0:List (Int×Unit)) (x1:List (Int×Unit)):evFn tabO false [] [⟨9,[],[⟨.slot 13,⟨false,0⟩,(.int .i64)⟩]⟩] Tryz.f193 slices_Equal_int_int.sig k (x0,x1,())=slices_Equal_int_int.f k x0 x1:=by kernel_rfl
set_option maxRecDepth 100000 in
theorem impl_at.eq (k:Nat) (x0:(Int×List (Int×Unit)×Int×Int×Int×Int×Bool×List (Int×Int×Int×Unit)×List (Int×Unit)×Int×List (Int×Int×List (Int×Unit)×Unit)×List (Int×List (Int×Unit)×Unit)×Int×List (List (Int×Int×Unit)×Unit)×List (Int×Int×Int×Int×Int×Unit)×List (Int×Int×Int×Bool×Int×Unit)×List (Int×Int×Int×Int×Int×Int×Int×Int×Int×Int×Unit)×Unit)) (x1:Int):evFn tabO false [] [⟨7,[],[⟨.slot 5,⟨false,2⟩,(.slice K2)⟩,⟨.slot 11,⟨false,0⟩,(.int .i64)⟩]⟩,⟨14,[],[⟨.slot 5,⟨false,2⟩,(.slice K2)⟩]⟩] Tryz.f194 impl_at.sig k (x0,x1,())=impl_at.f k x0 x1:=by kernel_rfl
set_option maxRecDepth 100000 in
theorem impl_areBags.eq (k:Nat) (x0:(Int×List (Int×Unit)×Int×Int×Int×Int×Bool×List (Int×Int×Int×Unit)×List (Int×Unit)×Int×List (Int×Int×List (Int×Unit)×Unit)×List (Int×List (Int×Unit)×Unit)×Int×List (List (Int×Int×Unit)×Unit)×List (Int×Int×Int×Int×Int×Unit)×List (Int×Int×Int×Bool×Int×Unit)×List (Int×Int×Int×Int×Int×Int×Int×Int×Int×Int×Unit)×Unit)) (x1:Int) (x2:List (Int×Unit)):evFn tabO false [(192,.sig sortSig),(193,.sig slices_Equal_int_int.sig),(194,.sig impl_at.sig)] [] Tryz.f80 impl_areBags.sig k (x0,x1,x2,())=impl_areBags.f k x0 x1 x2:=by kernel_rfl
set_option maxRecDepth 100000 in
theorem impl_HallOk.eq (k:Nat) (x0:(Int×List (Int×Unit)×Int×Int×Int×Int×Bool×List (Int×Int×Int×Unit)×List (Int×Unit)×Int×List (Int×Int×List (Int×Unit)×Unit)×List (Int×List (Int×Unit)×Unit)×Int×List (List (Int×Int×Unit)×Unit)×List (Int×Int×Int×Int×Int×Unit)×List (Int×Int×Int×Bool×Int×Unit)×List (Int×Int×Int×Int×Int×Int×Int×Int×Int×Int×Unit)×Unit)):evFn tabO false [(67,.sig impl_isTick.sig),(68,.sig impl_PolicyOk.sig),(69,.sig impl_LimitsOk.sig),(70,.sig impl_BeltOk.sig),(71,.sig impl_LoopOk.sig),(72,.sig impl_StoreOk.sig),(73,.sig impl_NotesOk.sig),(74,.sig impl_areFlights.sig),(75,.sig impl_isCase.sig),(76,.sig impl_hasTag.sig),(77,.inl Tryz.f77 [⟨11,[],[⟨.root 3,⟨false,2⟩,(.slice K2)⟩,⟨.slot 5,⟨false,0⟩,(.int .i64)⟩,⟨.slot 6,⟨false,0⟩,(.int .i64)⟩]⟩,⟨12,[],[⟨.slot 5,⟨false,0⟩,(.int .i64)⟩,⟨.root 3,⟨false,2⟩,(.slice K2)⟩]⟩]),(78,.sig slices_Clone_int_int.sig),(79,.inl Tryz.f79 []),(80,.sig impl_areBags.sig),(81,.sig impl_bagsIn.sig),(191,.inl Tryz.f191 [⟨5,[],[⟨.slot 8,⟨false,0⟩,(.int .i64)⟩]⟩])] [⟨27,[],[⟨.slot 5,⟨false,2⟩,(.slice K2)⟩,⟨.slot 87,⟨false,0⟩,(.int .i64)⟩]⟩,⟨37,[],[⟨.slot 6,⟨false,2⟩,(.slice K2)⟩,⟨.slot 101,⟨false,0⟩,(.int .i64)⟩]⟩,⟨13,[],[⟨.slot 64,⟨false,0⟩,(.int .i64)⟩]⟩] Tryz.f23 impl_HallOk.sig k (x0,())=impl_HallOk.f k x0:=by kernel_rfl
set_option maxRecDepth 100000 in
theorem slices_Clone_impl_Item.eq (k:Nat) (x0:List (Int×Int×Int×Unit)):evFn tabO false [] [] Tryz.f237 slices_Clone_impl_Item.sig k (x0,())=slices_Clone_impl_Item.f k x0:=by kernel_rfl
set_option maxRecDepth 100000 in
theorem impl_copyBelt.eq (k:Nat) (x0:(Int×Int×Bool×List (Int×Int×Int×Unit)×Unit)):evFn tabO false [(237,.sig slices_Clone_impl_Item.sig)] [] Tryz.f136 impl_copyBelt.sig k (x0,())=impl_copyBelt.f k x0:=by kernel_rfl
set_option maxRecDepth 100000 in
theorem impl_copyLoop.eq (k:Nat) (x0:(List (Int×Unit)×Int×List (Int×Int×List (Int×Unit)×Unit)×List (Int×List (Int×Unit)×Unit)×Unit)):evFn tabO false [(78,.sig slices_Clone_int_int.sig)] [⟨4,[],[⟨.slot 3,⟨true,2⟩,K34⟩]⟩,⟨7,[],[⟨.cell 2 2,⟨false,2⟩,(.slice K64)⟩,⟨.slot 17,⟨false,0⟩,(.int .i64)⟩]⟩,⟨19,[],[⟨.cell 2 3,⟨false,2⟩,(.slice K204)⟩,⟨.slot 35,⟨false,0⟩,(.int .i64)⟩]⟩] Tryz.f137 impl_copyLoop.sig k (x0,())=impl_copyLoop.f k x0:=by kernel_rfl
set_option maxRecDepth 100000 in
theorem slices_Clone_impl_Kept.eq (k:Nat) (x0:List (Int×Int×Unit)):evFn tabO false [] [] Tryz.f238 slices_Clone_impl_Kept.sig k (x0,())=slices_Clone_impl_Kept.f k x0:=by kernel_rfl
set_option maxRecDepth 100000 in
theorem impl_copyStore.eq (k:Nat) (x0:(Int×List (List (Int×Int×Unit)×Unit)×Unit)):evFn tabO false [(238,.sig slices_Clone_impl_Kept.sig)] [⟨7,[],[⟨.cell 2 1,⟨false,2⟩,(.slice K173)⟩,⟨.slot 12,⟨false,0⟩,(.int .i64)⟩]⟩] Tryz.f138 impl_copyStore.sig k (x0,())=impl_copyStore.f k x0:=by kernel_rfl
set_option maxRecDepth 100000 in
theorem slices_Clone_impl_Note.eq (k:Nat) (x0:List (Int×Int×Int×Int×Int×Unit)):evFn tabO false [] [] Tryz.f139 slices_Clone_impl_Note.sig k (x0,())=slices_Clone_impl_Note.f k x0:=by kernel_rfl
end Go.Proofs.YtpmjopbgccajgaaGreat.Eng
