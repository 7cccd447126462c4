/- The pure functions are what the evaluator computes of the program's code. By a program of this session. No condition. -/
import Derived.Test.YtcfbjloblbhdhaaGreatD
import Derived.Test.YtcfbjloblbhdhaaGreatProg
import Derived.KernelRfl
namespace Go.Proofs.YtcfbjloblbhdhaaGreat.Eng
open Go.Proofs
set_option linter.unusedVariables false
set_option maxRecDepth 100000 in
theorem impl_LimitsOk.eq (k:Nat) (x0:(Int×Int×Unit)):evFn tabO false [] [] Tryz.f65 impl_LimitsOk.sig k (x0,())=impl_LimitsOk.f k x0:=by kernel_rfl
set_option maxRecDepth 100000 in
theorem impl_isOn.eq (k:Nat) (x0:List (Int×Int×Int×Unit)) (x1:Int):evFn tabO false [(199,.inl Tryz.f199 []),(200,.inl Tryz.f200 []),(241,.inl Tryz.f241 [⟨5,[],[⟨.slot 8,⟨false,0⟩,(.int .i64)⟩]⟩])] [] Tryz.f135 impl_isOn.sig k (x0,x1,())=impl_isOn.f k x0 x1:=by kernel_rfl
set_option maxRecDepth 100000 in
theorem impl_BeltOk.eq (k:Nat) (x0:(Int×Int×Bool×List (Int×Int×Int×Unit)×Unit)):evFn tabO false [(135,.sig impl_isOn.sig)] [⟨11,[],[⟨.slot 3,⟨false,0⟩,(.int .i64)⟩,⟨.slot 35,⟨false,0⟩,(.int .i64)⟩]⟩] Tryz.f66 impl_BeltOk.sig k (x0,())=impl_BeltOk.f k x0:=by kernel_rfl
set_option maxRecDepth 100000 in
theorem impl_areIndexes.eq (k:Nat) (x0:List (Int×Unit)) (x1:Int):evFn tabO false [] [⟨5,[],[⟨.slot 9,⟨false,0⟩,(.int .i64)⟩]⟩,⟨12,[],[]⟩] Tryz.f136 impl_areIndexes.sig k (x0,x1,())=impl_areIndexes.f k x0 x1:=by kernel_rfl
set_option maxRecDepth 100000 in
theorem slices_Clone_int_int.eq (k:Nat) (x0:List (Int×Unit)):evFn tabO false [] [] Tryz.f74 slices_Clone_int_int.sig k (x0,())=slices_Clone_int_int.f k x0:=by kernel_rfl
set_option maxRecDepth 100000 in
theorem impl_bagsOf.eq (k:Nat) (x0:(List (Int×Unit)×Int×List (Int×Int×List (Int×Unit)×Unit)×List (Int×List (Int×Unit)×Unit)×Unit)):evFn tabO false [(73,.inl Tryz.f73 [⟨11,[],[⟨.root 1,⟨false,2⟩,(.slice K2)⟩,⟨.slot 5,⟨false,0⟩,(.int .i64)⟩,⟨.slot 6,⟨false,0⟩,(.int .i64)⟩]⟩,⟨12,[],[⟨.slot 5,⟨false,0⟩,(.int .i64)⟩,⟨.root 1,⟨false,2⟩,(.slice K2)⟩]⟩]),(74,.sig slices_Clone_int_int.sig),(151,.inl Tryz.f151 [⟨5,[],[⟨.slot 8,⟨false,0⟩,(.int .i64)⟩]⟩]),(201,.inl Tryz.f201 [])] [⟨7,[],[⟨.slot 3,⟨false,2⟩,(.slice K2)⟩,⟨.slot 13,⟨false,0⟩,(.int .i64)⟩]⟩] Tryz.f137 impl_bagsOf.sig k (x0,())=impl_bagsOf.f k x0:=by kernel_rfl
set_option maxRecDepth 100000 in
theorem impl_areDifferent.eq (k:Nat) (x0:List (Int×Unit)):evFn tabO false [(74,.sig slices_Clone_int_int.sig),(152,.sig sortSig),(202,.inl Tryz.f202 [⟨20,[],[⟨.slot 3,⟨false,0⟩,(.int .i64)⟩,⟨.root 0,⟨false,2⟩,(.slice K2)⟩]⟩,⟨9,[],[⟨.slot 3,⟨false,0⟩,(.int .i64)⟩]⟩,⟨19,[],[⟨.root 0,⟨false,2⟩,(.slice K2)⟩,⟨.slot 3,⟨false,0⟩,(.int .i64)⟩,⟨.slot 5,⟨false,0⟩,(.int .i64)⟩]⟩])] [] Tryz.f139 impl_areDifferent.sig k (x0,())=impl_areDifferent.f k x0:=by kernel_rfl
set_option maxRecDepth 100000 in
theorem impl_LoopOk.eq (k:Nat) (x0:(List (Int×Unit)×Int×List (Int×Int×List (Int×Unit)×Unit)×List (Int×List (Int×Unit)×Unit)×Unit)):evFn tabO false [(132,.inl Tryz.f132 []),(136,.sig impl_areIndexes.sig),(137,.sig impl_bagsOf.sig),(138,.inl Tryz.f138 []),(139,.sig impl_areDifferent.sig),(151,.inl Tryz.f151 [⟨5,[],[⟨.slot 8,⟨false,0⟩,(.int .i64)⟩]⟩])] [⟨27,[],[⟨.slot 5,⟨false,2⟩,(.slice K2)⟩,⟨.slot 86,⟨false,0⟩,(.int .i64)⟩]⟩,⟨13,[],[⟨.slot 4,⟨false,2⟩,(.slice K2)⟩,⟨.slot 46,⟨false,0⟩,(.int .i64)⟩]⟩] Tryz.f67 impl_LoopOk.sig k (x0,())=impl_LoopOk.f k x0:=by kernel_rfl
set_option maxRecDepth 100000 in
theorem impl_bagsIn.eq (k:Nat) (x0:(Int×List (List (Int×Int×Unit)×Unit)×Unit)):evFn tabO false [] [⟨7,[],[⟨.slot 3,⟨false,2⟩,(.slice K2)⟩,⟨.slot 11,⟨false,0⟩,(.int .i64)⟩]⟩,⟨13,[],[⟨.slot 3,⟨false,2⟩,(.slice K2)⟩,⟨.slot 17,⟨false,0⟩,(.int .i64)⟩]⟩] Tryz.f77 impl_bagsIn.sig k (x0,())=impl_bagsIn.f k x0:=by kernel_rfl
set_option maxRecDepth 100000 in
theorem impl_StoreOk.eq (k:Nat) (x0:(Int×List (List (Int×Int×Unit)×Unit)×Unit)):evFn tabO false [(63,.sig impl_isTick.sig),(77,.sig impl_bagsIn.sig),(139,.sig impl_areDifferent.sig),(140,.inl Tryz.f140 []),(141,.inl Tryz.f141 []),(203,.inl Tryz.f203 [⟨5,[],[⟨.slot 8,⟨false,0⟩,(.int .i64)⟩]⟩])] [⟨9,[],[⟨.slot 28,⟨false,0⟩,(.int .i64)⟩]⟩,⟨16,[],[]⟩] Tryz.f68 impl_StoreOk.sig k (x0,())=impl_StoreOk.f k x0:=by kernel_rfl
set_option maxRecDepth 100000 in
theorem impl_isFrom1.eq (k:Nat) (x0:Int) (x1:Int):evFn tabO false [] [] Tryz.f147 impl_isFrom1.sig k (x0,x1,())=impl_isFrom1.f k x0 x1:=by kernel_rfl
set_option maxRecDepth 100000 in
theorem impl_NoteOk.eq (k:Nat) (x0:(Int×Int×Int×Int×Int×Unit)):evFn tabO false [(147,.sig impl_isFrom1.sig)] [⟨16,[],[⟨.slot 25,⟨false,0⟩,.bool⟩]⟩] Tryz.f142 impl_NoteOk.sig k (x0,())=impl_NoteOk.f k x0:=by kernel_rfl
set_option maxRecDepth 100000 in
theorem impl_NotesOk.eq (k:Nat) (x0:List (Int×Int×Int×Int×Int×Unit)):evFn tabO false [(142,.sig impl_NoteOk.sig)] [⟨5,[],[⟨.slot 7,⟨false,0⟩,(.int .i64)⟩]⟩,⟨12,[],[]⟩] Tryz.f69 impl_NotesOk.sig k (x0,())=impl_NotesOk.f k x0:=by kernel_rfl
set_option maxRecDepth 100000 in
theorem impl_areFlights.eq (k:Nat) (x0:(Int×List (Int×Unit)×Int×Int×Int×Int×Bool×List (Int×Int×Int×Unit)×List (Int×Unit)×Int×List (Int×Int×List (Int×Unit)×Unit)×List (Int×List (Int×Unit)×Unit)×Int×List (List (Int×Int×Unit)×Unit)×List (Int×Int×Int×Int×Int×Unit)×List (Int×Int×Int×Bool×Int×Unit)×List (Int×Int×Int×Int×Int×Int×Int×Int×Int×Int×Unit)×Unit)):evFn tabO false [(143,.inl Tryz.f143 []),(144,.inl Tryz.f144 []),(204,.inl Tryz.f204 [⟨5,[],[⟨.slot 8,⟨false,0⟩,(.int .i64)⟩]⟩,⟨12,[],[]⟩])] [] Tryz.f70 impl_areFlights.sig k (x0,())=impl_areFlights.f k x0:=by kernel_rfl
set_option maxRecDepth 100000 in
theorem impl_TagOk.eq (k:Nat) (x0:(Int×Int×Int×Unit)):evFn tabO false [] [] Tryz.f145 impl_TagOk.sig k (x0,())=impl_TagOk.f k x0:=by kernel_rfl
set_option maxRecDepth 100000 in
theorem impl_isFlight.eq (k:Nat) (x0:(Int×List (Int×Unit)×Int×Int×Int×Int×Bool×List (Int×Int×Int×Unit)×List (Int×Unit)×Int×List (Int×Int×List (Int×Unit)×Unit)×List (Int×List (Int×Unit)×Unit)×Int×List (List (Int×Int×Unit)×Unit)×List (Int×Int×Int×Int×Int×Unit)×List (Int×Int×Int×Bool×Int×Unit)×List (Int×Int×Int×Int×Int×Int×Int×Int×Int×Int×Unit)×Unit)) (x1:Int):evFn tabO false [(147,.sig impl_isFrom1.sig)] [] Tryz.f146 impl_isFlight.sig k (x0,x1,())=impl_isFlight.f k x0 x1:=by kernel_rfl
set_option maxRecDepth 100000 in
theorem impl_ScreenOk.eq (k:Nat) (x0:(Int×Int×Int×Unit)):evFn tabO false [(63,.sig impl_isTick.sig)] [] Tryz.f148 impl_ScreenOk.sig k (x0,())=impl_ScreenOk.f k x0:=by kernel_rfl
set_option maxRecDepth 100000 in
theorem impl_isCase.eq (k:Nat) (x0:(Int×List (Int×Unit)×Int×Int×Int×Int×Bool×List (Int×Int×Int×Unit)×List (Int×Unit)×Int×List (Int×Int×List (Int×Unit)×Unit)×List (Int×List (Int×Unit)×Unit)×Int×List (List (Int×Int×Unit)×Unit)×List (Int×Int×Int×Int×Int×Unit)×List (Int×Int×Int×Bool×Int×Unit)×List (Int×Int×Int×Int×Int×Int×Int×Int×Int×Int×Unit)×Unit)) (x1:(Int×Int×Int×Int×Int×Int×Int×Int×Int×Int×Unit)):evFn tabO false [(145,.sig impl_TagOk.sig),(146,.sig impl_isFlight.sig),(147,.sig impl_isFrom1.sig),(148,.sig impl_ScreenOk.sig)] [⟨26,[],[⟨.slot 59,⟨false,0⟩,.bool⟩]⟩] Tryz.f71 impl_isCase.sig k (x0,x1,())=impl_isCase.f k x0 x1:=by kernel_rfl
set_option maxRecDepth 100000 in
theorem impl_hasTag.eq (k:Nat) (x0:List (Int×Int×Int×Int×Int×Int×Int×Int×Int×Int×Unit)) (x1:(Int×Int×Int×Unit)):evFn tabO false [(149,.inl Tryz.f149 []),(150,.inl Tryz.f150 []),(205,.inl Tryz.f205 [⟨5,[],[⟨.slot 8,⟨false,0⟩,(.int .i64)⟩]⟩])] [] Tryz.f72 impl_hasTag.sig k (x0,x1,())=impl_hasTag.f k x0 x1:=by kernel_rfl
set_option maxRecDepth 100000 in
theorem impl_at.eq (k:Nat) (x0:(Int×List (Int×Unit)×Int×Int×Int×Int×Bool×List (Int×Int×Int×Unit)×List (Int×Unit)×Int×List (Int×Int×List (Int×Unit)×Unit)×List (Int×List (Int×Unit)×Unit)×Int×List (List (Int×Int×Unit)×Unit)×List (Int×Int×Int×Int×Int×Unit)×List (Int×Int×Int×Bool×Int×Unit)×List (Int×Int×Int×Int×Int×Int×Int×Int×Int×Int×Unit)×Unit)) (x1:Int):evFn tabO false [] [⟨7,[],[⟨.slot 5,⟨false,2⟩,(.slice K2)⟩,⟨.slot 11,⟨false,0⟩,(.int .i64)⟩]⟩,⟨14,[],[⟨.slot 5,⟨false,2⟩,(.slice K2)⟩]⟩] Tryz.f22 impl_at.sig k (x0,x1,())=impl_at.f k x0 x1:=by kernel_rfl
set_option maxRecDepth 100000 in
theorem slices_Equal_int_int.eq (k:Nat) (x0:List (Int×Unit)) (x1:List (Int×Unit)):evFn tabO false [] [⟨9,[],[⟨.slot 13,⟨false,0⟩,(.int .i64)⟩]⟩] Tryz.f153 slices_Equal_int_int.sig k (x0,x1,())=slices_Equal_int_int.f k x0 x1:=by kernel_rfl
set_option maxRecDepth 100000 in
theorem impl_areBags.eq (k:Nat) (x0:(Int×List (Int×Unit)×Int×Int×Int×Int×Bool×List (Int×Int×Int×Unit)×List (Int×Unit)×Int×List (Int×Int×List (Int×Unit)×Unit)×List (Int×List (Int×Unit)×Unit)×Int×List (List (Int×Int×Unit)×Unit)×List (Int×Int×Int×Int×Int×Unit)×List (Int×Int×Int×Bool×Int×Unit)×List (Int×Int×Int×Int×Int×Int×Int×Int×Int×Int×Unit)×Unit)) (x1:Int) (x2:List (Int×Unit)):evFn tabO false [(22,.sig impl_at.sig),(152,.sig sortSig),(153,.sig slices_Equal_int_int.sig)] [] Tryz.f76 impl_areBags.sig k (x0,x1,x2,())=impl_areBags.f k x0 x1 x2:=by kernel_rfl
set_option maxRecDepth 100000 in
theorem impl_HallOk.eq (k:Nat) (x0:(Int×List (Int×Unit)×Int×Int×Int×Int×Bool×List (Int×Int×Int×Unit)×List (Int×Unit)×Int×List (Int×Int×List (Int×Unit)×Unit)×List (Int×List (Int×Unit)×Unit)×Int×List (List (Int×Int×Unit)×Unit)×List (Int×Int×Int×Int×Int×Unit)×List (Int×Int×Int×Bool×Int×Unit)×List (Int×Int×Int×Int×Int×Int×Int×Int×Int×Int×Unit)×Unit)):evFn tabO false [(63,.sig impl_isTick.sig),(64,.sig impl_PolicyOk.sig),(65,.sig impl_LimitsOk.sig),(66,.sig impl_BeltOk.sig),(67,.sig impl_LoopOk.sig),(68,.sig impl_StoreOk.sig),(69,.sig impl_NotesOk.sig),(70,.sig impl_areFlights.sig),(71,.sig impl_isCase.sig),(72,.sig impl_hasTag.sig),(73,.inl Tryz.f73 [⟨11,[],[⟨.root 3,⟨false,2⟩,(.slice K2)⟩,⟨.slot 5,⟨false,0⟩,(.int .i64)⟩,⟨.slot 6,⟨false,0⟩,(.int .i64)⟩]⟩,⟨12,[],[⟨.slot 5,⟨false,0⟩,(.int .i64)⟩,⟨.root 3,⟨false,2⟩,(.slice K2)⟩]⟩]),(74,.sig slices_Clone_int_int.sig),(75,.inl Tryz.f75 []),(76,.sig impl_areBags.sig),(77,.sig impl_bagsIn.sig),(151,.inl Tryz.f151 [⟨5,[],[⟨.slot 8,⟨false,0⟩,(.int .i64)⟩]⟩])] [⟨27,[],[⟨.slot 5,⟨false,2⟩,(.slice K2)⟩,⟨.slot 87,⟨false,0⟩,(.int .i64)⟩]⟩,⟨37,[],[⟨.slot 6,⟨false,2⟩,(.slice K2)⟩,⟨.slot 101,⟨false,0⟩,(.int .i64)⟩]⟩,⟨13,[],[⟨.slot 64,⟨false,0⟩,(.int .i64)⟩]⟩] Tryz.f21 impl_HallOk.sig k (x0,())=impl_HallOk.f k x0:=by kernel_rfl
set_option maxRecDepth 100000 in
theorem impl_LedgerOf.eq (k:Nat) (x0:(Int×List (Int×Unit)×Int×Int×Int×Int×Bool×List (Int×Int×Int×Unit)×List (Int×Unit)×Int×List (Int×Int×List (Int×Unit)×Unit)×List (Int×List (Int×Unit)×Unit)×Int×List (List (Int×Int×Unit)×Unit)×List (Int×Int×Int×Int×Int×Unit)×List (Int×Int×Int×Bool×Int×Unit)×List (Int×Int×Int×Int×Int×Int×Int×Int×Int×Int×Unit)×Unit)) (x1:Int):evFn tabO false [(21,.sig impl_HallOk.sig),(22,.sig impl_at.sig)] [] Tryz.f7 impl_LedgerOf.sig k (x0,x1,())=impl_LedgerOf.f k x0 x1:=by kernel_rfl
set_option maxRecDepth 100000 in
theorem laws_sameInts.eq (k:Nat) (x0:List (Int×Unit)) (x1:List (Int×Unit)):evFn tabO false [] [⟨9,[],[⟨.slot 5,⟨false,0⟩,(.int .i64)⟩]⟩] Tryz.f8 laws_sameInts.sig k (x0,x1,())=laws_sameInts.f k x0 x1:=by kernel_rfl
set_option maxRecDepth 100000 in
theorem spec_LedgerOf.eq (k:Nat) (x0:(Int×List (Int×Unit)×Int×Int×Int×Int×Bool×List (Int×Int×Int×Unit)×List (Int×Unit)×Int×List (Int×Int×List (Int×Unit)×Unit)×List (Int×List (Int×Unit)×Unit)×Int×List (List (Int×Int×Unit)×Unit)×List (Int×Int×Int×Int×Int×Unit)×List (Int×Int×Int×Bool×Int×Unit)×List (Int×Int×Int×Int×Int×Int×Int×Int×Int×Int×Unit)×Unit)) (x1:Int):evFn tabO false [(23,.sig spec_HallOk.sig)] [⟨7,[],[⟨.slot 5,⟨false,2⟩,(.slice K2)⟩,⟨.slot 6,⟨false,0⟩,(.int .i64)⟩]⟩,⟨8,[],[⟨.slot 5,⟨false,2⟩,(.slice K2)⟩]⟩,⟨14,[],[⟨.slot 5,⟨false,2⟩,(.slice K2)⟩]⟩] Tryz.f9 spec_LedgerOf.sig k (x0,x1,())=spec_LedgerOf.f k x0 x1:=by kernel_rfl
set_option maxRecDepth 100000 in
theorem spec_DrawNewHall.eq (k:Nat) (x0:List (Int×Unit)):evFn tabO false [(20,.sig spec_l01New.sig),(24,.sig spec_l09New.sig),(25,.sig spec_l01Below.sig)] [⟨34,[],[⟨.cell 5 0,⟨false,0⟩,(.slice K5)⟩,⟨.cell 5 1,⟨false,0⟩,(.int .i64)⟩,⟨.cell 5 2,⟨false,0⟩,(.int .i64)⟩,⟨.cell 15 1,⟨false,2⟩,(.slice K2)⟩,⟨.cell 15 7,⟨false,2⟩,(.slice K47)⟩,⟨.root 8,⟨false,2⟩,(.slice K2)⟩,⟨.root 11,⟨false,2⟩,(.slice K90)⟩,⟨.root 13,⟨false,2⟩,(.slice K86)⟩]⟩] Tryz.f10 spec_DrawNewHall.sig k (x0,())=spec_DrawNewHall.f k x0:=by kernel_rfl
set_option maxRecDepth 100000 in
theorem slices_Clone_impl_Item.eq (k:Nat) (x0:List (Int×Int×Int×Unit)):evFn tabO false [] [] Tryz.f161 slices_Clone_impl_Item.sig k (x0,())=slices_Clone_impl_Item.f k x0:=by kernel_rfl
set_option maxRecDepth 100000 in
theorem impl_copyBelt.eq (k:Nat) (x0:(Int×Int×Bool×List (Int×Int×Int×Unit)×Unit)):evFn tabO false [(161,.sig slices_Clone_impl_Item.sig)] [] Tryz.f88 impl_copyBelt.sig k (x0,())=impl_copyBelt.f k x0:=by kernel_rfl
set_option maxRecDepth 100000 in
theorem impl_copyLoop.eq (k:Nat) (x0:(List (Int×Unit)×Int×List (Int×Int×List (Int×Unit)×Unit)×List (Int×List (Int×Unit)×Unit)×Unit)):evFn tabO false [(74,.sig slices_Clone_int_int.sig)] [⟨4,[],[⟨.slot 3,⟨true,2⟩,K34⟩]⟩,⟨7,[],[⟨.cell 2 2,⟨false,2⟩,(.slice K135)⟩,⟨.slot 17,⟨false,0⟩,(.int .i64)⟩]⟩,⟨19,[],[⟨.cell 2 3,⟨false,2⟩,(.slice K151)⟩,⟨.slot 35,⟨false,0⟩,(.int .i64)⟩]⟩] Tryz.f89 impl_copyLoop.sig k (x0,())=impl_copyLoop.f k x0:=by kernel_rfl
end Go.Proofs.YtcfbjloblbhdhaaGreat.Eng
