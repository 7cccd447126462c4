/- The contracts of the program's functions. By a program of this session. No condition. -/
import Derived.Test.YtpmjopbgccajgaaGreatEngD
import Derived.Test.YtpmjopbgccajgaaGreatShelf
import Derived.Test.YtpmjopbgccajgaaGreatE1
import Derived.Test.YtpmjopbgccajgaaGreatE2
import Derived.Test.YtpmjopbgccajgaaGreatE3
import Derived.Test.YtpmjopbgccajgaaGreatE4
import Derived.Test.YtpmjopbgccajgaaGreatE5
import Derived.Test.YtpmjopbgccajgaaGreatE6
import Derived.Test.YtpmjopbgccajgaaGreatSeatSortN
namespace Go.Proofs.YtpmjopbgccajgaaGreat.Eng
open Go.Proofs
set_option linter.unusedVariables false
theorem mixed:Tryz.prog.follows .mixedOrders=true:=by kernel_rfl
set_option maxRecDepth 100000 in
theorem tabO_ok:TabOk Tryz.prog tabO:=tabB_ok (by kernel_rfl)
set_option maxRecDepth 100000 in
theorem tabR_ok:TabOk Tryz.prog tabR:=tabB_ok (by kernel_rfl)
theorem slices_Sort_int_int.ok:FnOk Tryz.prog 192 sortSig:=sort_ok ⟨Tryz.f192,Tryz.func192,by kernel_rfl,by kernel_rfl⟩ (fun blk off cap zs w h1 h2 h3=>Tryz.slices_Sort_int blk off cap zs w h1 h2 h3) Tryz.slices_Sort_int_none
theorem impl_isTick.ok:FnOk Tryz.prog 67 impl_isTick.sig:=fn_ok (fun k x=>impl_isTick.eq k x.1) Tryz.func67 tabO_ok mixed (by kernel_rfl) (by kernel_rfl) trivial
theorem impl_isWait.ok:FnOk Tryz.prog 176 impl_isWait.sig:=fn_ok (fun k x=>impl_isWait.eq k x.1 x.2.1) Tryz.func176 tabO_ok mixed (by kernel_rfl) (by kernel_rfl) trivial
theorem impl_PolicyOk.ok:FnOk Tryz.prog 68 impl_PolicyOk.sig:=fn_ok (fun k x=>impl_PolicyOk.eq k x.1) Tryz.func68 tabO_ok mixed (by kernel_rfl) (by kernel_rfl) ⟨⟨Tryz.func174,by kernel_rfl⟩,⟨Tryz.func175,by kernel_rfl⟩,impl_isWait.ok,⟨Tryz.func191,by kernel_rfl⟩,trivial⟩
theorem impl_LimitsOk.ok:FnOk Tryz.prog 69 impl_LimitsOk.sig:=fn_ok (fun k x=>impl_LimitsOk.eq k x.1) Tryz.func69 tabO_ok mixed (by kernel_rfl) (by kernel_rfl) trivial
theorem impl_isOn.ok:FnOk Tryz.prog 177 impl_isOn.sig:=fn_ok (fun k x=>impl_isOn.eq k x.1 x.2.1) Tryz.func177 tabO_ok mixed (by kernel_rfl) (by kernel_rfl) ⟨⟨Tryz.func269,by kernel_rfl⟩,⟨Tryz.func270,by kernel_rfl⟩,⟨Tryz.func323,by kernel_rfl⟩,trivial⟩
theorem impl_BeltOk.ok:FnOk Tryz.prog 70 impl_BeltOk.sig:=fn_ok (fun k x=>impl_BeltOk.eq k x.1) Tryz.func70 tabO_ok mixed (by kernel_rfl) (by kernel_rfl) ⟨impl_isOn.ok,trivial⟩
theorem impl_areIndexes.ok:FnOk Tryz.prog 178 impl_areIndexes.sig:=fn_ok (fun k x=>impl_areIndexes.eq k x.1 x.2.1) Tryz.func178 tabO_ok mixed (by kernel_rfl) (by kernel_rfl) trivial
theorem slices_Clone_int_int.ok:FnOk Tryz.prog 78 slices_Clone_int_int.sig:=fn_ok (fun k x=>slices_Clone_int_int.eq k x.1) Tryz.func78 tabO_ok mixed (by kernel_rfl) (by kernel_rfl) trivial
theorem impl_bagsOf.ok:FnOk Tryz.prog 179 impl_bagsOf.sig:=fn_ok (fun k x=>impl_bagsOf.eq k x.1) Tryz.func179 tabO_ok mixed (by kernel_rfl) (by kernel_rfl) ⟨⟨Tryz.func77,by kernel_rfl⟩,slices_Clone_int_int.ok,⟨Tryz.func191,by kernel_rfl⟩,⟨Tryz.func271,by kernel_rfl⟩,trivial⟩
theorem impl_areDifferent.ok:FnOk Tryz.prog 181 impl_areDifferent.sig:=fn_ok (fun k x=>impl_areDifferent.eq k x.1) Tryz.func181 tabO_ok mixed (by kernel_rfl) (by kernel_rfl) ⟨slices_Clone_int_int.ok,slices_Sort_int_int.ok,⟨Tryz.func272,by kernel_rfl⟩,trivial⟩
theorem impl_LoopOk.ok:FnOk Tryz.prog 71 impl_LoopOk.sig:=fn_ok (fun k x=>impl_LoopOk.eq k x.1) Tryz.func71 tabO_ok mixed (by kernel_rfl) (by kernel_rfl) ⟨⟨Tryz.func174,by kernel_rfl⟩,impl_areIndexes.ok,impl_bagsOf.ok,⟨Tryz.func180,by kernel_rfl⟩,impl_areDifferent.ok,⟨Tryz.func191,by kernel_rfl⟩,trivial⟩
theorem impl_bagsIn.ok:FnOk Tryz.prog 81 impl_bagsIn.sig:=fn_ok (fun k x=>impl_bagsIn.eq k x.1) Tryz.func81 tabO_ok mixed (by kernel_rfl) (by kernel_rfl) trivial
theorem impl_StoreOk.ok:FnOk Tryz.prog 72 impl_StoreOk.sig:=fn_ok (fun k x=>impl_StoreOk.eq k x.1) Tryz.func72 tabO_ok mixed (by kernel_rfl) (by kernel_rfl) ⟨impl_isTick.ok,impl_bagsIn.ok,impl_areDifferent.ok,⟨Tryz.func182,by kernel_rfl⟩,⟨Tryz.func183,by kernel_rfl⟩,⟨Tryz.func273,by kernel_rfl⟩,trivial⟩
theorem impl_isFrom1.ok:FnOk Tryz.prog 142 impl_isFrom1.sig:=fn_ok (fun k x=>impl_isFrom1.eq k x.1 x.2.1) Tryz.func142 tabO_ok mixed (by kernel_rfl) (by kernel_rfl) trivial
theorem impl_NoteOk.ok:FnOk Tryz.prog 184 impl_NoteOk.sig:=fn_ok (fun k x=>impl_NoteOk.eq k x.1) Tryz.func184 tabO_ok mixed (by kernel_rfl) (by kernel_rfl) ⟨impl_isFrom1.ok,trivial⟩
theorem impl_NotesOk.ok:FnOk Tryz.prog 73 impl_NotesOk.sig:=fn_ok (fun k x=>impl_NotesOk.eq k x.1) Tryz.func73 tabO_ok mixed (by kernel_rfl) (by kernel_rfl) ⟨impl_NoteOk.ok,trivial⟩
theorem impl_areFlights.ok:FnOk Tryz.prog 74 impl_areFlights.sig:=fn_ok (fun k x=>impl_areFlights.eq k x.1) Tryz.func74 tabO_ok mixed (by kernel_rfl) (by kernel_rfl) ⟨⟨Tryz.func185,by kernel_rfl⟩,⟨Tryz.func186,by kernel_rfl⟩,⟨Tryz.func274,by kernel_rfl⟩,trivial⟩
theorem impl_isFlight.ok:FnOk Tryz.prog 56 impl_isFlight.sig:=fn_ok (fun k x=>impl_isFlight.eq k x.1 x.2.1) Tryz.func56 tabO_ok mixed (by kernel_rfl) (by kernel_rfl) ⟨impl_isFrom1.ok,trivial⟩
theorem impl_TagOk.ok:FnOk Tryz.prog 187 impl_TagOk.sig:=fn_ok (fun k x=>impl_TagOk.eq k x.1) Tryz.func187 tabO_ok mixed (by kernel_rfl) (by kernel_rfl) trivial
theorem impl_ScreenOk.ok:FnOk Tryz.prog 188 impl_ScreenOk.sig:=fn_ok (fun k x=>impl_ScreenOk.eq k x.1) Tryz.func188 tabO_ok mixed (by kernel_rfl) (by kernel_rfl) ⟨impl_isTick.ok,trivial⟩
theorem impl_isCase.ok:FnOk Tryz.prog 75 impl_isCase.sig:=fn_ok (fun k x=>impl_isCase.eq k x.1 x.2.1) Tryz.func75 tabO_ok mixed (by kernel_rfl) (by kernel_rfl) ⟨impl_isFlight.ok,impl_isFrom1.ok,impl_TagOk.ok,impl_ScreenOk.ok,trivial⟩
theorem impl_hasTag.ok:FnOk Tryz.prog 76 impl_hasTag.sig:=fn_ok (fun k x=>impl_hasTag.eq k x.1 x.2.1) Tryz.func76 tabO_ok mixed (by kernel_rfl) (by kernel_rfl) ⟨⟨Tryz.func189,by kernel_rfl⟩,⟨Tryz.func190,by kernel_rfl⟩,⟨Tryz.func275,by kernel_rfl⟩,trivial⟩
theorem slices_Equal_int_int.ok:FnOk Tryz.prog 193 slices_Equal_int_int.sig:=fn_ok (fun k x=>slices_Equal_int_int.eq k x.1 x.2.1) Tryz.func193 tabO_ok mixed (by kernel_rfl) (by kernel_rfl) trivial
theorem impl_at.ok:FnOk Tryz.prog 194 impl_at.sig:=fn_ok (fun k x=>impl_at.eq k x.1 x.2.1) Tryz.func194 tabO_ok mixed (by kernel_rfl) (by kernel_rfl) trivial
theorem impl_areBags.ok:FnOk Tryz.prog 80 impl_areBags.sig:=fn_ok (fun k x=>impl_areBags.eq k x.1 x.2.1 x.2.2.1) Tryz.func80 tabO_ok mixed (by kernel_rfl) (by kernel_rfl) ⟨slices_Sort_int_int.ok,slices_Equal_int_int.ok,impl_at.ok,trivial⟩
theorem impl_HallOk.ok:FnOk Tryz.prog 23 impl_HallOk.sig:=fn_ok (fun k x=>impl_HallOk.eq k x.1) Tryz.func23 tabO_ok mixed (by kernel_rfl) (by kernel_rfl) ⟨impl_isTick.ok,impl_PolicyOk.ok,impl_LimitsOk.ok,impl_BeltOk.ok,impl_LoopOk.ok,impl_StoreOk.ok,impl_NotesOk.ok,impl_areFlights.ok,impl_isCase.ok,impl_hasTag.ok,⟨Tryz.func77,by kernel_rfl⟩,slices_Clone_int_int.ok,⟨Tryz.func79,by kernel_rfl⟩,impl_areBags.ok,impl_bagsIn.ok,⟨Tryz.func191,by kernel_rfl⟩,trivial⟩
theorem slices_Clone_impl_Item.ok:FnOk Tryz.prog 237 slices_Clone_impl_Item.sig:=fn_ok (fun k x=>slices_Clone_impl_Item.eq k x.1) Tryz.func237 tabO_ok mixed (by kernel_rfl) (by kernel_rfl) trivial
theorem impl_copyBelt.ok:FnOk Tryz.prog 136 impl_copyBelt.sig:=fn_ok (fun k x=>impl_copyBelt.eq k x.1) Tryz.func136 tabO_ok mixed (by kernel_rfl) (by kernel_rfl) ⟨slices_Clone_impl_Item.ok,trivial⟩
theorem impl_copyLoop.ok:FnOk Tryz.prog 137 impl_copyLoop.sig:=fn_ok (fun k x=>impl_copyLoop.eq k x.1) Tryz.func137 tabO_ok mixed (by kernel_rfl) (by kernel_rfl) ⟨slices_Clone_int_int.ok,trivial⟩
theorem slices_Clone_impl_Kept.ok:FnOk Tryz.prog 238 slices_Clone_impl_Kept.sig:=fn_ok (fun k x=>slices_Clone_impl_Kept.eq k x.1) Tryz.func238 tabO_ok mixed (by kernel_rfl) (by kernel_rfl) trivial
theorem impl_copyStore.ok:FnOk Tryz.prog 138 impl_copyStore.sig:=fn_ok (fun k x=>impl_copyStore.eq k x.1) Tryz.func138 tabO_ok mixed (by kernel_rfl) (by kernel_rfl) ⟨slices_Clone_impl_Kept.ok,trivial⟩
theorem slices_Clone_impl_Note.ok:FnOk Tryz.prog 139 slices_Clone_impl_Note.sig:=fn_ok (fun k x=>slices_Clone_impl_Note.eq k x.1) Tryz.func139 tabO_ok mixed (by kernel_rfl) (by kernel_rfl) trivial
theorem slices_Clone_impl_Flight.ok:FnOk Tryz.prog 140 slices_Clone_impl_Flight.sig:=fn_ok (fun k x=>slices_Clone_impl_Flight.eq k x.1) Tryz.func140 tabO_ok mixed (by kernel_rfl) (by kernel_rfl) trivial
theorem slices_Clone_impl_Case.ok:FnOk Tryz.prog 141 slices_Clone_impl_Case.sig:=fn_ok (fun k x=>slices_Clone_impl_Case.eq k x.1) Tryz.func141 tabO_ok mixed (by kernel_rfl) (by kernel_rfl) trivial
theorem impl_copyHall.ok:FnOk Tryz.prog 44 impl_copyHall.sig:=fn_ok (fun k x=>impl_copyHall.eq k x.1) Tryz.func44 tabO_ok mixed (by kernel_rfl) (by kernel_rfl) ⟨slices_Clone_int_int.ok,impl_copyBelt.ok,impl_copyLoop.ok,impl_copyStore.ok,slices_Clone_impl_Note.ok,slices_Clone_impl_Flight.ok,slices_Clone_impl_Case.ok,trivial⟩
theorem impl_Leave.ok:FnOk Tryz.prog 239 impl_Leave.sig:=fn_ok (fun k x=>impl_Leave.eq k x.1) Tryz.func239 tabO_ok mixed (by kernel_rfl) (by kernel_rfl) ⟨impl_BeltOk.ok,impl_copyBelt.ok,trivial⟩
theorem impl_stepped.ok:FnOk Tryz.prog 240 impl_stepped.sig:=fn_ok (fun k x=>impl_stepped.eq k x.1) Tryz.func240 tabO_ok mixed (by kernel_rfl) (by kernel_rfl) trivial
theorem impl_trayAt.ok:FnOk Tryz.prog 293 impl_trayAt.sig:=fn_ok (fun k x=>impl_trayAt.eq k x.1 x.2.1) Tryz.func293 tabO_ok mixed (by kernel_rfl) (by kernel_rfl) trivial
theorem impl_wantOf.ok:FnOk Tryz.prog 294 impl_wantOf.sig:=fn_ok (fun k x=>impl_wantOf.eq k x.1 x.2.1) Tryz.func294 tabO_ok mixed (by kernel_rfl) (by kernel_rfl) ⟨⟨Tryz.func337,by kernel_rfl⟩,⟨Tryz.func338,by kernel_rfl⟩,trivial⟩
theorem slices_Index_int_int.ok:FnOk Tryz.prog 251 slices_Index_int_int.sig:=fn_ok (fun k x=>slices_Index_int_int.eq k x.1 x.2.1) Tryz.func251 tabO_ok mixed (by kernel_rfl) (by kernel_rfl) trivial
theorem slices_Contains_int_int.ok:FnOk Tryz.prog 295 slices_Contains_int_int.sig:=fn_ok (fun k x=>slices_Contains_int_int.eq k x.1 x.2.1) Tryz.func295 tabO_ok mixed (by kernel_rfl) (by kernel_rfl) ⟨slices_Index_int_int.ok,trivial⟩
theorem impl_turn.ok:FnOk Tryz.prog 241 impl_turn.sig:=fn_ok (fun k x=>impl_turn.eq k x.1) Tryz.func241 tabO_ok mixed (by kernel_rfl) (by kernel_rfl) ⟨impl_trayAt.ok,impl_wantOf.ok,slices_Contains_int_int.ok,trivial⟩
theorem impl_tick.ok:FnOk Tryz.prog 143 impl_tick.sig:=fn_ok (fun k x=>impl_tick.eq k x.1) Tryz.func143 tabO_ok mixed (by kernel_rfl) (by kernel_rfl) ⟨impl_Leave.ok,impl_stepped.ok,impl_turn.ok,trivial⟩
theorem impl_FreeBehind.ok:FnOk Tryz.prog 296 impl_FreeBehind.sig:=fn_ok (fun k x=>impl_FreeBehind.eq k x.1) Tryz.func296 tabO_ok mixed (by kernel_rfl) (by kernel_rfl) ⟨impl_BeltOk.ok,trivial⟩
theorem impl_Enter.ok:FnOk Tryz.prog 242 impl_Enter.sig:=fn_ok (fun k x=>impl_Enter.eq k x.1 x.2.1 x.2.2.1) Tryz.func242 tabO_ok mixed (by kernel_rfl) (by kernel_rfl) ⟨impl_BeltOk.ok,impl_copyBelt.ok,impl_isOn.ok,impl_FreeBehind.ok,trivial⟩
theorem impl_check.ok:FnOk Tryz.prog 144 impl_check.sig:=fn_ok (fun k x=>impl_check.eq k x.1 x.2.1) Tryz.func144 tabO_ok mixed (by kernel_rfl) (by kernel_rfl) ⟨impl_isFlight.ok,impl_hasTag.ok,impl_isFrom1.ok,impl_TagOk.ok,impl_Enter.ok,trivial⟩
theorem impl_noteAt.ok:FnOk Tryz.prog 243 impl_noteAt.sig:=fn_ok (fun k x=>impl_noteAt.eq k x.1 x.2.1) Tryz.func243 tabO_ok mixed (by kernel_rfl) (by kernel_rfl) ⟨⟨Tryz.func297,by kernel_rfl⟩,⟨Tryz.func298,by kernel_rfl⟩,trivial⟩
theorem impl_AddNote.ok:FnOk Tryz.prog 145 impl_AddNote.sig:=fn_ok (fun k x=>impl_AddNote.eq k x.1 x.2.1) Tryz.func145 tabO_ok mixed (by kernel_rfl) (by kernel_rfl) ⟨impl_NotesOk.ok,slices_Clone_impl_Note.ok,impl_NoteOk.ok,impl_noteAt.ok,slices_SortFunc_impl_Note.ok,trivial⟩
theorem impl_OwnerOf.ok:FnOk Tryz.prog 58 impl_OwnerOf.sig:=fn_ok (fun k x=>impl_OwnerOf.eq k x.1 x.2.1) Tryz.func58 tabO_ok mixed (by kernel_rfl) (by kernel_rfl) ⟨impl_NotesOk.ok,⟨Tryz.func165,by kernel_rfl⟩,⟨Tryz.func166,by kernel_rfl⟩,trivial⟩
theorem impl_Aboard.ok:FnOk Tryz.prog 59 impl_Aboard.sig:=fn_ok (fun k x=>impl_Aboard.eq k x.1 x.2.1 x.2.2.1) Tryz.func59 tabO_ok mixed (by kernel_rfl) (by kernel_rfl) ⟨impl_NotesOk.ok,⟨Tryz.func165,by kernel_rfl⟩,⟨Tryz.func167,by kernel_rfl⟩,trivial⟩
theorem impl_Pulled.ok:FnOk Tryz.prog 60 impl_Pulled.sig:=fn_ok (fun k x=>impl_Pulled.eq k x.1 x.2.1 x.2.2.1) Tryz.func60 tabO_ok mixed (by kernel_rfl) (by kernel_rfl) ⟨impl_NotesOk.ok,⟨Tryz.func165,by kernel_rfl⟩,⟨Tryz.func168,by kernel_rfl⟩,trivial⟩
theorem impl_MayFly.ok:FnOk Tryz.prog 21 impl_MayFly.sig:=fn_ok (fun k x=>impl_MayFly.eq k x.1 x.2.1 x.2.2.1) Tryz.func21 tabO_ok mixed (by kernel_rfl) (by kernel_rfl) ⟨impl_OwnerOf.ok,impl_Aboard.ok,impl_Pulled.ok,trivial⟩
theorem slices_Clone_impl_Piece.ok:FnOk Tryz.prog 61 slices_Clone_impl_Piece.sig:=fn_ok (fun k x=>slices_Clone_impl_Piece.eq k x.1) Tryz.func61 tabO_ok mixed (by kernel_rfl) (by kernel_rfl) trivial
theorem cmp_Or_int.ok:FnOk Tryz.prog 64 cmp_Or_int.sig:=fn_ok (fun k x=>cmp_Or_int.eq k x.1) Tryz.func64 tabO_ok mixed (by kernel_rfl) (by kernel_rfl) trivial
theorem cmp_isNaN_int.ok:FnOk Tryz.prog 170 cmp_isNaN_int.sig:=fn_ok (fun k x=>cmp_isNaN_int.eq k x.1) Tryz.func170 tabO_ok mixed (by kernel_rfl) (by kernel_rfl) trivial
theorem cmp_Compare_int.ok:FnOk Tryz.prog 65 cmp_Compare_int.sig:=fn_ok (fun k x=>cmp_Compare_int.eq k x.1 x.2.1) Tryz.func65 tabO_ok mixed (by kernel_rfl) (by kernel_rfl) ⟨cmp_isNaN_int.ok,trivial⟩
theorem impl_Repack_1.ok:FnOk Tryz.prog 63 impl_Repack_1.sig:=fn_ok (fun k x=>impl_Repack_1.eq k x.1 x.2.1) Tryz.func63 tabO_ok mixed (by kernel_rfl) (by kernel_rfl) ⟨cmp_Or_int.ok,cmp_Compare_int.ok,trivial⟩
theorem slices_insertionSortCmpFunc_impl_Piece.ok:FnOk Tryz.prog 267 slices_insertionSortCmpFunc_impl_Piece.sig:=fn_ok (fun k x=>slices_insertionSortCmpFunc_impl_Piece.eq k x.1 x.2.1 x.2.2.1) Tryz.func267 tabO_ok mixed (by kernel_rfl) (by kernel_rfl) ⟨impl_Repack_1.ok,trivial⟩
theorem slices_swapRangeCmpFunc_impl_Piece.ok:FnOk Tryz.prog 357 slices_swapRangeCmpFunc_impl_Piece.sig:=fn_ok (fun k x=>slices_swapRangeCmpFunc_impl_Piece.eq k x.1 x.2.1 x.2.2.1 x.2.2.2.1) Tryz.func357 tabO_ok mixed (by kernel_rfl) (by kernel_rfl) trivial
theorem slices_rotateCmpFunc_impl_Piece.ok:FnOk Tryz.prog 322 slices_rotateCmpFunc_impl_Piece.sig:=fn_ok (fun k x=>slices_rotateCmpFunc_impl_Piece.eq k x.1 x.2.1 x.2.2.1 x.2.2.2.1) Tryz.func322 tabO_ok mixed (by kernel_rfl) (by kernel_rfl) ⟨slices_swapRangeCmpFunc_impl_Piece.ok,trivial⟩
theorem slices_symMergeCmpFunc_impl_Piece.ok:FnOk Tryz.prog 268 slices_symMergeCmpFunc_impl_Piece.sig:=rec_ok (g:=slices_symMergeCmpFunc_impl_Piece.sig0) (F:=slices_symMergeCmpFunc_impl_Piece.fn) (fun _ _=>rfl) ⟨Tryz.f268,Tryz.func268,by kernel_rfl,by kernel_rfl⟩ fun m ih=>fn_ok (fun k x=>slices_symMergeCmpFunc_impl_Piece.eq (slices_symMergeCmpFunc_impl_Piece.fn m) (slices_symMergeCmpFunc_impl_Piece.fn (m+1)) k x.1 x.2.1 x.2.2.1 x.2.2.2.1) Tryz.func268 tabO_ok mixed (by kernel_rfl) (by kernel_rfl) ⟨impl_Repack_1.ok,ih,slices_rotateCmpFunc_impl_Piece.ok,trivial⟩
theorem slices_stableCmpFunc_impl_Piece.ok:FnOk Tryz.prog 169 slices_stableCmpFunc_impl_Piece.sig:=fn_ok (fun k x=>slices_stableCmpFunc_impl_Piece.eq k x.1 x.2.1) Tryz.func169 tabO_ok mixed (by kernel_rfl) (by kernel_rfl) ⟨slices_insertionSortCmpFunc_impl_Piece.ok,slices_symMergeCmpFunc_impl_Piece.ok,trivial⟩
theorem slices_SortStableFunc_impl_Piece.ok:FnOk Tryz.prog 62 slices_SortStableFunc_impl_Piece.sig:=fn_ok (fun k x=>slices_SortStableFunc_impl_Piece.eq k x.1) Tryz.func62 tabO_ok mixed (by kernel_rfl) (by kernel_rfl) ⟨slices_stableCmpFunc_impl_Piece.ok,trivial⟩
theorem impl_PiecesOk.ok:FnOk Tryz.prog 171 impl_PiecesOk.sig:=fn_ok (fun k x=>impl_PiecesOk.eq k x.1) Tryz.func171 tabO_ok mixed (by kernel_rfl) (by kernel_rfl) ⟨impl_areDifferent.ok,trivial⟩
theorem impl_FirstFit.ok:FnOk Tryz.prog 66 impl_FirstFit.sig:=fn_ok (fun k x=>impl_FirstFit.eq k x.1 x.2.1) Tryz.func66 tabO_ok mixed (by kernel_rfl) (by kernel_rfl) ⟨impl_LimitsOk.ok,impl_PiecesOk.ok,⟨Tryz.func172,by kernel_rfl⟩,⟨Tryz.func173,by kernel_rfl⟩,trivial⟩
theorem impl_Repack.ok:FnOk Tryz.prog 22 impl_Repack.sig:=fn_ok (fun k x=>impl_Repack.eq k x.1 x.2.1) Tryz.func22 tabO_ok mixed (by kernel_rfl) (by kernel_rfl) ⟨slices_Clone_impl_Piece.ok,slices_SortStableFunc_impl_Piece.ok,impl_FirstFit.ok,trivial⟩
theorem impl_Gaps.ok:FnOk Tryz.prog 246 impl_Gaps.sig:=fn_ok (fun k x=>impl_Gaps.eq k x.1) Tryz.func246 tabO_ok mixed (by kernel_rfl) (by kernel_rfl) ⟨impl_NotesOk.ok,trivial⟩
theorem impl_depart.ok:FnOk Tryz.prog 146 impl_depart.sig:=fn_ok (fun k x=>impl_depart.eq k x.1 x.2.1) Tryz.func146 tabO_ok mixed (by kernel_rfl) (by kernel_rfl) ⟨impl_MayFly.ok,impl_Repack.ok,impl_isFlight.ok,impl_Gaps.ok,trivial⟩
theorem impl_Elapse.ok:FnOk Tryz.prog 300 impl_Elapse.sig:=fn_ok (fun k x=>impl_Elapse.eq k x.1 x.2.1 x.2.2.1) Tryz.func300 tabO_ok mixed (by kernel_rfl) (by kernel_rfl) ⟨impl_isTick.ok,impl_PolicyOk.ok,impl_ScreenOk.ok,trivial⟩
theorem impl_Decide.ok:FnOk Tryz.prog 247 impl_Decide.sig:=fn_ok (fun k x=>impl_Decide.eq k x.1 x.2.1 x.2.2.1 x.2.2.2.1) Tryz.func247 tabO_ok mixed (by kernel_rfl) (by kernel_rfl) ⟨impl_isTick.ok,impl_PolicyOk.ok,impl_ScreenOk.ok,impl_Elapse.ok,trivial⟩
theorem impl_decide.ok:FnOk Tryz.prog 147 impl_decide.sig:=fn_ok (fun k x=>impl_decide.eq k x.1 x.2.1 x.2.2.1) Tryz.func147 tabO_ok mixed (by kernel_rfl) (by kernel_rfl) ⟨impl_Decide.ok,trivial⟩
theorem impl_SetWant.ok:FnOk Tryz.prog 301 impl_SetWant.sig:=fn_ok (fun k x=>impl_SetWant.eq k x.1 x.2.1 x.2.2.1) Tryz.func301 tabO_ok mixed (by kernel_rfl) (by kernel_rfl) ⟨impl_LoopOk.ok,slices_Clone_int_int.ok,impl_copyLoop.ok,impl_wantOf.ok,trivial⟩
theorem impl_TrayAt.ok:FnOk Tryz.prog 347 impl_TrayAt.sig:=fn_ok (fun k x=>impl_TrayAt.eq k x.1 x.2.1) Tryz.func347 tabO_ok mixed (by kernel_rfl) (by kernel_rfl) ⟨impl_LoopOk.ok,impl_trayAt.ok,trivial⟩
theorem impl_Induct.ok:FnOk Tryz.prog 302 impl_Induct.sig:=fn_ok (fun k x=>impl_Induct.eq k x.1 x.2.1 x.2.2.1) Tryz.func302 tabO_ok mixed (by kernel_rfl) (by kernel_rfl) ⟨impl_copyLoop.ok,impl_bagsOf.ok,slices_Contains_int_int.ok,impl_TrayAt.ok,trivial⟩
theorem impl_onto.ok:FnOk Tryz.prog 248 impl_onto.sig:=fn_ok (fun k x=>impl_onto.eq k x.1 x.2.1) Tryz.func248 tabO_ok mixed (by kernel_rfl) (by kernel_rfl) ⟨impl_SetWant.ok,impl_Induct.ok,trivial⟩
theorem impl_leastTime.ok:FnOk Tryz.prog 351 impl_leastTime.sig:=fn_ok (fun k x=>impl_leastTime.eq k x.1) Tryz.func351 tabO_ok mixed (by kernel_rfl) (by kernel_rfl) trivial
theorem impl_laneFor.ok:FnOk Tryz.prog 306 impl_laneFor.sig:=fn_ok (fun k x=>impl_laneFor.eq k x.1 x.2.1 x.2.2.1) Tryz.func306 tabO_ok mixed (by kernel_rfl) (by kernel_rfl) ⟨impl_leastTime.ok,trivial⟩
theorem impl_LaneFor.ok:FnOk Tryz.prog 303 impl_LaneFor.sig:=fn_ok (fun k x=>impl_LaneFor.eq k x.1 x.2.1 x.2.2.1) Tryz.func303 tabO_ok mixed (by kernel_rfl) (by kernel_rfl) ⟨impl_isTick.ok,impl_StoreOk.ok,impl_laneFor.ok,trivial⟩
theorem impl_PutBag.ok:FnOk Tryz.prog 249 impl_PutBag.sig:=fn_ok (fun k x=>impl_PutBag.eq k x.1 x.2.1 x.2.2.1) Tryz.func249 tabO_ok mixed (by kernel_rfl) (by kernel_rfl) ⟨impl_bagsIn.ok,impl_copyStore.ok,slices_Contains_int_int.ok,impl_LaneFor.ok,trivial⟩
theorem impl_send.ok:FnOk Tryz.prog 148 impl_send.sig:=fn_ok (fun k x=>impl_send.eq k x.1 x.2.1) Tryz.func148 tabO_ok mixed (by kernel_rfl) (by kernel_rfl) ⟨impl_onto.ok,impl_PutBag.ok,trivial⟩
theorem impl_laneOf.ok:FnOk Tryz.prog 304 impl_laneOf.sig:=fn_ok (fun k x=>impl_laneOf.eq k x.1 x.2.1) Tryz.func304 tabO_ok mixed (by kernel_rfl) (by kernel_rfl) ⟨⟨Tryz.func182,by kernel_rfl⟩,⟨Tryz.func273,by kernel_rfl⟩,⟨Tryz.func348,by kernel_rfl⟩,⟨Tryz.func349,by kernel_rfl⟩,⟨Tryz.func350,by kernel_rfl⟩,trivial⟩
theorem impl_Store_pop.ok:FnOk Tryz.prog 305 impl_Store_pop.sig:=fn_ok (fun k x=>impl_Store_pop.eq k x.1 x.2.1) Tryz.func305 tabO_ok mixed (by kernel_rfl) (by kernel_rfl) trivial
theorem impl_TakeBag.ok:FnOk Tryz.prog 250 impl_TakeBag.sig:=fn_ok (fun k x=>impl_TakeBag.eq k x.1 x.2.1) Tryz.func250 tabO_ok mixed (by kernel_rfl) (by kernel_rfl) ⟨impl_StoreOk.ok,impl_copyStore.ok,impl_laneOf.ok,impl_Store_pop.ok,impl_laneFor.ok,trivial⟩
theorem impl_fetch.ok:FnOk Tryz.prog 149 impl_fetch.sig:=fn_ok (fun k x=>impl_fetch.eq k x.1 x.2.1) Tryz.func149 tabO_ok mixed (by kernel_rfl) (by kernel_rfl) ⟨impl_onto.ok,impl_TakeBag.ok,trivial⟩
theorem impl_chuteOf.ok:FnOk Tryz.prog 252 impl_chuteOf.sig:=fn_ok (fun k x=>impl_chuteOf.eq k x.1 x.2.1) Tryz.func252 tabO_ok mixed (by kernel_rfl) (by kernel_rfl) ⟨slices_Contains_int_int.ok,⟨Tryz.func307,by kernel_rfl⟩,⟨Tryz.func308,by kernel_rfl⟩,trivial⟩
theorem impl_giveBack.ok:FnOk Tryz.prog 150 impl_giveBack.sig:=fn_ok (fun k x=>impl_giveBack.eq k x.1 x.2.1) Tryz.func150 tabO_ok mixed (by kernel_rfl) (by kernel_rfl) ⟨⟨Tryz.func77,by kernel_rfl⟩,⟨Tryz.func191,by kernel_rfl⟩,impl_TakeBag.ok,slices_Index_int_int.ok,impl_chuteOf.ok,⟨Tryz.func253,by kernel_rfl⟩,trivial⟩
theorem impl_execute.ok:FnOk Tryz.prog 45 impl_execute.sig:=fn_ok (fun k x=>impl_execute.eq k x.1 x.2.1) Tryz.func45 tabO_ok mixed (by kernel_rfl) (by kernel_rfl) ⟨impl_isFrom1.ok,impl_tick.ok,impl_check.ok,impl_AddNote.ok,impl_depart.ok,impl_decide.ok,impl_send.ok,impl_fetch.ok,impl_giveBack.ok,trivial⟩
theorem impl_Apply.ok:FnOk Tryz.prog 11 impl_Apply.sig:=fn_ok (fun k x=>impl_Apply.eq k x.1 x.2.1) Tryz.func11 tabO_ok mixed (by kernel_rfl) (by kernel_rfl) ⟨impl_HallOk.ok,impl_copyHall.ok,impl_execute.ok,trivial⟩
theorem impl_CanDepart.ok:FnOk Tryz.prog 10 impl_CanDepart.sig:=fn_ok (fun k x=>impl_CanDepart.eq k x.1 x.2.1) Tryz.func10 tabO_ok mixed (by kernel_rfl) (by kernel_rfl) ⟨impl_Apply.ok,trivial⟩
theorem spec_l01In.ok:FnOk Tryz.prog 54 spec_l01In.sig:=fn_ok (fun k x=>spec_l01In.eq k x.1 x.2.1 x.2.2.1) Tryz.func54 tabO_ok mixed (by kernel_rfl) (by kernel_rfl) trivial
theorem spec_PolicyOk.ok:FnOk Tryz.prog 109 spec_PolicyOk.sig:=fn_ok (fun k x=>spec_PolicyOk.eq k x.1) Tryz.func109 tabO_ok mixed (by kernel_rfl) (by kernel_rfl) ⟨spec_l01In.ok,trivial⟩
theorem spec_LimitsOk.ok:FnOk Tryz.prog 110 spec_LimitsOk.sig:=fn_ok (fun k x=>spec_LimitsOk.eq k x.1) Tryz.func110 tabO_ok mixed (by kernel_rfl) (by kernel_rfl) ⟨spec_l01In.ok,trivial⟩
theorem spec_BeltOk.ok:FnOk Tryz.prog 111 spec_BeltOk.sig:=fn_ok (fun k x=>spec_BeltOk.eq k x.1) Tryz.func111 tabO_ok mixed (by kernel_rfl) (by kernel_rfl) ⟨spec_l01In.ok,trivial⟩
theorem spec_l03Has.ok:FnOk Tryz.prog 218 spec_l03Has.sig:=fn_ok (fun k x=>spec_l03Has.eq k x.1 x.2.1) Tryz.func218 tabO_ok mixed (by kernel_rfl) (by kernel_rfl) trivial
theorem spec_LoopOk.ok:FnOk Tryz.prog 112 spec_LoopOk.sig:=fn_ok (fun k x=>spec_LoopOk.eq k x.1) Tryz.func112 tabO_ok mixed (by kernel_rfl) (by kernel_rfl) ⟨spec_l01In.ok,spec_l03Has.ok,trivial⟩
theorem spec_StoreOk.ok:FnOk Tryz.prog 113 spec_StoreOk.sig:=fn_ok (fun k x=>spec_StoreOk.eq k x.1) Tryz.func113 tabO_ok mixed (by kernel_rfl) (by kernel_rfl) ⟨spec_l01In.ok,spec_l03Has.ok,trivial⟩
theorem spec_NoteOk.ok:FnOk Tryz.prog 219 spec_NoteOk.sig:=fn_ok (fun k x=>spec_NoteOk.eq k x.1) Tryz.func219 tabO_ok mixed (by kernel_rfl) (by kernel_rfl) ⟨spec_l01In.ok,trivial⟩
theorem spec_NotesOk.ok:FnOk Tryz.prog 114 spec_NotesOk.sig:=fn_ok (fun k x=>spec_NotesOk.eq k x.1) Tryz.func114 tabO_ok mixed (by kernel_rfl) (by kernel_rfl) ⟨spec_NoteOk.ok,trivial⟩
theorem spec_l09FlightOk.ok:FnOk Tryz.prog 115 spec_l09FlightOk.sig:=fn_ok (fun k x=>spec_l09FlightOk.eq k x.1 x.2.1) Tryz.func115 tabO_ok mixed (by kernel_rfl) (by kernel_rfl) ⟨spec_l01In.ok,trivial⟩
theorem spec_TagOk.ok:FnOk Tryz.prog 220 spec_TagOk.sig:=fn_ok (fun k x=>spec_TagOk.eq k x.1) Tryz.func220 tabO_ok mixed (by kernel_rfl) (by kernel_rfl) ⟨spec_l01In.ok,trivial⟩
theorem spec_ScreenOk.ok:FnOk Tryz.prog 221 spec_ScreenOk.sig:=fn_ok (fun k x=>spec_ScreenOk.eq k x.1) Tryz.func221 tabO_ok mixed (by kernel_rfl) (by kernel_rfl) ⟨spec_l01In.ok,trivial⟩
theorem spec_l09OnBelt.ok:FnOk Tryz.prog 222 spec_l09OnBelt.sig:=fn_ok (fun k x=>spec_l09OnBelt.eq k x.1 x.2.1) Tryz.func222 tabO_ok mixed (by kernel_rfl) (by kernel_rfl) trivial
theorem spec_l09Chute.ok:FnOk Tryz.prog 223 spec_l09Chute.sig:=fn_ok (fun k x=>spec_l09Chute.eq k x.1 x.2.1) Tryz.func223 tabO_ok mixed (by kernel_rfl) (by kernel_rfl) ⟨spec_l03Has.ok,trivial⟩
theorem spec_l06Find.ok:FnOk Tryz.prog 224 spec_l06Find.sig:=fn_ok (fun k x=>spec_l06Find.eq k x.1 x.2.1) Tryz.func224 tabO_ok mixed (by kernel_rfl) (by kernel_rfl) trivial
theorem spec_l09CaseOk.ok:FnOk Tryz.prog 116 spec_l09CaseOk.sig:=fn_ok (fun k x=>spec_l09CaseOk.eq k x.1 x.2.1) Tryz.func116 tabO_ok mixed (by kernel_rfl) (by kernel_rfl) ⟨spec_l01In.ok,spec_l03Has.ok,spec_TagOk.ok,spec_ScreenOk.ok,spec_l09OnBelt.ok,spec_l09Chute.ok,spec_l06Find.ok,trivial⟩
theorem spec_HallOk.ok:FnOk Tryz.prog 31 spec_HallOk.sig:=fn_ok (fun k x=>spec_HallOk.eq k x.1) Tryz.func31 tabO_ok mixed (by kernel_rfl) (by kernel_rfl) ⟨spec_l01In.ok,spec_PolicyOk.ok,spec_LimitsOk.ok,spec_BeltOk.ok,spec_LoopOk.ok,spec_StoreOk.ok,spec_NotesOk.ok,spec_l09FlightOk.ok,spec_l09CaseOk.ok,trivial⟩
theorem spec_Gaps.ok:FnOk Tryz.prog 55 spec_Gaps.sig:=fn_ok (fun k x=>spec_Gaps.eq k x.1) Tryz.func55 tabO_ok mixed (by kernel_rfl) (by kernel_rfl) ⟨spec_NotesOk.ok,trivial⟩
theorem spec_CanDepart.ok:FnOk Tryz.prog 14 spec_CanDepart.sig:=fn_ok (fun k x=>spec_CanDepart.eq k x.1 x.2.1) Tryz.func14 tabO_ok mixed (by kernel_rfl) (by kernel_rfl) ⟨spec_HallOk.ok,spec_l01In.ok,spec_Gaps.ok,trivial⟩
theorem laws_szIntS.ok:FnOk Tryz.prog 195 laws_szIntS.sig:=fn_ok (fun k x=>laws_szIntS.eq k x.1 x.2.1) Tryz.func195 tabO_ok mixed (by kernel_rfl) (by kernel_rfl) trivial
theorem laws_szPolicy.ok:FnOk Tryz.prog 82 laws_szPolicy.sig:=fn_ok (fun k x=>laws_szPolicy.eq k x.1 x.2.1) Tryz.func82 tabO_ok mixed (by kernel_rfl) (by kernel_rfl) ⟨laws_szIntS.ok,trivial⟩
theorem laws_szItemS.ok:FnOk Tryz.prog 196 laws_szItemS.sig:=fn_ok (fun k x=>laws_szItemS.eq k x.1 x.2.1) Tryz.func196 tabO_ok mixed (by kernel_rfl) (by kernel_rfl) trivial
theorem laws_szBelt.ok:FnOk Tryz.prog 83 laws_szBelt.sig:=fn_ok (fun k x=>laws_szBelt.eq k x.1 x.2.1) Tryz.func83 tabO_ok mixed (by kernel_rfl) (by kernel_rfl) ⟨laws_szItemS.ok,trivial⟩
theorem laws_szChute.ok:FnOk Tryz.prog 278 laws_szChute.sig:=fn_ok (fun k x=>laws_szChute.eq k x.1 x.2.1) Tryz.func278 tabO_ok mixed (by kernel_rfl) (by kernel_rfl) ⟨laws_szIntS.ok,trivial⟩
theorem laws_szChuteS.ok:FnOk Tryz.prog 197 laws_szChuteS.sig:=fn_ok (fun k x=>laws_szChuteS.eq k x.1 x.2.1) Tryz.func197 tabO_ok mixed (by kernel_rfl) (by kernel_rfl) ⟨laws_szChute.ok,trivial⟩
theorem laws_szWant.ok:FnOk Tryz.prog 279 laws_szWant.sig:=fn_ok (fun k x=>laws_szWant.eq k x.1 x.2.1) Tryz.func279 tabO_ok mixed (by kernel_rfl) (by kernel_rfl) ⟨laws_szIntS.ok,trivial⟩
theorem laws_szWantS.ok:FnOk Tryz.prog 198 laws_szWantS.sig:=fn_ok (fun k x=>laws_szWantS.eq k x.1 x.2.1) Tryz.func198 tabO_ok mixed (by kernel_rfl) (by kernel_rfl) ⟨laws_szWant.ok,trivial⟩
theorem laws_szLoop.ok:FnOk Tryz.prog 84 laws_szLoop.sig:=fn_ok (fun k x=>laws_szLoop.eq k x.1 x.2.1) Tryz.func84 tabO_ok mixed (by kernel_rfl) (by kernel_rfl) ⟨laws_szIntS.ok,laws_szChuteS.ok,laws_szWantS.ok,trivial⟩
theorem laws_szKeptS.ok:FnOk Tryz.prog 280 laws_szKeptS.sig:=fn_ok (fun k x=>laws_szKeptS.eq k x.1 x.2.1) Tryz.func280 tabO_ok mixed (by kernel_rfl) (by kernel_rfl) trivial
theorem laws_szKeptSS.ok:FnOk Tryz.prog 199 laws_szKeptSS.sig:=fn_ok (fun k x=>laws_szKeptSS.eq k x.1 x.2.1) Tryz.func199 tabO_ok mixed (by kernel_rfl) (by kernel_rfl) ⟨laws_szKeptS.ok,trivial⟩
theorem laws_szStore.ok:FnOk Tryz.prog 85 laws_szStore.sig:=fn_ok (fun k x=>laws_szStore.eq k x.1 x.2.1) Tryz.func85 tabO_ok mixed (by kernel_rfl) (by kernel_rfl) ⟨laws_szKeptSS.ok,trivial⟩
theorem laws_szNoteS.ok:FnOk Tryz.prog 86 laws_szNoteS.sig:=fn_ok (fun k x=>laws_szNoteS.eq k x.1 x.2.1) Tryz.func86 tabO_ok mixed (by kernel_rfl) (by kernel_rfl) trivial
theorem laws_szFlightS.ok:FnOk Tryz.prog 87 laws_szFlightS.sig:=fn_ok (fun k x=>laws_szFlightS.eq k x.1 x.2.1) Tryz.func87 tabO_ok mixed (by kernel_rfl) (by kernel_rfl) trivial
theorem laws_szCaseS.ok:FnOk Tryz.prog 88 laws_szCaseS.sig:=fn_ok (fun k x=>laws_szCaseS.eq k x.1 x.2.1) Tryz.func88 tabO_ok mixed (by kernel_rfl) (by kernel_rfl) trivial
theorem laws_szHall.ok:FnOk Tryz.prog 24 laws_szHall.sig:=fn_ok (fun k x=>laws_szHall.eq k x.1 x.2.1) Tryz.func24 tabO_ok mixed (by kernel_rfl) (by kernel_rfl) ⟨laws_szPolicy.ok,laws_szBelt.ok,laws_szLoop.ok,laws_szStore.ok,laws_szNoteS.ok,laws_szFlightS.ok,laws_szCaseS.ok,trivial⟩
theorem laws_toIntS.ok:FnOk Tryz.prog 200 laws_toIntS.sig:=fn_ok (fun k x=>laws_toIntS.eq k x.1) Tryz.func200 tabO_ok mixed (by kernel_rfl) (by kernel_rfl) trivial
theorem laws_toPolicy.ok:FnOk Tryz.prog 89 laws_toPolicy.sig:=fn_ok (fun k x=>laws_toPolicy.eq k x.1) Tryz.func89 tabO_ok mixed (by kernel_rfl) (by kernel_rfl) ⟨laws_toIntS.ok,trivial⟩
theorem laws_toLimits.ok:FnOk Tryz.prog 90 laws_toLimits.sig:=fn_ok (fun k x=>laws_toLimits.eq k x.1) Tryz.func90 tabO_ok mixed (by kernel_rfl) (by kernel_rfl) trivial
theorem laws_toItem.ok:FnOk Tryz.prog 281 laws_toItem.sig:=fn_ok (fun k x=>laws_toItem.eq k x.1) Tryz.func281 tabO_ok mixed (by kernel_rfl) (by kernel_rfl) trivial
theorem laws_toItemS.ok:FnOk Tryz.prog 201 laws_toItemS.sig:=fn_ok (fun k x=>laws_toItemS.eq k x.1) Tryz.func201 tabO_ok mixed (by kernel_rfl) (by kernel_rfl) ⟨laws_toItem.ok,trivial⟩
theorem laws_toBelt.ok:FnOk Tryz.prog 91 laws_toBelt.sig:=fn_ok (fun k x=>laws_toBelt.eq k x.1) Tryz.func91 tabO_ok mixed (by kernel_rfl) (by kernel_rfl) ⟨laws_toItemS.ok,trivial⟩
theorem laws_toChute.ok:FnOk Tryz.prog 282 laws_toChute.sig:=fn_ok (fun k x=>laws_toChute.eq k x.1) Tryz.func282 tabO_ok mixed (by kernel_rfl) (by kernel_rfl) ⟨laws_toIntS.ok,trivial⟩
theorem laws_toChuteS.ok:FnOk Tryz.prog 202 laws_toChuteS.sig:=fn_ok (fun k x=>laws_toChuteS.eq k x.1) Tryz.func202 tabO_ok mixed (by kernel_rfl) (by kernel_rfl) ⟨laws_toChute.ok,trivial⟩
theorem laws_toWant.ok:FnOk Tryz.prog 283 laws_toWant.sig:=fn_ok (fun k x=>laws_toWant.eq k x.1) Tryz.func283 tabO_ok mixed (by kernel_rfl) (by kernel_rfl) ⟨laws_toIntS.ok,trivial⟩
theorem laws_toWantS.ok:FnOk Tryz.prog 203 laws_toWantS.sig:=fn_ok (fun k x=>laws_toWantS.eq k x.1) Tryz.func203 tabO_ok mixed (by kernel_rfl) (by kernel_rfl) ⟨laws_toWant.ok,trivial⟩
theorem laws_toLoop.ok:FnOk Tryz.prog 92 laws_toLoop.sig:=fn_ok (fun k x=>laws_toLoop.eq k x.1) Tryz.func92 tabO_ok mixed (by kernel_rfl) (by kernel_rfl) ⟨laws_toIntS.ok,laws_toChuteS.ok,laws_toWantS.ok,trivial⟩
theorem laws_toKept.ok:FnOk Tryz.prog 335 laws_toKept.sig:=fn_ok (fun k x=>laws_toKept.eq k x.1) Tryz.func335 tabO_ok mixed (by kernel_rfl) (by kernel_rfl) trivial
theorem laws_toKeptS.ok:FnOk Tryz.prog 284 laws_toKeptS.sig:=fn_ok (fun k x=>laws_toKeptS.eq k x.1) Tryz.func284 tabO_ok mixed (by kernel_rfl) (by kernel_rfl) ⟨laws_toKept.ok,trivial⟩
theorem laws_toKeptSS.ok:FnOk Tryz.prog 204 laws_toKeptSS.sig:=fn_ok (fun k x=>laws_toKeptSS.eq k x.1) Tryz.func204 tabO_ok mixed (by kernel_rfl) (by kernel_rfl) ⟨laws_toKeptS.ok,trivial⟩
theorem laws_toStore.ok:FnOk Tryz.prog 93 laws_toStore.sig:=fn_ok (fun k x=>laws_toStore.eq k x.1) Tryz.func93 tabO_ok mixed (by kernel_rfl) (by kernel_rfl) ⟨laws_toKeptSS.ok,trivial⟩
theorem laws_toNote.ok:FnOk Tryz.prog 118 laws_toNote.sig:=fn_ok (fun k x=>laws_toNote.eq k x.1) Tryz.func118 tabO_ok mixed (by kernel_rfl) (by kernel_rfl) trivial
theorem laws_toNoteS.ok:FnOk Tryz.prog 94 laws_toNoteS.sig:=fn_ok (fun k x=>laws_toNoteS.eq k x.1) Tryz.func94 tabO_ok mixed (by kernel_rfl) (by kernel_rfl) ⟨laws_toNote.ok,trivial⟩
theorem laws_toFlight.ok:FnOk Tryz.prog 205 laws_toFlight.sig:=fn_ok (fun k x=>laws_toFlight.eq k x.1) Tryz.func205 tabO_ok mixed (by kernel_rfl) (by kernel_rfl) trivial
theorem laws_toFlightS.ok:FnOk Tryz.prog 95 laws_toFlightS.sig:=fn_ok (fun k x=>laws_toFlightS.eq k x.1) Tryz.func95 tabO_ok mixed (by kernel_rfl) (by kernel_rfl) ⟨laws_toFlight.ok,trivial⟩
theorem laws_toTag.ok:FnOk Tryz.prog 117 laws_toTag.sig:=fn_ok (fun k x=>laws_toTag.eq k x.1) Tryz.func117 tabO_ok mixed (by kernel_rfl) (by kernel_rfl) trivial
theorem laws_toScreen.ok:FnOk Tryz.prog 285 laws_toScreen.sig:=fn_ok (fun k x=>laws_toScreen.eq k x.1) Tryz.func285 tabO_ok mixed (by kernel_rfl) (by kernel_rfl) trivial
theorem laws_toCase.ok:FnOk Tryz.prog 206 laws_toCase.sig:=fn_ok (fun k x=>laws_toCase.eq k x.1) Tryz.func206 tabO_ok mixed (by kernel_rfl) (by kernel_rfl) ⟨laws_toTag.ok,laws_toScreen.ok,trivial⟩
theorem laws_toCaseS.ok:FnOk Tryz.prog 96 laws_toCaseS.sig:=fn_ok (fun k x=>laws_toCaseS.eq k x.1) Tryz.func96 tabO_ok mixed (by kernel_rfl) (by kernel_rfl) ⟨laws_toCase.ok,trivial⟩
theorem laws_toHall.ok:FnOk Tryz.prog 25 laws_toHall.sig:=fn_ok (fun k x=>laws_toHall.eq k x.1) Tryz.func25 tabO_ok mixed (by kernel_rfl) (by kernel_rfl) ⟨laws_toPolicy.ok,laws_toLimits.ok,laws_toBelt.ok,laws_toLoop.ok,laws_toStore.ok,laws_toNoteS.ok,laws_toFlightS.ok,laws_toCaseS.ok,trivial⟩
theorem laws_eqIntS.ok:FnOk Tryz.prog 207 laws_eqIntS.sig:=fn_ok (fun k x=>laws_eqIntS.eq k x.1 x.2.1) Tryz.func207 tabO_ok mixed (by kernel_rfl) (by kernel_rfl) trivial
theorem laws_eqPolicy.ok:FnOk Tryz.prog 97 laws_eqPolicy.sig:=fn_ok (fun k x=>laws_eqPolicy.eq k x.1 x.2.1) Tryz.func97 tabO_ok mixed (by kernel_rfl) (by kernel_rfl) ⟨laws_eqIntS.ok,trivial⟩
theorem laws_eqLimits.ok:FnOk Tryz.prog 98 laws_eqLimits.sig:=fn_ok (fun k x=>laws_eqLimits.eq k x.1 x.2.1) Tryz.func98 tabO_ok mixed (by kernel_rfl) (by kernel_rfl) trivial
theorem laws_eqItem.ok:FnOk Tryz.prog 286 laws_eqItem.sig:=fn_ok (fun k x=>laws_eqItem.eq k x.1 x.2.1) Tryz.func286 tabO_ok mixed (by kernel_rfl) (by kernel_rfl) trivial
theorem laws_eqItemS.ok:FnOk Tryz.prog 208 laws_eqItemS.sig:=fn_ok (fun k x=>laws_eqItemS.eq k x.1 x.2.1) Tryz.func208 tabO_ok mixed (by kernel_rfl) (by kernel_rfl) ⟨laws_eqItem.ok,trivial⟩
theorem laws_eqBelt.ok:FnOk Tryz.prog 99 laws_eqBelt.sig:=fn_ok (fun k x=>laws_eqBelt.eq k x.1 x.2.1) Tryz.func99 tabO_ok mixed (by kernel_rfl) (by kernel_rfl) ⟨laws_eqItemS.ok,trivial⟩
theorem laws_eqChute.ok:FnOk Tryz.prog 287 laws_eqChute.sig:=fn_ok (fun k x=>laws_eqChute.eq k x.1 x.2.1) Tryz.func287 tabO_ok mixed (by kernel_rfl) (by kernel_rfl) ⟨laws_eqIntS.ok,trivial⟩
theorem laws_eqChuteS.ok:FnOk Tryz.prog 209 laws_eqChuteS.sig:=fn_ok (fun k x=>laws_eqChuteS.eq k x.1 x.2.1) Tryz.func209 tabO_ok mixed (by kernel_rfl) (by kernel_rfl) ⟨laws_eqChute.ok,trivial⟩
theorem laws_eqWant.ok:FnOk Tryz.prog 288 laws_eqWant.sig:=fn_ok (fun k x=>laws_eqWant.eq k x.1 x.2.1) Tryz.func288 tabO_ok mixed (by kernel_rfl) (by kernel_rfl) ⟨laws_eqIntS.ok,trivial⟩
theorem laws_eqWantS.ok:FnOk Tryz.prog 210 laws_eqWantS.sig:=fn_ok (fun k x=>laws_eqWantS.eq k x.1 x.2.1) Tryz.func210 tabO_ok mixed (by kernel_rfl) (by kernel_rfl) ⟨laws_eqWant.ok,trivial⟩
theorem laws_eqLoop.ok:FnOk Tryz.prog 100 laws_eqLoop.sig:=fn_ok (fun k x=>laws_eqLoop.eq k x.1 x.2.1) Tryz.func100 tabO_ok mixed (by kernel_rfl) (by kernel_rfl) ⟨laws_eqIntS.ok,laws_eqChuteS.ok,laws_eqWantS.ok,trivial⟩
theorem laws_eqKept.ok:FnOk Tryz.prog 336 laws_eqKept.sig:=fn_ok (fun k x=>laws_eqKept.eq k x.1 x.2.1) Tryz.func336 tabO_ok mixed (by kernel_rfl) (by kernel_rfl) trivial
theorem laws_eqKeptS.ok:FnOk Tryz.prog 289 laws_eqKeptS.sig:=fn_ok (fun k x=>laws_eqKeptS.eq k x.1 x.2.1) Tryz.func289 tabO_ok mixed (by kernel_rfl) (by kernel_rfl) ⟨laws_eqKept.ok,trivial⟩
theorem laws_eqKeptSS.ok:FnOk Tryz.prog 211 laws_eqKeptSS.sig:=fn_ok (fun k x=>laws_eqKeptSS.eq k x.1 x.2.1) Tryz.func211 tabO_ok mixed (by kernel_rfl) (by kernel_rfl) ⟨laws_eqKeptS.ok,trivial⟩
theorem laws_eqStore.ok:FnOk Tryz.prog 101 laws_eqStore.sig:=fn_ok (fun k x=>laws_eqStore.eq k x.1 x.2.1) Tryz.func101 tabO_ok mixed (by kernel_rfl) (by kernel_rfl) ⟨laws_eqKeptSS.ok,trivial⟩
theorem laws_eqNote.ok:FnOk Tryz.prog 212 laws_eqNote.sig:=fn_ok (fun k x=>laws_eqNote.eq k x.1 x.2.1) Tryz.func212 tabO_ok mixed (by kernel_rfl) (by kernel_rfl) trivial
theorem laws_eqNoteS.ok:FnOk Tryz.prog 102 laws_eqNoteS.sig:=fn_ok (fun k x=>laws_eqNoteS.eq k x.1 x.2.1) Tryz.func102 tabO_ok mixed (by kernel_rfl) (by kernel_rfl) ⟨laws_eqNote.ok,trivial⟩
theorem laws_eqFlight.ok:FnOk Tryz.prog 213 laws_eqFlight.sig:=fn_ok (fun k x=>laws_eqFlight.eq k x.1 x.2.1) Tryz.func213 tabO_ok mixed (by kernel_rfl) (by kernel_rfl) trivial
theorem laws_eqFlightS.ok:FnOk Tryz.prog 103 laws_eqFlightS.sig:=fn_ok (fun k x=>laws_eqFlightS.eq k x.1 x.2.1) Tryz.func103 tabO_ok mixed (by kernel_rfl) (by kernel_rfl) ⟨laws_eqFlight.ok,trivial⟩
theorem laws_eqTag.ok:FnOk Tryz.prog 235 laws_eqTag.sig:=fn_ok (fun k x=>laws_eqTag.eq k x.1 x.2.1) Tryz.func235 tabO_ok mixed (by kernel_rfl) (by kernel_rfl) trivial
theorem laws_eqScreen.ok:FnOk Tryz.prog 290 laws_eqScreen.sig:=fn_ok (fun k x=>laws_eqScreen.eq k x.1 x.2.1) Tryz.func290 tabO_ok mixed (by kernel_rfl) (by kernel_rfl) trivial
theorem laws_eqCase.ok:FnOk Tryz.prog 214 laws_eqCase.sig:=fn_ok (fun k x=>laws_eqCase.eq k x.1 x.2.1) Tryz.func214 tabO_ok mixed (by kernel_rfl) (by kernel_rfl) ⟨laws_eqTag.ok,laws_eqScreen.ok,trivial⟩
theorem laws_eqCaseS.ok:FnOk Tryz.prog 104 laws_eqCaseS.sig:=fn_ok (fun k x=>laws_eqCaseS.eq k x.1 x.2.1) Tryz.func104 tabO_ok mixed (by kernel_rfl) (by kernel_rfl) ⟨laws_eqCase.ok,trivial⟩
theorem laws_eqHall.ok:FnOk Tryz.prog 26 laws_eqHall.sig:=fn_ok (fun k x=>laws_eqHall.eq k x.1 x.2.1) Tryz.func26 tabO_ok mixed (by kernel_rfl) (by kernel_rfl) ⟨laws_eqPolicy.ok,laws_eqLimits.ok,laws_eqBelt.ok,laws_eqLoop.ok,laws_eqStore.ok,laws_eqNoteS.ok,laws_eqFlightS.ok,laws_eqCaseS.ok,trivial⟩
end Go.Proofs.YtpmjopbgccajgaaGreat.Eng
