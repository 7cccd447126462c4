/- The contracts of the program's functions. By a program of this session. No condition. -/
import Derived.Test.YtcfbjloblbhdhaaGreatEngD
import Derived.Test.YtcfbjloblbhdhaaGreatShelf
import Derived.Test.YtcfbjloblbhdhaaGreatE1
import Derived.Test.YtcfbjloblbhdhaaGreatE2
import Derived.Test.YtcfbjloblbhdhaaGreatE3
import Derived.Test.YtcfbjloblbhdhaaGreatE4
import Derived.Test.YtcfbjloblbhdhaaGreatE5
namespace Go.Proofs.YtcfbjloblbhdhaaGreat.Eng
open Go.Proofs
set_option linter.unusedVariables false
theorem mixed:Tryz.prog.follows .mixedOrders=true:=by kernel_rfl
set_option maxRecDepth 100000 in
theorem tabO_ok:TabOk Tryz.prog tabO:=tabB_ok (by kernel_rfl)
set_option maxRecDepth 100000 in
theorem tabR_ok:TabOk Tryz.prog tabR:=tabB_ok (by kernel_rfl)
theorem slices_Sort_int_int.ok:FnOk Tryz.prog 152 sortSig:=sort_ok ⟨Tryz.f152,Tryz.func152,by kernel_rfl,by kernel_rfl⟩ (fun blk off cap zs w h1 h2 h3=>Tryz.slices_Sort_int blk off cap zs w h1 h2 h3) Tryz.slices_Sort_int_none
theorem laws_big.ok:FnOk Tryz.prog 5 laws_big.sig:=fn_ok (fun k x=>laws_big.eq k x.1) Tryz.func5 tabO_ok mixed (by kernel_rfl) (by kernel_rfl) trivial
theorem spec_l01Byte.ok:FnOk Tryz.prog 87 spec_l01Byte.sig:=fn_ok (fun k x=>spec_l01Byte.eq k x.1) Tryz.func87 tabO_ok mixed (by kernel_rfl) (by kernel_rfl) trivial
theorem spec_l01Below.ok:FnOk Tryz.prog 25 spec_l01Below.sig:=fn_ok (fun k x=>spec_l01Below.eq k x.1 x.2.1) Tryz.func25 tabO_ok mixed (by kernel_rfl) (by kernel_rfl) ⟨spec_l01Byte.ok,trivial⟩
theorem spec_l01PickInt.ok:FnOk Tryz.prog 60 spec_l01PickInt.sig:=fn_ok (fun k x=>spec_l01PickInt.eq k x.1 x.2.1) Tryz.func60 tabO_ok mixed (by kernel_rfl) (by kernel_rfl) ⟨spec_l01Below.ok,trivial⟩
theorem spec_l07Limits.ok:FnOk Tryz.prog 86 spec_l07Limits.sig:=fn_ok (fun k x=>spec_l07Limits.eq k x.1) Tryz.func86 tabO_ok mixed (by kernel_rfl) (by kernel_rfl) ⟨spec_l01Below.ok,spec_l01PickInt.ok,trivial⟩
theorem spec_l09New.ok:FnOk Tryz.prog 24 spec_l09New.sig:=fn_ok (fun k x=>spec_l09New.eq k x.1) Tryz.func24 tabO_ok mixed (by kernel_rfl) (by kernel_rfl) ⟨spec_l01Below.ok,spec_l07Limits.ok,trivial⟩
theorem spec_l01In.ok:FnOk Tryz.prog 41 spec_l01In.sig:=fn_ok (fun k x=>spec_l01In.eq k x.1 x.2.1 x.2.2.1) Tryz.func41 tabO_ok mixed (by kernel_rfl) (by kernel_rfl) trivial
theorem spec_l02Fresh.ok:FnOk Tryz.prog 94 spec_l02Fresh.sig:=fn_ok (fun k x=>spec_l02Fresh.eq k x.1) Tryz.func94 tabO_ok mixed (by kernel_rfl) (by kernel_rfl) trivial
theorem spec_l06Copy.ok:FnOk Tryz.prog 95 spec_l06Copy.sig:=fn_ok (fun k x=>spec_l06Copy.eq k x.1) Tryz.func95 tabO_ok mixed (by kernel_rfl) (by kernel_rfl) trivial
theorem spec_l05Copy.ok:FnOk Tryz.prog 96 spec_l05Copy.sig:=fn_ok (fun k x=>spec_l05Copy.eq k x.1) Tryz.func96 tabO_ok mixed (by kernel_rfl) (by kernel_rfl) trivial
theorem spec_l09Copy.ok:FnOk Tryz.prog 27 spec_l09Copy.sig:=fn_ok (fun k x=>spec_l09Copy.eq k x.1) Tryz.func27 tabO_ok mixed (by kernel_rfl) (by kernel_rfl) ⟨spec_l02Fresh.ok,spec_l06Copy.ok,spec_l05Copy.ok,trivial⟩
theorem spec_BeltOk.ok:FnOk Tryz.prog 80 spec_BeltOk.sig:=fn_ok (fun k x=>spec_BeltOk.eq k x.1) Tryz.func80 tabO_ok mixed (by kernel_rfl) (by kernel_rfl) ⟨spec_l01In.ok,trivial⟩
theorem spec_Leave.ok:FnOk Tryz.prog 186 spec_Leave.sig:=fn_ok (fun k x=>spec_Leave.eq k x.1) Tryz.func186 tabO_ok mixed (by kernel_rfl) (by kernel_rfl) ⟨spec_BeltOk.ok,spec_l02Fresh.ok,trivial⟩
theorem spec_l02Step.ok:FnOk Tryz.prog 187 spec_l02Step.sig:=fn_ok (fun k x=>spec_l02Step.eq k x.1) Tryz.func187 tabO_ok mixed (by kernel_rfl) (by kernel_rfl) trivial
theorem spec_l05Tray.ok:FnOk Tryz.prog 228 spec_l05Tray.sig:=fn_ok (fun k x=>spec_l05Tray.eq k x.1 x.2.1) Tryz.func228 tabO_ok mixed (by kernel_rfl) (by kernel_rfl) trivial
theorem spec_l03Has.ok:FnOk Tryz.prog 154 spec_l03Has.sig:=fn_ok (fun k x=>spec_l03Has.eq k x.1 x.2.1) Tryz.func154 tabO_ok mixed (by kernel_rfl) (by kernel_rfl) trivial
theorem spec_l05Wants.ok:FnOk Tryz.prog 229 spec_l05Wants.sig:=fn_ok (fun k x=>spec_l05Wants.eq k x.1 x.2.1 x.2.2.1) Tryz.func229 tabO_ok mixed (by kernel_rfl) (by kernel_rfl) ⟨spec_l03Has.ok,trivial⟩
theorem spec_l05Step.ok:FnOk Tryz.prog 188 spec_l05Step.sig:=fn_ok (fun k x=>spec_l05Step.eq k x.1) Tryz.func188 tabO_ok mixed (by kernel_rfl) (by kernel_rfl) ⟨spec_l05Copy.ok,spec_l05Tray.ok,spec_l05Wants.ok,trivial⟩
theorem spec_l09Tick.ok:FnOk Tryz.prog 121 spec_l09Tick.sig:=fn_ok (fun k x=>spec_l09Tick.eq k x.1) Tryz.func121 tabO_ok mixed (by kernel_rfl) (by kernel_rfl) ⟨spec_l09Copy.ok,spec_Leave.ok,spec_l02Step.ok,spec_l05Step.ok,trivial⟩
theorem spec_TagOk.ok:FnOk Tryz.prog 156 spec_TagOk.sig:=fn_ok (fun k x=>spec_TagOk.eq k x.1) Tryz.func156 tabO_ok mixed (by kernel_rfl) (by kernel_rfl) ⟨spec_l01In.ok,trivial⟩
theorem spec_FreeBehind.ok:FnOk Tryz.prog 230 spec_FreeBehind.sig:=fn_ok (fun k x=>spec_FreeBehind.eq k x.1) Tryz.func230 tabO_ok mixed (by kernel_rfl) (by kernel_rfl) ⟨spec_BeltOk.ok,trivial⟩
theorem spec_Enter.ok:FnOk Tryz.prog 189 spec_Enter.sig:=fn_ok (fun k x=>spec_Enter.eq k x.1 x.2.1 x.2.2.1) Tryz.func189 tabO_ok mixed (by kernel_rfl) (by kernel_rfl) ⟨spec_l01In.ok,spec_BeltOk.ok,spec_l02Fresh.ok,spec_FreeBehind.ok,trivial⟩
theorem spec_l09Check.ok:FnOk Tryz.prog 122 spec_l09Check.sig:=fn_ok (fun k x=>spec_l09Check.eq k x.1 x.2.1) Tryz.func122 tabO_ok mixed (by kernel_rfl) (by kernel_rfl) ⟨spec_l09Copy.ok,spec_l01In.ok,spec_TagOk.ok,spec_Enter.ok,trivial⟩
theorem spec_NoteOk.ok:FnOk Tryz.prog 155 spec_NoteOk.sig:=fn_ok (fun k x=>spec_NoteOk.eq k x.1) Tryz.func155 tabO_ok mixed (by kernel_rfl) (by kernel_rfl) ⟨spec_l01In.ok,trivial⟩
theorem spec_NotesOk.ok:FnOk Tryz.prog 83 spec_NotesOk.sig:=fn_ok (fun k x=>spec_NotesOk.eq k x.1) Tryz.func83 tabO_ok mixed (by kernel_rfl) (by kernel_rfl) ⟨spec_NoteOk.ok,trivial⟩
theorem spec_l08At.ok:FnOk Tryz.prog 190 spec_l08At.sig:=fn_ok (fun k x=>spec_l08At.eq k x.1 x.2.1) Tryz.func190 tabO_ok mixed (by kernel_rfl) (by kernel_rfl) trivial
theorem spec_l08With.ok:FnOk Tryz.prog 191 spec_l08With.sig:=fn_ok (fun k x=>spec_l08With.eq k x.1 x.2.1) Tryz.func191 tabO_ok mixed (by kernel_rfl) (by kernel_rfl) trivial
theorem spec_AddNote.ok:FnOk Tryz.prog 123 spec_AddNote.sig:=fn_ok (fun k x=>spec_AddNote.eq k x.1 x.2.1) Tryz.func123 tabO_ok mixed (by kernel_rfl) (by kernel_rfl) ⟨spec_NotesOk.ok,spec_NoteOk.ok,spec_l08At.ok,spec_l08With.ok,trivial⟩
theorem spec_PolicyOk.ok:FnOk Tryz.prog 78 spec_PolicyOk.sig:=fn_ok (fun k x=>spec_PolicyOk.eq k x.1) Tryz.func78 tabO_ok mixed (by kernel_rfl) (by kernel_rfl) ⟨spec_l01In.ok,trivial⟩
theorem spec_LimitsOk.ok:FnOk Tryz.prog 79 spec_LimitsOk.sig:=fn_ok (fun k x=>spec_LimitsOk.eq k x.1) Tryz.func79 tabO_ok mixed (by kernel_rfl) (by kernel_rfl) ⟨spec_l01In.ok,trivial⟩
theorem spec_LoopOk.ok:FnOk Tryz.prog 81 spec_LoopOk.sig:=fn_ok (fun k x=>spec_LoopOk.eq k x.1) Tryz.func81 tabO_ok mixed (by kernel_rfl) (by kernel_rfl) ⟨spec_l01In.ok,spec_l03Has.ok,trivial⟩
theorem spec_StoreOk.ok:FnOk Tryz.prog 82 spec_StoreOk.sig:=fn_ok (fun k x=>spec_StoreOk.eq k x.1) Tryz.func82 tabO_ok mixed (by kernel_rfl) (by kernel_rfl) ⟨spec_l01In.ok,spec_l03Has.ok,trivial⟩
theorem spec_l09FlightOk.ok:FnOk Tryz.prog 84 spec_l09FlightOk.sig:=fn_ok (fun k x=>spec_l09FlightOk.eq k x.1 x.2.1) Tryz.func84 tabO_ok mixed (by kernel_rfl) (by kernel_rfl) ⟨spec_l01In.ok,trivial⟩
theorem spec_ScreenOk.ok:FnOk Tryz.prog 157 spec_ScreenOk.sig:=fn_ok (fun k x=>spec_ScreenOk.eq k x.1) Tryz.func157 tabO_ok mixed (by kernel_rfl) (by kernel_rfl) ⟨spec_l01In.ok,trivial⟩
theorem spec_l09OnBelt.ok:FnOk Tryz.prog 158 spec_l09OnBelt.sig:=fn_ok (fun k x=>spec_l09OnBelt.eq k x.1 x.2.1) Tryz.func158 tabO_ok mixed (by kernel_rfl) (by kernel_rfl) trivial
theorem spec_l09Chute.ok:FnOk Tryz.prog 159 spec_l09Chute.sig:=fn_ok (fun k x=>spec_l09Chute.eq k x.1 x.2.1) Tryz.func159 tabO_ok mixed (by kernel_rfl) (by kernel_rfl) ⟨spec_l03Has.ok,trivial⟩
theorem spec_l06Find.ok:FnOk Tryz.prog 160 spec_l06Find.sig:=fn_ok (fun k x=>spec_l06Find.eq k x.1 x.2.1) Tryz.func160 tabO_ok mixed (by kernel_rfl) (by kernel_rfl) trivial
theorem spec_l09CaseOk.ok:FnOk Tryz.prog 85 spec_l09CaseOk.sig:=fn_ok (fun k x=>spec_l09CaseOk.eq k x.1 x.2.1) Tryz.func85 tabO_ok mixed (by kernel_rfl) (by kernel_rfl) ⟨spec_l01In.ok,spec_l03Has.ok,spec_TagOk.ok,spec_ScreenOk.ok,spec_l09OnBelt.ok,spec_l09Chute.ok,spec_l06Find.ok,trivial⟩
theorem spec_HallOk.ok:FnOk Tryz.prog 23 spec_HallOk.sig:=fn_ok (fun k x=>spec_HallOk.eq k x.1) Tryz.func23 tabO_ok mixed (by kernel_rfl) (by kernel_rfl) ⟨spec_l01In.ok,spec_PolicyOk.ok,spec_LimitsOk.ok,spec_BeltOk.ok,spec_LoopOk.ok,spec_StoreOk.ok,spec_NotesOk.ok,spec_l09FlightOk.ok,spec_l09CaseOk.ok,trivial⟩
theorem spec_Gaps.ok:FnOk Tryz.prog 42 spec_Gaps.sig:=fn_ok (fun k x=>spec_Gaps.eq k x.1) Tryz.func42 tabO_ok mixed (by kernel_rfl) (by kernel_rfl) ⟨spec_NotesOk.ok,trivial⟩
theorem spec_CanDepart.ok:FnOk Tryz.prog 15 spec_CanDepart.sig:=fn_ok (fun k x=>spec_CanDepart.eq k x.1 x.2.1) Tryz.func15 tabO_ok mixed (by kernel_rfl) (by kernel_rfl) ⟨spec_HallOk.ok,spec_l01In.ok,spec_Gaps.ok,trivial⟩
theorem spec_l09Drop.ok:FnOk Tryz.prog 192 spec_l09Drop.sig:=fn_ok (fun k x=>spec_l09Drop.eq k x.1 x.2.1) Tryz.func192 tabO_ok mixed (by kernel_rfl) (by kernel_rfl) ⟨spec_l05Copy.ok,trivial⟩
theorem spec_OwnerOf.ok:FnOk Tryz.prog 231 spec_OwnerOf.sig:=fn_ok (fun k x=>spec_OwnerOf.eq k x.1 x.2.1) Tryz.func231 tabO_ok mixed (by kernel_rfl) (by kernel_rfl) ⟨spec_NotesOk.ok,trivial⟩
theorem spec_Aboard.ok:FnOk Tryz.prog 232 spec_Aboard.sig:=fn_ok (fun k x=>spec_Aboard.eq k x.1 x.2.1 x.2.2.1) Tryz.func232 tabO_ok mixed (by kernel_rfl) (by kernel_rfl) ⟨spec_NotesOk.ok,trivial⟩
theorem spec_Pulled.ok:FnOk Tryz.prog 233 spec_Pulled.sig:=fn_ok (fun k x=>spec_Pulled.eq k x.1 x.2.1 x.2.2.1) Tryz.func233 tabO_ok mixed (by kernel_rfl) (by kernel_rfl) ⟨spec_NotesOk.ok,trivial⟩
theorem spec_MayFly.ok:FnOk Tryz.prog 193 spec_MayFly.sig:=fn_ok (fun k x=>spec_MayFly.eq k x.1 x.2.1 x.2.2.1) Tryz.func193 tabO_ok mixed (by kernel_rfl) (by kernel_rfl) ⟨spec_OwnerOf.ok,spec_Aboard.ok,spec_Pulled.ok,trivial⟩
theorem spec_PiecesOk.ok:FnOk Tryz.prog 234 spec_PiecesOk.sig:=fn_ok (fun k x=>spec_PiecesOk.eq k x.1) Tryz.func234 tabO_ok mixed (by kernel_rfl) (by kernel_rfl) ⟨spec_l01In.ok,trivial⟩
theorem spec_l07Takes.ok:FnOk Tryz.prog 278 spec_l07Takes.sig:=fn_ok (fun k x=>spec_l07Takes.eq k x.1 x.2.1 x.2.2.1) Tryz.func278 tabO_ok mixed (by kernel_rfl) (by kernel_rfl) trivial
theorem spec_l07With.ok:FnOk Tryz.prog 279 spec_l07With.sig:=fn_ok (fun k x=>spec_l07With.eq k x.1 x.2.1) Tryz.func279 tabO_ok mixed (by kernel_rfl) (by kernel_rfl) trivial
theorem spec_FirstFit.ok:FnOk Tryz.prog 235 spec_FirstFit.sig:=fn_ok (fun k x=>spec_FirstFit.eq k x.1 x.2.1) Tryz.func235 tabO_ok mixed (by kernel_rfl) (by kernel_rfl) ⟨spec_LimitsOk.ok,spec_PiecesOk.ok,spec_l07Takes.ok,spec_l07With.ok,trivial⟩
theorem spec_Repack.ok:FnOk Tryz.prog 194 spec_Repack.sig:=fn_ok (fun k x=>spec_Repack.eq k x.1 x.2.1) Tryz.func194 tabO_ok mixed (by kernel_rfl) (by kernel_rfl) ⟨spec_LimitsOk.ok,spec_PiecesOk.ok,spec_FirstFit.ok,trivial⟩
theorem spec_l09Depart.ok:FnOk Tryz.prog 124 spec_l09Depart.sig:=fn_ok (fun k x=>spec_l09Depart.eq k x.1 x.2.1) Tryz.func124 tabR_ok mixed (by kernel_rfl) (by kernel_rfl) ⟨spec_CanDepart.ok,spec_l09Copy.ok,spec_l09Drop.ok,spec_MayFly.ok,spec_Repack.ok,trivial⟩
theorem spec_Elapse.ok:FnOk Tryz.prog 236 spec_Elapse.sig:=fn_ok (fun k x=>spec_Elapse.eq k x.1 x.2.1 x.2.2.1) Tryz.func236 tabO_ok mixed (by kernel_rfl) (by kernel_rfl) ⟨spec_l01In.ok,spec_PolicyOk.ok,spec_ScreenOk.ok,trivial⟩
theorem spec_Decide.ok:FnOk Tryz.prog 195 spec_Decide.sig:=fn_ok (fun k x=>spec_Decide.eq k x.1 x.2.1 x.2.2.1 x.2.2.2.1) Tryz.func195 tabO_ok mixed (by kernel_rfl) (by kernel_rfl) ⟨spec_l01In.ok,spec_PolicyOk.ok,spec_ScreenOk.ok,spec_Elapse.ok,trivial⟩
theorem spec_l09Decide.ok:FnOk Tryz.prog 125 spec_l09Decide.sig:=fn_ok (fun k x=>spec_l09Decide.eq k x.1 x.2.1 x.2.2.1) Tryz.func125 tabO_ok mixed (by kernel_rfl) (by kernel_rfl) ⟨spec_l09Copy.ok,spec_Decide.ok,trivial⟩
theorem spec_SetWant.ok:FnOk Tryz.prog 237 spec_SetWant.sig:=fn_ok (fun k x=>spec_SetWant.eq k x.1 x.2.1 x.2.2.1) Tryz.func237 tabR_ok mixed (by kernel_rfl) (by kernel_rfl) ⟨spec_LoopOk.ok,spec_l05Copy.ok,trivial⟩
theorem spec_TrayAt.ok:FnOk Tryz.prog 280 spec_TrayAt.sig:=fn_ok (fun k x=>spec_TrayAt.eq k x.1 x.2.1) Tryz.func280 tabO_ok mixed (by kernel_rfl) (by kernel_rfl) ⟨spec_l01In.ok,spec_LoopOk.ok,spec_l05Tray.ok,trivial⟩
theorem spec_l05In.ok:FnOk Tryz.prog 281 spec_l05In.sig:=fn_ok (fun k x=>spec_l05In.eq k x.1 x.2.1) Tryz.func281 tabO_ok mixed (by kernel_rfl) (by kernel_rfl) ⟨spec_l03Has.ok,trivial⟩
theorem spec_Induct.ok:FnOk Tryz.prog 238 spec_Induct.sig:=fn_ok (fun k x=>spec_Induct.eq k x.1 x.2.1 x.2.2.1) Tryz.func238 tabO_ok mixed (by kernel_rfl) (by kernel_rfl) ⟨spec_l05Copy.ok,spec_TrayAt.ok,spec_l05In.ok,trivial⟩
theorem spec_l09Onto.ok:FnOk Tryz.prog 196 spec_l09Onto.sig:=fn_ok (fun k x=>spec_l09Onto.eq k x.1 x.2.1) Tryz.func196 tabO_ok mixed (by kernel_rfl) (by kernel_rfl) ⟨spec_l09Copy.ok,spec_SetWant.ok,spec_Induct.ok,trivial⟩
theorem spec_l06Least.ok:FnOk Tryz.prog 282 spec_l06Least.sig:=fn_ok (fun k x=>spec_l06Least.eq k x.1) Tryz.func282 tabO_ok mixed (by kernel_rfl) (by kernel_rfl) trivial
theorem spec_LaneFor.ok:FnOk Tryz.prog 239 spec_LaneFor.sig:=fn_ok (fun k x=>spec_LaneFor.eq k x.1 x.2.1 x.2.2.1) Tryz.func239 tabO_ok mixed (by kernel_rfl) (by kernel_rfl) ⟨spec_l01In.ok,spec_StoreOk.ok,spec_l06Least.ok,trivial⟩
theorem spec_PutBag.ok:FnOk Tryz.prog 197 spec_PutBag.sig:=fn_ok (fun k x=>spec_PutBag.eq k x.1 x.2.1 x.2.2.1) Tryz.func197 tabO_ok mixed (by kernel_rfl) (by kernel_rfl) ⟨spec_l06Copy.ok,spec_l06Find.ok,spec_LaneFor.ok,trivial⟩
theorem spec_l09Send.ok:FnOk Tryz.prog 126 spec_l09Send.sig:=fn_ok (fun k x=>spec_l09Send.eq k x.1 x.2.1) Tryz.func126 tabO_ok mixed (by kernel_rfl) (by kernel_rfl) ⟨spec_l09Copy.ok,spec_l09Onto.ok,spec_PutBag.ok,trivial⟩
theorem spec_l06Hop.ok:FnOk Tryz.prog 240 spec_l06Hop.sig:=fn_ok (fun k x=>spec_l06Hop.eq k x.1 x.2.1 x.2.2.1) Tryz.func240 tabO_ok mixed (by kernel_rfl) (by kernel_rfl) ⟨spec_l06Copy.ok,trivial⟩
theorem spec_TakeBag.ok:FnOk Tryz.prog 198 spec_TakeBag.sig:=fn_ok (fun k x=>spec_TakeBag.eq k x.1 x.2.1) Tryz.func198 tabO_ok mixed (by kernel_rfl) (by kernel_rfl) ⟨spec_StoreOk.ok,spec_l06Copy.ok,spec_l06Find.ok,spec_LaneFor.ok,spec_l06Hop.ok,trivial⟩
theorem spec_l09Fetch.ok:FnOk Tryz.prog 127 spec_l09Fetch.sig:=fn_ok (fun k x=>spec_l09Fetch.eq k x.1 x.2.1) Tryz.func127 tabO_ok mixed (by kernel_rfl) (by kernel_rfl) ⟨spec_l09Onto.ok,spec_TakeBag.ok,trivial⟩
theorem spec_l09Return.ok:FnOk Tryz.prog 128 spec_l09Return.sig:=fn_ok (fun k x=>spec_l09Return.eq k x.1 x.2.1) Tryz.func128 tabO_ok mixed (by kernel_rfl) (by kernel_rfl) ⟨spec_l09Copy.ok,spec_l01In.ok,spec_l09Drop.ok,spec_TakeBag.ok,trivial⟩
theorem spec_l09Do.ok:FnOk Tryz.prog 61 spec_l09Do.sig:=fn_ok (fun k x=>spec_l09Do.eq k x.1 x.2.1) Tryz.func61 tabO_ok mixed (by kernel_rfl) (by kernel_rfl) ⟨spec_l01In.ok,spec_l09Tick.ok,spec_l09Check.ok,spec_AddNote.ok,spec_l09Depart.ok,spec_l09Decide.ok,spec_l09Send.ok,spec_l09Fetch.ok,spec_l09Return.ok,trivial⟩
theorem spec_l01Once.ok:FnOk Tryz.prog 130 spec_l01Once.sig:=fn_ok (fun k x=>spec_l01Once.eq k x.1 x.2.1) Tryz.func130 tabO_ok mixed (by kernel_rfl) (by kernel_rfl) ⟨spec_l01Below.ok,trivial⟩
theorem spec_l09Notice.ok:FnOk Tryz.prog 129 spec_l09Notice.sig:=fn_ok (fun k x=>spec_l09Notice.eq k x.1 x.2.1) Tryz.func129 tabO_ok mixed (by kernel_rfl) (by kernel_rfl) ⟨spec_l01Below.ok,spec_l01PickInt.ok,spec_l01Once.ok,trivial⟩
theorem spec_l09ForBag.ok:FnOk Tryz.prog 131 spec_l09ForBag.sig:=fn_ok (fun k x=>spec_l09ForBag.eq k x.1 x.2.1 x.2.2.1) Tryz.func131 tabO_ok mixed (by kernel_rfl) (by kernel_rfl) ⟨spec_l01Below.ok,spec_l01PickInt.ok,trivial⟩
theorem spec_l09Command.ok:FnOk Tryz.prog 62 spec_l09Command.sig:=fn_ok (fun k x=>spec_l09Command.eq k x.1 x.2.1) Tryz.func62 tabO_ok mixed (by kernel_rfl) (by kernel_rfl) ⟨spec_l01Below.ok,spec_l01PickInt.ok,spec_l09Notice.ok,spec_l01Once.ok,spec_l09ForBag.ok,trivial⟩
theorem spec_l09Hall.ok:FnOk Tryz.prog 19 spec_l09Hall.sig:=fn_ok (fun k x=>spec_l09Hall.eq k x.1) Tryz.func19 tabO_ok mixed (by kernel_rfl) (by kernel_rfl) ⟨spec_l09New.ok,spec_l01PickInt.ok,spec_l09Do.ok,spec_l09Command.ok,trivial⟩
theorem spec_l01New.ok:FnOk Tryz.prog 20 spec_l01New.sig:=fn_ok (fun k x=>spec_l01New.eq k x.1) Tryz.func20 tabO_ok mixed (by kernel_rfl) (by kernel_rfl) trivial
theorem spec_DrawHall.ok:FnOk Tryz.prog 6 spec_DrawHall.sig:=fn_ok (fun k x=>spec_DrawHall.eq k x.1) Tryz.func6 tabO_ok mixed (by kernel_rfl) (by kernel_rfl) ⟨spec_l09Hall.ok,spec_l01New.ok,trivial⟩
theorem impl_isTick.ok:FnOk Tryz.prog 63 impl_isTick.sig:=fn_ok (fun k x=>impl_isTick.eq k x.1) Tryz.func63 tabO_ok mixed (by kernel_rfl) (by kernel_rfl) trivial
theorem impl_isWait.ok:FnOk Tryz.prog 134 impl_isWait.sig:=fn_ok (fun k x=>impl_isWait.eq k x.1 x.2.1) Tryz.func134 tabO_ok mixed (by kernel_rfl) (by kernel_rfl) trivial
theorem impl_PolicyOk.ok:FnOk Tryz.prog 64 impl_PolicyOk.sig:=fn_ok (fun k x=>impl_PolicyOk.eq k x.1) Tryz.func64 tabO_ok mixed (by kernel_rfl) (by kernel_rfl) ⟨⟨Tryz.func132,by kernel_rfl⟩,⟨Tryz.func133,by kernel_rfl⟩,impl_isWait.ok,⟨Tryz.func151,by kernel_rfl⟩,trivial⟩
theorem impl_LimitsOk.ok:FnOk Tryz.prog 65 impl_LimitsOk.sig:=fn_ok (fun k x=>impl_LimitsOk.eq k x.1) Tryz.func65 tabO_ok mixed (by kernel_rfl) (by kernel_rfl) trivial
theorem impl_isOn.ok:FnOk Tryz.prog 135 impl_isOn.sig:=fn_ok (fun k x=>impl_isOn.eq k x.1 x.2.1) Tryz.func135 tabO_ok mixed (by kernel_rfl) (by kernel_rfl) ⟨⟨Tryz.func199,by kernel_rfl⟩,⟨Tryz.func200,by kernel_rfl⟩,⟨Tryz.func241,by kernel_rfl⟩,trivial⟩
theorem impl_BeltOk.ok:FnOk Tryz.prog 66 impl_BeltOk.sig:=fn_ok (fun k x=>impl_BeltOk.eq k x.1) Tryz.func66 tabO_ok mixed (by kernel_rfl) (by kernel_rfl) ⟨impl_isOn.ok,trivial⟩
theorem impl_areIndexes.ok:FnOk Tryz.prog 136 impl_areIndexes.sig:=fn_ok (fun k x=>impl_areIndexes.eq k x.1 x.2.1) Tryz.func136 tabO_ok mixed (by kernel_rfl) (by kernel_rfl) trivial
theorem slices_Clone_int_int.ok:FnOk Tryz.prog 74 slices_Clone_int_int.sig:=fn_ok (fun k x=>slices_Clone_int_int.eq k x.1) Tryz.func74 tabO_ok mixed (by kernel_rfl) (by kernel_rfl) trivial
theorem impl_bagsOf.ok:FnOk Tryz.prog 137 impl_bagsOf.sig:=fn_ok (fun k x=>impl_bagsOf.eq k x.1) Tryz.func137 tabO_ok mixed (by kernel_rfl) (by kernel_rfl) ⟨⟨Tryz.func73,by kernel_rfl⟩,slices_Clone_int_int.ok,⟨Tryz.func151,by kernel_rfl⟩,⟨Tryz.func201,by kernel_rfl⟩,trivial⟩
theorem impl_areDifferent.ok:FnOk Tryz.prog 139 impl_areDifferent.sig:=fn_ok (fun k x=>impl_areDifferent.eq k x.1) Tryz.func139 tabO_ok mixed (by kernel_rfl) (by kernel_rfl) ⟨slices_Clone_int_int.ok,slices_Sort_int_int.ok,⟨Tryz.func202,by kernel_rfl⟩,trivial⟩
theorem impl_LoopOk.ok:FnOk Tryz.prog 67 impl_LoopOk.sig:=fn_ok (fun k x=>impl_LoopOk.eq k x.1) Tryz.func67 tabO_ok mixed (by kernel_rfl) (by kernel_rfl) ⟨⟨Tryz.func132,by kernel_rfl⟩,impl_areIndexes.ok,impl_bagsOf.ok,⟨Tryz.func138,by kernel_rfl⟩,impl_areDifferent.ok,⟨Tryz.func151,by kernel_rfl⟩,trivial⟩
theorem impl_bagsIn.ok:FnOk Tryz.prog 77 impl_bagsIn.sig:=fn_ok (fun k x=>impl_bagsIn.eq k x.1) Tryz.func77 tabO_ok mixed (by kernel_rfl) (by kernel_rfl) trivial
theorem impl_StoreOk.ok:FnOk Tryz.prog 68 impl_StoreOk.sig:=fn_ok (fun k x=>impl_StoreOk.eq k x.1) Tryz.func68 tabO_ok mixed (by kernel_rfl) (by kernel_rfl) ⟨impl_isTick.ok,impl_bagsIn.ok,impl_areDifferent.ok,⟨Tryz.func140,by kernel_rfl⟩,⟨Tryz.func141,by kernel_rfl⟩,⟨Tryz.func203,by kernel_rfl⟩,trivial⟩
theorem impl_isFrom1.ok:FnOk Tryz.prog 147 impl_isFrom1.sig:=fn_ok (fun k x=>impl_isFrom1.eq k x.1 x.2.1) Tryz.func147 tabO_ok mixed (by kernel_rfl) (by kernel_rfl) trivial
theorem impl_NoteOk.ok:FnOk Tryz.prog 142 impl_NoteOk.sig:=fn_ok (fun k x=>impl_NoteOk.eq k x.1) Tryz.func142 tabO_ok mixed (by kernel_rfl) (by kernel_rfl) ⟨impl_isFrom1.ok,trivial⟩
theorem impl_NotesOk.ok:FnOk Tryz.prog 69 impl_NotesOk.sig:=fn_ok (fun k x=>impl_NotesOk.eq k x.1) Tryz.func69 tabO_ok mixed (by kernel_rfl) (by kernel_rfl) ⟨impl_NoteOk.ok,trivial⟩
theorem impl_areFlights.ok:FnOk Tryz.prog 70 impl_areFlights.sig:=fn_ok (fun k x=>impl_areFlights.eq k x.1) Tryz.func70 tabO_ok mixed (by kernel_rfl) (by kernel_rfl) ⟨⟨Tryz.func143,by kernel_rfl⟩,⟨Tryz.func144,by kernel_rfl⟩,⟨Tryz.func204,by kernel_rfl⟩,trivial⟩
theorem impl_TagOk.ok:FnOk Tryz.prog 145 impl_TagOk.sig:=fn_ok (fun k x=>impl_TagOk.eq k x.1) Tryz.func145 tabO_ok mixed (by kernel_rfl) (by kernel_rfl) trivial
theorem impl_isFlight.ok:FnOk Tryz.prog 146 impl_isFlight.sig:=fn_ok (fun k x=>impl_isFlight.eq k x.1 x.2.1) Tryz.func146 tabO_ok mixed (by kernel_rfl) (by kernel_rfl) ⟨impl_isFrom1.ok,trivial⟩
theorem impl_ScreenOk.ok:FnOk Tryz.prog 148 impl_ScreenOk.sig:=fn_ok (fun k x=>impl_ScreenOk.eq k x.1) Tryz.func148 tabO_ok mixed (by kernel_rfl) (by kernel_rfl) ⟨impl_isTick.ok,trivial⟩
theorem impl_isCase.ok:FnOk Tryz.prog 71 impl_isCase.sig:=fn_ok (fun k x=>impl_isCase.eq k x.1 x.2.1) Tryz.func71 tabO_ok mixed (by kernel_rfl) (by kernel_rfl) ⟨impl_TagOk.ok,impl_isFlight.ok,impl_isFrom1.ok,impl_ScreenOk.ok,trivial⟩
theorem impl_hasTag.ok:FnOk Tryz.prog 72 impl_hasTag.sig:=fn_ok (fun k x=>impl_hasTag.eq k x.1 x.2.1) Tryz.func72 tabO_ok mixed (by kernel_rfl) (by kernel_rfl) ⟨⟨Tryz.func149,by kernel_rfl⟩,⟨Tryz.func150,by kernel_rfl⟩,⟨Tryz.func205,by kernel_rfl⟩,trivial⟩
theorem impl_at.ok:FnOk Tryz.prog 22 impl_at.sig:=fn_ok (fun k x=>impl_at.eq k x.1 x.2.1) Tryz.func22 tabO_ok mixed (by kernel_rfl) (by kernel_rfl) trivial
theorem slices_Equal_int_int.ok:FnOk Tryz.prog 153 slices_Equal_int_int.sig:=fn_ok (fun k x=>slices_Equal_int_int.eq k x.1 x.2.1) Tryz.func153 tabO_ok mixed (by kernel_rfl) (by kernel_rfl) trivial
theorem impl_areBags.ok:FnOk Tryz.prog 76 impl_areBags.sig:=fn_ok (fun k x=>impl_areBags.eq k x.1 x.2.1 x.2.2.1) Tryz.func76 tabO_ok mixed (by kernel_rfl) (by kernel_rfl) ⟨impl_at.ok,slices_Sort_int_int.ok,slices_Equal_int_int.ok,trivial⟩
theorem impl_HallOk.ok:FnOk Tryz.prog 21 impl_HallOk.sig:=fn_ok (fun k x=>impl_HallOk.eq k x.1) Tryz.func21 tabO_ok mixed (by kernel_rfl) (by kernel_rfl) ⟨impl_isTick.ok,impl_PolicyOk.ok,impl_LimitsOk.ok,impl_BeltOk.ok,impl_LoopOk.ok,impl_StoreOk.ok,impl_NotesOk.ok,impl_areFlights.ok,impl_isCase.ok,impl_hasTag.ok,⟨Tryz.func73,by kernel_rfl⟩,slices_Clone_int_int.ok,⟨Tryz.func75,by kernel_rfl⟩,impl_areBags.ok,impl_bagsIn.ok,⟨Tryz.func151,by kernel_rfl⟩,trivial⟩
theorem impl_LedgerOf.ok:FnOk Tryz.prog 7 impl_LedgerOf.sig:=fn_ok (fun k x=>impl_LedgerOf.eq k x.1 x.2.1) Tryz.func7 tabO_ok mixed (by kernel_rfl) (by kernel_rfl) ⟨impl_HallOk.ok,impl_at.ok,trivial⟩
theorem laws_sameInts.ok:FnOk Tryz.prog 8 laws_sameInts.sig:=fn_ok (fun k x=>laws_sameInts.eq k x.1 x.2.1) Tryz.func8 tabO_ok mixed (by kernel_rfl) (by kernel_rfl) trivial
theorem spec_LedgerOf.ok:FnOk Tryz.prog 9 spec_LedgerOf.sig:=fn_ok (fun k x=>spec_LedgerOf.eq k x.1 x.2.1) Tryz.func9 tabO_ok mixed (by kernel_rfl) (by kernel_rfl) ⟨spec_HallOk.ok,trivial⟩
theorem spec_DrawNewHall.ok:FnOk Tryz.prog 10 spec_DrawNewHall.sig:=fn_ok (fun k x=>spec_DrawNewHall.eq k x.1) Tryz.func10 tabO_ok mixed (by kernel_rfl) (by kernel_rfl) ⟨spec_l01New.ok,spec_l09New.ok,spec_l01Below.ok,trivial⟩
theorem slices_Clone_impl_Item.ok:FnOk Tryz.prog 161 slices_Clone_impl_Item.sig:=fn_ok (fun k x=>slices_Clone_impl_Item.eq k x.1) Tryz.func161 tabO_ok mixed (by kernel_rfl) (by kernel_rfl) trivial
theorem impl_copyBelt.ok:FnOk Tryz.prog 88 impl_copyBelt.sig:=fn_ok (fun k x=>impl_copyBelt.eq k x.1) Tryz.func88 tabO_ok mixed (by kernel_rfl) (by kernel_rfl) ⟨slices_Clone_impl_Item.ok,trivial⟩
theorem impl_copyLoop.ok:FnOk Tryz.prog 89 impl_copyLoop.sig:=fn_ok (fun k x=>impl_copyLoop.eq k x.1) Tryz.func89 tabO_ok mixed (by kernel_rfl) (by kernel_rfl) ⟨slices_Clone_int_int.ok,trivial⟩
theorem slices_Clone_impl_Kept.ok:FnOk Tryz.prog 162 slices_Clone_impl_Kept.sig:=fn_ok (fun k x=>slices_Clone_impl_Kept.eq k x.1) Tryz.func162 tabO_ok mixed (by kernel_rfl) (by kernel_rfl) trivial
theorem impl_copyStore.ok:FnOk Tryz.prog 90 impl_copyStore.sig:=fn_ok (fun k x=>impl_copyStore.eq k x.1) Tryz.func90 tabO_ok mixed (by kernel_rfl) (by kernel_rfl) ⟨slices_Clone_impl_Kept.ok,trivial⟩
theorem slices_Clone_impl_Note.ok:FnOk Tryz.prog 91 slices_Clone_impl_Note.sig:=fn_ok (fun k x=>slices_Clone_impl_Note.eq k x.1) Tryz.func91 tabO_ok mixed (by kernel_rfl) (by kernel_rfl) trivial
theorem slices_Clone_impl_Flight.ok:FnOk Tryz.prog 92 slices_Clone_impl_Flight.sig:=fn_ok (fun k x=>slices_Clone_impl_Flight.eq k x.1) Tryz.func92 tabO_ok mixed (by kernel_rfl) (by kernel_rfl) trivial
theorem slices_Clone_impl_Case.ok:FnOk Tryz.prog 93 slices_Clone_impl_Case.sig:=fn_ok (fun k x=>slices_Clone_impl_Case.eq k x.1) Tryz.func93 tabO_ok mixed (by kernel_rfl) (by kernel_rfl) trivial
theorem impl_copyHall.ok:FnOk Tryz.prog 26 impl_copyHall.sig:=fn_ok (fun k x=>impl_copyHall.eq k x.1) Tryz.func26 tabO_ok mixed (by kernel_rfl) (by kernel_rfl) ⟨slices_Clone_int_int.ok,impl_copyBelt.ok,impl_copyLoop.ok,impl_copyStore.ok,slices_Clone_impl_Note.ok,slices_Clone_impl_Flight.ok,slices_Clone_impl_Case.ok,trivial⟩
theorem impl_NewHall.ok:FnOk Tryz.prog 11 impl_NewHall.sig:=fn_ok (fun k x=>impl_NewHall.eq k x.1 x.2.1 x.2.2.1 x.2.2.2.1 x.2.2.2.2.1 x.2.2.2.2.2.1) Tryz.func11 tabO_ok mixed (by kernel_rfl) (by kernel_rfl) ⟨impl_HallOk.ok,impl_copyHall.ok,trivial⟩
theorem spec_NewHall.ok:FnOk Tryz.prog 12 spec_NewHall.sig:=fn_ok (fun k x=>spec_NewHall.eq k x.1 x.2.1 x.2.2.1 x.2.2.2.1 x.2.2.2.2.1 x.2.2.2.2.2.1) Tryz.func12 tabO_ok mixed (by kernel_rfl) (by kernel_rfl) ⟨spec_HallOk.ok,spec_l09Copy.ok,trivial⟩
theorem laws_sameItems.ok:FnOk Tryz.prog 97 laws_sameItems.sig:=fn_ok (fun k x=>laws_sameItems.eq k x.1 x.2.1) Tryz.func97 tabO_ok mixed (by kernel_rfl) (by kernel_rfl) trivial
theorem laws_sameBelt.ok:FnOk Tryz.prog 28 laws_sameBelt.sig:=fn_ok (fun k x=>laws_sameBelt.eq k x.1 x.2.1) Tryz.func28 tabO_ok mixed (by kernel_rfl) (by kernel_rfl) ⟨laws_sameItems.ok,trivial⟩
theorem laws_sameLoop.ok:FnOk Tryz.prog 29 laws_sameLoop.sig:=fn_ok (fun k x=>laws_sameLoop.eq k x.1 x.2.1) Tryz.func29 tabO_ok mixed (by kernel_rfl) (by kernel_rfl) ⟨laws_sameInts.ok,trivial⟩
theorem laws_sameKept.ok:FnOk Tryz.prog 98 laws_sameKept.sig:=fn_ok (fun k x=>laws_sameKept.eq k x.1 x.2.1) Tryz.func98 tabO_ok mixed (by kernel_rfl) (by kernel_rfl) trivial
theorem laws_sameStore.ok:FnOk Tryz.prog 30 laws_sameStore.sig:=fn_ok (fun k x=>laws_sameStore.eq k x.1 x.2.1) Tryz.func30 tabO_ok mixed (by kernel_rfl) (by kernel_rfl) ⟨laws_sameKept.ok,trivial⟩
theorem laws_sameNotes.ok:FnOk Tryz.prog 31 laws_sameNotes.sig:=fn_ok (fun k x=>laws_sameNotes.eq k x.1 x.2.1) Tryz.func31 tabO_ok mixed (by kernel_rfl) (by kernel_rfl) trivial
theorem laws_sameFlights.ok:FnOk Tryz.prog 32 laws_sameFlights.sig:=fn_ok (fun k x=>laws_sameFlights.eq k x.1 x.2.1) Tryz.func32 tabO_ok mixed (by kernel_rfl) (by kernel_rfl) trivial
theorem laws_sameCases.ok:FnOk Tryz.prog 33 laws_sameCases.sig:=fn_ok (fun k x=>laws_sameCases.eq k x.1 x.2.1) Tryz.func33 tabO_ok mixed (by kernel_rfl) (by kernel_rfl) trivial
theorem laws_sameHall.ok:FnOk Tryz.prog 13 laws_sameHall.sig:=fn_ok (fun k x=>laws_sameHall.eq k x.1 x.2.1) Tryz.func13 tabO_ok mixed (by kernel_rfl) (by kernel_rfl) ⟨laws_sameInts.ok,laws_sameBelt.ok,laws_sameLoop.ok,laws_sameStore.ok,laws_sameNotes.ok,laws_sameFlights.ok,laws_sameCases.ok,trivial⟩
end Go.Proofs.YtcfbjloblbhdhaaGreat.Eng
