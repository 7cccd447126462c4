/- The contracts of the program's functions. By a program of this session. No condition. -/
import Derived.Test.YtpihkhknehadbabGreatEngD
import Derived.Test.YtpihkhknehadbabGreatShelf
import Derived.Test.YtpihkhknehadbabGreatE1
import Derived.Test.YtpihkhknehadbabGreatE2
import Derived.Test.YtpihkhknehadbabGreatE3
import Derived.Test.YtpihkhknehadbabGreatE4
namespace Go.Proofs.YtpihkhknehadbabGreat.Eng
open Go.Proofs
set_option linter.unusedVariables false
theorem mixed : Tryz.prog.follows .mixedOrders = true := by kernel_rfl
set_option maxRecDepth 100000 in
theorem tabO_ok : TabOk Tryz.prog tabO := tabB_ok (by kernel_rfl)
set_option maxRecDepth 100000 in
theorem tabR_ok : TabOk Tryz.prog tabR := tabB_ok (by kernel_rfl)
theorem slices_Sort_int_int.ok : FnOk Tryz.prog 148 sortSig := sort_ok ⟨Tryz.f148, Tryz.func148, by kernel_rfl, by kernel_rfl⟩ (fun blk off cap zs w h1 h2 h3 => Tryz.slices_Sort_int blk off cap zs w h1 h2 h3) Tryz.slices_Sort_int_none
theorem laws_szIntS.ok : FnOk Tryz.prog 30 laws_szIntS.sig := fn_ok (fun k x => laws_szIntS.eq k x.1 x.2.1) Tryz.func30 tabO_ok mixed (by kernel_rfl) (by kernel_rfl) trivial
theorem laws_szPolicy.ok : FnOk Tryz.prog 4 laws_szPolicy.sig := fn_ok (fun k x => laws_szPolicy.eq k x.1 x.2.1) Tryz.func4 tabO_ok mixed (by kernel_rfl) (by kernel_rfl) ⟨laws_szIntS.ok, trivial⟩
theorem laws_szItemS.ok : FnOk Tryz.prog 31 laws_szItemS.sig := fn_ok (fun k x => laws_szItemS.eq k x.1 x.2.1) Tryz.func31 tabO_ok mixed (by kernel_rfl) (by kernel_rfl) trivial
theorem laws_szBelt.ok : FnOk Tryz.prog 5 laws_szBelt.sig := fn_ok (fun k x => laws_szBelt.eq k x.1 x.2.1) Tryz.func5 tabO_ok mixed (by kernel_rfl) (by kernel_rfl) ⟨laws_szItemS.ok, trivial⟩
theorem laws_szChute.ok : FnOk Tryz.prog 68 laws_szChute.sig := fn_ok (fun k x => laws_szChute.eq k x.1 x.2.1) Tryz.func68 tabO_ok mixed (by kernel_rfl) (by kernel_rfl) ⟨laws_szIntS.ok, trivial⟩
theorem laws_szChuteS.ok : FnOk Tryz.prog 32 laws_szChuteS.sig := fn_ok (fun k x => laws_szChuteS.eq k x.1 x.2.1) Tryz.func32 tabO_ok mixed (by kernel_rfl) (by kernel_rfl) ⟨laws_szChute.ok, trivial⟩
theorem laws_szWant.ok : FnOk Tryz.prog 69 laws_szWant.sig := fn_ok (fun k x => laws_szWant.eq k x.1 x.2.1) Tryz.func69 tabO_ok mixed (by kernel_rfl) (by kernel_rfl) ⟨laws_szIntS.ok, trivial⟩
theorem laws_szWantS.ok : FnOk Tryz.prog 33 laws_szWantS.sig := fn_ok (fun k x => laws_szWantS.eq k x.1 x.2.1) Tryz.func33 tabO_ok mixed (by kernel_rfl) (by kernel_rfl) ⟨laws_szWant.ok, trivial⟩
theorem laws_szLoop.ok : FnOk Tryz.prog 6 laws_szLoop.sig := fn_ok (fun k x => laws_szLoop.eq k x.1 x.2.1) Tryz.func6 tabO_ok mixed (by kernel_rfl) (by kernel_rfl) ⟨laws_szIntS.ok, laws_szChuteS.ok, laws_szWantS.ok, trivial⟩
theorem laws_szKeptS.ok : FnOk Tryz.prog 70 laws_szKeptS.sig := fn_ok (fun k x => laws_szKeptS.eq k x.1 x.2.1) Tryz.func70 tabO_ok mixed (by kernel_rfl) (by kernel_rfl) trivial
theorem laws_szKeptSS.ok : FnOk Tryz.prog 34 laws_szKeptSS.sig := fn_ok (fun k x => laws_szKeptSS.eq k x.1 x.2.1) Tryz.func34 tabO_ok mixed (by kernel_rfl) (by kernel_rfl) ⟨laws_szKeptS.ok, trivial⟩
theorem laws_szStore.ok : FnOk Tryz.prog 7 laws_szStore.sig := fn_ok (fun k x => laws_szStore.eq k x.1 x.2.1) Tryz.func7 tabO_ok mixed (by kernel_rfl) (by kernel_rfl) ⟨laws_szKeptSS.ok, trivial⟩
theorem laws_szFlightS.ok : FnOk Tryz.prog 8 laws_szFlightS.sig := fn_ok (fun k x => laws_szFlightS.eq k x.1 x.2.1) Tryz.func8 tabO_ok mixed (by kernel_rfl) (by kernel_rfl) trivial
theorem spec_l02Fresh.ok : FnOk Tryz.prog 71 spec_l02Fresh.sig := fn_ok (fun k x => spec_l02Fresh.eq k x.1) Tryz.func71 tabO_ok mixed (by kernel_rfl) (by kernel_rfl) trivial
theorem spec_l06Copy.ok : FnOk Tryz.prog 72 spec_l06Copy.sig := fn_ok (fun k x => spec_l06Copy.eq k x.1) Tryz.func72 tabO_ok mixed (by kernel_rfl) (by kernel_rfl) trivial
theorem spec_l05Copy.ok : FnOk Tryz.prog 73 spec_l05Copy.sig := fn_ok (fun k x => spec_l05Copy.eq k x.1) Tryz.func73 tabO_ok mixed (by kernel_rfl) (by kernel_rfl) trivial
theorem spec_l09Copy.ok : FnOk Tryz.prog 35 spec_l09Copy.sig := fn_ok (fun k x => spec_l09Copy.eq k x.1) Tryz.func35 tabO_ok mixed (by kernel_rfl) (by kernel_rfl) ⟨spec_l02Fresh.ok, spec_l06Copy.ok, spec_l05Copy.ok, trivial⟩
theorem spec_l01In.ok : FnOk Tryz.prog 74 spec_l01In.sig := fn_ok (fun k x => spec_l01In.eq k x.1 x.2.1 x.2.2.1) Tryz.func74 tabO_ok mixed (by kernel_rfl) (by kernel_rfl) trivial
theorem spec_PolicyOk.ok : FnOk Tryz.prog 75 spec_PolicyOk.sig := fn_ok (fun k x => spec_PolicyOk.eq k x.1) Tryz.func75 tabO_ok mixed (by kernel_rfl) (by kernel_rfl) ⟨spec_l01In.ok, trivial⟩
theorem spec_LimitsOk.ok : FnOk Tryz.prog 76 spec_LimitsOk.sig := fn_ok (fun k x => spec_LimitsOk.eq k x.1) Tryz.func76 tabO_ok mixed (by kernel_rfl) (by kernel_rfl) ⟨spec_l01In.ok, trivial⟩
theorem spec_BeltOk.ok : FnOk Tryz.prog 77 spec_BeltOk.sig := fn_ok (fun k x => spec_BeltOk.eq k x.1) Tryz.func77 tabO_ok mixed (by kernel_rfl) (by kernel_rfl) ⟨spec_l01In.ok, trivial⟩
theorem spec_l03Has.ok : FnOk Tryz.prog 120 spec_l03Has.sig := fn_ok (fun k x => spec_l03Has.eq k x.1 x.2.1) Tryz.func120 tabO_ok mixed (by kernel_rfl) (by kernel_rfl) trivial
theorem spec_LoopOk.ok : FnOk Tryz.prog 78 spec_LoopOk.sig := fn_ok (fun k x => spec_LoopOk.eq k x.1) Tryz.func78 tabO_ok mixed (by kernel_rfl) (by kernel_rfl) ⟨spec_l01In.ok, spec_l03Has.ok, trivial⟩
theorem spec_StoreOk.ok : FnOk Tryz.prog 79 spec_StoreOk.sig := fn_ok (fun k x => spec_StoreOk.eq k x.1) Tryz.func79 tabO_ok mixed (by kernel_rfl) (by kernel_rfl) ⟨spec_l01In.ok, spec_l03Has.ok, trivial⟩
theorem spec_NoteOk.ok : FnOk Tryz.prog 121 spec_NoteOk.sig := fn_ok (fun k x => spec_NoteOk.eq k x.1) Tryz.func121 tabO_ok mixed (by kernel_rfl) (by kernel_rfl) ⟨spec_l01In.ok, trivial⟩
theorem spec_NotesOk.ok : FnOk Tryz.prog 80 spec_NotesOk.sig := fn_ok (fun k x => spec_NotesOk.eq k x.1) Tryz.func80 tabO_ok mixed (by kernel_rfl) (by kernel_rfl) ⟨spec_NoteOk.ok, trivial⟩
theorem spec_l09FlightOk.ok : FnOk Tryz.prog 81 spec_l09FlightOk.sig := fn_ok (fun k x => spec_l09FlightOk.eq k x.1 x.2.1) Tryz.func81 tabO_ok mixed (by kernel_rfl) (by kernel_rfl) ⟨spec_l01In.ok, trivial⟩
theorem spec_TagOk.ok : FnOk Tryz.prog 122 spec_TagOk.sig := fn_ok (fun k x => spec_TagOk.eq k x.1) Tryz.func122 tabO_ok mixed (by kernel_rfl) (by kernel_rfl) ⟨spec_l01In.ok, trivial⟩
theorem spec_ScreenOk.ok : FnOk Tryz.prog 123 spec_ScreenOk.sig := fn_ok (fun k x => spec_ScreenOk.eq k x.1) Tryz.func123 tabO_ok mixed (by kernel_rfl) (by kernel_rfl) ⟨spec_l01In.ok, trivial⟩
theorem spec_l09OnBelt.ok : FnOk Tryz.prog 124 spec_l09OnBelt.sig := fn_ok (fun k x => spec_l09OnBelt.eq k x.1 x.2.1) Tryz.func124 tabO_ok mixed (by kernel_rfl) (by kernel_rfl) trivial
theorem spec_l09Chute.ok : FnOk Tryz.prog 125 spec_l09Chute.sig := fn_ok (fun k x => spec_l09Chute.eq k x.1 x.2.1) Tryz.func125 tabO_ok mixed (by kernel_rfl) (by kernel_rfl) ⟨spec_l03Has.ok, trivial⟩
theorem spec_l06Find.ok : FnOk Tryz.prog 126 spec_l06Find.sig := fn_ok (fun k x => spec_l06Find.eq k x.1 x.2.1) Tryz.func126 tabO_ok mixed (by kernel_rfl) (by kernel_rfl) trivial
theorem spec_l09CaseOk.ok : FnOk Tryz.prog 82 spec_l09CaseOk.sig := fn_ok (fun k x => spec_l09CaseOk.eq k x.1 x.2.1) Tryz.func82 tabO_ok mixed (by kernel_rfl) (by kernel_rfl) ⟨spec_l01In.ok, spec_l03Has.ok, spec_TagOk.ok, spec_ScreenOk.ok, spec_l09OnBelt.ok, spec_l09Chute.ok, spec_l06Find.ok, trivial⟩
theorem spec_HallOk.ok : FnOk Tryz.prog 36 spec_HallOk.sig := fn_ok (fun k x => spec_HallOk.eq k x.1) Tryz.func36 tabO_ok mixed (by kernel_rfl) (by kernel_rfl) ⟨spec_l01In.ok, spec_PolicyOk.ok, spec_LimitsOk.ok, spec_BeltOk.ok, spec_LoopOk.ok, spec_StoreOk.ok, spec_NotesOk.ok, spec_l09FlightOk.ok, spec_l09CaseOk.ok, trivial⟩
theorem spec_NewHall.ok : FnOk Tryz.prog 9 spec_NewHall.sig := fn_ok (fun k x => spec_NewHall.eq k x.1 x.2.1 x.2.2.1 x.2.2.2.1 x.2.2.2.2.1 x.2.2.2.2.2.1) Tryz.func9 tabO_ok mixed (by kernel_rfl) (by kernel_rfl) ⟨spec_l09Copy.ok, spec_HallOk.ok, trivial⟩
theorem laws_toIntS.ok : FnOk Tryz.prog 37 laws_toIntS.sig := fn_ok (fun k x => laws_toIntS.eq k x.1) Tryz.func37 tabO_ok mixed (by kernel_rfl) (by kernel_rfl) trivial
theorem laws_toPolicy.ok : FnOk Tryz.prog 10 laws_toPolicy.sig := fn_ok (fun k x => laws_toPolicy.eq k x.1) Tryz.func10 tabO_ok mixed (by kernel_rfl) (by kernel_rfl) ⟨laws_toIntS.ok, trivial⟩
theorem laws_toLimits.ok : FnOk Tryz.prog 11 laws_toLimits.sig := fn_ok (fun k x => laws_toLimits.eq k x.1) Tryz.func11 tabO_ok mixed (by kernel_rfl) (by kernel_rfl) trivial
theorem laws_toItem.ok : FnOk Tryz.prog 83 laws_toItem.sig := fn_ok (fun k x => laws_toItem.eq k x.1) Tryz.func83 tabO_ok mixed (by kernel_rfl) (by kernel_rfl) trivial
theorem laws_toItemS.ok : FnOk Tryz.prog 38 laws_toItemS.sig := fn_ok (fun k x => laws_toItemS.eq k x.1) Tryz.func38 tabO_ok mixed (by kernel_rfl) (by kernel_rfl) ⟨laws_toItem.ok, trivial⟩
theorem laws_toBelt.ok : FnOk Tryz.prog 12 laws_toBelt.sig := fn_ok (fun k x => laws_toBelt.eq k x.1) Tryz.func12 tabO_ok mixed (by kernel_rfl) (by kernel_rfl) ⟨laws_toItemS.ok, trivial⟩
theorem laws_toChute.ok : FnOk Tryz.prog 84 laws_toChute.sig := fn_ok (fun k x => laws_toChute.eq k x.1) Tryz.func84 tabO_ok mixed (by kernel_rfl) (by kernel_rfl) ⟨laws_toIntS.ok, trivial⟩
theorem laws_toChuteS.ok : FnOk Tryz.prog 39 laws_toChuteS.sig := fn_ok (fun k x => laws_toChuteS.eq k x.1) Tryz.func39 tabO_ok mixed (by kernel_rfl) (by kernel_rfl) ⟨laws_toChute.ok, trivial⟩
theorem laws_toWant.ok : FnOk Tryz.prog 85 laws_toWant.sig := fn_ok (fun k x => laws_toWant.eq k x.1) Tryz.func85 tabO_ok mixed (by kernel_rfl) (by kernel_rfl) ⟨laws_toIntS.ok, trivial⟩
theorem laws_toWantS.ok : FnOk Tryz.prog 40 laws_toWantS.sig := fn_ok (fun k x => laws_toWantS.eq k x.1) Tryz.func40 tabO_ok mixed (by kernel_rfl) (by kernel_rfl) ⟨laws_toWant.ok, trivial⟩
theorem laws_toLoop.ok : FnOk Tryz.prog 13 laws_toLoop.sig := fn_ok (fun k x => laws_toLoop.eq k x.1) Tryz.func13 tabO_ok mixed (by kernel_rfl) (by kernel_rfl) ⟨laws_toIntS.ok, laws_toChuteS.ok, laws_toWantS.ok, trivial⟩
theorem laws_toKept.ok : FnOk Tryz.prog 127 laws_toKept.sig := fn_ok (fun k x => laws_toKept.eq k x.1) Tryz.func127 tabO_ok mixed (by kernel_rfl) (by kernel_rfl) trivial
theorem laws_toKeptS.ok : FnOk Tryz.prog 86 laws_toKeptS.sig := fn_ok (fun k x => laws_toKeptS.eq k x.1) Tryz.func86 tabO_ok mixed (by kernel_rfl) (by kernel_rfl) ⟨laws_toKept.ok, trivial⟩
theorem laws_toKeptSS.ok : FnOk Tryz.prog 41 laws_toKeptSS.sig := fn_ok (fun k x => laws_toKeptSS.eq k x.1) Tryz.func41 tabO_ok mixed (by kernel_rfl) (by kernel_rfl) ⟨laws_toKeptS.ok, trivial⟩
theorem laws_toStore.ok : FnOk Tryz.prog 14 laws_toStore.sig := fn_ok (fun k x => laws_toStore.eq k x.1) Tryz.func14 tabO_ok mixed (by kernel_rfl) (by kernel_rfl) ⟨laws_toKeptSS.ok, trivial⟩
theorem laws_toFlight.ok : FnOk Tryz.prog 42 laws_toFlight.sig := fn_ok (fun k x => laws_toFlight.eq k x.1) Tryz.func42 tabO_ok mixed (by kernel_rfl) (by kernel_rfl) trivial
theorem laws_toFlightS.ok : FnOk Tryz.prog 15 laws_toFlightS.sig := fn_ok (fun k x => laws_toFlightS.eq k x.1) Tryz.func15 tabO_ok mixed (by kernel_rfl) (by kernel_rfl) ⟨laws_toFlight.ok, trivial⟩
theorem impl_isTick.ok : FnOk Tryz.prog 87 impl_isTick.sig := fn_ok (fun k x => impl_isTick.eq k x.1) Tryz.func87 tabO_ok mixed (by kernel_rfl) (by kernel_rfl) trivial
theorem impl_isWait.ok : FnOk Tryz.prog 130 impl_isWait.sig := fn_ok (fun k x => impl_isWait.eq k x.1 x.2.1) Tryz.func130 tabO_ok mixed (by kernel_rfl) (by kernel_rfl) trivial
theorem impl_PolicyOk.ok : FnOk Tryz.prog 88 impl_PolicyOk.sig := fn_ok (fun k x => impl_PolicyOk.eq k x.1) Tryz.func88 tabO_ok mixed (by kernel_rfl) (by kernel_rfl) ⟨⟨Tryz.func128, by kernel_rfl⟩, ⟨Tryz.func129, by kernel_rfl⟩, impl_isWait.ok, ⟨Tryz.func147, by kernel_rfl⟩, trivial⟩
theorem impl_LimitsOk.ok : FnOk Tryz.prog 89 impl_LimitsOk.sig := fn_ok (fun k x => impl_LimitsOk.eq k x.1) Tryz.func89 tabO_ok mixed (by kernel_rfl) (by kernel_rfl) trivial
theorem impl_isOn.ok : FnOk Tryz.prog 131 impl_isOn.sig := fn_ok (fun k x => impl_isOn.eq k x.1 x.2.1) Tryz.func131 tabO_ok mixed (by kernel_rfl) (by kernel_rfl) ⟨⟨Tryz.func157, by kernel_rfl⟩, ⟨Tryz.func158, by kernel_rfl⟩, ⟨Tryz.func166, by kernel_rfl⟩, trivial⟩
theorem impl_BeltOk.ok : FnOk Tryz.prog 90 impl_BeltOk.sig := fn_ok (fun k x => impl_BeltOk.eq k x.1) Tryz.func90 tabO_ok mixed (by kernel_rfl) (by kernel_rfl) ⟨impl_isOn.ok, trivial⟩
theorem impl_areIndexes.ok : FnOk Tryz.prog 132 impl_areIndexes.sig := fn_ok (fun k x => impl_areIndexes.eq k x.1 x.2.1) Tryz.func132 tabO_ok mixed (by kernel_rfl) (by kernel_rfl) trivial
theorem slices_Clone_int_int.ok : FnOk Tryz.prog 98 slices_Clone_int_int.sig := fn_ok (fun k x => slices_Clone_int_int.eq k x.1) Tryz.func98 tabO_ok mixed (by kernel_rfl) (by kernel_rfl) trivial
theorem impl_bagsOf.ok : FnOk Tryz.prog 133 impl_bagsOf.sig := fn_ok (fun k x => impl_bagsOf.eq k x.1) Tryz.func133 tabO_ok mixed (by kernel_rfl) (by kernel_rfl) ⟨⟨Tryz.func97, by kernel_rfl⟩, slices_Clone_int_int.ok, ⟨Tryz.func147, by kernel_rfl⟩, ⟨Tryz.func159, by kernel_rfl⟩, trivial⟩
theorem impl_areDifferent.ok : FnOk Tryz.prog 135 impl_areDifferent.sig := fn_ok (fun k x => impl_areDifferent.eq k x.1) Tryz.func135 tabO_ok mixed (by kernel_rfl) (by kernel_rfl) ⟨slices_Clone_int_int.ok, slices_Sort_int_int.ok, ⟨Tryz.func160, by kernel_rfl⟩, trivial⟩
theorem impl_LoopOk.ok : FnOk Tryz.prog 91 impl_LoopOk.sig := fn_ok (fun k x => impl_LoopOk.eq k x.1) Tryz.func91 tabO_ok mixed (by kernel_rfl) (by kernel_rfl) ⟨⟨Tryz.func128, by kernel_rfl⟩, impl_areIndexes.ok, impl_bagsOf.ok, ⟨Tryz.func134, by kernel_rfl⟩, impl_areDifferent.ok, ⟨Tryz.func147, by kernel_rfl⟩, trivial⟩
theorem impl_bagsIn.ok : FnOk Tryz.prog 101 impl_bagsIn.sig := fn_ok (fun k x => impl_bagsIn.eq k x.1) Tryz.func101 tabO_ok mixed (by kernel_rfl) (by kernel_rfl) trivial
theorem impl_StoreOk.ok : FnOk Tryz.prog 92 impl_StoreOk.sig := fn_ok (fun k x => impl_StoreOk.eq k x.1) Tryz.func92 tabO_ok mixed (by kernel_rfl) (by kernel_rfl) ⟨impl_isTick.ok, impl_bagsIn.ok, impl_areDifferent.ok, ⟨Tryz.func136, by kernel_rfl⟩, ⟨Tryz.func137, by kernel_rfl⟩, ⟨Tryz.func161, by kernel_rfl⟩, trivial⟩
theorem impl_isFrom1.ok : FnOk Tryz.prog 143 impl_isFrom1.sig := fn_ok (fun k x => impl_isFrom1.eq k x.1 x.2.1) Tryz.func143 tabO_ok mixed (by kernel_rfl) (by kernel_rfl) trivial
theorem impl_NoteOk.ok : FnOk Tryz.prog 138 impl_NoteOk.sig := fn_ok (fun k x => impl_NoteOk.eq k x.1) Tryz.func138 tabO_ok mixed (by kernel_rfl) (by kernel_rfl) ⟨impl_isFrom1.ok, trivial⟩
theorem impl_NotesOk.ok : FnOk Tryz.prog 93 impl_NotesOk.sig := fn_ok (fun k x => impl_NotesOk.eq k x.1) Tryz.func93 tabO_ok mixed (by kernel_rfl) (by kernel_rfl) ⟨impl_NoteOk.ok, trivial⟩
theorem impl_areFlights.ok : FnOk Tryz.prog 94 impl_areFlights.sig := fn_ok (fun k x => impl_areFlights.eq k x.1) Tryz.func94 tabO_ok mixed (by kernel_rfl) (by kernel_rfl) ⟨⟨Tryz.func139, by kernel_rfl⟩, ⟨Tryz.func140, by kernel_rfl⟩, ⟨Tryz.func162, by kernel_rfl⟩, trivial⟩
theorem impl_TagOk.ok : FnOk Tryz.prog 141 impl_TagOk.sig := fn_ok (fun k x => impl_TagOk.eq k x.1) Tryz.func141 tabO_ok mixed (by kernel_rfl) (by kernel_rfl) trivial
theorem impl_isFlight.ok : FnOk Tryz.prog 142 impl_isFlight.sig := fn_ok (fun k x => impl_isFlight.eq k x.1 x.2.1) Tryz.func142 tabO_ok mixed (by kernel_rfl) (by kernel_rfl) ⟨impl_isFrom1.ok, trivial⟩
theorem impl_ScreenOk.ok : FnOk Tryz.prog 144 impl_ScreenOk.sig := fn_ok (fun k x => impl_ScreenOk.eq k x.1) Tryz.func144 tabO_ok mixed (by kernel_rfl) (by kernel_rfl) ⟨impl_isTick.ok, trivial⟩
theorem impl_isCase.ok : FnOk Tryz.prog 95 impl_isCase.sig := fn_ok (fun k x => impl_isCase.eq k x.1 x.2.1) Tryz.func95 tabO_ok mixed (by kernel_rfl) (by kernel_rfl) ⟨impl_TagOk.ok, impl_isFlight.ok, impl_isFrom1.ok, impl_ScreenOk.ok, trivial⟩
theorem impl_hasTag.ok : FnOk Tryz.prog 96 impl_hasTag.sig := fn_ok (fun k x => impl_hasTag.eq k x.1 x.2.1) Tryz.func96 tabO_ok mixed (by kernel_rfl) (by kernel_rfl) ⟨⟨Tryz.func145, by kernel_rfl⟩, ⟨Tryz.func146, by kernel_rfl⟩, ⟨Tryz.func163, by kernel_rfl⟩, trivial⟩
theorem slices_Equal_int_int.ok : FnOk Tryz.prog 149 slices_Equal_int_int.sig := fn_ok (fun k x => slices_Equal_int_int.eq k x.1 x.2.1) Tryz.func149 tabO_ok mixed (by kernel_rfl) (by kernel_rfl) trivial
theorem impl_at.ok : FnOk Tryz.prog 150 impl_at.sig := fn_ok (fun k x => impl_at.eq k x.1 x.2.1) Tryz.func150 tabO_ok mixed (by kernel_rfl) (by kernel_rfl) trivial
theorem impl_areBags.ok : FnOk Tryz.prog 100 impl_areBags.sig := fn_ok (fun k x => impl_areBags.eq k x.1 x.2.1 x.2.2.1) Tryz.func100 tabO_ok mixed (by kernel_rfl) (by kernel_rfl) ⟨slices_Sort_int_int.ok, slices_Equal_int_int.ok, impl_at.ok, trivial⟩
theorem impl_HallOk.ok : FnOk Tryz.prog 43 impl_HallOk.sig := fn_ok (fun k x => impl_HallOk.eq k x.1) Tryz.func43 tabO_ok mixed (by kernel_rfl) (by kernel_rfl) ⟨impl_isTick.ok, impl_PolicyOk.ok, impl_LimitsOk.ok, impl_BeltOk.ok, impl_LoopOk.ok, impl_StoreOk.ok, impl_NotesOk.ok, impl_areFlights.ok, impl_isCase.ok, impl_hasTag.ok, ⟨Tryz.func97, by kernel_rfl⟩, slices_Clone_int_int.ok, ⟨Tryz.func99, by kernel_rfl⟩, impl_areBags.ok, impl_bagsIn.ok, ⟨Tryz.func147, by kernel_rfl⟩, trivial⟩
theorem slices_Clone_impl_Item.ok : FnOk Tryz.prog 151 slices_Clone_impl_Item.sig := fn_ok (fun k x => slices_Clone_impl_Item.eq k x.1) Tryz.func151 tabO_ok mixed (by kernel_rfl) (by kernel_rfl) trivial
theorem impl_copyBelt.ok : FnOk Tryz.prog 102 impl_copyBelt.sig := fn_ok (fun k x => impl_copyBelt.eq k x.1) Tryz.func102 tabO_ok mixed (by kernel_rfl) (by kernel_rfl) ⟨slices_Clone_impl_Item.ok, trivial⟩
theorem impl_copyLoop.ok : FnOk Tryz.prog 103 impl_copyLoop.sig := fn_ok (fun k x => impl_copyLoop.eq k x.1) Tryz.func103 tabO_ok mixed (by kernel_rfl) (by kernel_rfl) ⟨slices_Clone_int_int.ok, trivial⟩
theorem slices_Clone_impl_Kept.ok : FnOk Tryz.prog 152 slices_Clone_impl_Kept.sig := fn_ok (fun k x => slices_Clone_impl_Kept.eq k x.1) Tryz.func152 tabO_ok mixed (by kernel_rfl) (by kernel_rfl) trivial
theorem impl_copyStore.ok : FnOk Tryz.prog 104 impl_copyStore.sig := fn_ok (fun k x => impl_copyStore.eq k x.1) Tryz.func104 tabO_ok mixed (by kernel_rfl) (by kernel_rfl) ⟨slices_Clone_impl_Kept.ok, trivial⟩
theorem slices_Clone_impl_Note.ok : FnOk Tryz.prog 105 slices_Clone_impl_Note.sig := fn_ok (fun k x => slices_Clone_impl_Note.eq k x.1) Tryz.func105 tabO_ok mixed (by kernel_rfl) (by kernel_rfl) trivial
theorem slices_Clone_impl_Flight.ok : FnOk Tryz.prog 106 slices_Clone_impl_Flight.sig := fn_ok (fun k x => slices_Clone_impl_Flight.eq k x.1) Tryz.func106 tabO_ok mixed (by kernel_rfl) (by kernel_rfl) trivial
theorem slices_Clone_impl_Case.ok : FnOk Tryz.prog 107 slices_Clone_impl_Case.sig := fn_ok (fun k x => slices_Clone_impl_Case.eq k x.1) Tryz.func107 tabO_ok mixed (by kernel_rfl) (by kernel_rfl) trivial
theorem impl_copyHall.ok : FnOk Tryz.prog 44 impl_copyHall.sig := fn_ok (fun k x => impl_copyHall.eq k x.1) Tryz.func44 tabO_ok mixed (by kernel_rfl) (by kernel_rfl) ⟨slices_Clone_int_int.ok, impl_copyBelt.ok, impl_copyLoop.ok, impl_copyStore.ok, slices_Clone_impl_Note.ok, slices_Clone_impl_Flight.ok, slices_Clone_impl_Case.ok, trivial⟩
theorem impl_NewHall.ok : FnOk Tryz.prog 16 impl_NewHall.sig := fn_ok (fun k x => impl_NewHall.eq k x.1 x.2.1 x.2.2.1 x.2.2.2.1 x.2.2.2.2.1 x.2.2.2.2.2.1) Tryz.func16 tabO_ok mixed (by kernel_rfl) (by kernel_rfl) ⟨impl_HallOk.ok, impl_copyHall.ok, trivial⟩
theorem laws_eqIntS.ok : FnOk Tryz.prog 48 laws_eqIntS.sig := fn_ok (fun k x => laws_eqIntS.eq k x.1 x.2.1) Tryz.func48 tabO_ok mixed (by kernel_rfl) (by kernel_rfl) trivial
theorem laws_eqPolicy.ok : FnOk Tryz.prog 18 laws_eqPolicy.sig := fn_ok (fun k x => laws_eqPolicy.eq k x.1 x.2.1) Tryz.func18 tabO_ok mixed (by kernel_rfl) (by kernel_rfl) ⟨laws_eqIntS.ok, trivial⟩
theorem laws_eqItem.ok : FnOk Tryz.prog 110 laws_eqItem.sig := fn_ok (fun k x => laws_eqItem.eq k x.1 x.2.1) Tryz.func110 tabO_ok mixed (by kernel_rfl) (by kernel_rfl) trivial
theorem laws_eqItemS.ok : FnOk Tryz.prog 49 laws_eqItemS.sig := fn_ok (fun k x => laws_eqItemS.eq k x.1 x.2.1) Tryz.func49 tabO_ok mixed (by kernel_rfl) (by kernel_rfl) ⟨laws_eqItem.ok, trivial⟩
theorem laws_eqBelt.ok : FnOk Tryz.prog 19 laws_eqBelt.sig := fn_ok (fun k x => laws_eqBelt.eq k x.1 x.2.1) Tryz.func19 tabO_ok mixed (by kernel_rfl) (by kernel_rfl) ⟨laws_eqItemS.ok, trivial⟩
theorem laws_eqChute.ok : FnOk Tryz.prog 111 laws_eqChute.sig := fn_ok (fun k x => laws_eqChute.eq k x.1 x.2.1) Tryz.func111 tabO_ok mixed (by kernel_rfl) (by kernel_rfl) ⟨laws_eqIntS.ok, trivial⟩
theorem laws_eqChuteS.ok : FnOk Tryz.prog 50 laws_eqChuteS.sig := fn_ok (fun k x => laws_eqChuteS.eq k x.1 x.2.1) Tryz.func50 tabO_ok mixed (by kernel_rfl) (by kernel_rfl) ⟨laws_eqChute.ok, trivial⟩
theorem laws_eqWant.ok : FnOk Tryz.prog 112 laws_eqWant.sig := fn_ok (fun k x => laws_eqWant.eq k x.1 x.2.1) Tryz.func112 tabO_ok mixed (by kernel_rfl) (by kernel_rfl) ⟨laws_eqIntS.ok, trivial⟩
theorem laws_eqWantS.ok : FnOk Tryz.prog 51 laws_eqWantS.sig := fn_ok (fun k x => laws_eqWantS.eq k x.1 x.2.1) Tryz.func51 tabO_ok mixed (by kernel_rfl) (by kernel_rfl) ⟨laws_eqWant.ok, trivial⟩
theorem laws_eqLoop.ok : FnOk Tryz.prog 20 laws_eqLoop.sig := fn_ok (fun k x => laws_eqLoop.eq k x.1 x.2.1) Tryz.func20 tabO_ok mixed (by kernel_rfl) (by kernel_rfl) ⟨laws_eqIntS.ok, laws_eqChuteS.ok, laws_eqWantS.ok, trivial⟩
theorem laws_eqKept.ok : FnOk Tryz.prog 155 laws_eqKept.sig := fn_ok (fun k x => laws_eqKept.eq k x.1 x.2.1) Tryz.func155 tabO_ok mixed (by kernel_rfl) (by kernel_rfl) trivial
theorem laws_eqKeptS.ok : FnOk Tryz.prog 113 laws_eqKeptS.sig := fn_ok (fun k x => laws_eqKeptS.eq k x.1 x.2.1) Tryz.func113 tabO_ok mixed (by kernel_rfl) (by kernel_rfl) ⟨laws_eqKept.ok, trivial⟩
theorem laws_eqKeptSS.ok : FnOk Tryz.prog 52 laws_eqKeptSS.sig := fn_ok (fun k x => laws_eqKeptSS.eq k x.1 x.2.1) Tryz.func52 tabO_ok mixed (by kernel_rfl) (by kernel_rfl) ⟨laws_eqKeptS.ok, trivial⟩
theorem laws_eqStore.ok : FnOk Tryz.prog 21 laws_eqStore.sig := fn_ok (fun k x => laws_eqStore.eq k x.1 x.2.1) Tryz.func21 tabO_ok mixed (by kernel_rfl) (by kernel_rfl) ⟨laws_eqKeptSS.ok, trivial⟩
theorem laws_eqFlight.ok : FnOk Tryz.prog 53 laws_eqFlight.sig := fn_ok (fun k x => laws_eqFlight.eq k x.1 x.2.1) Tryz.func53 tabO_ok mixed (by kernel_rfl) (by kernel_rfl) trivial
theorem laws_eqFlightS.ok : FnOk Tryz.prog 22 laws_eqFlightS.sig := fn_ok (fun k x => laws_eqFlightS.eq k x.1 x.2.1) Tryz.func22 tabO_ok mixed (by kernel_rfl) (by kernel_rfl) ⟨laws_eqFlight.ok, trivial⟩
theorem laws_eqLimits.ok : FnOk Tryz.prog 45 laws_eqLimits.sig := fn_ok (fun k x => laws_eqLimits.eq k x.1 x.2.1) Tryz.func45 tabO_ok mixed (by kernel_rfl) (by kernel_rfl) trivial
theorem laws_eqNote.ok : FnOk Tryz.prog 108 laws_eqNote.sig := fn_ok (fun k x => laws_eqNote.eq k x.1 x.2.1) Tryz.func108 tabO_ok mixed (by kernel_rfl) (by kernel_rfl) trivial
theorem laws_eqNoteS.ok : FnOk Tryz.prog 46 laws_eqNoteS.sig := fn_ok (fun k x => laws_eqNoteS.eq k x.1 x.2.1) Tryz.func46 tabO_ok mixed (by kernel_rfl) (by kernel_rfl) ⟨laws_eqNote.ok, trivial⟩
theorem laws_eqTag.ok : FnOk Tryz.prog 153 laws_eqTag.sig := fn_ok (fun k x => laws_eqTag.eq k x.1 x.2.1) Tryz.func153 tabO_ok mixed (by kernel_rfl) (by kernel_rfl) trivial
theorem laws_eqScreen.ok : FnOk Tryz.prog 154 laws_eqScreen.sig := fn_ok (fun k x => laws_eqScreen.eq k x.1 x.2.1) Tryz.func154 tabO_ok mixed (by kernel_rfl) (by kernel_rfl) trivial
theorem laws_eqCase.ok : FnOk Tryz.prog 109 laws_eqCase.sig := fn_ok (fun k x => laws_eqCase.eq k x.1 x.2.1) Tryz.func109 tabO_ok mixed (by kernel_rfl) (by kernel_rfl) ⟨laws_eqTag.ok, laws_eqScreen.ok, trivial⟩
theorem laws_eqCaseS.ok : FnOk Tryz.prog 47 laws_eqCaseS.sig := fn_ok (fun k x => laws_eqCaseS.eq k x.1 x.2.1) Tryz.func47 tabO_ok mixed (by kernel_rfl) (by kernel_rfl) ⟨laws_eqCase.ok, trivial⟩
theorem laws_eqHall.ok : FnOk Tryz.prog 17 laws_eqHall.sig := fn_ok (fun k x => laws_eqHall.eq k x.1 x.2.1) Tryz.func17 tabO_ok mixed (by kernel_rfl) (by kernel_rfl) ⟨laws_eqPolicy.ok, laws_eqBelt.ok, laws_eqLoop.ok, laws_eqStore.ok, laws_eqFlightS.ok, laws_eqLimits.ok, laws_eqNoteS.ok, laws_eqCaseS.ok, trivial⟩
theorem laws_markIntS.ok : FnOk Tryz.prog 54 laws_markIntS.sig := fn_ok (fun k x => laws_markIntS.eq k x.1 x.2.1) Tryz.func54 tabO_ok mixed (by kernel_rfl) (by kernel_rfl) trivial
theorem laws_markPolicy.ok : FnOk Tryz.prog 23 laws_markPolicy.sig := fn_ok (fun k x => laws_markPolicy.eq k x.1 x.2.1) Tryz.func23 tabO_ok mixed (by kernel_rfl) (by kernel_rfl) ⟨laws_markIntS.ok, trivial⟩
theorem laws_markItemS.ok : FnOk Tryz.prog 55 laws_markItemS.sig := fn_ok (fun k x => laws_markItemS.eq k x.1 x.2.1) Tryz.func55 tabO_ok mixed (by kernel_rfl) (by kernel_rfl) trivial
theorem laws_markBelt.ok : FnOk Tryz.prog 24 laws_markBelt.sig := fn_ok (fun k x => laws_markBelt.eq k x.1 x.2.1) Tryz.func24 tabO_ok mixed (by kernel_rfl) (by kernel_rfl) ⟨laws_markItemS.ok, trivial⟩
theorem laws_markChuteS.ok : FnOk Tryz.prog 56 laws_markChuteS.sig := fn_ok (fun k x => laws_markChuteS.eq k x.1 x.2.1) Tryz.func56 tabO_ok mixed (by kernel_rfl) (by kernel_rfl) ⟨laws_markIntS.ok, trivial⟩
theorem laws_markWantS.ok : FnOk Tryz.prog 57 laws_markWantS.sig := fn_ok (fun k x => laws_markWantS.eq k x.1 x.2.1) Tryz.func57 tabO_ok mixed (by kernel_rfl) (by kernel_rfl) ⟨laws_markIntS.ok, trivial⟩
theorem laws_markLoop.ok : FnOk Tryz.prog 25 laws_markLoop.sig := fn_ok (fun k x => laws_markLoop.eq k x.1 x.2.1) Tryz.func25 tabO_ok mixed (by kernel_rfl) (by kernel_rfl) ⟨laws_markIntS.ok, laws_markChuteS.ok, laws_markWantS.ok, trivial⟩
theorem laws_markKeptS.ok : FnOk Tryz.prog 114 laws_markKeptS.sig := fn_ok (fun k x => laws_markKeptS.eq k x.1 x.2.1) Tryz.func114 tabO_ok mixed (by kernel_rfl) (by kernel_rfl) trivial
theorem laws_markKeptSS.ok : FnOk Tryz.prog 58 laws_markKeptSS.sig := fn_ok (fun k x => laws_markKeptSS.eq k x.1 x.2.1) Tryz.func58 tabO_ok mixed (by kernel_rfl) (by kernel_rfl) ⟨laws_markKeptS.ok, trivial⟩
theorem laws_markStore.ok : FnOk Tryz.prog 26 laws_markStore.sig := fn_ok (fun k x => laws_markStore.eq k x.1 x.2.1) Tryz.func26 tabO_ok mixed (by kernel_rfl) (by kernel_rfl) ⟨laws_markKeptSS.ok, trivial⟩
theorem laws_markFlightS.ok : FnOk Tryz.prog 27 laws_markFlightS.sig := fn_ok (fun k x => laws_markFlightS.eq k x.1 x.2.1) Tryz.func27 tabO_ok mixed (by kernel_rfl) (by kernel_rfl) trivial
theorem laws_markNoteS.ok : FnOk Tryz.prog 59 laws_markNoteS.sig := fn_ok (fun k x => laws_markNoteS.eq k x.1 x.2.1) Tryz.func59 tabO_ok mixed (by kernel_rfl) (by kernel_rfl) trivial
theorem laws_markCaseS.ok : FnOk Tryz.prog 60 laws_markCaseS.sig := fn_ok (fun k x => laws_markCaseS.eq k x.1 x.2.1) Tryz.func60 tabO_ok mixed (by kernel_rfl) (by kernel_rfl) trivial
theorem laws_markHall.ok : FnOk Tryz.prog 28 laws_markHall.sig := fn_ok (fun k x => laws_markHall.eq k x.1 x.2.1) Tryz.func28 tabO_ok mixed (by kernel_rfl) (by kernel_rfl) ⟨laws_markPolicy.ok, laws_markBelt.ok, laws_markLoop.ok, laws_markStore.ok, laws_markFlightS.ok, laws_markNoteS.ok, laws_markCaseS.ok, trivial⟩
theorem laws_heldIntS.ok : FnOk Tryz.prog 115 laws_heldIntS.sig := fn_ok (fun k x => laws_heldIntS.eq k x.1 x.2.1) Tryz.func115 tabO_ok mixed (by kernel_rfl) (by kernel_rfl) trivial
theorem laws_heldPolicy.ok : FnOk Tryz.prog 61 laws_heldPolicy.sig := fn_ok (fun k x => laws_heldPolicy.eq k x.1 x.2.1) Tryz.func61 tabO_ok mixed (by kernel_rfl) (by kernel_rfl) ⟨laws_heldIntS.ok, trivial⟩
theorem laws_heldItemS.ok : FnOk Tryz.prog 116 laws_heldItemS.sig := fn_ok (fun k x => laws_heldItemS.eq k x.1 x.2.1) Tryz.func116 tabO_ok mixed (by kernel_rfl) (by kernel_rfl) trivial
theorem laws_heldBelt.ok : FnOk Tryz.prog 62 laws_heldBelt.sig := fn_ok (fun k x => laws_heldBelt.eq k x.1 x.2.1) Tryz.func62 tabO_ok mixed (by kernel_rfl) (by kernel_rfl) ⟨laws_heldItemS.ok, trivial⟩
theorem laws_heldChuteS.ok : FnOk Tryz.prog 117 laws_heldChuteS.sig := fn_ok (fun k x => laws_heldChuteS.eq k x.1 x.2.1) Tryz.func117 tabO_ok mixed (by kernel_rfl) (by kernel_rfl) ⟨laws_heldIntS.ok, trivial⟩
theorem laws_heldWantS.ok : FnOk Tryz.prog 118 laws_heldWantS.sig := fn_ok (fun k x => laws_heldWantS.eq k x.1 x.2.1) Tryz.func118 tabO_ok mixed (by kernel_rfl) (by kernel_rfl) ⟨laws_heldIntS.ok, trivial⟩
theorem laws_heldLoop.ok : FnOk Tryz.prog 63 laws_heldLoop.sig := fn_ok (fun k x => laws_heldLoop.eq k x.1 x.2.1) Tryz.func63 tabO_ok mixed (by kernel_rfl) (by kernel_rfl) ⟨laws_heldIntS.ok, laws_heldChuteS.ok, laws_heldWantS.ok, trivial⟩
theorem laws_heldKeptS.ok : FnOk Tryz.prog 156 laws_heldKeptS.sig := fn_ok (fun k x => laws_heldKeptS.eq k x.1 x.2.1) Tryz.func156 tabO_ok mixed (by kernel_rfl) (by kernel_rfl) trivial
theorem laws_heldKeptSS.ok : FnOk Tryz.prog 119 laws_heldKeptSS.sig := fn_ok (fun k x => laws_heldKeptSS.eq k x.1 x.2.1) Tryz.func119 tabO_ok mixed (by kernel_rfl) (by kernel_rfl) ⟨laws_heldKeptS.ok, trivial⟩
theorem laws_heldStore.ok : FnOk Tryz.prog 64 laws_heldStore.sig := fn_ok (fun k x => laws_heldStore.eq k x.1 x.2.1) Tryz.func64 tabO_ok mixed (by kernel_rfl) (by kernel_rfl) ⟨laws_heldKeptSS.ok, trivial⟩
theorem laws_heldNoteS.ok : FnOk Tryz.prog 65 laws_heldNoteS.sig := fn_ok (fun k x => laws_heldNoteS.eq k x.1 x.2.1) Tryz.func65 tabO_ok mixed (by kernel_rfl) (by kernel_rfl) trivial
theorem laws_heldFlightS.ok : FnOk Tryz.prog 66 laws_heldFlightS.sig := fn_ok (fun k x => laws_heldFlightS.eq k x.1 x.2.1) Tryz.func66 tabO_ok mixed (by kernel_rfl) (by kernel_rfl) trivial
theorem laws_heldCaseS.ok : FnOk Tryz.prog 67 laws_heldCaseS.sig := fn_ok (fun k x => laws_heldCaseS.eq k x.1 x.2.1) Tryz.func67 tabO_ok mixed (by kernel_rfl) (by kernel_rfl) trivial
theorem laws_heldHall.ok : FnOk Tryz.prog 29 laws_heldHall.sig := fn_ok (fun k x => laws_heldHall.eq k x.1 x.2.1) Tryz.func29 tabO_ok mixed (by kernel_rfl) (by kernel_rfl) ⟨laws_heldPolicy.ok, laws_heldBelt.ok, laws_heldLoop.ok, laws_heldStore.ok, laws_heldNoteS.ok, laws_heldFlightS.ok, laws_heldCaseS.ok, trivial⟩
end Go.Proofs.YtpihkhknehadbabGreat.Eng
