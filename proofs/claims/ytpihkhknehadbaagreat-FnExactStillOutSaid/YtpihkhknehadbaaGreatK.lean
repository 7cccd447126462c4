/- The contracts of the program's functions. By a program of this session. No condition. -/
import Derived.Test.YtpihkhknehadbaaGreatEngD
import Derived.Test.YtpihkhknehadbaaGreatShelf
import Derived.Test.YtpihkhknehadbaaGreatE1
import Derived.Test.YtpihkhknehadbaaGreatE2
namespace Go.Proofs.YtpihkhknehadbaaGreat.Eng
open Go.Proofs
set_option linter.unusedVariables false
theorem mixed : Tryz.prog.follows .mixedOrders = true := by kernel_rfl
set_option maxRecDepth 100000 in
theorem tabO_ok : TabOk Tryz.prog tabO := tabB_ok (by kernel_rfl)
set_option maxRecDepth 100000 in
theorem tabR_ok : TabOk Tryz.prog tabR := tabB_ok (by kernel_rfl)
theorem slices_Sort_int_int.ok : FnOk Tryz.prog 137 sortSig := sort_ok ⟨Tryz.f137, Tryz.func137, by kernel_rfl, by kernel_rfl⟩ (fun blk off cap zs w h1 h2 h3 => Tryz.slices_Sort_int blk off cap zs w h1 h2 h3) Tryz.slices_Sort_int_none
theorem spec_l01In.ok : FnOk Tryz.prog 37 spec_l01In.sig := fn_ok (fun k x => spec_l01In.eq k x.1 x.2.1 x.2.2.1) Tryz.func37 tabO_ok mixed (by kernel_rfl) (by kernel_rfl) trivial
theorem spec_PolicyOk.ok : FnOk Tryz.prog 38 spec_PolicyOk.sig := fn_ok (fun k x => spec_PolicyOk.eq k x.1) Tryz.func38 tabO_ok mixed (by kernel_rfl) (by kernel_rfl) ⟨spec_l01In.ok, trivial⟩
theorem spec_LimitsOk.ok : FnOk Tryz.prog 39 spec_LimitsOk.sig := fn_ok (fun k x => spec_LimitsOk.eq k x.1) Tryz.func39 tabO_ok mixed (by kernel_rfl) (by kernel_rfl) ⟨spec_l01In.ok, trivial⟩
theorem spec_BeltOk.ok : FnOk Tryz.prog 40 spec_BeltOk.sig := fn_ok (fun k x => spec_BeltOk.eq k x.1) Tryz.func40 tabO_ok mixed (by kernel_rfl) (by kernel_rfl) ⟨spec_l01In.ok, trivial⟩
theorem spec_l03Has.ok : FnOk Tryz.prog 103 spec_l03Has.sig := fn_ok (fun k x => spec_l03Has.eq k x.1 x.2.1) Tryz.func103 tabO_ok mixed (by kernel_rfl) (by kernel_rfl) trivial
theorem spec_LoopOk.ok : FnOk Tryz.prog 41 spec_LoopOk.sig := fn_ok (fun k x => spec_LoopOk.eq k x.1) Tryz.func41 tabO_ok mixed (by kernel_rfl) (by kernel_rfl) ⟨spec_l01In.ok, spec_l03Has.ok, trivial⟩
theorem spec_StoreOk.ok : FnOk Tryz.prog 42 spec_StoreOk.sig := fn_ok (fun k x => spec_StoreOk.eq k x.1) Tryz.func42 tabO_ok mixed (by kernel_rfl) (by kernel_rfl) ⟨spec_l01In.ok, spec_l03Has.ok, trivial⟩
theorem spec_NoteOk.ok : FnOk Tryz.prog 104 spec_NoteOk.sig := fn_ok (fun k x => spec_NoteOk.eq k x.1) Tryz.func104 tabO_ok mixed (by kernel_rfl) (by kernel_rfl) ⟨spec_l01In.ok, trivial⟩
theorem spec_NotesOk.ok : FnOk Tryz.prog 43 spec_NotesOk.sig := fn_ok (fun k x => spec_NotesOk.eq k x.1) Tryz.func43 tabO_ok mixed (by kernel_rfl) (by kernel_rfl) ⟨spec_NoteOk.ok, trivial⟩
theorem spec_l09FlightOk.ok : FnOk Tryz.prog 44 spec_l09FlightOk.sig := fn_ok (fun k x => spec_l09FlightOk.eq k x.1 x.2.1) Tryz.func44 tabO_ok mixed (by kernel_rfl) (by kernel_rfl) ⟨spec_l01In.ok, trivial⟩
theorem spec_TagOk.ok : FnOk Tryz.prog 105 spec_TagOk.sig := fn_ok (fun k x => spec_TagOk.eq k x.1) Tryz.func105 tabO_ok mixed (by kernel_rfl) (by kernel_rfl) ⟨spec_l01In.ok, trivial⟩
theorem spec_ScreenOk.ok : FnOk Tryz.prog 106 spec_ScreenOk.sig := fn_ok (fun k x => spec_ScreenOk.eq k x.1) Tryz.func106 tabO_ok mixed (by kernel_rfl) (by kernel_rfl) ⟨spec_l01In.ok, trivial⟩
theorem spec_l09OnBelt.ok : FnOk Tryz.prog 107 spec_l09OnBelt.sig := fn_ok (fun k x => spec_l09OnBelt.eq k x.1 x.2.1) Tryz.func107 tabO_ok mixed (by kernel_rfl) (by kernel_rfl) trivial
theorem spec_l09Chute.ok : FnOk Tryz.prog 108 spec_l09Chute.sig := fn_ok (fun k x => spec_l09Chute.eq k x.1 x.2.1) Tryz.func108 tabO_ok mixed (by kernel_rfl) (by kernel_rfl) ⟨spec_l03Has.ok, trivial⟩
theorem spec_l06Find.ok : FnOk Tryz.prog 109 spec_l06Find.sig := fn_ok (fun k x => spec_l06Find.eq k x.1 x.2.1) Tryz.func109 tabO_ok mixed (by kernel_rfl) (by kernel_rfl) trivial
theorem spec_l09CaseOk.ok : FnOk Tryz.prog 45 spec_l09CaseOk.sig := fn_ok (fun k x => spec_l09CaseOk.eq k x.1 x.2.1) Tryz.func45 tabO_ok mixed (by kernel_rfl) (by kernel_rfl) ⟨spec_l01In.ok, spec_l03Has.ok, spec_TagOk.ok, spec_ScreenOk.ok, spec_l09OnBelt.ok, spec_l09Chute.ok, spec_l06Find.ok, trivial⟩
theorem spec_HallOk.ok : FnOk Tryz.prog 9 spec_HallOk.sig := fn_ok (fun k x => spec_HallOk.eq k x.1) Tryz.func9 tabO_ok mixed (by kernel_rfl) (by kernel_rfl) ⟨spec_l01In.ok, spec_PolicyOk.ok, spec_LimitsOk.ok, spec_BeltOk.ok, spec_LoopOk.ok, spec_StoreOk.ok, spec_NotesOk.ok, spec_l09FlightOk.ok, spec_l09CaseOk.ok, trivial⟩
theorem impl_isTick.ok : FnOk Tryz.prog 54 impl_isTick.sig := fn_ok (fun k x => impl_isTick.eq k x.1) Tryz.func54 tabO_ok mixed (by kernel_rfl) (by kernel_rfl) trivial
theorem impl_isWait.ok : FnOk Tryz.prog 120 impl_isWait.sig := fn_ok (fun k x => impl_isWait.eq k x.1 x.2.1) Tryz.func120 tabO_ok mixed (by kernel_rfl) (by kernel_rfl) trivial
theorem impl_PolicyOk.ok : FnOk Tryz.prog 55 impl_PolicyOk.sig := fn_ok (fun k x => impl_PolicyOk.eq k x.1) Tryz.func55 tabO_ok mixed (by kernel_rfl) (by kernel_rfl) ⟨⟨Tryz.func118, by kernel_rfl⟩, ⟨Tryz.func119, by kernel_rfl⟩, impl_isWait.ok, ⟨Tryz.func136, by kernel_rfl⟩, trivial⟩
theorem impl_LimitsOk.ok : FnOk Tryz.prog 56 impl_LimitsOk.sig := fn_ok (fun k x => impl_LimitsOk.eq k x.1) Tryz.func56 tabO_ok mixed (by kernel_rfl) (by kernel_rfl) trivial
theorem impl_isOn.ok : FnOk Tryz.prog 121 impl_isOn.sig := fn_ok (fun k x => impl_isOn.eq k x.1 x.2.1) Tryz.func121 tabO_ok mixed (by kernel_rfl) (by kernel_rfl) ⟨⟨Tryz.func175, by kernel_rfl⟩, ⟨Tryz.func176, by kernel_rfl⟩, ⟨Tryz.func205, by kernel_rfl⟩, trivial⟩
theorem impl_BeltOk.ok : FnOk Tryz.prog 57 impl_BeltOk.sig := fn_ok (fun k x => impl_BeltOk.eq k x.1) Tryz.func57 tabO_ok mixed (by kernel_rfl) (by kernel_rfl) ⟨impl_isOn.ok, trivial⟩
theorem impl_areIndexes.ok : FnOk Tryz.prog 122 impl_areIndexes.sig := fn_ok (fun k x => impl_areIndexes.eq k x.1 x.2.1) Tryz.func122 tabO_ok mixed (by kernel_rfl) (by kernel_rfl) trivial
theorem slices_Clone_int_int.ok : FnOk Tryz.prog 65 slices_Clone_int_int.sig := fn_ok (fun k x => slices_Clone_int_int.eq k x.1) Tryz.func65 tabO_ok mixed (by kernel_rfl) (by kernel_rfl) trivial
theorem impl_bagsOf.ok : FnOk Tryz.prog 123 impl_bagsOf.sig := fn_ok (fun k x => impl_bagsOf.eq k x.1) Tryz.func123 tabO_ok mixed (by kernel_rfl) (by kernel_rfl) ⟨⟨Tryz.func64, by kernel_rfl⟩, slices_Clone_int_int.ok, ⟨Tryz.func136, by kernel_rfl⟩, ⟨Tryz.func177, by kernel_rfl⟩, trivial⟩
theorem impl_areDifferent.ok : FnOk Tryz.prog 125 impl_areDifferent.sig := fn_ok (fun k x => impl_areDifferent.eq k x.1) Tryz.func125 tabO_ok mixed (by kernel_rfl) (by kernel_rfl) ⟨slices_Clone_int_int.ok, slices_Sort_int_int.ok, ⟨Tryz.func178, by kernel_rfl⟩, trivial⟩
theorem impl_LoopOk.ok : FnOk Tryz.prog 58 impl_LoopOk.sig := fn_ok (fun k x => impl_LoopOk.eq k x.1) Tryz.func58 tabO_ok mixed (by kernel_rfl) (by kernel_rfl) ⟨⟨Tryz.func118, by kernel_rfl⟩, impl_areIndexes.ok, impl_bagsOf.ok, ⟨Tryz.func124, by kernel_rfl⟩, impl_areDifferent.ok, ⟨Tryz.func136, by kernel_rfl⟩, trivial⟩
theorem impl_bagsIn.ok : FnOk Tryz.prog 68 impl_bagsIn.sig := fn_ok (fun k x => impl_bagsIn.eq k x.1) Tryz.func68 tabO_ok mixed (by kernel_rfl) (by kernel_rfl) trivial
theorem impl_StoreOk.ok : FnOk Tryz.prog 59 impl_StoreOk.sig := fn_ok (fun k x => impl_StoreOk.eq k x.1) Tryz.func59 tabO_ok mixed (by kernel_rfl) (by kernel_rfl) ⟨impl_isTick.ok, impl_bagsIn.ok, impl_areDifferent.ok, ⟨Tryz.func126, by kernel_rfl⟩, ⟨Tryz.func127, by kernel_rfl⟩, ⟨Tryz.func179, by kernel_rfl⟩, trivial⟩
theorem impl_isFrom1.ok : FnOk Tryz.prog 132 impl_isFrom1.sig := fn_ok (fun k x => impl_isFrom1.eq k x.1 x.2.1) Tryz.func132 tabO_ok mixed (by kernel_rfl) (by kernel_rfl) trivial
theorem impl_NoteOk.ok : FnOk Tryz.prog 128 impl_NoteOk.sig := fn_ok (fun k x => impl_NoteOk.eq k x.1) Tryz.func128 tabO_ok mixed (by kernel_rfl) (by kernel_rfl) ⟨impl_isFrom1.ok, trivial⟩
theorem impl_NotesOk.ok : FnOk Tryz.prog 60 impl_NotesOk.sig := fn_ok (fun k x => impl_NotesOk.eq k x.1) Tryz.func60 tabO_ok mixed (by kernel_rfl) (by kernel_rfl) ⟨impl_NoteOk.ok, trivial⟩
theorem impl_areFlights.ok : FnOk Tryz.prog 61 impl_areFlights.sig := fn_ok (fun k x => impl_areFlights.eq k x.1) Tryz.func61 tabO_ok mixed (by kernel_rfl) (by kernel_rfl) ⟨⟨Tryz.func129, by kernel_rfl⟩, ⟨Tryz.func130, by kernel_rfl⟩, ⟨Tryz.func180, by kernel_rfl⟩, trivial⟩
theorem impl_isFlight.ok : FnOk Tryz.prog 77 impl_isFlight.sig := fn_ok (fun k x => impl_isFlight.eq k x.1 x.2.1) Tryz.func77 tabO_ok mixed (by kernel_rfl) (by kernel_rfl) ⟨impl_isFrom1.ok, trivial⟩
theorem impl_TagOk.ok : FnOk Tryz.prog 131 impl_TagOk.sig := fn_ok (fun k x => impl_TagOk.eq k x.1) Tryz.func131 tabO_ok mixed (by kernel_rfl) (by kernel_rfl) trivial
theorem impl_ScreenOk.ok : FnOk Tryz.prog 133 impl_ScreenOk.sig := fn_ok (fun k x => impl_ScreenOk.eq k x.1) Tryz.func133 tabO_ok mixed (by kernel_rfl) (by kernel_rfl) ⟨impl_isTick.ok, trivial⟩
theorem impl_isCase.ok : FnOk Tryz.prog 62 impl_isCase.sig := fn_ok (fun k x => impl_isCase.eq k x.1 x.2.1) Tryz.func62 tabO_ok mixed (by kernel_rfl) (by kernel_rfl) ⟨impl_isFlight.ok, impl_TagOk.ok, impl_isFrom1.ok, impl_ScreenOk.ok, trivial⟩
theorem impl_hasTag.ok : FnOk Tryz.prog 63 impl_hasTag.sig := fn_ok (fun k x => impl_hasTag.eq k x.1 x.2.1) Tryz.func63 tabO_ok mixed (by kernel_rfl) (by kernel_rfl) ⟨⟨Tryz.func134, by kernel_rfl⟩, ⟨Tryz.func135, by kernel_rfl⟩, ⟨Tryz.func181, by kernel_rfl⟩, trivial⟩
theorem impl_at.ok : FnOk Tryz.prog 78 impl_at.sig := fn_ok (fun k x => impl_at.eq k x.1 x.2.1) Tryz.func78 tabO_ok mixed (by kernel_rfl) (by kernel_rfl) trivial
theorem slices_Equal_int_int.ok : FnOk Tryz.prog 138 slices_Equal_int_int.sig := fn_ok (fun k x => slices_Equal_int_int.eq k x.1 x.2.1) Tryz.func138 tabO_ok mixed (by kernel_rfl) (by kernel_rfl) trivial
theorem impl_areBags.ok : FnOk Tryz.prog 67 impl_areBags.sig := fn_ok (fun k x => impl_areBags.eq k x.1 x.2.1 x.2.2.1) Tryz.func67 tabO_ok mixed (by kernel_rfl) (by kernel_rfl) ⟨impl_at.ok, slices_Sort_int_int.ok, slices_Equal_int_int.ok, trivial⟩
theorem impl_HallOk.ok : FnOk Tryz.prog 11 impl_HallOk.sig := fn_ok (fun k x => impl_HallOk.eq k x.1) Tryz.func11 tabO_ok mixed (by kernel_rfl) (by kernel_rfl) ⟨impl_isTick.ok, impl_PolicyOk.ok, impl_LimitsOk.ok, impl_BeltOk.ok, impl_LoopOk.ok, impl_StoreOk.ok, impl_NotesOk.ok, impl_areFlights.ok, impl_isCase.ok, impl_hasTag.ok, ⟨Tryz.func64, by kernel_rfl⟩, slices_Clone_int_int.ok, ⟨Tryz.func66, by kernel_rfl⟩, impl_areBags.ok, impl_bagsIn.ok, ⟨Tryz.func136, by kernel_rfl⟩, trivial⟩
end Go.Proofs.YtpihkhknehadbaaGreat.Eng
