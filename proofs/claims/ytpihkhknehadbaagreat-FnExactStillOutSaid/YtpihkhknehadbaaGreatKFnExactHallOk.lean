/- The contracts of the program's functions. By a program of this session. No condition. -/
import Derived.Test.YtpihkhknehadbaaGreatK
import Derived.Test.YtpihkhknehadbaaGreatEFnExactHallOk1
import Derived.Test.YtpihkhknehadbaaGreatEFnExactHallOk2
namespace Go.Proofs.YtpihkhknehadbaaGreat.Eng
open Go.Proofs
set_option linter.unusedVariables false
theorem laws_szIntS.ok : FnOk Tryz.prog 98 laws_szIntS.sig := fn_ok (fun k x => laws_szIntS.eq k x.1 x.2.1) Tryz.func98 tabO_ok mixed (by kernel_rfl) (by kernel_rfl) trivial
theorem laws_szPolicy.ok : FnOk Tryz.prog 30 laws_szPolicy.sig := fn_ok (fun k x => laws_szPolicy.eq k x.1 x.2.1) Tryz.func30 tabO_ok mixed (by kernel_rfl) (by kernel_rfl) ⟨laws_szIntS.ok, trivial⟩
theorem laws_szItemS.ok : FnOk Tryz.prog 99 laws_szItemS.sig := fn_ok (fun k x => laws_szItemS.eq k x.1 x.2.1) Tryz.func99 tabO_ok mixed (by kernel_rfl) (by kernel_rfl) trivial
theorem laws_szBelt.ok : FnOk Tryz.prog 31 laws_szBelt.sig := fn_ok (fun k x => laws_szBelt.eq k x.1 x.2.1) Tryz.func31 tabO_ok mixed (by kernel_rfl) (by kernel_rfl) ⟨laws_szItemS.ok, trivial⟩
theorem laws_szChute.ok : FnOk Tryz.prog 166 laws_szChute.sig := fn_ok (fun k x => laws_szChute.eq k x.1 x.2.1) Tryz.func166 tabO_ok mixed (by kernel_rfl) (by kernel_rfl) ⟨laws_szIntS.ok, trivial⟩
theorem laws_szChuteS.ok : FnOk Tryz.prog 100 laws_szChuteS.sig := fn_ok (fun k x => laws_szChuteS.eq k x.1 x.2.1) Tryz.func100 tabO_ok mixed (by kernel_rfl) (by kernel_rfl) ⟨laws_szChute.ok, trivial⟩
theorem laws_szWant.ok : FnOk Tryz.prog 167 laws_szWant.sig := fn_ok (fun k x => laws_szWant.eq k x.1 x.2.1) Tryz.func167 tabO_ok mixed (by kernel_rfl) (by kernel_rfl) ⟨laws_szIntS.ok, trivial⟩
theorem laws_szWantS.ok : FnOk Tryz.prog 101 laws_szWantS.sig := fn_ok (fun k x => laws_szWantS.eq k x.1 x.2.1) Tryz.func101 tabO_ok mixed (by kernel_rfl) (by kernel_rfl) ⟨laws_szWant.ok, trivial⟩
theorem laws_szLoop.ok : FnOk Tryz.prog 32 laws_szLoop.sig := fn_ok (fun k x => laws_szLoop.eq k x.1 x.2.1) Tryz.func32 tabO_ok mixed (by kernel_rfl) (by kernel_rfl) ⟨laws_szIntS.ok, laws_szChuteS.ok, laws_szWantS.ok, trivial⟩
theorem laws_szKeptS.ok : FnOk Tryz.prog 168 laws_szKeptS.sig := fn_ok (fun k x => laws_szKeptS.eq k x.1 x.2.1) Tryz.func168 tabO_ok mixed (by kernel_rfl) (by kernel_rfl) trivial
theorem laws_szKeptSS.ok : FnOk Tryz.prog 102 laws_szKeptSS.sig := fn_ok (fun k x => laws_szKeptSS.eq k x.1 x.2.1) Tryz.func102 tabO_ok mixed (by kernel_rfl) (by kernel_rfl) ⟨laws_szKeptS.ok, trivial⟩
theorem laws_szStore.ok : FnOk Tryz.prog 33 laws_szStore.sig := fn_ok (fun k x => laws_szStore.eq k x.1 x.2.1) Tryz.func33 tabO_ok mixed (by kernel_rfl) (by kernel_rfl) ⟨laws_szKeptSS.ok, trivial⟩
theorem laws_szNoteS.ok : FnOk Tryz.prog 34 laws_szNoteS.sig := fn_ok (fun k x => laws_szNoteS.eq k x.1 x.2.1) Tryz.func34 tabO_ok mixed (by kernel_rfl) (by kernel_rfl) trivial
theorem laws_szFlightS.ok : FnOk Tryz.prog 35 laws_szFlightS.sig := fn_ok (fun k x => laws_szFlightS.eq k x.1 x.2.1) Tryz.func35 tabO_ok mixed (by kernel_rfl) (by kernel_rfl) trivial
theorem laws_szCaseS.ok : FnOk Tryz.prog 36 laws_szCaseS.sig := fn_ok (fun k x => laws_szCaseS.eq k x.1 x.2.1) Tryz.func36 tabO_ok mixed (by kernel_rfl) (by kernel_rfl) trivial
theorem laws_szHall.ok : FnOk Tryz.prog 8 laws_szHall.sig := fn_ok (fun k x => laws_szHall.eq k x.1 x.2.1) Tryz.func8 tabO_ok mixed (by kernel_rfl) (by kernel_rfl) ⟨laws_szPolicy.ok, laws_szBelt.ok, laws_szLoop.ok, laws_szStore.ok, laws_szNoteS.ok, laws_szFlightS.ok, laws_szCaseS.ok, trivial⟩
theorem laws_toIntS.ok : FnOk Tryz.prog 110 laws_toIntS.sig := fn_ok (fun k x => laws_toIntS.eq k x.1) Tryz.func110 tabO_ok mixed (by kernel_rfl) (by kernel_rfl) trivial
theorem laws_toPolicy.ok : FnOk Tryz.prog 46 laws_toPolicy.sig := fn_ok (fun k x => laws_toPolicy.eq k x.1) Tryz.func46 tabO_ok mixed (by kernel_rfl) (by kernel_rfl) ⟨laws_toIntS.ok, trivial⟩
theorem laws_toLimits.ok : FnOk Tryz.prog 47 laws_toLimits.sig := fn_ok (fun k x => laws_toLimits.eq k x.1) Tryz.func47 tabO_ok mixed (by kernel_rfl) (by kernel_rfl) trivial
theorem laws_toItem.ok : FnOk Tryz.prog 169 laws_toItem.sig := fn_ok (fun k x => laws_toItem.eq k x.1) Tryz.func169 tabO_ok mixed (by kernel_rfl) (by kernel_rfl) trivial
theorem laws_toItemS.ok : FnOk Tryz.prog 111 laws_toItemS.sig := fn_ok (fun k x => laws_toItemS.eq k x.1) Tryz.func111 tabO_ok mixed (by kernel_rfl) (by kernel_rfl) ⟨laws_toItem.ok, trivial⟩
theorem laws_toBelt.ok : FnOk Tryz.prog 48 laws_toBelt.sig := fn_ok (fun k x => laws_toBelt.eq k x.1) Tryz.func48 tabO_ok mixed (by kernel_rfl) (by kernel_rfl) ⟨laws_toItemS.ok, trivial⟩
theorem laws_toChute.ok : FnOk Tryz.prog 170 laws_toChute.sig := fn_ok (fun k x => laws_toChute.eq k x.1) Tryz.func170 tabO_ok mixed (by kernel_rfl) (by kernel_rfl) ⟨laws_toIntS.ok, trivial⟩
theorem laws_toChuteS.ok : FnOk Tryz.prog 112 laws_toChuteS.sig := fn_ok (fun k x => laws_toChuteS.eq k x.1) Tryz.func112 tabO_ok mixed (by kernel_rfl) (by kernel_rfl) ⟨laws_toChute.ok, trivial⟩
theorem laws_toWant.ok : FnOk Tryz.prog 171 laws_toWant.sig := fn_ok (fun k x => laws_toWant.eq k x.1) Tryz.func171 tabO_ok mixed (by kernel_rfl) (by kernel_rfl) ⟨laws_toIntS.ok, trivial⟩
theorem laws_toWantS.ok : FnOk Tryz.prog 113 laws_toWantS.sig := fn_ok (fun k x => laws_toWantS.eq k x.1) Tryz.func113 tabO_ok mixed (by kernel_rfl) (by kernel_rfl) ⟨laws_toWant.ok, trivial⟩
theorem laws_toLoop.ok : FnOk Tryz.prog 49 laws_toLoop.sig := fn_ok (fun k x => laws_toLoop.eq k x.1) Tryz.func49 tabO_ok mixed (by kernel_rfl) (by kernel_rfl) ⟨laws_toIntS.ok, laws_toChuteS.ok, laws_toWantS.ok, trivial⟩
theorem laws_toKept.ok : FnOk Tryz.prog 204 laws_toKept.sig := fn_ok (fun k x => laws_toKept.eq k x.1) Tryz.func204 tabO_ok mixed (by kernel_rfl) (by kernel_rfl) trivial
theorem laws_toKeptS.ok : FnOk Tryz.prog 172 laws_toKeptS.sig := fn_ok (fun k x => laws_toKeptS.eq k x.1) Tryz.func172 tabO_ok mixed (by kernel_rfl) (by kernel_rfl) ⟨laws_toKept.ok, trivial⟩
theorem laws_toKeptSS.ok : FnOk Tryz.prog 114 laws_toKeptSS.sig := fn_ok (fun k x => laws_toKeptSS.eq k x.1) Tryz.func114 tabO_ok mixed (by kernel_rfl) (by kernel_rfl) ⟨laws_toKeptS.ok, trivial⟩
theorem laws_toStore.ok : FnOk Tryz.prog 50 laws_toStore.sig := fn_ok (fun k x => laws_toStore.eq k x.1) Tryz.func50 tabO_ok mixed (by kernel_rfl) (by kernel_rfl) ⟨laws_toKeptSS.ok, trivial⟩
theorem laws_toNote.ok : FnOk Tryz.prog 115 laws_toNote.sig := fn_ok (fun k x => laws_toNote.eq k x.1) Tryz.func115 tabO_ok mixed (by kernel_rfl) (by kernel_rfl) trivial
theorem laws_toNoteS.ok : FnOk Tryz.prog 51 laws_toNoteS.sig := fn_ok (fun k x => laws_toNoteS.eq k x.1) Tryz.func51 tabO_ok mixed (by kernel_rfl) (by kernel_rfl) ⟨laws_toNote.ok, trivial⟩
theorem laws_toFlight.ok : FnOk Tryz.prog 116 laws_toFlight.sig := fn_ok (fun k x => laws_toFlight.eq k x.1) Tryz.func116 tabO_ok mixed (by kernel_rfl) (by kernel_rfl) trivial
theorem laws_toFlightS.ok : FnOk Tryz.prog 52 laws_toFlightS.sig := fn_ok (fun k x => laws_toFlightS.eq k x.1) Tryz.func52 tabO_ok mixed (by kernel_rfl) (by kernel_rfl) ⟨laws_toFlight.ok, trivial⟩
theorem laws_toTag.ok : FnOk Tryz.prog 173 laws_toTag.sig := fn_ok (fun k x => laws_toTag.eq k x.1) Tryz.func173 tabO_ok mixed (by kernel_rfl) (by kernel_rfl) trivial
theorem laws_toScreen.ok : FnOk Tryz.prog 174 laws_toScreen.sig := fn_ok (fun k x => laws_toScreen.eq k x.1) Tryz.func174 tabO_ok mixed (by kernel_rfl) (by kernel_rfl) trivial
theorem laws_toCase.ok : FnOk Tryz.prog 117 laws_toCase.sig := fn_ok (fun k x => laws_toCase.eq k x.1) Tryz.func117 tabO_ok mixed (by kernel_rfl) (by kernel_rfl) ⟨laws_toTag.ok, laws_toScreen.ok, trivial⟩
theorem laws_toCaseS.ok : FnOk Tryz.prog 53 laws_toCaseS.sig := fn_ok (fun k x => laws_toCaseS.eq k x.1) Tryz.func53 tabO_ok mixed (by kernel_rfl) (by kernel_rfl) ⟨laws_toCase.ok, trivial⟩
theorem laws_toHall.ok : FnOk Tryz.prog 10 laws_toHall.sig := fn_ok (fun k x => laws_toHall.eq k x.1) Tryz.func10 tabO_ok mixed (by kernel_rfl) (by kernel_rfl) ⟨laws_toPolicy.ok, laws_toLimits.ok, laws_toBelt.ok, laws_toLoop.ok, laws_toStore.ok, laws_toNoteS.ok, laws_toFlightS.ok, laws_toCaseS.ok, trivial⟩
theorem laws_eqIntS.ok : FnOk Tryz.prog 17 laws_eqIntS.sig := fn_ok (fun k x => laws_eqIntS.eq k x.1 x.2.1) Tryz.func17 tabO_ok mixed (by kernel_rfl) (by kernel_rfl) trivial
theorem laws_eqPolicy.ok : FnOk Tryz.prog 69 laws_eqPolicy.sig := fn_ok (fun k x => laws_eqPolicy.eq k x.1 x.2.1) Tryz.func69 tabO_ok mixed (by kernel_rfl) (by kernel_rfl) ⟨laws_eqIntS.ok, trivial⟩
theorem laws_eqLimits.ok : FnOk Tryz.prog 70 laws_eqLimits.sig := fn_ok (fun k x => laws_eqLimits.eq k x.1 x.2.1) Tryz.func70 tabO_ok mixed (by kernel_rfl) (by kernel_rfl) trivial
theorem laws_eqItem.ok : FnOk Tryz.prog 184 laws_eqItem.sig := fn_ok (fun k x => laws_eqItem.eq k x.1 x.2.1) Tryz.func184 tabO_ok mixed (by kernel_rfl) (by kernel_rfl) trivial
theorem laws_eqItemS.ok : FnOk Tryz.prog 139 laws_eqItemS.sig := fn_ok (fun k x => laws_eqItemS.eq k x.1 x.2.1) Tryz.func139 tabO_ok mixed (by kernel_rfl) (by kernel_rfl) ⟨laws_eqItem.ok, trivial⟩
theorem laws_eqBelt.ok : FnOk Tryz.prog 71 laws_eqBelt.sig := fn_ok (fun k x => laws_eqBelt.eq k x.1 x.2.1) Tryz.func71 tabO_ok mixed (by kernel_rfl) (by kernel_rfl) ⟨laws_eqItemS.ok, trivial⟩
theorem laws_eqChute.ok : FnOk Tryz.prog 185 laws_eqChute.sig := fn_ok (fun k x => laws_eqChute.eq k x.1 x.2.1) Tryz.func185 tabO_ok mixed (by kernel_rfl) (by kernel_rfl) ⟨laws_eqIntS.ok, trivial⟩
theorem laws_eqChuteS.ok : FnOk Tryz.prog 140 laws_eqChuteS.sig := fn_ok (fun k x => laws_eqChuteS.eq k x.1 x.2.1) Tryz.func140 tabO_ok mixed (by kernel_rfl) (by kernel_rfl) ⟨laws_eqChute.ok, trivial⟩
theorem laws_eqWant.ok : FnOk Tryz.prog 186 laws_eqWant.sig := fn_ok (fun k x => laws_eqWant.eq k x.1 x.2.1) Tryz.func186 tabO_ok mixed (by kernel_rfl) (by kernel_rfl) ⟨laws_eqIntS.ok, trivial⟩
theorem laws_eqWantS.ok : FnOk Tryz.prog 141 laws_eqWantS.sig := fn_ok (fun k x => laws_eqWantS.eq k x.1 x.2.1) Tryz.func141 tabO_ok mixed (by kernel_rfl) (by kernel_rfl) ⟨laws_eqWant.ok, trivial⟩
theorem laws_eqLoop.ok : FnOk Tryz.prog 72 laws_eqLoop.sig := fn_ok (fun k x => laws_eqLoop.eq k x.1 x.2.1) Tryz.func72 tabO_ok mixed (by kernel_rfl) (by kernel_rfl) ⟨laws_eqIntS.ok, laws_eqChuteS.ok, laws_eqWantS.ok, trivial⟩
theorem laws_eqKept.ok : FnOk Tryz.prog 217 laws_eqKept.sig := fn_ok (fun k x => laws_eqKept.eq k x.1 x.2.1) Tryz.func217 tabO_ok mixed (by kernel_rfl) (by kernel_rfl) trivial
theorem laws_eqKeptS.ok : FnOk Tryz.prog 187 laws_eqKeptS.sig := fn_ok (fun k x => laws_eqKeptS.eq k x.1 x.2.1) Tryz.func187 tabO_ok mixed (by kernel_rfl) (by kernel_rfl) ⟨laws_eqKept.ok, trivial⟩
theorem laws_eqKeptSS.ok : FnOk Tryz.prog 142 laws_eqKeptSS.sig := fn_ok (fun k x => laws_eqKeptSS.eq k x.1 x.2.1) Tryz.func142 tabO_ok mixed (by kernel_rfl) (by kernel_rfl) ⟨laws_eqKeptS.ok, trivial⟩
theorem laws_eqStore.ok : FnOk Tryz.prog 73 laws_eqStore.sig := fn_ok (fun k x => laws_eqStore.eq k x.1 x.2.1) Tryz.func73 tabO_ok mixed (by kernel_rfl) (by kernel_rfl) ⟨laws_eqKeptSS.ok, trivial⟩
theorem laws_eqNote.ok : FnOk Tryz.prog 143 laws_eqNote.sig := fn_ok (fun k x => laws_eqNote.eq k x.1 x.2.1) Tryz.func143 tabO_ok mixed (by kernel_rfl) (by kernel_rfl) trivial
theorem laws_eqNoteS.ok : FnOk Tryz.prog 74 laws_eqNoteS.sig := fn_ok (fun k x => laws_eqNoteS.eq k x.1 x.2.1) Tryz.func74 tabO_ok mixed (by kernel_rfl) (by kernel_rfl) ⟨laws_eqNote.ok, trivial⟩
theorem laws_eqFlight.ok : FnOk Tryz.prog 144 laws_eqFlight.sig := fn_ok (fun k x => laws_eqFlight.eq k x.1 x.2.1) Tryz.func144 tabO_ok mixed (by kernel_rfl) (by kernel_rfl) trivial
theorem laws_eqFlightS.ok : FnOk Tryz.prog 75 laws_eqFlightS.sig := fn_ok (fun k x => laws_eqFlightS.eq k x.1 x.2.1) Tryz.func75 tabO_ok mixed (by kernel_rfl) (by kernel_rfl) ⟨laws_eqFlight.ok, trivial⟩
theorem laws_eqTag.ok : FnOk Tryz.prog 188 laws_eqTag.sig := fn_ok (fun k x => laws_eqTag.eq k x.1 x.2.1) Tryz.func188 tabO_ok mixed (by kernel_rfl) (by kernel_rfl) trivial
theorem laws_eqScreen.ok : FnOk Tryz.prog 189 laws_eqScreen.sig := fn_ok (fun k x => laws_eqScreen.eq k x.1 x.2.1) Tryz.func189 tabO_ok mixed (by kernel_rfl) (by kernel_rfl) trivial
theorem laws_eqCase.ok : FnOk Tryz.prog 145 laws_eqCase.sig := fn_ok (fun k x => laws_eqCase.eq k x.1 x.2.1) Tryz.func145 tabO_ok mixed (by kernel_rfl) (by kernel_rfl) ⟨laws_eqTag.ok, laws_eqScreen.ok, trivial⟩
theorem laws_eqCaseS.ok : FnOk Tryz.prog 76 laws_eqCaseS.sig := fn_ok (fun k x => laws_eqCaseS.eq k x.1 x.2.1) Tryz.func76 tabO_ok mixed (by kernel_rfl) (by kernel_rfl) ⟨laws_eqCase.ok, trivial⟩
theorem laws_eqHall.ok : FnOk Tryz.prog 12 laws_eqHall.sig := fn_ok (fun k x => laws_eqHall.eq k x.1 x.2.1) Tryz.func12 tabO_ok mixed (by kernel_rfl) (by kernel_rfl) ⟨laws_eqPolicy.ok, laws_eqLimits.ok, laws_eqBelt.ok, laws_eqLoop.ok, laws_eqStore.ok, laws_eqNoteS.ok, laws_eqFlightS.ok, laws_eqCaseS.ok, trivial⟩
theorem laws_FnExactHallOk.ok : FnOk Tryz.prog 3 laws_FnExactHallOk.sig := fn_ok (fun k x => laws_FnExactHallOk.eq k x.1) Tryz.func3 tabO_ok mixed (by kernel_rfl) (by kernel_rfl) ⟨laws_szHall.ok, spec_HallOk.ok, laws_toHall.ok, impl_HallOk.ok, laws_eqHall.ok, trivial⟩
end Go.Proofs.YtpihkhknehadbaaGreat.Eng
