/- The contracts of the program's functions. By a program of this session. No condition. -/
import Derived.Test.YtpihkhknehadbaaGreatK
import Derived.Test.YtpihkhknehadbaaGreatEFnExactLedgerOf1
import Derived.Test.YtpihkhknehadbaaGreatKFnExactHallOk
namespace Go.Proofs.YtpihkhknehadbaaGreat.Eng
open Go.Proofs
set_option linter.unusedVariables false
theorem spec_LedgerOf.ok : FnOk Tryz.prog 15 spec_LedgerOf.sig := fn_ok (fun k x => spec_LedgerOf.eq k x.1 x.2.1) Tryz.func15 tabO_ok mixed (by kernel_rfl) (by kernel_rfl) ⟨spec_HallOk.ok, trivial⟩
theorem impl_LedgerOf.ok : FnOk Tryz.prog 16 impl_LedgerOf.sig := fn_ok (fun k x => impl_LedgerOf.eq k x.1 x.2.1) Tryz.func16 tabO_ok mixed (by kernel_rfl) (by kernel_rfl) ⟨impl_HallOk.ok, impl_at.ok, trivial⟩
theorem laws_markIntS.ok : FnOk Tryz.prog 19 laws_markIntS.sig := fn_ok (fun k x => laws_markIntS.eq k x.1 x.2.1) Tryz.func19 tabO_ok mixed (by kernel_rfl) (by kernel_rfl) trivial
theorem laws_markPolicy.ok : FnOk Tryz.prog 79 laws_markPolicy.sig := fn_ok (fun k x => laws_markPolicy.eq k x.1 x.2.1) Tryz.func79 tabO_ok mixed (by kernel_rfl) (by kernel_rfl) ⟨laws_markIntS.ok, trivial⟩
theorem laws_markItemS.ok : FnOk Tryz.prog 146 laws_markItemS.sig := fn_ok (fun k x => laws_markItemS.eq k x.1 x.2.1) Tryz.func146 tabO_ok mixed (by kernel_rfl) (by kernel_rfl) trivial
theorem laws_markBelt.ok : FnOk Tryz.prog 80 laws_markBelt.sig := fn_ok (fun k x => laws_markBelt.eq k x.1 x.2.1) Tryz.func80 tabO_ok mixed (by kernel_rfl) (by kernel_rfl) ⟨laws_markItemS.ok, trivial⟩
theorem laws_markChuteS.ok : FnOk Tryz.prog 147 laws_markChuteS.sig := fn_ok (fun k x => laws_markChuteS.eq k x.1 x.2.1) Tryz.func147 tabO_ok mixed (by kernel_rfl) (by kernel_rfl) ⟨laws_markIntS.ok, trivial⟩
theorem laws_markWantS.ok : FnOk Tryz.prog 148 laws_markWantS.sig := fn_ok (fun k x => laws_markWantS.eq k x.1 x.2.1) Tryz.func148 tabO_ok mixed (by kernel_rfl) (by kernel_rfl) ⟨laws_markIntS.ok, trivial⟩
theorem laws_markLoop.ok : FnOk Tryz.prog 81 laws_markLoop.sig := fn_ok (fun k x => laws_markLoop.eq k x.1 x.2.1) Tryz.func81 tabO_ok mixed (by kernel_rfl) (by kernel_rfl) ⟨laws_markIntS.ok, laws_markChuteS.ok, laws_markWantS.ok, trivial⟩
theorem laws_markKeptS.ok : FnOk Tryz.prog 190 laws_markKeptS.sig := fn_ok (fun k x => laws_markKeptS.eq k x.1 x.2.1) Tryz.func190 tabO_ok mixed (by kernel_rfl) (by kernel_rfl) trivial
theorem laws_markKeptSS.ok : FnOk Tryz.prog 149 laws_markKeptSS.sig := fn_ok (fun k x => laws_markKeptSS.eq k x.1 x.2.1) Tryz.func149 tabO_ok mixed (by kernel_rfl) (by kernel_rfl) ⟨laws_markKeptS.ok, trivial⟩
theorem laws_markStore.ok : FnOk Tryz.prog 82 laws_markStore.sig := fn_ok (fun k x => laws_markStore.eq k x.1 x.2.1) Tryz.func82 tabO_ok mixed (by kernel_rfl) (by kernel_rfl) ⟨laws_markKeptSS.ok, trivial⟩
theorem laws_markNoteS.ok : FnOk Tryz.prog 83 laws_markNoteS.sig := fn_ok (fun k x => laws_markNoteS.eq k x.1 x.2.1) Tryz.func83 tabO_ok mixed (by kernel_rfl) (by kernel_rfl) trivial
theorem laws_markFlightS.ok : FnOk Tryz.prog 84 laws_markFlightS.sig := fn_ok (fun k x => laws_markFlightS.eq k x.1 x.2.1) Tryz.func84 tabO_ok mixed (by kernel_rfl) (by kernel_rfl) trivial
theorem laws_markCaseS.ok : FnOk Tryz.prog 85 laws_markCaseS.sig := fn_ok (fun k x => laws_markCaseS.eq k x.1 x.2.1) Tryz.func85 tabO_ok mixed (by kernel_rfl) (by kernel_rfl) trivial
theorem laws_markHall.ok : FnOk Tryz.prog 18 laws_markHall.sig := fn_ok (fun k x => laws_markHall.eq k x.1 x.2.1) Tryz.func18 tabO_ok mixed (by kernel_rfl) (by kernel_rfl) ⟨laws_markPolicy.ok, laws_markBelt.ok, laws_markLoop.ok, laws_markStore.ok, laws_markNoteS.ok, laws_markFlightS.ok, laws_markCaseS.ok, trivial⟩
theorem laws_heldIntS.ok : FnOk Tryz.prog 20 laws_heldIntS.sig := fn_ok (fun k x => laws_heldIntS.eq k x.1 x.2.1) Tryz.func20 tabO_ok mixed (by kernel_rfl) (by kernel_rfl) trivial
theorem laws_FnExactLedgerOf.ok : FnOk Tryz.prog 5 laws_FnExactLedgerOf.sig := fn_ok (fun k x => laws_FnExactLedgerOf.eq k x.1 x.2.1) Tryz.func5 tabO_ok mixed (by kernel_rfl) (by kernel_rfl) ⟨laws_szHall.ok, laws_toHall.ok, laws_eqHall.ok, spec_LedgerOf.ok, impl_LedgerOf.ok, laws_eqIntS.ok, laws_markHall.ok, laws_markIntS.ok, laws_heldIntS.ok, trivial⟩
end Go.Proofs.YtpihkhknehadbaaGreat.Eng
