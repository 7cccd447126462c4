/- The contracts of the program's functions. By a program of this session. No condition. -/
import Derived.Test.YtpihkhknehadbabGreatK
import Derived.Test.YtpihkhknehadbabGreatEFnExactNewHall1
namespace Go.Proofs.YtpihkhknehadbabGreat.Eng
open Go.Proofs
set_option linter.unusedVariables false
theorem laws_FnExactNewHall.ok : FnOk Tryz.prog 3 laws_FnExactNewHall.sig := fn_ok (fun k x => laws_FnExactNewHall.eq k x.1 x.2.1 x.2.2.1 x.2.2.2.1 x.2.2.2.2.1 x.2.2.2.2.2.1) Tryz.func3 tabO_ok mixed (by kernel_rfl) (by kernel_rfl) ⟨laws_szPolicy.ok, laws_szBelt.ok, laws_szLoop.ok, laws_szStore.ok, laws_szFlightS.ok, spec_NewHall.ok, laws_toPolicy.ok, laws_toLimits.ok, laws_toBelt.ok, laws_toLoop.ok, laws_toStore.ok, laws_toFlightS.ok, impl_NewHall.ok, laws_eqHall.ok, laws_eqPolicy.ok, laws_eqBelt.ok, laws_eqLoop.ok, laws_eqStore.ok, laws_eqFlightS.ok, laws_markPolicy.ok, laws_markBelt.ok, laws_markLoop.ok, laws_markStore.ok, laws_markFlightS.ok, laws_markHall.ok, laws_heldHall.ok, trivial⟩
end Go.Proofs.YtpihkhknehadbabGreat.Eng
