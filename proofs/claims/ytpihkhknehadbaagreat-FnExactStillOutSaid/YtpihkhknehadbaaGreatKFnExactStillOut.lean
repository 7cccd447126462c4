/- The contracts of the program's functions. By a program of this session. No condition. -/
import Derived.Test.YtpihkhknehadbaaGreatK
import Derived.Test.YtpihkhknehadbaaGreatEFnExactStillOut1
import Derived.Test.YtpihkhknehadbaaGreatKFnExactHallOk
import Derived.Test.YtpihkhknehadbaaGreatKFnExactLedgerOf
namespace Go.Proofs.YtpihkhknehadbaaGreat.Eng
open Go.Proofs
set_option linter.unusedVariables false
theorem spec_StillOut.ok : FnOk Tryz.prog 21 spec_StillOut.sig := fn_ok (fun k x => spec_StillOut.eq k x.1 x.2.1) Tryz.func21 tabO_ok mixed (by kernel_rfl) (by kernel_rfl) ⟨spec_HallOk.ok, spec_l01In.ok, trivial⟩
theorem impl_StillOut.ok : FnOk Tryz.prog 22 impl_StillOut.sig := fn_ok (fun k x => impl_StillOut.eq k x.1 x.2.1) Tryz.func22 tabO_ok mixed (by kernel_rfl) (by kernel_rfl) ⟨impl_HallOk.ok, impl_isFlight.ok, trivial⟩
theorem laws_FnExactStillOut.ok : FnOk Tryz.prog 6 laws_FnExactStillOut.sig := fn_ok (fun k x => laws_FnExactStillOut.eq k x.1 x.2.1) Tryz.func6 tabO_ok mixed (by kernel_rfl) (by kernel_rfl) ⟨laws_szHall.ok, laws_toHall.ok, laws_eqHall.ok, laws_eqIntS.ok, laws_markHall.ok, laws_markIntS.ok, laws_heldIntS.ok, spec_StillOut.ok, impl_StillOut.ok, trivial⟩
end Go.Proofs.YtpihkhknehadbaaGreat.Eng
