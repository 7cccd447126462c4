/- The contracts of the program's functions. By a program of this session. No condition. -/
import Derived.Test.YtpihkhknehadbaaGreatK
import Derived.Test.YtpihkhknehadbaaGreatEFnExactLoadOf1
import Derived.Test.YtpihkhknehadbaaGreatKFnExactHallOk
namespace Go.Proofs.YtpihkhknehadbaaGreat.Eng
open Go.Proofs
set_option linter.unusedVariables false
theorem spec_LoadOf.ok : FnOk Tryz.prog 13 spec_LoadOf.sig := fn_ok (fun k x => spec_LoadOf.eq k x.1 x.2.1) Tryz.func13 tabO_ok mixed (by kernel_rfl) (by kernel_rfl) ⟨spec_HallOk.ok, spec_l01In.ok, trivial⟩
theorem impl_LoadOf.ok : FnOk Tryz.prog 14 impl_LoadOf.sig := fn_ok (fun k x => impl_LoadOf.eq k x.1 x.2.1) Tryz.func14 tabO_ok mixed (by kernel_rfl) (by kernel_rfl) ⟨impl_HallOk.ok, impl_isFlight.ok, trivial⟩
theorem laws_FnExactLoadOf.ok : FnOk Tryz.prog 4 laws_FnExactLoadOf.sig := fn_ok (fun k x => laws_FnExactLoadOf.eq k x.1 x.2.1) Tryz.func4 tabO_ok mixed (by kernel_rfl) (by kernel_rfl) ⟨laws_szHall.ok, laws_toHall.ok, laws_eqHall.ok, spec_LoadOf.ok, impl_LoadOf.ok, trivial⟩
end Go.Proofs.YtpihkhknehadbaaGreat.Eng
