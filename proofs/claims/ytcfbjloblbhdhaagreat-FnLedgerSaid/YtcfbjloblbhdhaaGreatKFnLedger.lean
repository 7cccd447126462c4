/- The contracts of the program's functions. By a program of this session. No condition. -/
import Derived.Test.YtcfbjloblbhdhaaGreatK
import Derived.Test.YtcfbjloblbhdhaaGreatEFnLedger1
namespace Go.Proofs.YtcfbjloblbhdhaaGreat.Eng
open Go.Proofs
set_option linter.unusedVariables false
theorem laws_FnLedger.ok:FnOk Tryz.prog 3 laws_FnLedger.sig:=fn_ok (fun k x=>laws_FnLedger.eq k x.1) Tryz.func3 tabO_ok mixed (by kernel_rfl) (by kernel_rfl) ⟨laws_big.ok,spec_DrawHall.ok,impl_LedgerOf.ok,laws_sameInts.ok,spec_LedgerOf.ok,spec_DrawNewHall.ok,impl_NewHall.ok,spec_NewHall.ok,laws_sameHall.ok,trivial⟩
end Go.Proofs.YtcfbjloblbhdhaaGreat.Eng
