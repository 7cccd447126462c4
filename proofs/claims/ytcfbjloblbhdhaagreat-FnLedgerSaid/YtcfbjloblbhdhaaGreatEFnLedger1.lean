/- The pure functions are what the evaluator computes of the program's code. By a program of this session. No condition. -/
import Derived.Test.YtcfbjloblbhdhaaGreatDFnLedger
import Derived.Test.YtcfbjloblbhdhaaGreatProg
import Derived.KernelRfl
namespace Go.Proofs.YtcfbjloblbhdhaaGreat.Eng
open Go.Proofs
set_option linter.unusedVariables false
set_option maxRecDepth 100000 in
theorem laws_FnLedger.eq (k:Nat) (x0:List (Int×Unit)):evFn tabO false [(5,.sig laws_big.sig),(6,.sig spec_DrawHall.sig),(7,.sig impl_LedgerOf.sig),(8,.sig laws_sameInts.sig),(9,.sig spec_LedgerOf.sig),(10,.sig spec_DrawNewHall.sig),(11,.sig impl_NewHall.sig),(12,.sig spec_NewHall.sig),(13,.sig laws_sameHall.sig)] [⟨25,[],[⟨.slot 4,⟨false,0⟩,(.int .i64)⟩,⟨.slot 7,⟨false,0⟩,(.int .i64)⟩]⟩,⟨26,[],[⟨.slot 4,⟨false,0⟩,(.int .i64)⟩]⟩,⟨13,[],[⟨.slot 4,⟨false,0⟩,(.int .i64)⟩,⟨.slot 5,⟨false,0⟩,(.int .i64)⟩]⟩] Tryz.f3 laws_FnLedger.sig k (x0,())=laws_FnLedger.f k x0:=by kernel_rfl
end Go.Proofs.YtcfbjloblbhdhaaGreat.Eng
