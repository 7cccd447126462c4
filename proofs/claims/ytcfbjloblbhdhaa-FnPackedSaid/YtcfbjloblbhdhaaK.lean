/- The contracts of the program's functions. By a program of this session. No condition. -/
import Derived.Test.YtcfbjloblbhdhaaEngD
import Derived.Test.YtcfbjloblbhdhaaShelf
import Derived.Test.YtcfbjloblbhdhaaE1
namespace Go.Proofs.Ytcfbjloblbhdhaa.Eng
open Go.Proofs
set_option linter.unusedVariables false
theorem mixed : Try.prog.follows .mixedOrders = true := by kernel_rfl
set_option maxRecDepth 100000 in
theorem tabO_ok : TabOk Try.prog tabO := tabB_ok (by kernel_rfl)
set_option maxRecDepth 100000 in
theorem tabR_ok : TabOk Try.prog tabR := tabB_ok (by kernel_rfl)
theorem slices_Sort_int_int.ok : FnOk Try.prog 102 sortSig := sort_ok ⟨Try.f102, Try.func102, by kernel_rfl, by kernel_rfl⟩ (fun blk off cap zs w h1 h2 h3 => Try.slices_Sort_int blk off cap zs w h1 h2 h3) Try.slices_Sort_int_none
theorem spec_l01In.ok : FnOk Try.prog 61 spec_l01In.sig := fn_ok (fun k x => spec_l01In.eq k x.1 x.2.1 x.2.2.1) Try.func61 tabO_ok mixed (by kernel_rfl) (by kernel_rfl) trivial
end Go.Proofs.Ytcfbjloblbhdhaa.Eng
