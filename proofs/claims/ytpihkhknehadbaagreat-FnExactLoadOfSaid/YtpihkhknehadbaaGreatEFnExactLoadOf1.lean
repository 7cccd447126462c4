/- The pure functions are what the evaluator computes of the program's code. By a program of this session. No condition. -/
import Derived.Test.YtpihkhknehadbaaGreatDFnExactLoadOf
import Derived.Test.YtpihkhknehadbaaGreatProg
import Derived.KernelRfl
namespace Go.Proofs.YtpihkhknehadbaaGreat.Eng
open Go.Proofs
set_option linter.unusedVariables false
set_option maxRecDepth 100000 in
theorem spec_LoadOf.eq (k : Nat) (x0 : (Int × List (Int × Unit) × Int × Int × Int × Int × Bool × List (Int × Int × Int × Unit) × List (Int × Unit) × Int × List (Int × Int × List (Int × Unit) × Unit) × List (Int × List (Int × Unit) × Unit) × Int × List (List (Int × Int × Unit) × Unit) × List (Int × Int × Int × Int × Int × Unit) × List (Int × Int × Int × Bool × Int × Unit) × List (Int × Int × Int × Int × Int × Int × Int × Int × Int × Int × Unit) × Unit)) (x1 : Int) : evFn tabO false [(9, .sig spec_HallOk.sig), (37, .sig spec_l01In.sig)] [⟨11, [], [⟨.slot 5, ⟨false, 0⟩, (.int .i64)⟩, ⟨.slot 6, ⟨false, 0⟩, (.int .i64)⟩]⟩, ⟨12, [], [⟨.slot 5, ⟨false, 0⟩, (.int .i64)⟩]⟩] Tryz.f13 spec_LoadOf.sig k (x0, x1, ()) = spec_LoadOf.f k x0 x1 := by kernel_rfl

set_option maxRecDepth 100000 in
theorem impl_LoadOf.eq (k : Nat) (x0 : (Int × List (Int × Unit) × Int × Int × Int × Int × Bool × List (Int × Int × Int × Unit) × List (Int × Unit) × Int × List (Int × Int × List (Int × Unit) × Unit) × List (Int × List (Int × Unit) × Unit) × Int × List (List (Int × Int × Unit) × Unit) × List (Int × Int × Int × Int × Int × Unit) × List (Int × Int × Int × Bool × Int × Unit) × List (Int × Int × Int × Int × Int × Int × Int × Int × Int × Int × Unit) × Unit)) (x1 : Int) : evFn tabO false [(11, .sig impl_HallOk.sig), (77, .sig impl_isFlight.sig)] [⟨11, [], [⟨.slot 5, ⟨false, 0⟩, (.int .i64)⟩, ⟨.slot 20, ⟨false, 0⟩, (.int .i64)⟩]⟩, ⟨18, [], [⟨.slot 5, ⟨false, 0⟩, (.int .i64)⟩]⟩] Tryz.f14 impl_LoadOf.sig k (x0, x1, ()) = impl_LoadOf.f k x0 x1 := by kernel_rfl

set_option maxRecDepth 100000 in
theorem laws_FnExactLoadOf.eq (k : Nat) (x0 : (Int × List (Int × Unit) × Int × Int × Int × Int × Bool × List (Int × Int × Int × Unit) × List (Int × Unit) × Int × List (Int × Int × List (Int × Unit) × Unit) × List (Int × List (Int × Unit) × Unit) × Int × List (List (Int × Int × Unit) × Unit) × List (Int × Int × Int × Int × Int × Unit) × List (Int × Int × Int × Bool × Int × Unit) × List (Int × Int × Int × Int × Int × Int × Int × Int × Int × Int × Unit) × Unit)) (x1 : Int) : evFn tabO false [(8, .sig laws_szHall.sig), (10, .sig laws_toHall.sig), (12, .sig laws_eqHall.sig), (13, .sig spec_LoadOf.sig), (14, .sig impl_LoadOf.sig)] [] Tryz.f4 laws_FnExactLoadOf.sig k (x0, x1, ()) = laws_FnExactLoadOf.f k x0 x1 := by kernel_rfl

end Go.Proofs.YtpihkhknehadbaaGreat.Eng
