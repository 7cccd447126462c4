/- The pure functions are what the evaluator computes of the program's code. By a program of this session. No condition. -/
import Derived.Test.YtpihkhknehadbaaGreatDFnExactStillOut
import Derived.Test.YtpihkhknehadbaaGreatProg
import Derived.KernelRfl
namespace Go.Proofs.YtpihkhknehadbaaGreat.Eng
open Go.Proofs
set_option linter.unusedVariables false
set_option maxRecDepth 100000 in
theorem spec_StillOut.eq (k : Nat) (x0 : (Int × List (Int × Unit) × Int × Int × Int × Int × Bool × List (Int × Int × Int × Unit) × List (Int × Unit) × Int × List (Int × Int × List (Int × Unit) × Unit) × List (Int × List (Int × Unit) × Unit) × Int × List (List (Int × Int × Unit) × Unit) × List (Int × Int × Int × Int × Int × Unit) × List (Int × Int × Int × Bool × Int × Unit) × List (Int × Int × Int × Int × Int × Int × Int × Int × Int × Int × Unit) × Unit)) (x1 : Int) : evFn tabO false [(9, .sig spec_HallOk.sig), (37, .sig spec_l01In.sig)] [⟨11, [], [⟨.slot 5, ⟨false, 2⟩, (.slice K2)⟩, ⟨.slot 6, ⟨false, 0⟩, (.int .i64)⟩]⟩, ⟨12, [], [⟨.slot 5, ⟨false, 2⟩, (.slice K2)⟩]⟩] Tryz.f21 spec_StillOut.sig k (x0, x1, ()) = spec_StillOut.f k x0 x1 := by kernel_rfl

set_option maxRecDepth 100000 in
theorem impl_StillOut.eq (k : Nat) (x0 : (Int × List (Int × Unit) × Int × Int × Int × Int × Bool × List (Int × Int × Int × Unit) × List (Int × Unit) × Int × List (Int × Int × List (Int × Unit) × Unit) × List (Int × List (Int × Unit) × Unit) × Int × List (List (Int × Int × Unit) × Unit) × List (Int × Int × Int × Int × Int × Unit) × List (Int × Int × Int × Bool × Int × Unit) × List (Int × Int × Int × Int × Int × Int × Int × Int × Int × Int × Unit) × Unit)) (x1 : Int) : evFn tabO false [(11, .sig impl_HallOk.sig), (77, .sig impl_isFlight.sig)] [⟨11, [], [⟨.slot 5, ⟨false, 2⟩, (.slice K2)⟩, ⟨.slot 20, ⟨false, 0⟩, (.int .i64)⟩]⟩, ⟨18, [], [⟨.slot 5, ⟨false, 2⟩, (.slice K2)⟩]⟩] Tryz.f22 impl_StillOut.sig k (x0, x1, ()) = impl_StillOut.f k x0 x1 := by kernel_rfl

set_option maxRecDepth 100000 in
theorem laws_FnExactStillOut.eq (k : Nat) (x0 : (Int × List (Int × Unit) × Int × Int × Int × Int × Bool × List (Int × Int × Int × Unit) × List (Int × Unit) × Int × List (Int × Int × List (Int × Unit) × Unit) × List (Int × List (Int × Unit) × Unit) × Int × List (List (Int × Int × Unit) × Unit) × List (Int × Int × Int × Int × Int × Unit) × List (Int × Int × Int × Bool × Int × Unit) × List (Int × Int × Int × Int × Int × Int × Int × Int × Int × Int × Unit) × Unit)) (x1 : Int) : evFn tabO false [(8, .sig laws_szHall.sig), (10, .sig laws_toHall.sig), (12, .sig laws_eqHall.sig), (17, .sig laws_eqIntS.sig), (18, .sig laws_markHall.sig), (19, .sig laws_markIntS.sig), (20, .sig laws_heldIntS.sig), (21, .sig spec_StillOut.sig), (22, .sig impl_StillOut.sig)] [] Tryz.f6 laws_FnExactStillOut.sig k (x0, x1, ()) = laws_FnExactStillOut.f k x0 x1 := by kernel_rfl

end Go.Proofs.YtpihkhknehadbaaGreat.Eng
