/- The pure functions are what the evaluator computes of the program's code. By a program of this session. No condition. -/
import Derived.Test.YtpihkhknehadbabGreatDFnExactNewHall
import Derived.Test.YtpihkhknehadbabGreatProg
import Derived.KernelRfl
namespace Go.Proofs.YtpihkhknehadbabGreat.Eng
open Go.Proofs
set_option linter.unusedVariables false
set_option maxRecDepth 100000 in
theorem laws_FnExactNewHall.eq (k : Nat) (x0 : (List (Int × Unit) × Unit)) (x1 : (Int × Int × Unit)) (x2 : (Int × Int × Bool × List (Int × Int × Int × Unit) × Unit)) (x3 : (List (Int × Unit) × Int × List (Int × Int × List (Int × Unit) × Unit) × List (Int × List (Int × Unit) × Unit) × Unit)) (x4 : (Int × List (List (Int × Int × Unit) × Unit) × Unit)) (x5 : List (Int × Int × Int × Bool × Int × Unit)) : evFn tabO false [(4, .sig laws_szPolicy.sig), (5, .sig laws_szBelt.sig), (6, .sig laws_szLoop.sig), (7, .sig laws_szStore.sig), (8, .sig laws_szFlightS.sig), (9, .sig spec_NewHall.sig), (10, .sig laws_toPolicy.sig), (11, .sig laws_toLimits.sig), (12, .sig laws_toBelt.sig), (13, .sig laws_toLoop.sig), (14, .sig laws_toStore.sig), (15, .sig laws_toFlightS.sig), (16, .sig impl_NewHall.sig), (17, .sig laws_eqHall.sig), (18, .sig laws_eqPolicy.sig), (19, .sig laws_eqBelt.sig), (20, .sig laws_eqLoop.sig), (21, .sig laws_eqStore.sig), (22, .sig laws_eqFlightS.sig), (23, .sig laws_markPolicy.sig), (24, .sig laws_markBelt.sig), (25, .sig laws_markLoop.sig), (26, .sig laws_markStore.sig), (27, .sig laws_markFlightS.sig), (28, .sig laws_markHall.sig), (29, .sig laws_heldHall.sig)] [⟨36, [], [⟨.slot 14, ⟨true, 2⟩, K58⟩, ⟨.slot 15, ⟨false, 0⟩, .bool⟩]⟩, ⟨48, [], [⟨.slot 21, ⟨true, 2⟩, K58⟩, ⟨.slot 22, ⟨false, 0⟩, .bool⟩]⟩, ⟨106, [], [⟨.slot 26, ⟨true, 2⟩, K58⟩, ⟨.slot 27, ⟨false, 0⟩, .bool⟩]⟩] Tryz.f3 laws_FnExactNewHall.sig k (x0, x1, x2, x3, x4, x5, ()) = laws_FnExactNewHall.f k x0 x1 x2 x3 x4 x5 := by kernel_rfl

end Go.Proofs.YtpihkhknehadbabGreat.Eng
