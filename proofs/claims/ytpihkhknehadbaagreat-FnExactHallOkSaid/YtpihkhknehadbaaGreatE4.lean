/- The pure functions are what the evaluator computes of the program's code. By a program of this session. No condition. -/
import Derived.Test.YtpihkhknehadbaaGreatD
import Derived.Test.YtpihkhknehadbaaGreatProg
import Derived.KernelRfl
namespace Go.Proofs.YtpihkhknehadbaaGreat.Eng
open Go.Proofs
set_option linter.unusedVariables false
set_option maxRecDepth 100000 in
theorem slices_Equal_int_int.eq (k : Nat) (x0 : List (Int × Unit)) (x1 : List (Int × Unit)) : evFn tabO false [] [⟨9, [], [⟨.slot 13, ⟨false, 0⟩, (.int .i64)⟩]⟩] Tryz.f138 slices_Equal_int_int.sig k (x0, x1, ()) = slices_Equal_int_int.f k x0 x1 := by kernel_rfl

set_option maxRecDepth 100000 in
theorem impl_areBags.eq (k : Nat) (x0 : (Int × List (Int × Unit) × Int × Int × Int × Int × Bool × List (Int × Int × Int × Unit) × List (Int × Unit) × Int × List (Int × Int × List (Int × Unit) × Unit) × List (Int × List (Int × Unit) × Unit) × Int × List (List (Int × Int × Unit) × Unit) × List (Int × Int × Int × Int × Int × Unit) × List (Int × Int × Int × Bool × Int × Unit) × List (Int × Int × Int × Int × Int × Int × Int × Int × Int × Int × Unit) × Unit)) (x1 : Int) (x2 : List (Int × Unit)) : evFn tabO false [(78, .sig impl_at.sig), (137, .sig sortSig), (138, .sig slices_Equal_int_int.sig)] [] Tryz.f67 impl_areBags.sig k (x0, x1, x2, ()) = impl_areBags.f k x0 x1 x2 := by kernel_rfl

set_option maxRecDepth 100000 in
theorem impl_HallOk.eq (k : Nat) (x0 : (Int × List (Int × Unit) × Int × Int × Int × Int × Bool × List (Int × Int × Int × Unit) × List (Int × Unit) × Int × List (Int × Int × List (Int × Unit) × Unit) × List (Int × List (Int × Unit) × Unit) × Int × List (List (Int × Int × Unit) × Unit) × List (Int × Int × Int × Int × Int × Unit) × List (Int × Int × Int × Bool × Int × Unit) × List (Int × Int × Int × Int × Int × Int × Int × Int × Int × Int × Unit) × Unit)) : evFn tabO false [(54, .sig impl_isTick.sig), (55, .sig impl_PolicyOk.sig), (56, .sig impl_LimitsOk.sig), (57, .sig impl_BeltOk.sig), (58, .sig impl_LoopOk.sig), (59, .sig impl_StoreOk.sig), (60, .sig impl_NotesOk.sig), (61, .sig impl_areFlights.sig), (62, .sig impl_isCase.sig), (63, .sig impl_hasTag.sig), (64, .inl Tryz.f64 [⟨11, [], [⟨.root 3, ⟨false, 2⟩, (.slice K2)⟩, ⟨.slot 5, ⟨false, 0⟩, (.int .i64)⟩, ⟨.slot 6, ⟨false, 0⟩, (.int .i64)⟩]⟩, ⟨12, [], [⟨.slot 5, ⟨false, 0⟩, (.int .i64)⟩, ⟨.root 3, ⟨false, 2⟩, (.slice K2)⟩]⟩]), (65, .sig slices_Clone_int_int.sig), (66, .inl Tryz.f66 []), (67, .sig impl_areBags.sig), (68, .sig impl_bagsIn.sig), (136, .inl Tryz.f136 [⟨5, [], [⟨.slot 8, ⟨false, 0⟩, (.int .i64)⟩]⟩])] [⟨27, [], [⟨.slot 5, ⟨false, 2⟩, (.slice K2)⟩, ⟨.slot 87, ⟨false, 0⟩, (.int .i64)⟩]⟩, ⟨37, [], [⟨.slot 6, ⟨false, 2⟩, (.slice K2)⟩, ⟨.slot 101, ⟨false, 0⟩, (.int .i64)⟩]⟩, ⟨13, [], [⟨.slot 64, ⟨false, 0⟩, (.int .i64)⟩]⟩] Tryz.f11 impl_HallOk.sig k (x0, ()) = impl_HallOk.f k x0 := by kernel_rfl

end Go.Proofs.YtpihkhknehadbaaGreat.Eng
