/- The pure functions are what the evaluator computes of the program's code. By a program of this session. No condition. -/
import Derived.Test.YtpihkhknehadbaaGreatD
import Derived.Test.YtpihkhknehadbaaGreatProg
import Derived.KernelRfl
namespace Go.Proofs.YtpihkhknehadbaaGreat.Eng
open Go.Proofs
set_option linter.unusedVariables false
set_option maxRecDepth 100000 in
theorem impl_areFlights.eq (k : Nat) (x0 : (Int × List (Int × Unit) × Int × Int × Int × Int × Bool × List (Int × Int × Int × Unit) × List (Int × Unit) × Int × List (Int × Int × List (Int × Unit) × Unit) × List (Int × List (Int × Unit) × Unit) × Int × List (List (Int × Int × Unit) × Unit) × List (Int × Int × Int × Int × Int × Unit) × List (Int × Int × Int × Bool × Int × Unit) × List (Int × Int × Int × Int × Int × Int × Int × Int × Int × Int × Unit) × Unit)) : evFn tabO false [(129, .inl Tryz.f129 []), (130, .inl Tryz.f130 []), (180, .inl Tryz.f180 [⟨5, [], [⟨.slot 8, ⟨false, 0⟩, (.int .i64)⟩]⟩, ⟨12, [], []⟩])] [] Tryz.f61 impl_areFlights.sig k (x0, ()) = impl_areFlights.f k x0 := by kernel_rfl

set_option maxRecDepth 100000 in
theorem impl_isFlight.eq (k : Nat) (x0 : (Int × List (Int × Unit) × Int × Int × Int × Int × Bool × List (Int × Int × Int × Unit) × List (Int × Unit) × Int × List (Int × Int × List (Int × Unit) × Unit) × List (Int × List (Int × Unit) × Unit) × Int × List (List (Int × Int × Unit) × Unit) × List (Int × Int × Int × Int × Int × Unit) × List (Int × Int × Int × Bool × Int × Unit) × List (Int × Int × Int × Int × Int × Int × Int × Int × Int × Int × Unit) × Unit)) (x1 : Int) : evFn tabO false [(132, .sig impl_isFrom1.sig)] [] Tryz.f77 impl_isFlight.sig k (x0, x1, ()) = impl_isFlight.f k x0 x1 := by kernel_rfl

set_option maxRecDepth 100000 in
theorem impl_TagOk.eq (k : Nat) (x0 : (Int × Int × Int × Unit)) : evFn tabO false [] [] Tryz.f131 impl_TagOk.sig k (x0, ()) = impl_TagOk.f k x0 := by kernel_rfl

set_option maxRecDepth 100000 in
theorem impl_ScreenOk.eq (k : Nat) (x0 : (Int × Int × Int × Unit)) : evFn tabO false [(54, .sig impl_isTick.sig)] [] Tryz.f133 impl_ScreenOk.sig k (x0, ()) = impl_ScreenOk.f k x0 := by kernel_rfl

set_option maxRecDepth 100000 in
theorem impl_isCase.eq (k : Nat) (x0 : (Int × List (Int × Unit) × Int × Int × Int × Int × Bool × List (Int × Int × Int × Unit) × List (Int × Unit) × Int × List (Int × Int × List (Int × Unit) × Unit) × List (Int × List (Int × Unit) × Unit) × Int × List (List (Int × Int × Unit) × Unit) × List (Int × Int × Int × Int × Int × Unit) × List (Int × Int × Int × Bool × Int × Unit) × List (Int × Int × Int × Int × Int × Int × Int × Int × Int × Int × Unit) × Unit)) (x1 : (Int × Int × Int × Int × Int × Int × Int × Int × Int × Int × Unit)) : evFn tabO false [(77, .sig impl_isFlight.sig), (131, .sig impl_TagOk.sig), (132, .sig impl_isFrom1.sig), (133, .sig impl_ScreenOk.sig)] [⟨26, [], [⟨.slot 59, ⟨false, 0⟩, .bool⟩]⟩] Tryz.f62 impl_isCase.sig k (x0, x1, ()) = impl_isCase.f k x0 x1 := by kernel_rfl

set_option maxRecDepth 100000 in
theorem impl_hasTag.eq (k : Nat) (x0 : List (Int × Int × Int × Int × Int × Int × Int × Int × Int × Int × Unit)) (x1 : (Int × Int × Int × Unit)) : evFn tabO false [(134, .inl Tryz.f134 []), (135, .inl Tryz.f135 []), (181, .inl Tryz.f181 [⟨5, [], [⟨.slot 8, ⟨false, 0⟩, (.int .i64)⟩]⟩])] [] Tryz.f63 impl_hasTag.sig k (x0, x1, ()) = impl_hasTag.f k x0 x1 := by kernel_rfl

set_option maxRecDepth 100000 in
theorem impl_at.eq (k : Nat) (x0 : (Int × List (Int × Unit) × Int × Int × Int × Int × Bool × List (Int × Int × Int × Unit) × List (Int × Unit) × Int × List (Int × Int × List (Int × Unit) × Unit) × List (Int × List (Int × Unit) × Unit) × Int × List (List (Int × Int × Unit) × Unit) × List (Int × Int × Int × Int × Int × Unit) × List (Int × Int × Int × Bool × Int × Unit) × List (Int × Int × Int × Int × Int × Int × Int × Int × Int × Int × Unit) × Unit)) (x1 : Int) : evFn tabO false [] [⟨7, [], [⟨.slot 5, ⟨false, 2⟩, (.slice K2)⟩, ⟨.slot 11, ⟨false, 0⟩, (.int .i64)⟩]⟩, ⟨14, [], [⟨.slot 5, ⟨false, 2⟩, (.slice K2)⟩]⟩] Tryz.f78 impl_at.sig k (x0, x1, ()) = impl_at.f k x0 x1 := by kernel_rfl

set_option maxRecDepth 100000 in
theorem slices_Equal_int_int.eq (k : Nat) (x0 : List (Int × Unit)) (x1 : List (Int × Unit)) : evFn tabO false [] [⟨9, [], [⟨.slot 13, ⟨false, 0⟩, (.int .i64)⟩]⟩] Tryz.f138 slices_Equal_int_int.sig k (x0, x1, ()) = slices_Equal_int_int.f k x0 x1 := by kernel_rfl

set_option maxRecDepth 100000 in
theorem impl_areBags.eq (k : Nat) (x0 : (Int × List (Int × Unit) × Int × Int × Int × Int × Bool × List (Int × Int × Int × Unit) × List (Int × Unit) × Int × List (Int × Int × List (Int × Unit) × Unit) × List (Int × List (Int × Unit) × Unit) × Int × List (List (Int × Int × Unit) × Unit) × List (Int × Int × Int × Int × Int × Unit) × List (Int × Int × Int × Bool × Int × Unit) × List (Int × Int × Int × Int × Int × Int × Int × Int × Int × Int × Unit) × Unit)) (x1 : Int) (x2 : List (Int × Unit)) : evFn tabO false [(78, .sig impl_at.sig), (137, .sig sortSig), (138, .sig slices_Equal_int_int.sig)] [] Tryz.f67 impl_areBags.sig k (x0, x1, x2, ()) = impl_areBags.f k x0 x1 x2 := by kernel_rfl

set_option maxRecDepth 100000 in
theorem impl_HallOk.eq (k : Nat) (x0 : (Int × List (Int × Unit) × Int × Int × Int × Int × Bool × List (Int × Int × Int × Unit) × List (Int × Unit) × Int × List (Int × Int × List (Int × Unit) × Unit) × List (Int × List (Int × Unit) × Unit) × Int × List (List (Int × Int × Unit) × Unit) × List (Int × Int × Int × Int × Int × Unit) × List (Int × Int × Int × Bool × Int × Unit) × List (Int × Int × Int × Int × Int × Int × Int × Int × Int × Int × Unit) × Unit)) : evFn tabO false [(54, .sig impl_isTick.sig), (55, .sig impl_PolicyOk.sig), (56, .sig impl_LimitsOk.sig), (57, .sig impl_BeltOk.sig), (58, .sig impl_LoopOk.sig), (59, .sig impl_StoreOk.sig), (60, .sig impl_NotesOk.sig), (61, .sig impl_areFlights.sig), (62, .sig impl_isCase.sig), (63, .sig impl_hasTag.sig), (64, .inl Tryz.f64 [⟨11, [], [⟨.root 3, ⟨false, 2⟩, (.slice K2)⟩, ⟨.slot 5, ⟨false, 0⟩, (.int .i64)⟩, ⟨.slot 6, ⟨false, 0⟩, (.int .i64)⟩]⟩, ⟨12, [], [⟨.slot 5, ⟨false, 0⟩, (.int .i64)⟩, ⟨.root 3, ⟨false, 2⟩, (.slice K2)⟩]⟩]), (65, .sig slices_Clone_int_int.sig), (66, .inl Tryz.f66 []), (67, .sig impl_areBags.sig), (68, .sig impl_bagsIn.sig), (136, .inl Tryz.f136 [⟨5, [], [⟨.slot 8, ⟨false, 0⟩, (.int .i64)⟩]⟩])] [⟨27, [], [⟨.slot 5, ⟨false, 2⟩, (.slice K2)⟩, ⟨.slot 87, ⟨false, 0⟩, (.int .i64)⟩]⟩, ⟨37, [], [⟨.slot 6, ⟨false, 2⟩, (.slice K2)⟩, ⟨.slot 101, ⟨false, 0⟩, (.int .i64)⟩]⟩, ⟨13, [], [⟨.slot 64, ⟨false, 0⟩, (.int .i64)⟩]⟩] Tryz.f11 impl_HallOk.sig k (x0, ()) = impl_HallOk.f k x0 := by kernel_rfl

end Go.Proofs.YtpihkhknehadbaaGreat.Eng
