/- The pure functions are what the evaluator computes of the program's code. By a program of this session. No condition. -/
import Derived.Test.YtpihkhknehadbaaGreatD
import Derived.Test.YtpihkhknehadbaaGreatProg
import Derived.KernelRfl
namespace Go.Proofs.YtpihkhknehadbaaGreat.Eng
open Go.Proofs
set_option linter.unusedVariables false
set_option maxRecDepth 100000 in
theorem impl_areDifferent.eq (k : Nat) (x0 : List (Int × Unit)) : evFn tabO false [(65, .sig slices_Clone_int_int.sig), (137, .sig sortSig), (178, .inl Tryz.f178 [⟨20, [], [⟨.slot 3, ⟨false, 0⟩, (.int .i64)⟩, ⟨.root 0, ⟨false, 2⟩, (.slice K2)⟩]⟩, ⟨9, [], [⟨.slot 3, ⟨false, 0⟩, (.int .i64)⟩]⟩, ⟨19, [], [⟨.root 0, ⟨false, 2⟩, (.slice K2)⟩, ⟨.slot 3, ⟨false, 0⟩, (.int .i64)⟩, ⟨.slot 5, ⟨false, 0⟩, (.int .i64)⟩]⟩])] [] Tryz.f125 impl_areDifferent.sig k (x0, ()) = impl_areDifferent.f k x0 := by kernel_rfl

set_option maxRecDepth 100000 in
theorem impl_LoopOk.eq (k : Nat) (x0 : (List (Int × Unit) × Int × List (Int × Int × List (Int × Unit) × Unit) × List (Int × List (Int × Unit) × Unit) × Unit)) : evFn tabO false [(118, .inl Tryz.f118 []), (122, .sig impl_areIndexes.sig), (123, .sig impl_bagsOf.sig), (124, .inl Tryz.f124 []), (125, .sig impl_areDifferent.sig), (136, .inl Tryz.f136 [⟨5, [], [⟨.slot 8, ⟨false, 0⟩, (.int .i64)⟩]⟩])] [⟨27, [], [⟨.slot 5, ⟨false, 2⟩, (.slice K2)⟩, ⟨.slot 86, ⟨false, 0⟩, (.int .i64)⟩]⟩, ⟨13, [], [⟨.slot 4, ⟨false, 2⟩, (.slice K2)⟩, ⟨.slot 46, ⟨false, 0⟩, (.int .i64)⟩]⟩] Tryz.f58 impl_LoopOk.sig k (x0, ()) = impl_LoopOk.f k x0 := by kernel_rfl

set_option maxRecDepth 100000 in
theorem impl_bagsIn.eq (k : Nat) (x0 : (Int × List (List (Int × Int × Unit) × Unit) × Unit)) : evFn tabO false [] [⟨7, [], [⟨.slot 3, ⟨false, 2⟩, (.slice K2)⟩, ⟨.slot 11, ⟨false, 0⟩, (.int .i64)⟩]⟩, ⟨13, [], [⟨.slot 3, ⟨false, 2⟩, (.slice K2)⟩, ⟨.slot 17, ⟨false, 0⟩, (.int .i64)⟩]⟩] Tryz.f68 impl_bagsIn.sig k (x0, ()) = impl_bagsIn.f k x0 := by kernel_rfl

set_option maxRecDepth 100000 in
theorem impl_StoreOk.eq (k : Nat) (x0 : (Int × List (List (Int × Int × Unit) × Unit) × Unit)) : evFn tabO false [(54, .sig impl_isTick.sig), (68, .sig impl_bagsIn.sig), (125, .sig impl_areDifferent.sig), (126, .inl Tryz.f126 []), (127, .inl Tryz.f127 []), (179, .inl Tryz.f179 [⟨5, [], [⟨.slot 8, ⟨false, 0⟩, (.int .i64)⟩]⟩])] [⟨9, [], [⟨.slot 28, ⟨false, 0⟩, (.int .i64)⟩]⟩, ⟨16, [], []⟩] Tryz.f59 impl_StoreOk.sig k (x0, ()) = impl_StoreOk.f k x0 := by kernel_rfl

set_option maxRecDepth 100000 in
theorem impl_isFrom1.eq (k : Nat) (x0 : Int) (x1 : Int) : evFn tabO false [] [] Tryz.f132 impl_isFrom1.sig k (x0, x1, ()) = impl_isFrom1.f k x0 x1 := by kernel_rfl

set_option maxRecDepth 100000 in
theorem impl_NoteOk.eq (k : Nat) (x0 : (Int × Int × Int × Int × Int × Unit)) : evFn tabO false [(132, .sig impl_isFrom1.sig)] [⟨16, [], [⟨.slot 25, ⟨false, 0⟩, .bool⟩]⟩] Tryz.f128 impl_NoteOk.sig k (x0, ()) = impl_NoteOk.f k x0 := by kernel_rfl

set_option maxRecDepth 100000 in
theorem impl_NotesOk.eq (k : Nat) (x0 : List (Int × Int × Int × Int × Int × Unit)) : evFn tabO false [(128, .sig impl_NoteOk.sig)] [⟨5, [], [⟨.slot 7, ⟨false, 0⟩, (.int .i64)⟩]⟩, ⟨12, [], []⟩] Tryz.f60 impl_NotesOk.sig k (x0, ()) = impl_NotesOk.f k x0 := by kernel_rfl

set_option maxRecDepth 100000 in
theorem impl_areFlights.eq (k : Nat) (x0 : (Int × List (Int × Unit) × Int × Int × Int × Int × Bool × List (Int × Int × Int × Unit) × List (Int × Unit) × Int × List (Int × Int × List (Int × Unit) × Unit) × List (Int × List (Int × Unit) × Unit) × Int × List (List (Int × Int × Unit) × Unit) × List (Int × Int × Int × Int × Int × Unit) × List (Int × Int × Int × Bool × Int × Unit) × List (Int × Int × Int × Int × Int × Int × Int × Int × Int × Int × Unit) × Unit)) : evFn tabO false [(129, .inl Tryz.f129 []), (130, .inl Tryz.f130 []), (180, .inl Tryz.f180 [⟨5, [], [⟨.slot 8, ⟨false, 0⟩, (.int .i64)⟩]⟩, ⟨12, [], []⟩])] [] Tryz.f61 impl_areFlights.sig k (x0, ()) = impl_areFlights.f k x0 := by kernel_rfl

set_option maxRecDepth 100000 in
theorem impl_isFlight.eq (k : Nat) (x0 : (Int × List (Int × Unit) × Int × Int × Int × Int × Bool × List (Int × Int × Int × Unit) × List (Int × Unit) × Int × List (Int × Int × List (Int × Unit) × Unit) × List (Int × List (Int × Unit) × Unit) × Int × List (List (Int × Int × Unit) × Unit) × List (Int × Int × Int × Int × Int × Unit) × List (Int × Int × Int × Bool × Int × Unit) × List (Int × Int × Int × Int × Int × Int × Int × Int × Int × Int × Unit) × Unit)) (x1 : Int) : evFn tabO false [(132, .sig impl_isFrom1.sig)] [] Tryz.f77 impl_isFlight.sig k (x0, x1, ()) = impl_isFlight.f k x0 x1 := by kernel_rfl

set_option maxRecDepth 100000 in
theorem impl_TagOk.eq (k : Nat) (x0 : (Int × Int × Int × Unit)) : evFn tabO false [] [] Tryz.f131 impl_TagOk.sig k (x0, ()) = impl_TagOk.f k x0 := by kernel_rfl

set_option maxRecDepth 100000 in
theorem impl_ScreenOk.eq (k : Nat) (x0 : (Int × Int × Int × Unit)) : evFn tabO false [(54, .sig impl_isTick.sig)] [] Tryz.f133 impl_ScreenOk.sig k (x0, ()) = impl_ScreenOk.f k x0 := by kernel_rfl

set_option maxRecDepth 100000 in
theorem impl_isCase.eq (k : Nat) (x0 : (Int × List (Int × Unit) × Int × Int × Int × Int × Bool × List (Int × Int × Int × Unit) × List (Int × Unit) × Int × List (Int × Int × List (Int × Unit) × Unit) × List (Int × List (Int × Unit) × Unit) × Int × List (List (Int × Int × Unit) × Unit) × List (Int × Int × Int × Int × Int × Unit) × List (Int × Int × Int × Bool × Int × Unit) × List (Int × Int × Int × Int × Int × Int × Int × Int × Int × Int × Unit) × Unit)) (x1 : (Int × Int × Int × Int × Int × Int × Int × Int × Int × Int × Unit)) : evFn tabO false [(77, .sig impl_isFlight.sig), (131, .sig impl_TagOk.sig), (132, .sig impl_isFrom1.sig), (133, .sig impl_ScreenOk.sig)] [⟨26, [], [⟨.slot 59, ⟨false, 0⟩, .bool⟩]⟩] Tryz.f62 impl_isCase.sig k (x0, x1, ()) = impl_isCase.f k x0 x1 := by kernel_rfl

set_option maxRecDepth 100000 in
theorem impl_hasTag.eq (k : Nat) (x0 : List (Int × Int × Int × Int × Int × Int × Int × Int × Int × Int × Unit)) (x1 : (Int × Int × Int × Unit)) : evFn tabO false [(134, .inl Tryz.f134 []), (135, .inl Tryz.f135 []), (181, .inl Tryz.f181 [⟨5, [], [⟨.slot 8, ⟨false, 0⟩, (.int .i64)⟩]⟩])] [] Tryz.f63 impl_hasTag.sig k (x0, x1, ()) = impl_hasTag.f k x0 x1 := by kernel_rfl

set_option maxRecDepth 100000 in
theorem impl_at.eq (k : Nat) (x0 : (Int × List (Int × Unit) × Int × Int × Int × Int × Bool × List (Int × Int × Int × Unit) × List (Int × Unit) × Int × List (Int × Int × List (Int × Unit) × Unit) × List (Int × List (Int × Unit) × Unit) × Int × List (List (Int × Int × Unit) × Unit) × List (Int × Int × Int × Int × Int × Unit) × List (Int × Int × Int × Bool × Int × Unit) × List (Int × Int × Int × Int × Int × Int × Int × Int × Int × Int × Unit) × Unit)) (x1 : Int) : evFn tabO false [] [⟨7, [], [⟨.slot 5, ⟨false, 2⟩, (.slice K2)⟩, ⟨.slot 11, ⟨false, 0⟩, (.int .i64)⟩]⟩, ⟨14, [], [⟨.slot 5, ⟨false, 2⟩, (.slice K2)⟩]⟩] Tryz.f78 impl_at.sig k (x0, x1, ()) = impl_at.f k x0 x1 := by kernel_rfl

end Go.Proofs.YtpihkhknehadbaaGreat.Eng
