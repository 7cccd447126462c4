/- The pure functions are what the evaluator computes of the program's code. By a program of this session. No condition. -/
import Derived.Test.YtpihkhknehadbaaGreatD
import Derived.Test.YtpihkhknehadbaaGreatProg
import Derived.KernelRfl
namespace Go.Proofs.YtpihkhknehadbaaGreat.Eng
open Go.Proofs
set_option linter.unusedVariables false
set_option maxRecDepth 100000 in
theorem spec_l01In.eq (k : Nat) (x0 : Int) (x1 : Int) (x2 : Int) : evFn tabO false [] [] Tryz.f37 spec_l01In.sig k (x0, x1, x2, ()) = spec_l01In.f k x0 x1 x2 := by kernel_rfl

set_option maxRecDepth 100000 in
theorem spec_PolicyOk.eq (k : Nat) (x0 : (List (Int × Unit) × Unit)) : evFn tabO false [(37, .sig spec_l01In.sig)] [⟨9, [], [⟨.slot 3, ⟨false, 0⟩, (.int .i64)⟩]⟩] Tryz.f38 spec_PolicyOk.sig k (x0, ()) = spec_PolicyOk.f k x0 := by kernel_rfl

set_option maxRecDepth 100000 in
theorem spec_LimitsOk.eq (k : Nat) (x0 : (Int × Int × Unit)) : evFn tabO false [(37, .sig spec_l01In.sig)] [] Tryz.f39 spec_LimitsOk.sig k (x0, ()) = spec_LimitsOk.f k x0 := by kernel_rfl

set_option maxRecDepth 100000 in
theorem spec_BeltOk.eq (k : Nat) (x0 : (Int × Int × Bool × List (Int × Int × Int × Unit) × Unit)) : evFn tabO false [(37, .sig spec_l01In.sig)] [⟨21, [], [⟨.slot 5, ⟨false, 0⟩, (.int .i64)⟩]⟩, ⟨9, [], [⟨.slot 3, ⟨false, 0⟩, (.int .i64)⟩]⟩, ⟨10, [], []⟩] Tryz.f40 spec_BeltOk.sig k (x0, ()) = spec_BeltOk.f k x0 := by kernel_rfl

set_option maxRecDepth 100000 in
theorem spec_l03Has.eq (k : Nat) (x0 : List (Int × Unit)) (x1 : Int) : evFn tabO false [] [⟨5, [], [⟨.slot 5, ⟨false, 0⟩, (.int .i64)⟩]⟩] Tryz.f103 spec_l03Has.sig k (x0, x1, ()) = spec_l03Has.f k x0 x1 := by kernel_rfl

set_option maxRecDepth 100000 in
theorem spec_LoopOk.eq (k : Nat) (x0 : (List (Int × Unit) × Int × List (Int × Int × List (Int × Unit) × Unit) × List (Int × List (Int × Unit) × Unit) × Unit)) : evFn tabO false [(37, .sig spec_l01In.sig), (103, .sig spec_l03Has.sig)] [⟨23, [], [⟨.slot 4, ⟨false, 2⟩, (.slice K2)⟩, ⟨.slot 6, ⟨false, 0⟩, (.int .i64)⟩]⟩, ⟨35, [], [⟨.slot 8, ⟨false, 0⟩, (.int .i64)⟩]⟩, ⟨47, [], [⟨.slot 9, ⟨false, 0⟩, (.int .i64)⟩]⟩, ⟨57, [], [⟨.slot 10, ⟨false, 0⟩, (.int .i64)⟩]⟩, ⟨69, [], [⟨.slot 12, ⟨false, 0⟩, (.int .i64)⟩]⟩, ⟨79, [], [⟨.slot 13, ⟨false, 0⟩, (.int .i64)⟩]⟩, ⟨80, [], []⟩, ⟨13, [], [⟨.slot 4, ⟨false, 2⟩, (.slice K2)⟩, ⟨.slot 5, ⟨false, 0⟩, (.int .i64)⟩]⟩, ⟨14, [], [⟨.slot 4, ⟨false, 2⟩, (.slice K2)⟩]⟩] Tryz.f41 spec_LoopOk.sig k (x0, ()) = spec_LoopOk.f k x0 := by kernel_rfl

set_option maxRecDepth 100000 in
theorem spec_StoreOk.eq (k : Nat) (x0 : (Int × List (List (Int × Int × Unit) × Unit) × Unit)) : evFn tabO false [(37, .sig spec_l01In.sig), (103, .sig spec_l03Has.sig)] [⟨21, [], [⟨.slot 3, ⟨false, 2⟩, (.slice K2)⟩, ⟨.slot 5, ⟨false, 0⟩, (.int .i64)⟩]⟩, ⟨11, [], [⟨.slot 3, ⟨false, 2⟩, (.slice K2)⟩, ⟨.slot 4, ⟨false, 0⟩, (.int .i64)⟩]⟩] Tryz.f42 spec_StoreOk.sig k (x0, ()) = spec_StoreOk.f k x0 := by kernel_rfl

set_option maxRecDepth 100000 in
theorem spec_NoteOk.eq (k : Nat) (x0 : (Int × Int × Int × Int × Int × Unit)) : evFn tabO false [(37, .sig spec_l01In.sig)] [⟨10, [], []⟩] Tryz.f104 spec_NoteOk.sig k (x0, ()) = spec_NoteOk.f k x0 := by kernel_rfl

set_option maxRecDepth 100000 in
theorem spec_NotesOk.eq (k : Nat) (x0 : List (Int × Int × Int × Int × Int × Unit)) : evFn tabO false [(104, .sig spec_NoteOk.sig)] [⟨9, [], [⟨.slot 3, ⟨false, 0⟩, (.int .i64)⟩]⟩, ⟨10, [], []⟩] Tryz.f43 spec_NotesOk.sig k (x0, ()) = spec_NotesOk.f k x0 := by kernel_rfl

set_option maxRecDepth 100000 in
theorem spec_l09FlightOk.eq (k : Nat) (x0 : (Int × List (Int × Unit) × Int × Int × Int × Int × Bool × List (Int × Int × Int × Unit) × List (Int × Unit) × Int × List (Int × Int × List (Int × Unit) × Unit) × List (Int × List (Int × Unit) × Unit) × Int × List (List (Int × Int × Unit) × Unit) × List (Int × Int × Int × Int × Int × Unit) × List (Int × Int × Int × Bool × Int × Unit) × List (Int × Int × Int × Int × Int × Int × Int × Int × Int × Int × Unit) × Unit)) (x1 : (Int × Int × Int × Bool × Int × Unit)) : evFn tabO false [(37, .sig spec_l01In.sig)] [] Tryz.f44 spec_l09FlightOk.sig k (x0, x1, ()) = spec_l09FlightOk.f k x0 x1 := by kernel_rfl

set_option maxRecDepth 100000 in
theorem spec_TagOk.eq (k : Nat) (x0 : (Int × Int × Int × Unit)) : evFn tabO false [(37, .sig spec_l01In.sig)] [] Tryz.f105 spec_TagOk.sig k (x0, ()) = spec_TagOk.f k x0 := by kernel_rfl

set_option maxRecDepth 100000 in
theorem spec_ScreenOk.eq (k : Nat) (x0 : (Int × Int × Int × Unit)) : evFn tabO false [(37, .sig spec_l01In.sig)] [] Tryz.f106 spec_ScreenOk.sig k (x0, ()) = spec_ScreenOk.f k x0 := by kernel_rfl

set_option maxRecDepth 100000 in
theorem spec_l09OnBelt.eq (k : Nat) (x0 : (Int × List (Int × Unit) × Int × Int × Int × Int × Bool × List (Int × Int × Int × Unit) × List (Int × Unit) × Int × List (Int × Int × List (Int × Unit) × Unit) × List (Int × List (Int × Unit) × Unit) × Int × List (List (Int × Int × Unit) × Unit) × List (Int × Int × Int × Int × Int × Unit) × List (Int × Int × Int × Bool × Int × Unit) × List (Int × Int × Int × Int × Int × Int × Int × Int × Int × Int × Unit) × Unit)) (x1 : Int) : evFn tabO false [] [⟨5, [], [⟨.slot 5, ⟨false, 0⟩, (.int .i64)⟩]⟩] Tryz.f107 spec_l09OnBelt.sig k (x0, x1, ()) = spec_l09OnBelt.f k x0 x1 := by kernel_rfl

set_option maxRecDepth 100000 in
theorem spec_l09Chute.eq (k : Nat) (x0 : (Int × List (Int × Unit) × Int × Int × Int × Int × Bool × List (Int × Int × Int × Unit) × List (Int × Unit) × Int × List (Int × Int × List (Int × Unit) × Unit) × List (Int × List (Int × Unit) × Unit) × Int × List (List (Int × Int × Unit) × Unit) × List (Int × Int × Int × Int × Int × Unit) × List (Int × Int × Int × Bool × Int × Unit) × List (Int × Int × Int × Int × Int × Int × Int × Int × Int × Int × Unit) × Unit)) (x1 : Int) : evFn tabO false [(103, .sig spec_l03Has.sig)] [⟨5, [], [⟨.slot 5, ⟨false, 0⟩, (.int .i64)⟩]⟩] Tryz.f108 spec_l09Chute.sig k (x0, x1, ()) = spec_l09Chute.f k x0 x1 := by kernel_rfl

set_option maxRecDepth 100000 in
theorem spec_l06Find.eq (k : Nat) (x0 : (Int × List (List (Int × Int × Unit) × Unit) × Unit)) (x1 : Int) : evFn tabO false [] [⟨5, [], [⟨.slot 5, ⟨false, 0⟩, (.int .i64)⟩]⟩, ⟨11, [], [⟨.slot 6, ⟨false, 0⟩, (.int .i64)⟩]⟩] Tryz.f109 spec_l06Find.sig k (x0, x1, ()) = spec_l06Find.f k x0 x1 := by kernel_rfl

set_option maxRecDepth 100000 in
theorem spec_l09CaseOk.eq (k : Nat) (x0 : (Int × List (Int × Unit) × Int × Int × Int × Int × Bool × List (Int × Int × Int × Unit) × List (Int × Unit) × Int × List (Int × Int × List (Int × Unit) × Unit) × List (Int × List (Int × Unit) × Unit) × Int × List (List (Int × Int × Unit) × Unit) × List (Int × Int × Int × Int × Int × Unit) × List (Int × Int × Int × Bool × Int × Unit) × List (Int × Int × Int × Int × Int × Int × Int × Int × Int × Int × Unit) × Unit)) (x1 : Int) : evFn tabO false [(37, .sig spec_l01In.sig), (103, .sig spec_l03Has.sig), (105, .sig spec_TagOk.sig), (106, .sig spec_ScreenOk.sig), (107, .sig spec_l09OnBelt.sig), (108, .sig spec_l09Chute.sig), (109, .sig spec_l06Find.sig)] [⟨28, [], []⟩, ⟨34, [], []⟩, ⟨38, [], []⟩, ⟨11, [], [⟨.slot 6, ⟨false, 0⟩, (.int .i64)⟩]⟩] Tryz.f45 spec_l09CaseOk.sig k (x0, x1, ()) = spec_l09CaseOk.f k x0 x1 := by kernel_rfl

set_option maxRecDepth 100000 in
theorem spec_HallOk.eq (k : Nat) (x0 : (Int × List (Int × Unit) × Int × Int × Int × Int × Bool × List (Int × Int × Int × Unit) × List (Int × Unit) × Int × List (Int × Int × List (Int × Unit) × Unit) × List (Int × List (Int × Unit) × Unit) × Int × List (List (Int × Int × Unit) × Unit) × List (Int × Int × Int × Int × Int × Unit) × List (Int × Int × Int × Bool × Int × Unit) × List (Int × Int × Int × Int × Int × Int × Int × Int × Int × Int × Unit) × Unit)) : evFn tabO false [(37, .sig spec_l01In.sig), (38, .sig spec_PolicyOk.sig), (39, .sig spec_LimitsOk.sig), (40, .sig spec_BeltOk.sig), (41, .sig spec_LoopOk.sig), (42, .sig spec_StoreOk.sig), (43, .sig spec_NotesOk.sig), (44, .sig spec_l09FlightOk.sig), (45, .sig spec_l09CaseOk.sig)] [⟨29, [], [⟨.slot 5, ⟨false, 0⟩, (.int .i64)⟩]⟩, ⟨39, [], [⟨.slot 6, ⟨false, 0⟩, (.int .i64)⟩]⟩, ⟨49, [], [⟨.slot 7, ⟨false, 0⟩, (.int .i64)⟩]⟩, ⟨55, [], [⟨.slot 8, ⟨false, 0⟩, (.int .i64)⟩]⟩, ⟨65, [], [⟨.slot 9, ⟨false, 0⟩, (.int .i64)⟩]⟩, ⟨71, [], [⟨.slot 10, ⟨false, 0⟩, (.int .i64)⟩]⟩, ⟨9, [], [⟨.slot 3, ⟨false, 0⟩, (.int .i64)⟩]⟩, ⟨19, [], [⟨.slot 4, ⟨false, 0⟩, (.int .i64)⟩]⟩] Tryz.f9 spec_HallOk.sig k (x0, ()) = spec_HallOk.f k x0 := by kernel_rfl

set_option maxRecDepth 100000 in
theorem impl_isTick.eq (k : Nat) (x0 : Int) : evFn tabO false [] [] Tryz.f54 impl_isTick.sig k (x0, ()) = impl_isTick.f k x0 := by kernel_rfl

set_option maxRecDepth 100000 in
theorem impl_isWait.eq (k : Nat) (x0 : Int) (x1 : Int) : evFn tabO false [] [] Tryz.f120 impl_isWait.sig k (x0, x1, ()) = impl_isWait.f k x0 x1 := by kernel_rfl

set_option maxRecDepth 100000 in
theorem impl_PolicyOk.eq (k : Nat) (x0 : (List (Int × Unit) × Unit)) : evFn tabO false [(118, .inl Tryz.f118 []), (119, .inl Tryz.f119 []), (120, .sig impl_isWait.sig), (136, .inl Tryz.f136 [⟨5, [], [⟨.slot 8, ⟨false, 0⟩, (.int .i64)⟩]⟩])] [] Tryz.f55 impl_PolicyOk.sig k (x0, ()) = impl_PolicyOk.f k x0 := by kernel_rfl

set_option maxRecDepth 100000 in
theorem impl_LimitsOk.eq (k : Nat) (x0 : (Int × Int × Unit)) : evFn tabO false [] [] Tryz.f56 impl_LimitsOk.sig k (x0, ()) = impl_LimitsOk.f k x0 := by kernel_rfl

set_option maxRecDepth 100000 in
theorem impl_isOn.eq (k : Nat) (x0 : List (Int × Int × Int × Unit)) (x1 : Int) : evFn tabO false [(175, .inl Tryz.f175 []), (176, .inl Tryz.f176 []), (205, .inl Tryz.f205 [⟨5, [], [⟨.slot 8, ⟨false, 0⟩, (.int .i64)⟩]⟩])] [] Tryz.f121 impl_isOn.sig k (x0, x1, ()) = impl_isOn.f k x0 x1 := by kernel_rfl

set_option maxRecDepth 100000 in
theorem impl_BeltOk.eq (k : Nat) (x0 : (Int × Int × Bool × List (Int × Int × Int × Unit) × Unit)) : evFn tabO false [(121, .sig impl_isOn.sig)] [⟨11, [], [⟨.slot 3, ⟨false, 0⟩, (.int .i64)⟩, ⟨.slot 35, ⟨false, 0⟩, (.int .i64)⟩]⟩] Tryz.f57 impl_BeltOk.sig k (x0, ()) = impl_BeltOk.f k x0 := by kernel_rfl

set_option maxRecDepth 100000 in
theorem impl_areIndexes.eq (k : Nat) (x0 : List (Int × Unit)) (x1 : Int) : evFn tabO false [] [⟨5, [], [⟨.slot 9, ⟨false, 0⟩, (.int .i64)⟩]⟩, ⟨12, [], []⟩] Tryz.f122 impl_areIndexes.sig k (x0, x1, ()) = impl_areIndexes.f k x0 x1 := by kernel_rfl

set_option maxRecDepth 100000 in
theorem slices_Clone_int_int.eq (k : Nat) (x0 : List (Int × Unit)) : evFn tabO false [] [] Tryz.f65 slices_Clone_int_int.sig k (x0, ()) = slices_Clone_int_int.f k x0 := by kernel_rfl

set_option maxRecDepth 100000 in
theorem impl_bagsOf.eq (k : Nat) (x0 : (List (Int × Unit) × Int × List (Int × Int × List (Int × Unit) × Unit) × List (Int × List (Int × Unit) × Unit) × Unit)) : evFn tabO false [(64, .inl Tryz.f64 [⟨11, [], [⟨.root 1, ⟨false, 2⟩, (.slice K2)⟩, ⟨.slot 5, ⟨false, 0⟩, (.int .i64)⟩, ⟨.slot 6, ⟨false, 0⟩, (.int .i64)⟩]⟩, ⟨12, [], [⟨.slot 5, ⟨false, 0⟩, (.int .i64)⟩, ⟨.root 1, ⟨false, 2⟩, (.slice K2)⟩]⟩]), (65, .sig slices_Clone_int_int.sig), (136, .inl Tryz.f136 [⟨5, [], [⟨.slot 8, ⟨false, 0⟩, (.int .i64)⟩]⟩]), (177, .inl Tryz.f177 [])] [⟨7, [], [⟨.slot 3, ⟨false, 2⟩, (.slice K2)⟩, ⟨.slot 13, ⟨false, 0⟩, (.int .i64)⟩]⟩] Tryz.f123 impl_bagsOf.sig k (x0, ()) = impl_bagsOf.f k x0 := by kernel_rfl

set_option maxRecDepth 100000 in
theorem impl_areDifferent.eq (k : Nat) (x0 : List (Int × Unit)) : evFn tabO false [(65, .sig slices_Clone_int_int.sig), (137, .sig sortSig), (178, .inl Tryz.f178 [⟨20, [], [⟨.slot 3, ⟨false, 0⟩, (.int .i64)⟩, ⟨.root 0, ⟨false, 2⟩, (.slice K2)⟩]⟩, ⟨9, [], [⟨.slot 3, ⟨false, 0⟩, (.int .i64)⟩]⟩, ⟨19, [], [⟨.root 0, ⟨false, 2⟩, (.slice K2)⟩, ⟨.slot 3, ⟨false, 0⟩, (.int .i64)⟩, ⟨.slot 5, ⟨false, 0⟩, (.int .i64)⟩]⟩])] [] Tryz.f125 impl_areDifferent.sig k (x0, ()) = impl_areDifferent.f k x0 := by kernel_rfl

set_option maxRecDepth 100000 in
theorem impl_LoopOk.eq (k : Nat) (x0 : (List (Int × Unit) × Int × List (Int × Int × List (Int × Unit) × Unit) × List (Int × List (Int × Unit) × Unit) × Unit)) : evFn tabO false [(118, .inl Tryz.f118 []), (122, .sig impl_areIndexes.sig), (123, .sig impl_bagsOf.sig), (124, .inl Tryz.f124 []), (125, .sig impl_areDifferent.sig), (136, .inl Tryz.f136 [⟨5, [], [⟨.slot 8, ⟨false, 0⟩, (.int .i64)⟩]⟩])] [⟨27, [], [⟨.slot 5, ⟨false, 2⟩, (.slice K2)⟩, ⟨.slot 86, ⟨false, 0⟩, (.int .i64)⟩]⟩, ⟨13, [], [⟨.slot 4, ⟨false, 2⟩, (.slice K2)⟩, ⟨.slot 46, ⟨false, 0⟩, (.int .i64)⟩]⟩] Tryz.f58 impl_LoopOk.sig k (x0, ()) = impl_LoopOk.f k x0 := by kernel_rfl

set_option maxRecDepth 100000 in
theorem impl_bagsIn.eq (k : Nat) (x0 : (Int × List (List (Int × Int × Unit) × Unit) × Unit)) : evFn tabO false [] [⟨7, [], [⟨.slot 3, ⟨false, 2⟩, (.slice K2)⟩, ⟨.slot 11, ⟨false, 0⟩, (.int .i64)⟩]⟩, ⟨13, [], [⟨.slot 3, ⟨false, 2⟩, (.slice K2)⟩, ⟨.slot 17, ⟨false, 0⟩, (.int .i64)⟩]⟩] Tryz.f68 impl_bagsIn.sig k (x0, ()) = impl_bagsIn.f k x0 := by kernel_rfl

set_option maxRecDepth 100000 in
theorem impl_StoreOk.eq (k : Nat) (x0 : (Int × List (List (Int × Int × Unit) × Unit) × Unit)) : evFn tabO false [(54, .sig impl_isTick.sig), (68, .sig impl_bagsIn.sig), (125, .sig impl_areDifferent.sig), (126, .inl Tryz.f126 []), (127, .inl Tryz.f127 []), (179, .inl Tryz.f179 [⟨5, [], [⟨.slot 8, ⟨false, 0⟩, (.int .i64)⟩]⟩])] [⟨9, [], [⟨.slot 28, ⟨false, 0⟩, (.int .i64)⟩]⟩, ⟨16, [], []⟩] Tryz.f59 impl_StoreOk.sig k (x0, ()) = impl_StoreOk.f k x0 := by kernel_rfl

set_option maxRecDepth 100000 in
theorem impl_isFrom1.eq (k : Nat) (x0 : Int) (x1 : Int) : evFn tabO false [] [] Tryz.f132 impl_isFrom1.sig k (x0, x1, ()) = impl_isFrom1.f k x0 x1 := by kernel_rfl

set_option maxRecDepth 100000 in
theorem impl_NoteOk.eq (k : Nat) (x0 : (Int × Int × Int × Int × Int × Unit)) : evFn tabO false [(132, .sig impl_isFrom1.sig)] [⟨16, [], [⟨.slot 25, ⟨false, 0⟩, .bool⟩]⟩] Tryz.f128 impl_NoteOk.sig k (x0, ()) = impl_NoteOk.f k x0 := by kernel_rfl

set_option maxRecDepth 100000 in
theorem impl_NotesOk.eq (k : Nat) (x0 : List (Int × Int × Int × Int × Int × Unit)) : evFn tabO false [(128, .sig impl_NoteOk.sig)] [⟨5, [], [⟨.slot 7, ⟨false, 0⟩, (.int .i64)⟩]⟩, ⟨12, [], []⟩] Tryz.f60 impl_NotesOk.sig k (x0, ()) = impl_NotesOk.f k x0 := by kernel_rfl

end Go.Proofs.YtpihkhknehadbaaGreat.Eng
