/- The pure functions are what the evaluator computes of the program's code. By a program of this session. No condition. -/
import Derived.Test.YtpihkhknehadbabGreatD
import Derived.Test.YtpihkhknehadbabGreatProg
import Derived.KernelRfl
namespace Go.Proofs.YtpihkhknehadbabGreat.Eng
open Go.Proofs
set_option linter.unusedVariables false
set_option maxRecDepth 100000 in
theorem laws_toIntS.eq (k : Nat) (x0 : List (Int × Unit)) : evFn tabO false [] [⟨7, [], [⟨.root 0, ⟨false, 2⟩, (.slice K2)⟩, ⟨.slot 4, ⟨false, 0⟩, (.int .i64)⟩]⟩] Tryz.f37 laws_toIntS.sig k (x0, ()) = laws_toIntS.f k x0 := by kernel_rfl

set_option maxRecDepth 100000 in
theorem laws_toPolicy.eq (k : Nat) (x0 : (List (Int × Unit) × Unit)) : evFn tabO false [(37, .sig laws_toIntS.sig)] [] Tryz.f10 laws_toPolicy.sig k (x0, ()) = laws_toPolicy.f k x0 := by kernel_rfl

set_option maxRecDepth 100000 in
theorem laws_toLimits.eq (k : Nat) (x0 : (Int × Int × Unit)) : evFn tabO false [] [] Tryz.f11 laws_toLimits.sig k (x0, ()) = laws_toLimits.f k x0 := by kernel_rfl

set_option maxRecDepth 100000 in
theorem laws_toItem.eq (k : Nat) (x0 : (Int × Int × Int × Unit)) : evFn tabO false [] [] Tryz.f83 laws_toItem.sig k (x0, ()) = laws_toItem.f k x0 := by kernel_rfl

set_option maxRecDepth 100000 in
theorem laws_toItemS.eq (k : Nat) (x0 : List (Int × Int × Int × Unit)) : evFn tabO false [(83, .sig laws_toItem.sig)] [⟨7, [], [⟨.root 0, ⟨false, 2⟩, (.slice K132)⟩, ⟨.slot 4, ⟨false, 0⟩, (.int .i64)⟩]⟩] Tryz.f38 laws_toItemS.sig k (x0, ()) = laws_toItemS.f k x0 := by kernel_rfl

set_option maxRecDepth 100000 in
theorem laws_toBelt.eq (k : Nat) (x0 : (Int × Int × Bool × List (Int × Int × Int × Unit) × Unit)) : evFn tabO false [(38, .sig laws_toItemS.sig)] [] Tryz.f12 laws_toBelt.sig k (x0, ()) = laws_toBelt.f k x0 := by kernel_rfl

set_option maxRecDepth 100000 in
theorem laws_toChute.eq (k : Nat) (x0 : (Int × Int × List (Int × Unit) × Unit)) : evFn tabO false [(37, .sig laws_toIntS.sig)] [] Tryz.f84 laws_toChute.sig k (x0, ()) = laws_toChute.f k x0 := by kernel_rfl

set_option maxRecDepth 100000 in
theorem laws_toChuteS.eq (k : Nat) (x0 : List (Int × Int × List (Int × Unit) × Unit)) : evFn tabO false [(84, .sig laws_toChute.sig)] [⟨7, [], [⟨.root 0, ⟨false, 2⟩, (.slice K113)⟩, ⟨.slot 4, ⟨false, 0⟩, (.int .i64)⟩]⟩] Tryz.f39 laws_toChuteS.sig k (x0, ()) = laws_toChuteS.f k x0 := by kernel_rfl

set_option maxRecDepth 100000 in
theorem laws_toWant.eq (k : Nat) (x0 : (Int × List (Int × Unit) × Unit)) : evFn tabO false [(37, .sig laws_toIntS.sig)] [] Tryz.f85 laws_toWant.sig k (x0, ()) = laws_toWant.f k x0 := by kernel_rfl

set_option maxRecDepth 100000 in
theorem laws_toWantS.eq (k : Nat) (x0 : List (Int × List (Int × Unit) × Unit)) : evFn tabO false [(85, .sig laws_toWant.sig)] [⟨7, [], [⟨.root 0, ⟨false, 2⟩, (.slice K116)⟩, ⟨.slot 4, ⟨false, 0⟩, (.int .i64)⟩]⟩] Tryz.f40 laws_toWantS.sig k (x0, ()) = laws_toWantS.f k x0 := by kernel_rfl

set_option maxRecDepth 100000 in
theorem laws_toLoop.eq (k : Nat) (x0 : (List (Int × Unit) × Int × List (Int × Int × List (Int × Unit) × Unit) × List (Int × List (Int × Unit) × Unit) × Unit)) : evFn tabO false [(37, .sig laws_toIntS.sig), (39, .sig laws_toChuteS.sig), (40, .sig laws_toWantS.sig)] [] Tryz.f13 laws_toLoop.sig k (x0, ()) = laws_toLoop.f k x0 := by kernel_rfl

set_option maxRecDepth 100000 in
theorem laws_toKept.eq (k : Nat) (x0 : (Int × Int × Unit)) : evFn tabO false [] [] Tryz.f127 laws_toKept.sig k (x0, ()) = laws_toKept.f k x0 := by kernel_rfl

set_option maxRecDepth 100000 in
theorem laws_toKeptS.eq (k : Nat) (x0 : List (Int × Int × Unit)) : evFn tabO false [(127, .sig laws_toKept.sig)] [⟨7, [], [⟨.root 0, ⟨false, 2⟩, (.slice K25)⟩, ⟨.slot 4, ⟨false, 0⟩, (.int .i64)⟩]⟩] Tryz.f86 laws_toKeptS.sig k (x0, ()) = laws_toKeptS.f k x0 := by kernel_rfl

set_option maxRecDepth 100000 in
theorem laws_toKeptSS.eq (k : Nat) (x0 : List (List (Int × Int × Unit) × Unit)) : evFn tabO false [(86, .sig laws_toKeptS.sig)] [⟨7, [], [⟨.root 0, ⟨false, 2⟩, (.slice K119)⟩, ⟨.slot 4, ⟨false, 0⟩, (.int .i64)⟩]⟩] Tryz.f41 laws_toKeptSS.sig k (x0, ()) = laws_toKeptSS.f k x0 := by kernel_rfl

set_option maxRecDepth 100000 in
theorem laws_toStore.eq (k : Nat) (x0 : (Int × List (List (Int × Int × Unit) × Unit) × Unit)) : evFn tabO false [(41, .sig laws_toKeptSS.sig)] [] Tryz.f14 laws_toStore.sig k (x0, ()) = laws_toStore.f k x0 := by kernel_rfl

set_option maxRecDepth 100000 in
theorem laws_toFlight.eq (k : Nat) (x0 : (Int × Int × Int × Bool × Int × Unit)) : evFn tabO false [] [] Tryz.f42 laws_toFlight.sig k (x0, ()) = laws_toFlight.f k x0 := by kernel_rfl

set_option maxRecDepth 100000 in
theorem laws_toFlightS.eq (k : Nat) (x0 : List (Int × Int × Int × Bool × Int × Unit)) : evFn tabO false [(42, .sig laws_toFlight.sig)] [⟨7, [], [⟨.root 0, ⟨false, 2⟩, (.slice K93)⟩, ⟨.slot 4, ⟨false, 0⟩, (.int .i64)⟩]⟩] Tryz.f15 laws_toFlightS.sig k (x0, ()) = laws_toFlightS.f k x0 := by kernel_rfl

set_option maxRecDepth 100000 in
theorem impl_isTick.eq (k : Nat) (x0 : Int) : evFn tabO false [] [] Tryz.f87 impl_isTick.sig k (x0, ()) = impl_isTick.f k x0 := by kernel_rfl

set_option maxRecDepth 100000 in
theorem impl_isWait.eq (k : Nat) (x0 : Int) (x1 : Int) : evFn tabO false [] [] Tryz.f130 impl_isWait.sig k (x0, x1, ()) = impl_isWait.f k x0 x1 := by kernel_rfl

set_option maxRecDepth 100000 in
theorem impl_PolicyOk.eq (k : Nat) (x0 : (List (Int × Unit) × Unit)) : evFn tabO false [(128, .inl Tryz.f128 []), (129, .inl Tryz.f129 []), (130, .sig impl_isWait.sig), (147, .inl Tryz.f147 [⟨5, [], [⟨.slot 8, ⟨false, 0⟩, (.int .i64)⟩]⟩])] [] Tryz.f88 impl_PolicyOk.sig k (x0, ()) = impl_PolicyOk.f k x0 := by kernel_rfl

set_option maxRecDepth 100000 in
theorem impl_LimitsOk.eq (k : Nat) (x0 : (Int × Int × Unit)) : evFn tabO false [] [] Tryz.f89 impl_LimitsOk.sig k (x0, ()) = impl_LimitsOk.f k x0 := by kernel_rfl

set_option maxRecDepth 100000 in
theorem impl_isOn.eq (k : Nat) (x0 : List (Int × Int × Int × Unit)) (x1 : Int) : evFn tabO false [(157, .inl Tryz.f157 []), (158, .inl Tryz.f158 []), (166, .inl Tryz.f166 [⟨5, [], [⟨.slot 8, ⟨false, 0⟩, (.int .i64)⟩]⟩])] [] Tryz.f131 impl_isOn.sig k (x0, x1, ()) = impl_isOn.f k x0 x1 := by kernel_rfl

set_option maxRecDepth 100000 in
theorem impl_BeltOk.eq (k : Nat) (x0 : (Int × Int × Bool × List (Int × Int × Int × Unit) × Unit)) : evFn tabO false [(131, .sig impl_isOn.sig)] [⟨11, [], [⟨.slot 3, ⟨false, 0⟩, (.int .i64)⟩, ⟨.slot 35, ⟨false, 0⟩, (.int .i64)⟩]⟩] Tryz.f90 impl_BeltOk.sig k (x0, ()) = impl_BeltOk.f k x0 := by kernel_rfl

set_option maxRecDepth 100000 in
theorem impl_areIndexes.eq (k : Nat) (x0 : List (Int × Unit)) (x1 : Int) : evFn tabO false [] [⟨5, [], [⟨.slot 9, ⟨false, 0⟩, (.int .i64)⟩]⟩, ⟨12, [], []⟩] Tryz.f132 impl_areIndexes.sig k (x0, x1, ()) = impl_areIndexes.f k x0 x1 := by kernel_rfl

set_option maxRecDepth 100000 in
theorem slices_Clone_int_int.eq (k : Nat) (x0 : List (Int × Unit)) : evFn tabO false [] [] Tryz.f98 slices_Clone_int_int.sig k (x0, ()) = slices_Clone_int_int.f k x0 := by kernel_rfl

set_option maxRecDepth 100000 in
theorem impl_bagsOf.eq (k : Nat) (x0 : (List (Int × Unit) × Int × List (Int × Int × List (Int × Unit) × Unit) × List (Int × List (Int × Unit) × Unit) × Unit)) : evFn tabO false [(97, .inl Tryz.f97 [⟨11, [], [⟨.root 1, ⟨false, 2⟩, (.slice K2)⟩, ⟨.slot 5, ⟨false, 0⟩, (.int .i64)⟩, ⟨.slot 6, ⟨false, 0⟩, (.int .i64)⟩]⟩, ⟨12, [], [⟨.slot 5, ⟨false, 0⟩, (.int .i64)⟩, ⟨.root 1, ⟨false, 2⟩, (.slice K2)⟩]⟩]), (98, .sig slices_Clone_int_int.sig), (147, .inl Tryz.f147 [⟨5, [], [⟨.slot 8, ⟨false, 0⟩, (.int .i64)⟩]⟩]), (159, .inl Tryz.f159 [])] [⟨7, [], [⟨.slot 3, ⟨false, 2⟩, (.slice K2)⟩, ⟨.slot 13, ⟨false, 0⟩, (.int .i64)⟩]⟩] Tryz.f133 impl_bagsOf.sig k (x0, ()) = impl_bagsOf.f k x0 := by kernel_rfl

set_option maxRecDepth 100000 in
theorem impl_areDifferent.eq (k : Nat) (x0 : List (Int × Unit)) : evFn tabO false [(98, .sig slices_Clone_int_int.sig), (148, .sig sortSig), (160, .inl Tryz.f160 [⟨20, [], [⟨.slot 3, ⟨false, 0⟩, (.int .i64)⟩, ⟨.root 0, ⟨false, 2⟩, (.slice K2)⟩]⟩, ⟨9, [], [⟨.slot 3, ⟨false, 0⟩, (.int .i64)⟩]⟩, ⟨19, [], [⟨.root 0, ⟨false, 2⟩, (.slice K2)⟩, ⟨.slot 3, ⟨false, 0⟩, (.int .i64)⟩, ⟨.slot 5, ⟨false, 0⟩, (.int .i64)⟩]⟩])] [] Tryz.f135 impl_areDifferent.sig k (x0, ()) = impl_areDifferent.f k x0 := by kernel_rfl

set_option maxRecDepth 100000 in
theorem impl_LoopOk.eq (k : Nat) (x0 : (List (Int × Unit) × Int × List (Int × Int × List (Int × Unit) × Unit) × List (Int × List (Int × Unit) × Unit) × Unit)) : evFn tabO false [(128, .inl Tryz.f128 []), (132, .sig impl_areIndexes.sig), (133, .sig impl_bagsOf.sig), (134, .inl Tryz.f134 []), (135, .sig impl_areDifferent.sig), (147, .inl Tryz.f147 [⟨5, [], [⟨.slot 8, ⟨false, 0⟩, (.int .i64)⟩]⟩])] [⟨27, [], [⟨.slot 5, ⟨false, 2⟩, (.slice K2)⟩, ⟨.slot 86, ⟨false, 0⟩, (.int .i64)⟩]⟩, ⟨13, [], [⟨.slot 4, ⟨false, 2⟩, (.slice K2)⟩, ⟨.slot 46, ⟨false, 0⟩, (.int .i64)⟩]⟩] Tryz.f91 impl_LoopOk.sig k (x0, ()) = impl_LoopOk.f k x0 := by kernel_rfl

set_option maxRecDepth 100000 in
theorem impl_bagsIn.eq (k : Nat) (x0 : (Int × List (List (Int × Int × Unit) × Unit) × Unit)) : evFn tabO false [] [⟨7, [], [⟨.slot 3, ⟨false, 2⟩, (.slice K2)⟩, ⟨.slot 11, ⟨false, 0⟩, (.int .i64)⟩]⟩, ⟨13, [], [⟨.slot 3, ⟨false, 2⟩, (.slice K2)⟩, ⟨.slot 17, ⟨false, 0⟩, (.int .i64)⟩]⟩] Tryz.f101 impl_bagsIn.sig k (x0, ()) = impl_bagsIn.f k x0 := by kernel_rfl

set_option maxRecDepth 100000 in
theorem impl_StoreOk.eq (k : Nat) (x0 : (Int × List (List (Int × Int × Unit) × Unit) × Unit)) : evFn tabO false [(87, .sig impl_isTick.sig), (101, .sig impl_bagsIn.sig), (135, .sig impl_areDifferent.sig), (136, .inl Tryz.f136 []), (137, .inl Tryz.f137 []), (161, .inl Tryz.f161 [⟨5, [], [⟨.slot 8, ⟨false, 0⟩, (.int .i64)⟩]⟩])] [⟨9, [], [⟨.slot 28, ⟨false, 0⟩, (.int .i64)⟩]⟩, ⟨16, [], []⟩] Tryz.f92 impl_StoreOk.sig k (x0, ()) = impl_StoreOk.f k x0 := by kernel_rfl

set_option maxRecDepth 100000 in
theorem impl_isFrom1.eq (k : Nat) (x0 : Int) (x1 : Int) : evFn tabO false [] [] Tryz.f143 impl_isFrom1.sig k (x0, x1, ()) = impl_isFrom1.f k x0 x1 := by kernel_rfl

set_option maxRecDepth 100000 in
theorem impl_NoteOk.eq (k : Nat) (x0 : (Int × Int × Int × Int × Int × Unit)) : evFn tabO false [(143, .sig impl_isFrom1.sig)] [⟨16, [], [⟨.slot 25, ⟨false, 0⟩, .bool⟩]⟩] Tryz.f138 impl_NoteOk.sig k (x0, ()) = impl_NoteOk.f k x0 := by kernel_rfl

set_option maxRecDepth 100000 in
theorem impl_NotesOk.eq (k : Nat) (x0 : List (Int × Int × Int × Int × Int × Unit)) : evFn tabO false [(138, .sig impl_NoteOk.sig)] [⟨5, [], [⟨.slot 7, ⟨false, 0⟩, (.int .i64)⟩]⟩, ⟨12, [], []⟩] Tryz.f93 impl_NotesOk.sig k (x0, ()) = impl_NotesOk.f k x0 := by kernel_rfl

set_option maxRecDepth 100000 in
theorem impl_areFlights.eq (k : Nat) (x0 : (Int × List (Int × Unit) × Int × Int × Int × Int × Bool × List (Int × Int × Int × Unit) × List (Int × Unit) × Int × List (Int × Int × List (Int × Unit) × Unit) × List (Int × List (Int × Unit) × Unit) × Int × List (List (Int × Int × Unit) × Unit) × List (Int × Int × Int × Int × Int × Unit) × List (Int × Int × Int × Bool × Int × Unit) × List (Int × Int × Int × Int × Int × Int × Int × Int × Int × Int × Unit) × Unit)) : evFn tabO false [(139, .inl Tryz.f139 []), (140, .inl Tryz.f140 []), (162, .inl Tryz.f162 [⟨5, [], [⟨.slot 8, ⟨false, 0⟩, (.int .i64)⟩]⟩, ⟨12, [], []⟩])] [] Tryz.f94 impl_areFlights.sig k (x0, ()) = impl_areFlights.f k x0 := by kernel_rfl

set_option maxRecDepth 100000 in
theorem impl_TagOk.eq (k : Nat) (x0 : (Int × Int × Int × Unit)) : evFn tabO false [] [] Tryz.f141 impl_TagOk.sig k (x0, ()) = impl_TagOk.f k x0 := by kernel_rfl

set_option maxRecDepth 100000 in
theorem impl_isFlight.eq (k : Nat) (x0 : (Int × List (Int × Unit) × Int × Int × Int × Int × Bool × List (Int × Int × Int × Unit) × List (Int × Unit) × Int × List (Int × Int × List (Int × Unit) × Unit) × List (Int × List (Int × Unit) × Unit) × Int × List (List (Int × Int × Unit) × Unit) × List (Int × Int × Int × Int × Int × Unit) × List (Int × Int × Int × Bool × Int × Unit) × List (Int × Int × Int × Int × Int × Int × Int × Int × Int × Int × Unit) × Unit)) (x1 : Int) : evFn tabO false [(143, .sig impl_isFrom1.sig)] [] Tryz.f142 impl_isFlight.sig k (x0, x1, ()) = impl_isFlight.f k x0 x1 := by kernel_rfl

set_option maxRecDepth 100000 in
theorem impl_ScreenOk.eq (k : Nat) (x0 : (Int × Int × Int × Unit)) : evFn tabO false [(87, .sig impl_isTick.sig)] [] Tryz.f144 impl_ScreenOk.sig k (x0, ()) = impl_ScreenOk.f k x0 := by kernel_rfl

set_option maxRecDepth 100000 in
theorem impl_isCase.eq (k : Nat) (x0 : (Int × List (Int × Unit) × Int × Int × Int × Int × Bool × List (Int × Int × Int × Unit) × List (Int × Unit) × Int × List (Int × Int × List (Int × Unit) × Unit) × List (Int × List (Int × Unit) × Unit) × Int × List (List (Int × Int × Unit) × Unit) × List (Int × Int × Int × Int × Int × Unit) × List (Int × Int × Int × Bool × Int × Unit) × List (Int × Int × Int × Int × Int × Int × Int × Int × Int × Int × Unit) × Unit)) (x1 : (Int × Int × Int × Int × Int × Int × Int × Int × Int × Int × Unit)) : evFn tabO false [(141, .sig impl_TagOk.sig), (142, .sig impl_isFlight.sig), (143, .sig impl_isFrom1.sig), (144, .sig impl_ScreenOk.sig)] [⟨26, [], [⟨.slot 59, ⟨false, 0⟩, .bool⟩]⟩] Tryz.f95 impl_isCase.sig k (x0, x1, ()) = impl_isCase.f k x0 x1 := by kernel_rfl

end Go.Proofs.YtpihkhknehadbabGreat.Eng
