/- The pure functions are what the evaluator computes of the program's code. By a program of this session. No condition. -/
import Derived.Test.YtpihkhknehadbaaGreatDFnExactHallOk
import Derived.Test.YtpihkhknehadbaaGreatProg
import Derived.KernelRfl
namespace Go.Proofs.YtpihkhknehadbaaGreat.Eng
open Go.Proofs
set_option linter.unusedVariables false
set_option maxRecDepth 100000 in
theorem laws_toFlightS.eq (k : Nat) (x0 : List (Int × Int × Int × Bool × Int × Unit)) : evFn tabO false [(116, .sig laws_toFlight.sig)] [⟨7, [], [⟨.root 0, ⟨false, 2⟩, (.slice K97)⟩, ⟨.slot 4, ⟨false, 0⟩, (.int .i64)⟩]⟩] Tryz.f52 laws_toFlightS.sig k (x0, ()) = laws_toFlightS.f k x0 := by kernel_rfl

set_option maxRecDepth 100000 in
theorem laws_toTag.eq (k : Nat) (x0 : (Int × Int × Int × Unit)) : evFn tabO false [] [] Tryz.f173 laws_toTag.sig k (x0, ()) = laws_toTag.f k x0 := by kernel_rfl

set_option maxRecDepth 100000 in
theorem laws_toScreen.eq (k : Nat) (x0 : (Int × Int × Int × Unit)) : evFn tabO false [] [] Tryz.f174 laws_toScreen.sig k (x0, ()) = laws_toScreen.f k x0 := by kernel_rfl

set_option maxRecDepth 100000 in
theorem laws_toCase.eq (k : Nat) (x0 : (Int × Int × Int × Int × Int × Int × Int × Int × Int × Int × Unit)) : evFn tabO false [(173, .sig laws_toTag.sig), (174, .sig laws_toScreen.sig)] [] Tryz.f117 laws_toCase.sig k (x0, ()) = laws_toCase.f k x0 := by kernel_rfl

set_option maxRecDepth 100000 in
theorem laws_toCaseS.eq (k : Nat) (x0 : List (Int × Int × Int × Int × Int × Int × Int × Int × Int × Int × Unit)) : evFn tabO false [(117, .sig laws_toCase.sig)] [⟨7, [], [⟨.root 0, ⟨false, 2⟩, (.slice K76)⟩, ⟨.slot 4, ⟨false, 0⟩, (.int .i64)⟩]⟩] Tryz.f53 laws_toCaseS.sig k (x0, ()) = laws_toCaseS.f k x0 := by kernel_rfl

set_option maxRecDepth 100000 in
theorem laws_toHall.eq (k : Nat) (x0 : (Int × List (Int × Unit) × Int × Int × Int × Int × Bool × List (Int × Int × Int × Unit) × List (Int × Unit) × Int × List (Int × Int × List (Int × Unit) × Unit) × List (Int × List (Int × Unit) × Unit) × Int × List (List (Int × Int × Unit) × Unit) × List (Int × Int × Int × Int × Int × Unit) × List (Int × Int × Int × Bool × Int × Unit) × List (Int × Int × Int × Int × Int × Int × Int × Int × Int × Int × Unit) × Unit)) : evFn tabO false [(46, .sig laws_toPolicy.sig), (47, .sig laws_toLimits.sig), (48, .sig laws_toBelt.sig), (49, .sig laws_toLoop.sig), (50, .sig laws_toStore.sig), (51, .sig laws_toNoteS.sig), (52, .sig laws_toFlightS.sig), (53, .sig laws_toCaseS.sig)] [] Tryz.f10 laws_toHall.sig k (x0, ()) = laws_toHall.f k x0 := by kernel_rfl

set_option maxRecDepth 100000 in
theorem laws_eqIntS.eq (k : Nat) (x0 : List (Int × Unit)) (x1 : List (Int × Unit)) : evFn tabO false [] [⟨9, [], [⟨.slot 5, ⟨false, 0⟩, (.int .i64)⟩]⟩] Tryz.f17 laws_eqIntS.sig k (x0, x1, ()) = laws_eqIntS.f k x0 x1 := by kernel_rfl

set_option maxRecDepth 100000 in
theorem laws_eqPolicy.eq (k : Nat) (x0 : (List (Int × Unit) × Unit)) (x1 : (List (Int × Unit) × Unit)) : evFn tabO false [(17, .sig laws_eqIntS.sig)] [] Tryz.f69 laws_eqPolicy.sig k (x0, x1, ()) = laws_eqPolicy.f k x0 x1 := by kernel_rfl

set_option maxRecDepth 100000 in
theorem laws_eqLimits.eq (k : Nat) (x0 : (Int × Int × Unit)) (x1 : (Int × Int × Unit)) : evFn tabO false [] [] Tryz.f70 laws_eqLimits.sig k (x0, x1, ()) = laws_eqLimits.f k x0 x1 := by kernel_rfl

set_option maxRecDepth 100000 in
theorem laws_eqItem.eq (k : Nat) (x0 : (Int × Int × Int × Unit)) (x1 : (Int × Int × Int × Unit)) : evFn tabO false [] [] Tryz.f184 laws_eqItem.sig k (x0, x1, ()) = laws_eqItem.f k x0 x1 := by kernel_rfl

set_option maxRecDepth 100000 in
theorem laws_eqItemS.eq (k : Nat) (x0 : List (Int × Int × Int × Unit)) (x1 : List (Int × Int × Int × Unit)) : evFn tabO false [(184, .sig laws_eqItem.sig)] [⟨9, [], [⟨.slot 5, ⟨false, 0⟩, (.int .i64)⟩]⟩] Tryz.f139 laws_eqItemS.sig k (x0, x1, ()) = laws_eqItemS.f k x0 x1 := by kernel_rfl

set_option maxRecDepth 100000 in
theorem laws_eqBelt.eq (k : Nat) (x0 : (Int × Int × Bool × List (Int × Int × Int × Unit) × Unit)) (x1 : (Int × Int × Bool × List (Int × Int × Int × Unit) × Unit)) : evFn tabO false [(139, .sig laws_eqItemS.sig)] [] Tryz.f71 laws_eqBelt.sig k (x0, x1, ()) = laws_eqBelt.f k x0 x1 := by kernel_rfl

set_option maxRecDepth 100000 in
theorem laws_eqChute.eq (k : Nat) (x0 : (Int × Int × List (Int × Unit) × Unit)) (x1 : (Int × Int × List (Int × Unit) × Unit)) : evFn tabO false [(17, .sig laws_eqIntS.sig)] [] Tryz.f185 laws_eqChute.sig k (x0, x1, ()) = laws_eqChute.f k x0 x1 := by kernel_rfl

set_option maxRecDepth 100000 in
theorem laws_eqChuteS.eq (k : Nat) (x0 : List (Int × Int × List (Int × Unit) × Unit)) (x1 : List (Int × Int × List (Int × Unit) × Unit)) : evFn tabO false [(185, .sig laws_eqChute.sig)] [⟨9, [], [⟨.slot 5, ⟨false, 0⟩, (.int .i64)⟩]⟩] Tryz.f140 laws_eqChuteS.sig k (x0, x1, ()) = laws_eqChuteS.f k x0 x1 := by kernel_rfl

set_option maxRecDepth 100000 in
theorem laws_eqWant.eq (k : Nat) (x0 : (Int × List (Int × Unit) × Unit)) (x1 : (Int × List (Int × Unit) × Unit)) : evFn tabO false [(17, .sig laws_eqIntS.sig)] [] Tryz.f186 laws_eqWant.sig k (x0, x1, ()) = laws_eqWant.f k x0 x1 := by kernel_rfl

set_option maxRecDepth 100000 in
theorem laws_eqWantS.eq (k : Nat) (x0 : List (Int × List (Int × Unit) × Unit)) (x1 : List (Int × List (Int × Unit) × Unit)) : evFn tabO false [(186, .sig laws_eqWant.sig)] [⟨9, [], [⟨.slot 5, ⟨false, 0⟩, (.int .i64)⟩]⟩] Tryz.f141 laws_eqWantS.sig k (x0, x1, ()) = laws_eqWantS.f k x0 x1 := by kernel_rfl

end Go.Proofs.YtpihkhknehadbaaGreat.Eng
