/- The pure functions are what the evaluator computes of the program's code. By a program of this session. No condition. -/
import Derived.Test.YtpihkhknehadbaaGreatDFnExactHallOk
import Derived.Test.YtpihkhknehadbaaGreatProg
import Derived.KernelRfl
namespace Go.Proofs.YtpihkhknehadbaaGreat.Eng
open Go.Proofs
set_option linter.unusedVariables false
set_option maxRecDepth 100000 in
theorem laws_eqLimits.eq (k : Nat) (x0 : (Int × Int × Unit)) (x1 : (Int × Int × Unit)) : evFn tabO false [] [] Tryz.f70 laws_eqLimits.sig k (x0, x1, ()) = laws_eqLimits.f k x0 x1 := by kernel_rfl

set_option maxRecDepth 100000 in
theorem laws_eqItem.eq (k : Nat) (x0 : (Int × Int × Int × Unit)) (x1 : (Int × Int × Int × Unit)) : evFn tabO false [] [] Tryz.f184 laws_eqItem.sig k (x0, x1, ()) = laws_eqItem.f k x0 x1 := by kernel_rfl

set_option maxRecDepth 100000 in
theorem laws_eqItemS.eq (k : Nat) (x0 : List (Int × Int × Int × Unit)) (x1 : List (Int × Int × Int × Unit)) : evFn tabO false [(184, .sig laws_eqItem.sig)] [⟨9, [], [⟨.slot 5, ⟨false, 0⟩, (.int .i64)⟩]⟩] Tryz.f139 laws_eqItemS.sig k (x0, x1, ()) = laws_eqItemS.f k x0 x1 := by kernel_rfl

set_option maxRecDepth 100000 in
theorem laws_eqBelt.eq (k : Nat) (x0 : (Int × Int × Bool × List (Int × Int × Int × Unit) × Unit)) (x1 : (Int × Int × Bool × List (Int × Int × Int × Unit) × Unit)) : evFn tabO false [(139, .sig laws_eqItemS.sig)] [] Tryz.f71 laws_eqBelt.sig k (x0, x1, ()) = laws_eqBelt.f k x0 x1 := by kernel_rfl

set_option maxRecDepth 100000 in
theorem laws_eqChute.eq (k : Nat) (x0 : (Int × Int × List (Int × Unit) × Unit)) (x1 : (Int × Int × List (Int × Unit) × Unit)) : evFn tabO false [(17, .sig laws_eqIntS.sig)] [] Tryz.f185 laws_eqChute.sig k (x0, x1, ()) = laws_eqChute.f k x0 x1 := by kernel_rfl

set_option maxRecDepth 100000 in
theorem laws_eqChuteS.eq (k : Nat) (x0 : List (Int × Int × List (Int × Unit) × Unit)) (x1 : List (Int × Int × List (Int × Unit) × Unit)) : evFn tabO false [(185, .sig laws_eqChute.sig)] [⟨9, [], [⟨.slot 5, ⟨false, 0⟩, (.int .i64)⟩]⟩] Tryz.f140 laws_eqChuteS.sig k (x0, x1, ()) = laws_eqChuteS.f k x0 x1 := by kernel_rfl

set_option maxRecDepth 100000 in
theorem laws_eqWant.eq (k : Nat) (x0 : (Int × List (Int × Unit) × Unit)) (x1 : (Int × List (Int × Unit) × Unit)) : evFn tabO false [(17, .sig laws_eqIntS.sig)] [] Tryz.f186 laws_eqWant.sig k (x0, x1, ()) = laws_eqWant.f k x0 x1 := by kernel_rfl

set_option maxRecDepth 100000 in
theorem laws_eqWantS.eq (k : Nat) (x0 : List (Int × List (Int × Unit) × Unit)) (x1 : List (Int × List (Int × Unit) × Unit)) : evFn tabO false [(186, .sig laws_eqWant.sig)] [⟨9, [], [⟨.slot 5, ⟨false, 0⟩, (.int .i64)⟩]⟩] Tryz.f141 laws_eqWantS.sig k (x0, x1, ()) = laws_eqWantS.f k x0 x1 := by kernel_rfl

set_option maxRecDepth 100000 in
theorem laws_eqLoop.eq (k : Nat) (x0 : (List (Int × Unit) × Int × List (Int × Int × List (Int × Unit) × Unit) × List (Int × List (Int × Unit) × Unit) × Unit)) (x1 : (List (Int × Unit) × Int × List (Int × Int × List (Int × Unit) × Unit) × List (Int × List (Int × Unit) × Unit) × Unit)) : evFn tabO false [(17, .sig laws_eqIntS.sig), (140, .sig laws_eqChuteS.sig), (141, .sig laws_eqWantS.sig)] [] Tryz.f72 laws_eqLoop.sig k (x0, x1, ()) = laws_eqLoop.f k x0 x1 := by kernel_rfl

set_option maxRecDepth 100000 in
theorem laws_eqKept.eq (k : Nat) (x0 : (Int × Int × Unit)) (x1 : (Int × Int × Unit)) : evFn tabO false [] [] Tryz.f217 laws_eqKept.sig k (x0, x1, ()) = laws_eqKept.f k x0 x1 := by kernel_rfl

set_option maxRecDepth 100000 in
theorem laws_eqKeptS.eq (k : Nat) (x0 : List (Int × Int × Unit)) (x1 : List (Int × Int × Unit)) : evFn tabO false [(217, .sig laws_eqKept.sig)] [⟨9, [], [⟨.slot 5, ⟨false, 0⟩, (.int .i64)⟩]⟩] Tryz.f187 laws_eqKeptS.sig k (x0, x1, ()) = laws_eqKeptS.f k x0 x1 := by kernel_rfl

set_option maxRecDepth 100000 in
theorem laws_eqKeptSS.eq (k : Nat) (x0 : List (List (Int × Int × Unit) × Unit)) (x1 : List (List (Int × Int × Unit) × Unit)) : evFn tabO false [(187, .sig laws_eqKeptS.sig)] [⟨9, [], [⟨.slot 5, ⟨false, 0⟩, (.int .i64)⟩]⟩] Tryz.f142 laws_eqKeptSS.sig k (x0, x1, ()) = laws_eqKeptSS.f k x0 x1 := by kernel_rfl

set_option maxRecDepth 100000 in
theorem laws_eqStore.eq (k : Nat) (x0 : (Int × List (List (Int × Int × Unit) × Unit) × Unit)) (x1 : (Int × List (List (Int × Int × Unit) × Unit) × Unit)) : evFn tabO false [(142, .sig laws_eqKeptSS.sig)] [] Tryz.f73 laws_eqStore.sig k (x0, x1, ()) = laws_eqStore.f k x0 x1 := by kernel_rfl

set_option maxRecDepth 100000 in
theorem laws_eqNote.eq (k : Nat) (x0 : (Int × Int × Int × Int × Int × Unit)) (x1 : (Int × Int × Int × Int × Int × Unit)) : evFn tabO false [] [] Tryz.f143 laws_eqNote.sig k (x0, x1, ()) = laws_eqNote.f k x0 x1 := by kernel_rfl

set_option maxRecDepth 100000 in
theorem laws_eqNoteS.eq (k : Nat) (x0 : List (Int × Int × Int × Int × Int × Unit)) (x1 : List (Int × Int × Int × Int × Int × Unit)) : evFn tabO false [(143, .sig laws_eqNote.sig)] [⟨9, [], [⟨.slot 5, ⟨false, 0⟩, (.int .i64)⟩]⟩] Tryz.f74 laws_eqNoteS.sig k (x0, x1, ()) = laws_eqNoteS.f k x0 x1 := by kernel_rfl

set_option maxRecDepth 100000 in
theorem laws_eqFlight.eq (k : Nat) (x0 : (Int × Int × Int × Bool × Int × Unit)) (x1 : (Int × Int × Int × Bool × Int × Unit)) : evFn tabO false [] [] Tryz.f144 laws_eqFlight.sig k (x0, x1, ()) = laws_eqFlight.f k x0 x1 := by kernel_rfl

set_option maxRecDepth 100000 in
theorem laws_eqFlightS.eq (k : Nat) (x0 : List (Int × Int × Int × Bool × Int × Unit)) (x1 : List (Int × Int × Int × Bool × Int × Unit)) : evFn tabO false [(144, .sig laws_eqFlight.sig)] [⟨9, [], [⟨.slot 5, ⟨false, 0⟩, (.int .i64)⟩]⟩] Tryz.f75 laws_eqFlightS.sig k (x0, x1, ()) = laws_eqFlightS.f k x0 x1 := by kernel_rfl

set_option maxRecDepth 100000 in
theorem laws_eqTag.eq (k : Nat) (x0 : (Int × Int × Int × Unit)) (x1 : (Int × Int × Int × Unit)) : evFn tabO false [] [] Tryz.f188 laws_eqTag.sig k (x0, x1, ()) = laws_eqTag.f k x0 x1 := by kernel_rfl

set_option maxRecDepth 100000 in
theorem laws_eqScreen.eq (k : Nat) (x0 : (Int × Int × Int × Unit)) (x1 : (Int × Int × Int × Unit)) : evFn tabO false [] [] Tryz.f189 laws_eqScreen.sig k (x0, x1, ()) = laws_eqScreen.f k x0 x1 := by kernel_rfl

set_option maxRecDepth 100000 in
theorem laws_eqCase.eq (k : Nat) (x0 : (Int × Int × Int × Int × Int × Int × Int × Int × Int × Int × Unit)) (x1 : (Int × Int × Int × Int × Int × Int × Int × Int × Int × Int × Unit)) : evFn tabO false [(188, .sig laws_eqTag.sig), (189, .sig laws_eqScreen.sig)] [] Tryz.f145 laws_eqCase.sig k (x0, x1, ()) = laws_eqCase.f k x0 x1 := by kernel_rfl

set_option maxRecDepth 100000 in
theorem laws_eqCaseS.eq (k : Nat) (x0 : List (Int × Int × Int × Int × Int × Int × Int × Int × Int × Int × Unit)) (x1 : List (Int × Int × Int × Int × Int × Int × Int × Int × Int × Int × Unit)) : evFn tabO false [(145, .sig laws_eqCase.sig)] [⟨9, [], [⟨.slot 5, ⟨false, 0⟩, (.int .i64)⟩]⟩] Tryz.f76 laws_eqCaseS.sig k (x0, x1, ()) = laws_eqCaseS.f k x0 x1 := by kernel_rfl

set_option maxRecDepth 100000 in
theorem laws_eqHall.eq (k : Nat) (x0 : (Int × List (Int × Unit) × Int × Int × Int × Int × Bool × List (Int × Int × Int × Unit) × List (Int × Unit) × Int × List (Int × Int × List (Int × Unit) × Unit) × List (Int × List (Int × Unit) × Unit) × Int × List (List (Int × Int × Unit) × Unit) × List (Int × Int × Int × Int × Int × Unit) × List (Int × Int × Int × Bool × Int × Unit) × List (Int × Int × Int × Int × Int × Int × Int × Int × Int × Int × Unit) × Unit)) (x1 : (Int × List (Int × Unit) × Int × Int × Int × Int × Bool × List (Int × Int × Int × Unit) × List (Int × Unit) × Int × List (Int × Int × List (Int × Unit) × Unit) × List (Int × List (Int × Unit) × Unit) × Int × List (List (Int × Int × Unit) × Unit) × List (Int × Int × Int × Int × Int × Unit) × List (Int × Int × Int × Bool × Int × Unit) × List (Int × Int × Int × Int × Int × Int × Int × Int × Int × Int × Unit) × Unit)) : evFn tabO false [(69, .sig laws_eqPolicy.sig), (70, .sig laws_eqLimits.sig), (71, .sig laws_eqBelt.sig), (72, .sig laws_eqLoop.sig), (73, .sig laws_eqStore.sig), (74, .sig laws_eqNoteS.sig), (75, .sig laws_eqFlightS.sig), (76, .sig laws_eqCaseS.sig)] [] Tryz.f12 laws_eqHall.sig k (x0, x1, ()) = laws_eqHall.f k x0 x1 := by kernel_rfl

set_option maxRecDepth 100000 in
theorem laws_FnExactHallOk.eq (k : Nat) (x0 : (Int × List (Int × Unit) × Int × Int × Int × Int × Bool × List (Int × Int × Int × Unit) × List (Int × Unit) × Int × List (Int × Int × List (Int × Unit) × Unit) × List (Int × List (Int × Unit) × Unit) × Int × List (List (Int × Int × Unit) × Unit) × List (Int × Int × Int × Int × Int × Unit) × List (Int × Int × Int × Bool × Int × Unit) × List (Int × Int × Int × Int × Int × Int × Int × Int × Int × Int × Unit) × Unit)) : evFn tabO false [(8, .sig laws_szHall.sig), (9, .sig spec_HallOk.sig), (10, .sig laws_toHall.sig), (11, .sig impl_HallOk.sig), (12, .sig laws_eqHall.sig)] [] Tryz.f3 laws_FnExactHallOk.sig k (x0, ()) = laws_FnExactHallOk.f k x0 := by kernel_rfl

end Go.Proofs.YtpihkhknehadbaaGreat.Eng
