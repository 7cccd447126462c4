/- The pure functions are what the evaluator computes of the program's code. By a program of this session. No condition. -/
import Derived.Test.YtpihkhknehadbaaGreatDFnExactHallOk
import Derived.Test.YtpihkhknehadbaaGreatProg
import Derived.KernelRfl
namespace Go.Proofs.YtpihkhknehadbaaGreat.Eng
open Go.Proofs
set_option linter.unusedVariables false
set_option maxRecDepth 100000 in
theorem laws_toPolicy.eq (k : Nat) (x0 : (List (Int × Unit) × Unit)) : evFn tabO false [(110, .sig laws_toIntS.sig)] [] Tryz.f46 laws_toPolicy.sig k (x0, ()) = laws_toPolicy.f k x0 := by kernel_rfl

set_option maxRecDepth 100000 in
theorem laws_toLimits.eq (k : Nat) (x0 : (Int × Int × Unit)) : evFn tabO false [] [] Tryz.f47 laws_toLimits.sig k (x0, ()) = laws_toLimits.f k x0 := by kernel_rfl

set_option maxRecDepth 100000 in
theorem laws_toItem.eq (k : Nat) (x0 : (Int × Int × Int × Unit)) : evFn tabO false [] [] Tryz.f169 laws_toItem.sig k (x0, ()) = laws_toItem.f k x0 := by kernel_rfl

set_option maxRecDepth 100000 in
theorem laws_toItemS.eq (k : Nat) (x0 : List (Int × Int × Int × Unit)) : evFn tabO false [(169, .sig laws_toItem.sig)] [⟨7, [], [⟨.root 0, ⟨false, 2⟩, (.slice K72)⟩, ⟨.slot 4, ⟨false, 0⟩, (.int .i64)⟩]⟩] Tryz.f111 laws_toItemS.sig k (x0, ()) = laws_toItemS.f k x0 := by kernel_rfl

set_option maxRecDepth 100000 in
theorem laws_toBelt.eq (k : Nat) (x0 : (Int × Int × Bool × List (Int × Int × Int × Unit) × Unit)) : evFn tabO false [(111, .sig laws_toItemS.sig)] [] Tryz.f48 laws_toBelt.sig k (x0, ()) = laws_toBelt.f k x0 := by kernel_rfl

set_option maxRecDepth 100000 in
theorem laws_toChute.eq (k : Nat) (x0 : (Int × Int × List (Int × Unit) × Unit)) : evFn tabO false [(110, .sig laws_toIntS.sig)] [] Tryz.f170 laws_toChute.sig k (x0, ()) = laws_toChute.f k x0 := by kernel_rfl

set_option maxRecDepth 100000 in
theorem laws_toChuteS.eq (k : Nat) (x0 : List (Int × Int × List (Int × Unit) × Unit)) : evFn tabO false [(170, .sig laws_toChute.sig)] [⟨7, [], [⟨.root 0, ⟨false, 2⟩, (.slice K102)⟩, ⟨.slot 4, ⟨false, 0⟩, (.int .i64)⟩]⟩] Tryz.f112 laws_toChuteS.sig k (x0, ()) = laws_toChuteS.f k x0 := by kernel_rfl

set_option maxRecDepth 100000 in
theorem laws_toWant.eq (k : Nat) (x0 : (Int × List (Int × Unit) × Unit)) : evFn tabO false [(110, .sig laws_toIntS.sig)] [] Tryz.f171 laws_toWant.sig k (x0, ()) = laws_toWant.f k x0 := by kernel_rfl

set_option maxRecDepth 100000 in
theorem laws_toWantS.eq (k : Nat) (x0 : List (Int × List (Int × Unit) × Unit)) : evFn tabO false [(171, .sig laws_toWant.sig)] [⟨7, [], [⟨.root 0, ⟨false, 2⟩, (.slice K147)⟩, ⟨.slot 4, ⟨false, 0⟩, (.int .i64)⟩]⟩] Tryz.f113 laws_toWantS.sig k (x0, ()) = laws_toWantS.f k x0 := by kernel_rfl

set_option maxRecDepth 100000 in
theorem laws_toLoop.eq (k : Nat) (x0 : (List (Int × Unit) × Int × List (Int × Int × List (Int × Unit) × Unit) × List (Int × List (Int × Unit) × Unit) × Unit)) : evFn tabO false [(110, .sig laws_toIntS.sig), (112, .sig laws_toChuteS.sig), (113, .sig laws_toWantS.sig)] [] Tryz.f49 laws_toLoop.sig k (x0, ()) = laws_toLoop.f k x0 := by kernel_rfl

set_option maxRecDepth 100000 in
theorem laws_toKept.eq (k : Nat) (x0 : (Int × Int × Unit)) : evFn tabO false [] [] Tryz.f204 laws_toKept.sig k (x0, ()) = laws_toKept.f k x0 := by kernel_rfl

set_option maxRecDepth 100000 in
theorem laws_toKeptS.eq (k : Nat) (x0 : List (Int × Int × Unit)) : evFn tabO false [(204, .sig laws_toKept.sig)] [⟨7, [], [⟨.root 0, ⟨false, 2⟩, (.slice K25)⟩, ⟨.slot 4, ⟨false, 0⟩, (.int .i64)⟩]⟩] Tryz.f172 laws_toKeptS.sig k (x0, ()) = laws_toKeptS.f k x0 := by kernel_rfl

set_option maxRecDepth 100000 in
theorem laws_toKeptSS.eq (k : Nat) (x0 : List (List (Int × Int × Unit) × Unit)) : evFn tabO false [(172, .sig laws_toKeptS.sig)] [⟨7, [], [⟨.root 0, ⟨false, 2⟩, (.slice K104)⟩, ⟨.slot 4, ⟨false, 0⟩, (.int .i64)⟩]⟩] Tryz.f114 laws_toKeptSS.sig k (x0, ()) = laws_toKeptSS.f k x0 := by kernel_rfl

set_option maxRecDepth 100000 in
theorem laws_toStore.eq (k : Nat) (x0 : (Int × List (List (Int × Int × Unit) × Unit) × Unit)) : evFn tabO false [(114, .sig laws_toKeptSS.sig)] [] Tryz.f50 laws_toStore.sig k (x0, ()) = laws_toStore.f k x0 := by kernel_rfl

set_option maxRecDepth 100000 in
theorem laws_toNote.eq (k : Nat) (x0 : (Int × Int × Int × Int × Int × Unit)) : evFn tabO false [] [] Tryz.f115 laws_toNote.sig k (x0, ()) = laws_toNote.f k x0 := by kernel_rfl

set_option maxRecDepth 100000 in
theorem laws_toNoteS.eq (k : Nat) (x0 : List (Int × Int × Int × Int × Int × Unit)) : evFn tabO false [(115, .sig laws_toNote.sig)] [⟨7, [], [⟨.root 0, ⟨false, 2⟩, (.slice K150)⟩, ⟨.slot 4, ⟨false, 0⟩, (.int .i64)⟩]⟩] Tryz.f51 laws_toNoteS.sig k (x0, ()) = laws_toNoteS.f k x0 := by kernel_rfl

set_option maxRecDepth 100000 in
theorem laws_toFlight.eq (k : Nat) (x0 : (Int × Int × Int × Bool × Int × Unit)) : evFn tabO false [] [] Tryz.f116 laws_toFlight.sig k (x0, ()) = laws_toFlight.f k x0 := by kernel_rfl

end Go.Proofs.YtpihkhknehadbaaGreat.Eng
