/- The pure functions are what the evaluator computes of the program's code. By a program of this session. No condition. -/
import Derived.Test.YtpihkhknehadbabGreatD
import Derived.Test.YtpihkhknehadbabGreatProg
import Derived.KernelRfl
namespace Go.Proofs.YtpihkhknehadbabGreat.Eng
open Go.Proofs
set_option linter.unusedVariables false
set_option maxRecDepth 100000 in
theorem laws_eqTag.eq (k : Nat) (x0 : (Int × Int × Int × Unit)) (x1 : (Int × Int × Int × Unit)) : evFn tabO false [] [] Tryz.f153 laws_eqTag.sig k (x0, x1, ()) = laws_eqTag.f k x0 x1 := by kernel_rfl

set_option maxRecDepth 100000 in
theorem laws_eqScreen.eq (k : Nat) (x0 : (Int × Int × Int × Unit)) (x1 : (Int × Int × Int × Unit)) : evFn tabO false [] [] Tryz.f154 laws_eqScreen.sig k (x0, x1, ()) = laws_eqScreen.f k x0 x1 := by kernel_rfl

set_option maxRecDepth 100000 in
theorem laws_eqCase.eq (k : Nat) (x0 : (Int × Int × Int × Int × Int × Int × Int × Int × Int × Int × Unit)) (x1 : (Int × Int × Int × Int × Int × Int × Int × Int × Int × Int × Unit)) : evFn tabO false [(153, .sig laws_eqTag.sig), (154, .sig laws_eqScreen.sig)] [] Tryz.f109 laws_eqCase.sig k (x0, x1, ()) = laws_eqCase.f k x0 x1 := by kernel_rfl

set_option maxRecDepth 100000 in
theorem laws_eqCaseS.eq (k : Nat) (x0 : List (Int × Int × Int × Int × Int × Int × Int × Int × Int × Int × Unit)) (x1 : List (Int × Int × Int × Int × Int × Int × Int × Int × Int × Int × Unit)) : evFn tabO false [(109, .sig laws_eqCase.sig)] [⟨9, [], [⟨.slot 5, ⟨false, 0⟩, (.int .i64)⟩]⟩] Tryz.f47 laws_eqCaseS.sig k (x0, x1, ()) = laws_eqCaseS.f k x0 x1 := by kernel_rfl

set_option maxRecDepth 100000 in
theorem laws_eqHall.eq (k : Nat) (x0 : (Int × List (Int × Unit) × Int × Int × Int × Int × Bool × List (Int × Int × Int × Unit) × List (Int × Unit) × Int × List (Int × Int × List (Int × Unit) × Unit) × List (Int × List (Int × Unit) × Unit) × Int × List (List (Int × Int × Unit) × Unit) × List (Int × Int × Int × Int × Int × Unit) × List (Int × Int × Int × Bool × Int × Unit) × List (Int × Int × Int × Int × Int × Int × Int × Int × Int × Int × Unit) × Unit)) (x1 : (Int × List (Int × Unit) × Int × Int × Int × Int × Bool × List (Int × Int × Int × Unit) × List (Int × Unit) × Int × List (Int × Int × List (Int × Unit) × Unit) × List (Int × List (Int × Unit) × Unit) × Int × List (List (Int × Int × Unit) × Unit) × List (Int × Int × Int × Int × Int × Unit) × List (Int × Int × Int × Bool × Int × Unit) × List (Int × Int × Int × Int × Int × Int × Int × Int × Int × Int × Unit) × Unit)) : evFn tabO false [(18, .sig laws_eqPolicy.sig), (19, .sig laws_eqBelt.sig), (20, .sig laws_eqLoop.sig), (21, .sig laws_eqStore.sig), (22, .sig laws_eqFlightS.sig), (45, .sig laws_eqLimits.sig), (46, .sig laws_eqNoteS.sig), (47, .sig laws_eqCaseS.sig)] [] Tryz.f17 laws_eqHall.sig k (x0, x1, ()) = laws_eqHall.f k x0 x1 := by kernel_rfl

set_option maxRecDepth 100000 in
theorem laws_markIntS.eq (k : Nat) (x0 : List (Int × Unit)) (x1 : Int) : evFn tabO false [] [⟨5, [], [⟨.root 0, ⟨false, 2⟩, (.slice K2)⟩, ⟨.slot 1, ⟨false, 0⟩, (.int .i64)⟩, ⟨.slot 5, ⟨false, 0⟩, (.int .i64)⟩]⟩] Tryz.f54 laws_markIntS.sig k (x0, x1, ()) = laws_markIntS.f k x0 x1 := by kernel_rfl

set_option maxRecDepth 100000 in
theorem laws_markPolicy.eq (k : Nat) (x0 : (List (Int × Unit) × Unit)) (x1 : Int) : evFn tabO false [(54, .sig laws_markIntS.sig)] [] Tryz.f23 laws_markPolicy.sig k (x0, x1, ()) = laws_markPolicy.f k x0 x1 := by kernel_rfl

set_option maxRecDepth 100000 in
theorem laws_markItemS.eq (k : Nat) (x0 : List (Int × Int × Int × Unit)) (x1 : Int) : evFn tabO false [] [⟨5, [], [⟨.root 0, ⟨false, 2⟩, (.slice K132)⟩, ⟨.slot 1, ⟨false, 0⟩, (.int .i64)⟩, ⟨.slot 5, ⟨false, 0⟩, (.int .i64)⟩]⟩] Tryz.f55 laws_markItemS.sig k (x0, x1, ()) = laws_markItemS.f k x0 x1 := by kernel_rfl

set_option maxRecDepth 100000 in
theorem laws_markBelt.eq (k : Nat) (x0 : (Int × Int × Bool × List (Int × Int × Int × Unit) × Unit)) (x1 : Int) : evFn tabO false [(55, .sig laws_markItemS.sig)] [] Tryz.f24 laws_markBelt.sig k (x0, x1, ()) = laws_markBelt.f k x0 x1 := by kernel_rfl

set_option maxRecDepth 100000 in
theorem laws_markChuteS.eq (k : Nat) (x0 : List (Int × Int × List (Int × Unit) × Unit)) (x1 : Int) : evFn tabO false [(54, .sig laws_markIntS.sig)] [⟨5, [], [⟨.root 0, ⟨false, 2⟩, (.slice K113)⟩, ⟨.slot 1, ⟨false, 0⟩, (.int .i64)⟩, ⟨.slot 5, ⟨false, 0⟩, (.int .i64)⟩]⟩] Tryz.f56 laws_markChuteS.sig k (x0, x1, ()) = laws_markChuteS.f k x0 x1 := by kernel_rfl

set_option maxRecDepth 100000 in
theorem laws_markWantS.eq (k : Nat) (x0 : List (Int × List (Int × Unit) × Unit)) (x1 : Int) : evFn tabO false [(54, .sig laws_markIntS.sig)] [⟨5, [], [⟨.root 0, ⟨false, 2⟩, (.slice K116)⟩, ⟨.slot 1, ⟨false, 0⟩, (.int .i64)⟩, ⟨.slot 5, ⟨false, 0⟩, (.int .i64)⟩]⟩] Tryz.f57 laws_markWantS.sig k (x0, x1, ()) = laws_markWantS.f k x0 x1 := by kernel_rfl

set_option maxRecDepth 100000 in
theorem laws_markLoop.eq (k : Nat) (x0 : (List (Int × Unit) × Int × List (Int × Int × List (Int × Unit) × Unit) × List (Int × List (Int × Unit) × Unit) × Unit)) (x1 : Int) : evFn tabO false [(54, .sig laws_markIntS.sig), (56, .sig laws_markChuteS.sig), (57, .sig laws_markWantS.sig)] [] Tryz.f25 laws_markLoop.sig k (x0, x1, ()) = laws_markLoop.f k x0 x1 := by kernel_rfl

set_option maxRecDepth 100000 in
theorem laws_markKeptS.eq (k : Nat) (x0 : List (Int × Int × Unit)) (x1 : Int) : evFn tabO false [] [⟨5, [], [⟨.root 0, ⟨false, 2⟩, (.slice K25)⟩, ⟨.slot 1, ⟨false, 0⟩, (.int .i64)⟩, ⟨.slot 5, ⟨false, 0⟩, (.int .i64)⟩]⟩] Tryz.f114 laws_markKeptS.sig k (x0, x1, ()) = laws_markKeptS.f k x0 x1 := by kernel_rfl

set_option maxRecDepth 100000 in
theorem laws_markKeptSS.eq (k : Nat) (x0 : List (List (Int × Int × Unit) × Unit)) (x1 : Int) : evFn tabO false [(114, .sig laws_markKeptS.sig)] [⟨5, [], [⟨.root 0, ⟨false, 2⟩, (.slice K119)⟩, ⟨.slot 1, ⟨false, 0⟩, (.int .i64)⟩, ⟨.slot 5, ⟨false, 0⟩, (.int .i64)⟩]⟩] Tryz.f58 laws_markKeptSS.sig k (x0, x1, ()) = laws_markKeptSS.f k x0 x1 := by kernel_rfl

set_option maxRecDepth 100000 in
theorem laws_markStore.eq (k : Nat) (x0 : (Int × List (List (Int × Int × Unit) × Unit) × Unit)) (x1 : Int) : evFn tabO false [(58, .sig laws_markKeptSS.sig)] [] Tryz.f26 laws_markStore.sig k (x0, x1, ()) = laws_markStore.f k x0 x1 := by kernel_rfl

set_option maxRecDepth 100000 in
theorem laws_markFlightS.eq (k : Nat) (x0 : List (Int × Int × Int × Bool × Int × Unit)) (x1 : Int) : evFn tabO false [] [⟨5, [], [⟨.root 0, ⟨false, 2⟩, (.slice K93)⟩, ⟨.slot 1, ⟨false, 0⟩, (.int .i64)⟩, ⟨.slot 5, ⟨false, 0⟩, (.int .i64)⟩]⟩] Tryz.f27 laws_markFlightS.sig k (x0, x1, ()) = laws_markFlightS.f k x0 x1 := by kernel_rfl

set_option maxRecDepth 100000 in
theorem laws_markNoteS.eq (k : Nat) (x0 : List (Int × Int × Int × Int × Int × Unit)) (x1 : Int) : evFn tabO false [] [⟨5, [], [⟨.root 0, ⟨false, 2⟩, (.slice K157)⟩, ⟨.slot 1, ⟨false, 0⟩, (.int .i64)⟩, ⟨.slot 5, ⟨false, 0⟩, (.int .i64)⟩]⟩] Tryz.f59 laws_markNoteS.sig k (x0, x1, ()) = laws_markNoteS.f k x0 x1 := by kernel_rfl

set_option maxRecDepth 100000 in
theorem laws_markCaseS.eq (k : Nat) (x0 : List (Int × Int × Int × Int × Int × Int × Int × Int × Int × Int × Unit)) (x1 : Int) : evFn tabO false [] [⟨5, [], [⟨.root 0, ⟨false, 2⟩, (.slice K149)⟩, ⟨.slot 1, ⟨false, 0⟩, (.int .i64)⟩, ⟨.slot 5, ⟨false, 0⟩, (.int .i64)⟩]⟩] Tryz.f60 laws_markCaseS.sig k (x0, x1, ()) = laws_markCaseS.f k x0 x1 := by kernel_rfl

set_option maxRecDepth 100000 in
theorem laws_markHall.eq (k : Nat) (x0 : (Int × List (Int × Unit) × Int × Int × Int × Int × Bool × List (Int × Int × Int × Unit) × List (Int × Unit) × Int × List (Int × Int × List (Int × Unit) × Unit) × List (Int × List (Int × Unit) × Unit) × Int × List (List (Int × Int × Unit) × Unit) × List (Int × Int × Int × Int × Int × Unit) × List (Int × Int × Int × Bool × Int × Unit) × List (Int × Int × Int × Int × Int × Int × Int × Int × Int × Int × Unit) × Unit)) (x1 : Int) : evFn tabO false [(23, .sig laws_markPolicy.sig), (24, .sig laws_markBelt.sig), (25, .sig laws_markLoop.sig), (26, .sig laws_markStore.sig), (27, .sig laws_markFlightS.sig), (59, .sig laws_markNoteS.sig), (60, .sig laws_markCaseS.sig)] [] Tryz.f28 laws_markHall.sig k (x0, x1, ()) = laws_markHall.f k x0 x1 := by kernel_rfl

set_option maxRecDepth 100000 in
theorem laws_heldIntS.eq (k : Nat) (x0 : List (Int × Unit)) (x1 : Int) : evFn tabO false [] [⟨5, [], [⟨.slot 1, ⟨false, 0⟩, (.int .i64)⟩, ⟨.slot 5, ⟨false, 0⟩, (.int .i64)⟩]⟩] Tryz.f115 laws_heldIntS.sig k (x0, x1, ()) = laws_heldIntS.f k x0 x1 := by kernel_rfl

set_option maxRecDepth 100000 in
theorem laws_heldPolicy.eq (k : Nat) (x0 : (List (Int × Unit) × Unit)) (x1 : Int) : evFn tabO false [(115, .sig laws_heldIntS.sig)] [] Tryz.f61 laws_heldPolicy.sig k (x0, x1, ()) = laws_heldPolicy.f k x0 x1 := by kernel_rfl

set_option maxRecDepth 100000 in
theorem laws_heldItemS.eq (k : Nat) (x0 : List (Int × Int × Int × Unit)) (x1 : Int) : evFn tabO false [] [⟨5, [], [⟨.slot 1, ⟨false, 0⟩, (.int .i64)⟩, ⟨.slot 5, ⟨false, 0⟩, (.int .i64)⟩]⟩] Tryz.f116 laws_heldItemS.sig k (x0, x1, ()) = laws_heldItemS.f k x0 x1 := by kernel_rfl

set_option maxRecDepth 100000 in
theorem laws_heldBelt.eq (k : Nat) (x0 : (Int × Int × Bool × List (Int × Int × Int × Unit) × Unit)) (x1 : Int) : evFn tabO false [(116, .sig laws_heldItemS.sig)] [] Tryz.f62 laws_heldBelt.sig k (x0, x1, ()) = laws_heldBelt.f k x0 x1 := by kernel_rfl

set_option maxRecDepth 100000 in
theorem laws_heldChuteS.eq (k : Nat) (x0 : List (Int × Int × List (Int × Unit) × Unit)) (x1 : Int) : evFn tabO false [(115, .sig laws_heldIntS.sig)] [⟨5, [], [⟨.slot 1, ⟨false, 0⟩, (.int .i64)⟩, ⟨.slot 5, ⟨false, 0⟩, (.int .i64)⟩]⟩] Tryz.f117 laws_heldChuteS.sig k (x0, x1, ()) = laws_heldChuteS.f k x0 x1 := by kernel_rfl

set_option maxRecDepth 100000 in
theorem laws_heldWantS.eq (k : Nat) (x0 : List (Int × List (Int × Unit) × Unit)) (x1 : Int) : evFn tabO false [(115, .sig laws_heldIntS.sig)] [⟨5, [], [⟨.slot 1, ⟨false, 0⟩, (.int .i64)⟩, ⟨.slot 5, ⟨false, 0⟩, (.int .i64)⟩]⟩] Tryz.f118 laws_heldWantS.sig k (x0, x1, ()) = laws_heldWantS.f k x0 x1 := by kernel_rfl

set_option maxRecDepth 100000 in
theorem laws_heldLoop.eq (k : Nat) (x0 : (List (Int × Unit) × Int × List (Int × Int × List (Int × Unit) × Unit) × List (Int × List (Int × Unit) × Unit) × Unit)) (x1 : Int) : evFn tabO false [(115, .sig laws_heldIntS.sig), (117, .sig laws_heldChuteS.sig), (118, .sig laws_heldWantS.sig)] [] Tryz.f63 laws_heldLoop.sig k (x0, x1, ()) = laws_heldLoop.f k x0 x1 := by kernel_rfl

set_option maxRecDepth 100000 in
theorem laws_heldKeptS.eq (k : Nat) (x0 : List (Int × Int × Unit)) (x1 : Int) : evFn tabO false [] [⟨5, [], [⟨.slot 1, ⟨false, 0⟩, (.int .i64)⟩, ⟨.slot 5, ⟨false, 0⟩, (.int .i64)⟩]⟩] Tryz.f156 laws_heldKeptS.sig k (x0, x1, ()) = laws_heldKeptS.f k x0 x1 := by kernel_rfl

set_option maxRecDepth 100000 in
theorem laws_heldKeptSS.eq (k : Nat) (x0 : List (List (Int × Int × Unit) × Unit)) (x1 : Int) : evFn tabO false [(156, .sig laws_heldKeptS.sig)] [⟨5, [], [⟨.slot 1, ⟨false, 0⟩, (.int .i64)⟩, ⟨.slot 5, ⟨false, 0⟩, (.int .i64)⟩]⟩] Tryz.f119 laws_heldKeptSS.sig k (x0, x1, ()) = laws_heldKeptSS.f k x0 x1 := by kernel_rfl

set_option maxRecDepth 100000 in
theorem laws_heldStore.eq (k : Nat) (x0 : (Int × List (List (Int × Int × Unit) × Unit) × Unit)) (x1 : Int) : evFn tabO false [(119, .sig laws_heldKeptSS.sig)] [] Tryz.f64 laws_heldStore.sig k (x0, x1, ()) = laws_heldStore.f k x0 x1 := by kernel_rfl

set_option maxRecDepth 100000 in
theorem laws_heldNoteS.eq (k : Nat) (x0 : List (Int × Int × Int × Int × Int × Unit)) (x1 : Int) : evFn tabO false [] [⟨5, [], [⟨.slot 1, ⟨false, 0⟩, (.int .i64)⟩, ⟨.slot 5, ⟨false, 0⟩, (.int .i64)⟩]⟩] Tryz.f65 laws_heldNoteS.sig k (x0, x1, ()) = laws_heldNoteS.f k x0 x1 := by kernel_rfl

set_option maxRecDepth 100000 in
theorem laws_heldFlightS.eq (k : Nat) (x0 : List (Int × Int × Int × Bool × Int × Unit)) (x1 : Int) : evFn tabO false [] [⟨5, [], [⟨.slot 1, ⟨false, 0⟩, (.int .i64)⟩, ⟨.slot 5, ⟨false, 0⟩, (.int .i64)⟩]⟩] Tryz.f66 laws_heldFlightS.sig k (x0, x1, ()) = laws_heldFlightS.f k x0 x1 := by kernel_rfl

set_option maxRecDepth 100000 in
theorem laws_heldCaseS.eq (k : Nat) (x0 : List (Int × Int × Int × Int × Int × Int × Int × Int × Int × Int × Unit)) (x1 : Int) : evFn tabO false [] [⟨5, [], [⟨.slot 1, ⟨false, 0⟩, (.int .i64)⟩, ⟨.slot 5, ⟨false, 0⟩, (.int .i64)⟩]⟩] Tryz.f67 laws_heldCaseS.sig k (x0, x1, ()) = laws_heldCaseS.f k x0 x1 := by kernel_rfl

set_option maxRecDepth 100000 in
theorem laws_heldHall.eq (k : Nat) (x0 : (Int × List (Int × Unit) × Int × Int × Int × Int × Bool × List (Int × Int × Int × Unit) × List (Int × Unit) × Int × List (Int × Int × List (Int × Unit) × Unit) × List (Int × List (Int × Unit) × Unit) × Int × List (List (Int × Int × Unit) × Unit) × List (Int × Int × Int × Int × Int × Unit) × List (Int × Int × Int × Bool × Int × Unit) × List (Int × Int × Int × Int × Int × Int × Int × Int × Int × Int × Unit) × Unit)) (x1 : Int) : evFn tabO false [(61, .sig laws_heldPolicy.sig), (62, .sig laws_heldBelt.sig), (63, .sig laws_heldLoop.sig), (64, .sig laws_heldStore.sig), (65, .sig laws_heldNoteS.sig), (66, .sig laws_heldFlightS.sig), (67, .sig laws_heldCaseS.sig)] [] Tryz.f29 laws_heldHall.sig k (x0, x1, ()) = laws_heldHall.f k x0 x1 := by kernel_rfl

end Go.Proofs.YtpihkhknehadbabGreat.Eng
