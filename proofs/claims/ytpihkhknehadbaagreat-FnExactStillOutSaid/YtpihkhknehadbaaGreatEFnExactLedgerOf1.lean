/- The pure functions are what the evaluator computes of the program's code. By a program of this session. No condition. -/
import Derived.Test.YtpihkhknehadbaaGreatDFnExactLedgerOf
import Derived.Test.YtpihkhknehadbaaGreatProg
import Derived.KernelRfl
namespace Go.Proofs.YtpihkhknehadbaaGreat.Eng
open Go.Proofs
set_option linter.unusedVariables false
set_option maxRecDepth 100000 in
theorem spec_LedgerOf.eq (k : Nat) (x0 : (Int × List (Int × Unit) × Int × Int × Int × Int × Bool × List (Int × Int × Int × Unit) × List (Int × Unit) × Int × List (Int × Int × List (Int × Unit) × Unit) × List (Int × List (Int × Unit) × Unit) × Int × List (List (Int × Int × Unit) × Unit) × List (Int × Int × Int × Int × Int × Unit) × List (Int × Int × Int × Bool × Int × Unit) × List (Int × Int × Int × Int × Int × Int × Int × Int × Int × Int × Unit) × Unit)) (x1 : Int) : evFn tabO false [(9, .sig spec_HallOk.sig)] [⟨7, [], [⟨.slot 5, ⟨false, 2⟩, (.slice K2)⟩, ⟨.slot 6, ⟨false, 0⟩, (.int .i64)⟩]⟩, ⟨8, [], [⟨.slot 5, ⟨false, 2⟩, (.slice K2)⟩]⟩, ⟨14, [], [⟨.slot 5, ⟨false, 2⟩, (.slice K2)⟩]⟩] Tryz.f15 spec_LedgerOf.sig k (x0, x1, ()) = spec_LedgerOf.f k x0 x1 := by kernel_rfl

set_option maxRecDepth 100000 in
theorem impl_LedgerOf.eq (k : Nat) (x0 : (Int × List (Int × Unit) × Int × Int × Int × Int × Bool × List (Int × Int × Int × Unit) × List (Int × Unit) × Int × List (Int × Int × List (Int × Unit) × Unit) × List (Int × List (Int × Unit) × Unit) × Int × List (List (Int × Int × Unit) × Unit) × List (Int × Int × Int × Int × Int × Unit) × List (Int × Int × Int × Bool × Int × Unit) × List (Int × Int × Int × Int × Int × Int × Int × Int × Int × Int × Unit) × Unit)) (x1 : Int) : evFn tabO false [(11, .sig impl_HallOk.sig), (78, .sig impl_at.sig)] [] Tryz.f16 impl_LedgerOf.sig k (x0, x1, ()) = impl_LedgerOf.f k x0 x1 := by kernel_rfl

set_option maxRecDepth 100000 in
theorem laws_markIntS.eq (k : Nat) (x0 : List (Int × Unit)) (x1 : Int) : evFn tabO false [] [⟨5, [], [⟨.root 0, ⟨false, 2⟩, (.slice K2)⟩, ⟨.slot 1, ⟨false, 0⟩, (.int .i64)⟩, ⟨.slot 5, ⟨false, 0⟩, (.int .i64)⟩]⟩] Tryz.f19 laws_markIntS.sig k (x0, x1, ()) = laws_markIntS.f k x0 x1 := by kernel_rfl

set_option maxRecDepth 100000 in
theorem laws_markPolicy.eq (k : Nat) (x0 : (List (Int × Unit) × Unit)) (x1 : Int) : evFn tabO false [(19, .sig laws_markIntS.sig)] [] Tryz.f79 laws_markPolicy.sig k (x0, x1, ()) = laws_markPolicy.f k x0 x1 := by kernel_rfl

set_option maxRecDepth 100000 in
theorem laws_markItemS.eq (k : Nat) (x0 : List (Int × Int × Int × Unit)) (x1 : Int) : evFn tabO false [] [⟨5, [], [⟨.root 0, ⟨false, 2⟩, (.slice K72)⟩, ⟨.slot 1, ⟨false, 0⟩, (.int .i64)⟩, ⟨.slot 5, ⟨false, 0⟩, (.int .i64)⟩]⟩] Tryz.f146 laws_markItemS.sig k (x0, x1, ()) = laws_markItemS.f k x0 x1 := by kernel_rfl

set_option maxRecDepth 100000 in
theorem laws_markBelt.eq (k : Nat) (x0 : (Int × Int × Bool × List (Int × Int × Int × Unit) × Unit)) (x1 : Int) : evFn tabO false [(146, .sig laws_markItemS.sig)] [] Tryz.f80 laws_markBelt.sig k (x0, x1, ()) = laws_markBelt.f k x0 x1 := by kernel_rfl

set_option maxRecDepth 100000 in
theorem laws_markChuteS.eq (k : Nat) (x0 : List (Int × Int × List (Int × Unit) × Unit)) (x1 : Int) : evFn tabO false [(19, .sig laws_markIntS.sig)] [⟨5, [], [⟨.root 0, ⟨false, 2⟩, (.slice K102)⟩, ⟨.slot 1, ⟨false, 0⟩, (.int .i64)⟩, ⟨.slot 5, ⟨false, 0⟩, (.int .i64)⟩]⟩] Tryz.f147 laws_markChuteS.sig k (x0, x1, ()) = laws_markChuteS.f k x0 x1 := by kernel_rfl

set_option maxRecDepth 100000 in
theorem laws_markWantS.eq (k : Nat) (x0 : List (Int × List (Int × Unit) × Unit)) (x1 : Int) : evFn tabO false [(19, .sig laws_markIntS.sig)] [⟨5, [], [⟨.root 0, ⟨false, 2⟩, (.slice K147)⟩, ⟨.slot 1, ⟨false, 0⟩, (.int .i64)⟩, ⟨.slot 5, ⟨false, 0⟩, (.int .i64)⟩]⟩] Tryz.f148 laws_markWantS.sig k (x0, x1, ()) = laws_markWantS.f k x0 x1 := by kernel_rfl

set_option maxRecDepth 100000 in
theorem laws_markLoop.eq (k : Nat) (x0 : (List (Int × Unit) × Int × List (Int × Int × List (Int × Unit) × Unit) × List (Int × List (Int × Unit) × Unit) × Unit)) (x1 : Int) : evFn tabO false [(19, .sig laws_markIntS.sig), (147, .sig laws_markChuteS.sig), (148, .sig laws_markWantS.sig)] [] Tryz.f81 laws_markLoop.sig k (x0, x1, ()) = laws_markLoop.f k x0 x1 := by kernel_rfl

set_option maxRecDepth 100000 in
theorem laws_markKeptS.eq (k : Nat) (x0 : List (Int × Int × Unit)) (x1 : Int) : evFn tabO false [] [⟨5, [], [⟨.root 0, ⟨false, 2⟩, (.slice K25)⟩, ⟨.slot 1, ⟨false, 0⟩, (.int .i64)⟩, ⟨.slot 5, ⟨false, 0⟩, (.int .i64)⟩]⟩] Tryz.f190 laws_markKeptS.sig k (x0, x1, ()) = laws_markKeptS.f k x0 x1 := by kernel_rfl

set_option maxRecDepth 100000 in
theorem laws_markKeptSS.eq (k : Nat) (x0 : List (List (Int × Int × Unit) × Unit)) (x1 : Int) : evFn tabO false [(190, .sig laws_markKeptS.sig)] [⟨5, [], [⟨.root 0, ⟨false, 2⟩, (.slice K104)⟩, ⟨.slot 1, ⟨false, 0⟩, (.int .i64)⟩, ⟨.slot 5, ⟨false, 0⟩, (.int .i64)⟩]⟩] Tryz.f149 laws_markKeptSS.sig k (x0, x1, ()) = laws_markKeptSS.f k x0 x1 := by kernel_rfl

set_option maxRecDepth 100000 in
theorem laws_markStore.eq (k : Nat) (x0 : (Int × List (List (Int × Int × Unit) × Unit) × Unit)) (x1 : Int) : evFn tabO false [(149, .sig laws_markKeptSS.sig)] [] Tryz.f82 laws_markStore.sig k (x0, x1, ()) = laws_markStore.f k x0 x1 := by kernel_rfl

set_option maxRecDepth 100000 in
theorem laws_markNoteS.eq (k : Nat) (x0 : List (Int × Int × Int × Int × Int × Unit)) (x1 : Int) : evFn tabO false [] [⟨5, [], [⟨.root 0, ⟨false, 2⟩, (.slice K150)⟩, ⟨.slot 1, ⟨false, 0⟩, (.int .i64)⟩, ⟨.slot 5, ⟨false, 0⟩, (.int .i64)⟩]⟩] Tryz.f83 laws_markNoteS.sig k (x0, x1, ()) = laws_markNoteS.f k x0 x1 := by kernel_rfl

set_option maxRecDepth 100000 in
theorem laws_markFlightS.eq (k : Nat) (x0 : List (Int × Int × Int × Bool × Int × Unit)) (x1 : Int) : evFn tabO false [] [⟨5, [], [⟨.root 0, ⟨false, 2⟩, (.slice K97)⟩, ⟨.slot 1, ⟨false, 0⟩, (.int .i64)⟩, ⟨.slot 5, ⟨false, 0⟩, (.int .i64)⟩]⟩] Tryz.f84 laws_markFlightS.sig k (x0, x1, ()) = laws_markFlightS.f k x0 x1 := by kernel_rfl

set_option maxRecDepth 100000 in
theorem laws_markCaseS.eq (k : Nat) (x0 : List (Int × Int × Int × Int × Int × Int × Int × Int × Int × Int × Unit)) (x1 : Int) : evFn tabO false [] [⟨5, [], [⟨.root 0, ⟨false, 2⟩, (.slice K76)⟩, ⟨.slot 1, ⟨false, 0⟩, (.int .i64)⟩, ⟨.slot 5, ⟨false, 0⟩, (.int .i64)⟩]⟩] Tryz.f85 laws_markCaseS.sig k (x0, x1, ()) = laws_markCaseS.f k x0 x1 := by kernel_rfl

set_option maxRecDepth 100000 in
theorem laws_markHall.eq (k : Nat) (x0 : (Int × List (Int × Unit) × Int × Int × Int × Int × Bool × List (Int × Int × Int × Unit) × List (Int × Unit) × Int × List (Int × Int × List (Int × Unit) × Unit) × List (Int × List (Int × Unit) × Unit) × Int × List (List (Int × Int × Unit) × Unit) × List (Int × Int × Int × Int × Int × Unit) × List (Int × Int × Int × Bool × Int × Unit) × List (Int × Int × Int × Int × Int × Int × Int × Int × Int × Int × Unit) × Unit)) (x1 : Int) : evFn tabO false [(79, .sig laws_markPolicy.sig), (80, .sig laws_markBelt.sig), (81, .sig laws_markLoop.sig), (82, .sig laws_markStore.sig), (83, .sig laws_markNoteS.sig), (84, .sig laws_markFlightS.sig), (85, .sig laws_markCaseS.sig)] [] Tryz.f18 laws_markHall.sig k (x0, x1, ()) = laws_markHall.f k x0 x1 := by kernel_rfl

set_option maxRecDepth 100000 in
theorem laws_heldIntS.eq (k : Nat) (x0 : List (Int × Unit)) (x1 : Int) : evFn tabO false [] [⟨5, [], [⟨.slot 1, ⟨false, 0⟩, (.int .i64)⟩, ⟨.slot 5, ⟨false, 0⟩, (.int .i64)⟩]⟩] Tryz.f20 laws_heldIntS.sig k (x0, x1, ()) = laws_heldIntS.f k x0 x1 := by kernel_rfl

set_option maxRecDepth 100000 in
theorem laws_FnExactLedgerOf.eq (k : Nat) (x0 : (Int × List (Int × Unit) × Int × Int × Int × Int × Bool × List (Int × Int × Int × Unit) × List (Int × Unit) × Int × List (Int × Int × List (Int × Unit) × Unit) × List (Int × List (Int × Unit) × Unit) × Int × List (List (Int × Int × Unit) × Unit) × List (Int × Int × Int × Int × Int × Unit) × List (Int × Int × Int × Bool × Int × Unit) × List (Int × Int × Int × Int × Int × Int × Int × Int × Int × Int × Unit) × Unit)) (x1 : Int) : evFn tabO false [(8, .sig laws_szHall.sig), (10, .sig laws_toHall.sig), (12, .sig laws_eqHall.sig), (15, .sig spec_LedgerOf.sig), (16, .sig impl_LedgerOf.sig), (17, .sig laws_eqIntS.sig), (18, .sig laws_markHall.sig), (19, .sig laws_markIntS.sig), (20, .sig laws_heldIntS.sig)] [] Tryz.f5 laws_FnExactLedgerOf.sig k (x0, x1, ()) = laws_FnExactLedgerOf.f k x0 x1 := by kernel_rfl

end Go.Proofs.YtpihkhknehadbaaGreat.Eng
