/- The pure functions are what the evaluator computes of the program's code. By a program of this session. No condition. -/
import Derived.Test.YtpihkhknehadbaaGreatDFnExactHallOk
import Derived.Test.YtpihkhknehadbaaGreatProg
import Derived.KernelRfl
namespace Go.Proofs.YtpihkhknehadbaaGreat.Eng
open Go.Proofs
set_option linter.unusedVariables false
set_option maxRecDepth 100000 in
theorem laws_szIntS.eq (k : Nat) (x0 : List (Int × Unit)) (x1 : Int) : evFn tabO false [] [] Tryz.f98 laws_szIntS.sig k (x0, x1, ()) = laws_szIntS.f k x0 x1 := by kernel_rfl

set_option maxRecDepth 100000 in
theorem laws_szPolicy.eq (k : Nat) (x0 : (List (Int × Unit) × Unit)) (x1 : Int) : evFn tabO false [(98, .sig laws_szIntS.sig)] [] Tryz.f30 laws_szPolicy.sig k (x0, x1, ()) = laws_szPolicy.f k x0 x1 := by kernel_rfl

set_option maxRecDepth 100000 in
theorem laws_szItemS.eq (k : Nat) (x0 : List (Int × Int × Int × Unit)) (x1 : Int) : evFn tabO false [] [] Tryz.f99 laws_szItemS.sig k (x0, x1, ()) = laws_szItemS.f k x0 x1 := by kernel_rfl

set_option maxRecDepth 100000 in
theorem laws_szBelt.eq (k : Nat) (x0 : (Int × Int × Bool × List (Int × Int × Int × Unit) × Unit)) (x1 : Int) : evFn tabO false [(99, .sig laws_szItemS.sig)] [] Tryz.f31 laws_szBelt.sig k (x0, x1, ()) = laws_szBelt.f k x0 x1 := by kernel_rfl

set_option maxRecDepth 100000 in
theorem laws_szChute.eq (k : Nat) (x0 : (Int × Int × List (Int × Unit) × Unit)) (x1 : Int) : evFn tabO false [(98, .sig laws_szIntS.sig)] [] Tryz.f166 laws_szChute.sig k (x0, x1, ()) = laws_szChute.f k x0 x1 := by kernel_rfl

set_option maxRecDepth 100000 in
theorem laws_szChuteS.eq (k : Nat) (x0 : List (Int × Int × List (Int × Unit) × Unit)) (x1 : Int) : evFn tabO false [(166, .sig laws_szChute.sig)] [⟨11, [], [⟨.slot 1, ⟨false, 0⟩, (.int .i64)⟩, ⟨.slot 5, ⟨false, 0⟩, (.int .i64)⟩]⟩] Tryz.f100 laws_szChuteS.sig k (x0, x1, ()) = laws_szChuteS.f k x0 x1 := by kernel_rfl

set_option maxRecDepth 100000 in
theorem laws_szWant.eq (k : Nat) (x0 : (Int × List (Int × Unit) × Unit)) (x1 : Int) : evFn tabO false [(98, .sig laws_szIntS.sig)] [] Tryz.f167 laws_szWant.sig k (x0, x1, ()) = laws_szWant.f k x0 x1 := by kernel_rfl

set_option maxRecDepth 100000 in
theorem laws_szWantS.eq (k : Nat) (x0 : List (Int × List (Int × Unit) × Unit)) (x1 : Int) : evFn tabO false [(167, .sig laws_szWant.sig)] [⟨11, [], [⟨.slot 1, ⟨false, 0⟩, (.int .i64)⟩, ⟨.slot 5, ⟨false, 0⟩, (.int .i64)⟩]⟩] Tryz.f101 laws_szWantS.sig k (x0, x1, ()) = laws_szWantS.f k x0 x1 := by kernel_rfl

set_option maxRecDepth 100000 in
theorem laws_szLoop.eq (k : Nat) (x0 : (List (Int × Unit) × Int × List (Int × Int × List (Int × Unit) × Unit) × List (Int × List (Int × Unit) × Unit) × Unit)) (x1 : Int) : evFn tabO false [(98, .sig laws_szIntS.sig), (100, .sig laws_szChuteS.sig), (101, .sig laws_szWantS.sig)] [] Tryz.f32 laws_szLoop.sig k (x0, x1, ()) = laws_szLoop.f k x0 x1 := by kernel_rfl

set_option maxRecDepth 100000 in
theorem laws_szKeptS.eq (k : Nat) (x0 : List (Int × Int × Unit)) (x1 : Int) : evFn tabO false [] [] Tryz.f168 laws_szKeptS.sig k (x0, x1, ()) = laws_szKeptS.f k x0 x1 := by kernel_rfl

set_option maxRecDepth 100000 in
theorem laws_szKeptSS.eq (k : Nat) (x0 : List (List (Int × Int × Unit) × Unit)) (x1 : Int) : evFn tabO false [(168, .sig laws_szKeptS.sig)] [⟨11, [], [⟨.slot 1, ⟨false, 0⟩, (.int .i64)⟩, ⟨.slot 5, ⟨false, 0⟩, (.int .i64)⟩]⟩] Tryz.f102 laws_szKeptSS.sig k (x0, x1, ()) = laws_szKeptSS.f k x0 x1 := by kernel_rfl

set_option maxRecDepth 100000 in
theorem laws_szStore.eq (k : Nat) (x0 : (Int × List (List (Int × Int × Unit) × Unit) × Unit)) (x1 : Int) : evFn tabO false [(102, .sig laws_szKeptSS.sig)] [] Tryz.f33 laws_szStore.sig k (x0, x1, ()) = laws_szStore.f k x0 x1 := by kernel_rfl

set_option maxRecDepth 100000 in
theorem laws_szNoteS.eq (k : Nat) (x0 : List (Int × Int × Int × Int × Int × Unit)) (x1 : Int) : evFn tabO false [] [] Tryz.f34 laws_szNoteS.sig k (x0, x1, ()) = laws_szNoteS.f k x0 x1 := by kernel_rfl

set_option maxRecDepth 100000 in
theorem laws_szFlightS.eq (k : Nat) (x0 : List (Int × Int × Int × Bool × Int × Unit)) (x1 : Int) : evFn tabO false [] [] Tryz.f35 laws_szFlightS.sig k (x0, x1, ()) = laws_szFlightS.f k x0 x1 := by kernel_rfl

set_option maxRecDepth 100000 in
theorem laws_szCaseS.eq (k : Nat) (x0 : List (Int × Int × Int × Int × Int × Int × Int × Int × Int × Int × Unit)) (x1 : Int) : evFn tabO false [] [] Tryz.f36 laws_szCaseS.sig k (x0, x1, ()) = laws_szCaseS.f k x0 x1 := by kernel_rfl

set_option maxRecDepth 100000 in
theorem laws_szHall.eq (k : Nat) (x0 : (Int × List (Int × Unit) × Int × Int × Int × Int × Bool × List (Int × Int × Int × Unit) × List (Int × Unit) × Int × List (Int × Int × List (Int × Unit) × Unit) × List (Int × List (Int × Unit) × Unit) × Int × List (List (Int × Int × Unit) × Unit) × List (Int × Int × Int × Int × Int × Unit) × List (Int × Int × Int × Bool × Int × Unit) × List (Int × Int × Int × Int × Int × Int × Int × Int × Int × Int × Unit) × Unit)) (x1 : Int) : evFn tabO false [(30, .sig laws_szPolicy.sig), (31, .sig laws_szBelt.sig), (32, .sig laws_szLoop.sig), (33, .sig laws_szStore.sig), (34, .sig laws_szNoteS.sig), (35, .sig laws_szFlightS.sig), (36, .sig laws_szCaseS.sig)] [] Tryz.f8 laws_szHall.sig k (x0, x1, ()) = laws_szHall.f k x0 x1 := by kernel_rfl

set_option maxRecDepth 100000 in
theorem laws_toIntS.eq (k : Nat) (x0 : List (Int × Unit)) : evFn tabO false [] [⟨7, [], [⟨.root 0, ⟨false, 2⟩, (.slice K2)⟩, ⟨.slot 4, ⟨false, 0⟩, (.int .i64)⟩]⟩] Tryz.f110 laws_toIntS.sig k (x0, ()) = laws_toIntS.f k x0 := by kernel_rfl

end Go.Proofs.YtpihkhknehadbaaGreat.Eng
