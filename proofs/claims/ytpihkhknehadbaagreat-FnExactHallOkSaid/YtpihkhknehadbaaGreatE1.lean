/- The pure functions are what the evaluator computes of the program's code. By a program of this session. No condition. -/
import Derived.Test.YtpihkhknehadbaaGreatD
import Derived.Test.YtpihkhknehadbaaGreatProg
import Derived.KernelRfl
namespace Go.Proofs.YtpihkhknehadbaaGreat.Eng
open Go.Proofs
set_option linter.unusedVariables false
set_option maxRecDepth 100000 in
theorem spec_l01In.eq (k : Nat) (x0 : Int) (x1 : Int) (x2 : Int) : evFn tabO false [] [] Tryz.f37 spec_l01In.sig k (x0, x1, x2, ()) = spec_l01In.f k x0 x1 x2 := by kernel_rfl

set_option maxRecDepth 100000 in
theorem spec_PolicyOk.eq (k : Nat) (x0 : (List (Int × Unit) × Unit)) : evFn tabO false [(37, .sig spec_l01In.sig)] [⟨9, [], [⟨.slot 3, ⟨false, 0⟩, (.int .i64)⟩]⟩] Tryz.f38 spec_PolicyOk.sig k (x0, ()) = spec_PolicyOk.f k x0 := by kernel_rfl

set_option maxRecDepth 100000 in
theorem spec_LimitsOk.eq (k : Nat) (x0 : (Int × Int × Unit)) : evFn tabO false [(37, .sig spec_l01In.sig)] [] Tryz.f39 spec_LimitsOk.sig k (x0, ()) = spec_LimitsOk.f k x0 := by kernel_rfl

set_option maxRecDepth 100000 in
theorem spec_BeltOk.eq (k : Nat) (x0 : (Int × Int × Bool × List (Int × Int × Int × Unit) × Unit)) : evFn tabO false [(37, .sig spec_l01In.sig)] [⟨21, [], [⟨.slot 5, ⟨false, 0⟩, (.int .i64)⟩]⟩, ⟨9, [], [⟨.slot 3, ⟨false, 0⟩, (.int .i64)⟩]⟩, ⟨10, [], []⟩] Tryz.f40 spec_BeltOk.sig k (x0, ()) = spec_BeltOk.f k x0 := by kernel_rfl

set_option maxRecDepth 100000 in
theorem spec_l03Has.eq (k : Nat) (x0 : List (Int × Unit)) (x1 : Int) : evFn tabO false [] [⟨5, [], [⟨.slot 5, ⟨false, 0⟩, (.int .i64)⟩]⟩] Tryz.f103 spec_l03Has.sig k (x0, x1, ()) = spec_l03Has.f k x0 x1 := by kernel_rfl

set_option maxRecDepth 100000 in
theorem spec_LoopOk.eq (k : Nat) (x0 : (List (Int × Unit) × Int × List (Int × Int × List (Int × Unit) × Unit) × List (Int × List (Int × Unit) × Unit) × Unit)) : evFn tabO false [(37, .sig spec_l01In.sig), (103, .sig spec_l03Has.sig)] [⟨23, [], [⟨.slot 4, ⟨false, 2⟩, (.slice K2)⟩, ⟨.slot 6, ⟨false, 0⟩, (.int .i64)⟩]⟩, ⟨35, [], [⟨.slot 8, ⟨false, 0⟩, (.int .i64)⟩]⟩, ⟨47, [], [⟨.slot 9, ⟨false, 0⟩, (.int .i64)⟩]⟩, ⟨57, [], [⟨.slot 10, ⟨false, 0⟩, (.int .i64)⟩]⟩, ⟨69, [], [⟨.slot 12, ⟨false, 0⟩, (.int .i64)⟩]⟩, ⟨79, [], [⟨.slot 13, ⟨false, 0⟩, (.int .i64)⟩]⟩, ⟨80, [], []⟩, ⟨13, [], [⟨.slot 4, ⟨false, 2⟩, (.slice K2)⟩, ⟨.slot 5, ⟨false, 0⟩, (.int .i64)⟩]⟩, ⟨14, [], [⟨.slot 4, ⟨false, 2⟩, (.slice K2)⟩]⟩] Tryz.f41 spec_LoopOk.sig k (x0, ()) = spec_LoopOk.f k x0 := by kernel_rfl

set_option maxRecDepth 100000 in
theorem spec_StoreOk.eq (k : Nat) (x0 : (Int × List (List (Int × Int × Unit) × Unit) × Unit)) : evFn tabO false [(37, .sig spec_l01In.sig), (103, .sig spec_l03Has.sig)] [⟨21, [], [⟨.slot 3, ⟨false, 2⟩, (.slice K2)⟩, ⟨.slot 5, ⟨false, 0⟩, (.int .i64)⟩]⟩, ⟨11, [], [⟨.slot 3, ⟨false, 2⟩, (.slice K2)⟩, ⟨.slot 4, ⟨false, 0⟩, (.int .i64)⟩]⟩] Tryz.f42 spec_StoreOk.sig k (x0, ()) = spec_StoreOk.f k x0 := by kernel_rfl

set_option maxRecDepth 100000 in
theorem spec_NoteOk.eq (k : Nat) (x0 : (Int × Int × Int × Int × Int × Unit)) : evFn tabO false [(37, .sig spec_l01In.sig)] [⟨10, [], []⟩] Tryz.f104 spec_NoteOk.sig k (x0, ()) = spec_NoteOk.f k x0 := by kernel_rfl

set_option maxRecDepth 100000 in
theorem spec_NotesOk.eq (k : Nat) (x0 : List (Int × Int × Int × Int × Int × Unit)) : evFn tabO false [(104, .sig spec_NoteOk.sig)] [⟨9, [], [⟨.slot 3, ⟨false, 0⟩, (.int .i64)⟩]⟩, ⟨10, [], []⟩] Tryz.f43 spec_NotesOk.sig k (x0, ()) = spec_NotesOk.f k x0 := by kernel_rfl

set_option maxRecDepth 100000 in
theorem spec_l09FlightOk.eq (k : Nat) (x0 : (Int × List (Int × Unit) × Int × Int × Int × Int × Bool × List (Int × Int × Int × Unit) × List (Int × Unit) × Int × List (Int × Int × List (Int × Unit) × Unit) × List (Int × List (Int × Unit) × Unit) × Int × List (List (Int × Int × Unit) × Unit) × List (Int × Int × Int × Int × Int × Unit) × List (Int × Int × Int × Bool × Int × Unit) × List (Int × Int × Int × Int × Int × Int × Int × Int × Int × Int × Unit) × Unit)) (x1 : (Int × Int × Int × Bool × Int × Unit)) : evFn tabO false [(37, .sig spec_l01In.sig)] [] Tryz.f44 spec_l09FlightOk.sig k (x0, x1, ()) = spec_l09FlightOk.f k x0 x1 := by kernel_rfl

set_option maxRecDepth 100000 in
theorem spec_TagOk.eq (k : Nat) (x0 : (Int × Int × Int × Unit)) : evFn tabO false [(37, .sig spec_l01In.sig)] [] Tryz.f105 spec_TagOk.sig k (x0, ()) = spec_TagOk.f k x0 := by kernel_rfl

set_option maxRecDepth 100000 in
theorem spec_ScreenOk.eq (k : Nat) (x0 : (Int × Int × Int × Unit)) : evFn tabO false [(37, .sig spec_l01In.sig)] [] Tryz.f106 spec_ScreenOk.sig k (x0, ()) = spec_ScreenOk.f k x0 := by kernel_rfl

set_option maxRecDepth 100000 in
theorem spec_l09OnBelt.eq (k : Nat) (x0 : (Int × List (Int × Unit) × Int × Int × Int × Int × Bool × List (Int × Int × Int × Unit) × List (Int × Unit) × Int × List (Int × Int × List (Int × Unit) × Unit) × List (Int × List (Int × Unit) × Unit) × Int × List (List (Int × Int × Unit) × Unit) × List (Int × Int × Int × Int × Int × Unit) × List (Int × Int × Int × Bool × Int × Unit) × List (Int × Int × Int × Int × Int × Int × Int × Int × Int × Int × Unit) × Unit)) (x1 : Int) : evFn tabO false [] [⟨5, [], [⟨.slot 5, ⟨false, 0⟩, (.int .i64)⟩]⟩] Tryz.f107 spec_l09OnBelt.sig k (x0, x1, ()) = spec_l09OnBelt.f k x0 x1 := by kernel_rfl

set_option maxRecDepth 100000 in
theorem spec_l09Chute.eq (k : Nat) (x0 : (Int × List (Int × Unit) × Int × Int × Int × Int × Bool × List (Int × Int × Int × Unit) × List (Int × Unit) × Int × List (Int × Int × List (Int × Unit) × Unit) × List (Int × List (Int × Unit) × Unit) × Int × List (List (Int × Int × Unit) × Unit) × List (Int × Int × Int × Int × Int × Unit) × List (Int × Int × Int × Bool × Int × Unit) × List (Int × Int × Int × Int × Int × Int × Int × Int × Int × Int × Unit) × Unit)) (x1 : Int) : evFn tabO false [(103, .sig spec_l03Has.sig)] [⟨5, [], [⟨.slot 5, ⟨false, 0⟩, (.int .i64)⟩]⟩] Tryz.f108 spec_l09Chute.sig k (x0, x1, ()) = spec_l09Chute.f k x0 x1 := by kernel_rfl

end Go.Proofs.YtpihkhknehadbaaGreat.Eng
