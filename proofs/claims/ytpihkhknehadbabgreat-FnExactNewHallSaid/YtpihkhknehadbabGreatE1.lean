/- The pure functions are what the evaluator computes of the program's code. By a program of this session. No condition. -/
import Derived.Test.YtpihkhknehadbabGreatD
import Derived.Test.YtpihkhknehadbabGreatProg
import Derived.KernelRfl
namespace Go.Proofs.YtpihkhknehadbabGreat.Eng
open Go.Proofs
set_option linter.unusedVariables false
set_option maxRecDepth 100000 in
theorem laws_szIntS.eq (k : Nat) (x0 : List (Int × Unit)) (x1 : Int) : evFn tabO false [] [] Tryz.f30 laws_szIntS.sig k (x0, x1, ()) = laws_szIntS.f k x0 x1 := by kernel_rfl

set_option maxRecDepth 100000 in
theorem laws_szPolicy.eq (k : Nat) (x0 : (List (Int × Unit) × Unit)) (x1 : Int) : evFn tabO false [(30, .sig laws_szIntS.sig)] [] Tryz.f4 laws_szPolicy.sig k (x0, x1, ()) = laws_szPolicy.f k x0 x1 := by kernel_rfl

set_option maxRecDepth 100000 in
theorem laws_szItemS.eq (k : Nat) (x0 : List (Int × Int × Int × Unit)) (x1 : Int) : evFn tabO false [] [] Tryz.f31 laws_szItemS.sig k (x0, x1, ()) = laws_szItemS.f k x0 x1 := by kernel_rfl

set_option maxRecDepth 100000 in
theorem laws_szBelt.eq (k : Nat) (x0 : (Int × Int × Bool × List (Int × Int × Int × Unit) × Unit)) (x1 : Int) : evFn tabO false [(31, .sig laws_szItemS.sig)] [] Tryz.f5 laws_szBelt.sig k (x0, x1, ()) = laws_szBelt.f k x0 x1 := by kernel_rfl

set_option maxRecDepth 100000 in
theorem laws_szChute.eq (k : Nat) (x0 : (Int × Int × List (Int × Unit) × Unit)) (x1 : Int) : evFn tabO false [(30, .sig laws_szIntS.sig)] [] Tryz.f68 laws_szChute.sig k (x0, x1, ()) = laws_szChute.f k x0 x1 := by kernel_rfl

set_option maxRecDepth 100000 in
theorem laws_szChuteS.eq (k : Nat) (x0 : List (Int × Int × List (Int × Unit) × Unit)) (x1 : Int) : evFn tabO false [(68, .sig laws_szChute.sig)] [⟨11, [], [⟨.slot 1, ⟨false, 0⟩, (.int .i64)⟩, ⟨.slot 5, ⟨false, 0⟩, (.int .i64)⟩]⟩] Tryz.f32 laws_szChuteS.sig k (x0, x1, ()) = laws_szChuteS.f k x0 x1 := by kernel_rfl

set_option maxRecDepth 100000 in
theorem laws_szWant.eq (k : Nat) (x0 : (Int × List (Int × Unit) × Unit)) (x1 : Int) : evFn tabO false [(30, .sig laws_szIntS.sig)] [] Tryz.f69 laws_szWant.sig k (x0, x1, ()) = laws_szWant.f k x0 x1 := by kernel_rfl

set_option maxRecDepth 100000 in
theorem laws_szWantS.eq (k : Nat) (x0 : List (Int × List (Int × Unit) × Unit)) (x1 : Int) : evFn tabO false [(69, .sig laws_szWant.sig)] [⟨11, [], [⟨.slot 1, ⟨false, 0⟩, (.int .i64)⟩, ⟨.slot 5, ⟨false, 0⟩, (.int .i64)⟩]⟩] Tryz.f33 laws_szWantS.sig k (x0, x1, ()) = laws_szWantS.f k x0 x1 := by kernel_rfl

set_option maxRecDepth 100000 in
theorem laws_szLoop.eq (k : Nat) (x0 : (List (Int × Unit) × Int × List (Int × Int × List (Int × Unit) × Unit) × List (Int × List (Int × Unit) × Unit) × Unit)) (x1 : Int) : evFn tabO false [(30, .sig laws_szIntS.sig), (32, .sig laws_szChuteS.sig), (33, .sig laws_szWantS.sig)] [] Tryz.f6 laws_szLoop.sig k (x0, x1, ()) = laws_szLoop.f k x0 x1 := by kernel_rfl

set_option maxRecDepth 100000 in
theorem laws_szKeptS.eq (k : Nat) (x0 : List (Int × Int × Unit)) (x1 : Int) : evFn tabO false [] [] Tryz.f70 laws_szKeptS.sig k (x0, x1, ()) = laws_szKeptS.f k x0 x1 := by kernel_rfl

set_option maxRecDepth 100000 in
theorem laws_szKeptSS.eq (k : Nat) (x0 : List (List (Int × Int × Unit) × Unit)) (x1 : Int) : evFn tabO false [(70, .sig laws_szKeptS.sig)] [⟨11, [], [⟨.slot 1, ⟨false, 0⟩, (.int .i64)⟩, ⟨.slot 5, ⟨false, 0⟩, (.int .i64)⟩]⟩] Tryz.f34 laws_szKeptSS.sig k (x0, x1, ()) = laws_szKeptSS.f k x0 x1 := by kernel_rfl

set_option maxRecDepth 100000 in
theorem laws_szStore.eq (k : Nat) (x0 : (Int × List (List (Int × Int × Unit) × Unit) × Unit)) (x1 : Int) : evFn tabO false [(34, .sig laws_szKeptSS.sig)] [] Tryz.f7 laws_szStore.sig k (x0, x1, ()) = laws_szStore.f k x0 x1 := by kernel_rfl

set_option maxRecDepth 100000 in
theorem laws_szFlightS.eq (k : Nat) (x0 : List (Int × Int × Int × Bool × Int × Unit)) (x1 : Int) : evFn tabO false [] [] Tryz.f8 laws_szFlightS.sig k (x0, x1, ()) = laws_szFlightS.f k x0 x1 := by kernel_rfl

set_option maxRecDepth 100000 in
theorem spec_l02Fresh.eq (k : Nat) (x0 : (Int × Int × Bool × List (Int × Int × Int × Unit) × Unit)) : evFn tabO false [] [] Tryz.f71 spec_l02Fresh.sig k (x0, ()) = spec_l02Fresh.f k x0 := by kernel_rfl

set_option maxRecDepth 100000 in
theorem spec_l06Copy.eq (k : Nat) (x0 : (Int × List (List (Int × Int × Unit) × Unit) × Unit)) : evFn tabO false [] [⟨7, [], [⟨.slot 3, ⟨false, 2⟩, (.slice K119)⟩, ⟨.slot 4, ⟨false, 0⟩, (.int .i64)⟩]⟩] Tryz.f72 spec_l06Copy.sig k (x0, ()) = spec_l06Copy.f k x0 := by kernel_rfl

set_option maxRecDepth 100000 in
theorem spec_l05Copy.eq (k : Nat) (x0 : (List (Int × Unit) × Int × List (Int × Int × List (Int × Unit) × Unit) × List (Int × List (Int × Unit) × Unit) × Unit)) : evFn tabO false [] [⟨25, [], [⟨.slot 6, ⟨false, 2⟩, (.slice K116)⟩, ⟨.slot 7, ⟨false, 0⟩, (.int .i64)⟩]⟩, ⟨9, [], [⟨.slot 3, ⟨false, 2⟩, (.slice K113)⟩, ⟨.slot 4, ⟨false, 0⟩, (.int .i64)⟩]⟩] Tryz.f73 spec_l05Copy.sig k (x0, ()) = spec_l05Copy.f k x0 := by kernel_rfl

set_option maxRecDepth 100000 in
theorem spec_l09Copy.eq (k : Nat) (x0 : (Int × List (Int × Unit) × Int × Int × Int × Int × Bool × List (Int × Int × Int × Unit) × List (Int × Unit) × Int × List (Int × Int × List (Int × Unit) × Unit) × List (Int × List (Int × Unit) × Unit) × Int × List (List (Int × Int × Unit) × Unit) × List (Int × Int × Int × Int × Int × Unit) × List (Int × Int × Int × Bool × Int × Unit) × List (Int × Int × Int × Int × Int × Int × Int × Int × Int × Int × Unit) × Unit)) : evFn tabO false [(71, .sig spec_l02Fresh.sig), (72, .sig spec_l06Copy.sig), (73, .sig spec_l05Copy.sig)] [] Tryz.f35 spec_l09Copy.sig k (x0, ()) = spec_l09Copy.f k x0 := by kernel_rfl

set_option maxRecDepth 100000 in
theorem spec_l01In.eq (k : Nat) (x0 : Int) (x1 : Int) (x2 : Int) : evFn tabO false [] [] Tryz.f74 spec_l01In.sig k (x0, x1, x2, ()) = spec_l01In.f k x0 x1 x2 := by kernel_rfl

set_option maxRecDepth 100000 in
theorem spec_PolicyOk.eq (k : Nat) (x0 : (List (Int × Unit) × Unit)) : evFn tabO false [(74, .sig spec_l01In.sig)] [⟨9, [], [⟨.slot 3, ⟨false, 0⟩, (.int .i64)⟩]⟩] Tryz.f75 spec_PolicyOk.sig k (x0, ()) = spec_PolicyOk.f k x0 := by kernel_rfl

set_option maxRecDepth 100000 in
theorem spec_LimitsOk.eq (k : Nat) (x0 : (Int × Int × Unit)) : evFn tabO false [(74, .sig spec_l01In.sig)] [] Tryz.f76 spec_LimitsOk.sig k (x0, ()) = spec_LimitsOk.f k x0 := by kernel_rfl

set_option maxRecDepth 100000 in
theorem spec_BeltOk.eq (k : Nat) (x0 : (Int × Int × Bool × List (Int × Int × Int × Unit) × Unit)) : evFn tabO false [(74, .sig spec_l01In.sig)] [⟨21, [], [⟨.slot 5, ⟨false, 0⟩, (.int .i64)⟩]⟩, ⟨9, [], [⟨.slot 3, ⟨false, 0⟩, (.int .i64)⟩]⟩, ⟨10, [], []⟩] Tryz.f77 spec_BeltOk.sig k (x0, ()) = spec_BeltOk.f k x0 := by kernel_rfl

set_option maxRecDepth 100000 in
theorem spec_l03Has.eq (k : Nat) (x0 : List (Int × Unit)) (x1 : Int) : evFn tabO false [] [⟨5, [], [⟨.slot 5, ⟨false, 0⟩, (.int .i64)⟩]⟩] Tryz.f120 spec_l03Has.sig k (x0, x1, ()) = spec_l03Has.f k x0 x1 := by kernel_rfl

set_option maxRecDepth 100000 in
theorem spec_LoopOk.eq (k : Nat) (x0 : (List (Int × Unit) × Int × List (Int × Int × List (Int × Unit) × Unit) × List (Int × List (Int × Unit) × Unit) × Unit)) : evFn tabO false [(74, .sig spec_l01In.sig), (120, .sig spec_l03Has.sig)] [⟨23, [], [⟨.slot 4, ⟨false, 2⟩, (.slice K2)⟩, ⟨.slot 6, ⟨false, 0⟩, (.int .i64)⟩]⟩, ⟨35, [], [⟨.slot 8, ⟨false, 0⟩, (.int .i64)⟩]⟩, ⟨47, [], [⟨.slot 9, ⟨false, 0⟩, (.int .i64)⟩]⟩, ⟨57, [], [⟨.slot 10, ⟨false, 0⟩, (.int .i64)⟩]⟩, ⟨69, [], [⟨.slot 12, ⟨false, 0⟩, (.int .i64)⟩]⟩, ⟨79, [], [⟨.slot 13, ⟨false, 0⟩, (.int .i64)⟩]⟩, ⟨80, [], []⟩, ⟨13, [], [⟨.slot 4, ⟨false, 2⟩, (.slice K2)⟩, ⟨.slot 5, ⟨false, 0⟩, (.int .i64)⟩]⟩, ⟨14, [], [⟨.slot 4, ⟨false, 2⟩, (.slice K2)⟩]⟩] Tryz.f78 spec_LoopOk.sig k (x0, ()) = spec_LoopOk.f k x0 := by kernel_rfl

set_option maxRecDepth 100000 in
theorem spec_StoreOk.eq (k : Nat) (x0 : (Int × List (List (Int × Int × Unit) × Unit) × Unit)) : evFn tabO false [(74, .sig spec_l01In.sig), (120, .sig spec_l03Has.sig)] [⟨21, [], [⟨.slot 3, ⟨false, 2⟩, (.slice K2)⟩, ⟨.slot 5, ⟨false, 0⟩, (.int .i64)⟩]⟩, ⟨11, [], [⟨.slot 3, ⟨false, 2⟩, (.slice K2)⟩, ⟨.slot 4, ⟨false, 0⟩, (.int .i64)⟩]⟩] Tryz.f79 spec_StoreOk.sig k (x0, ()) = spec_StoreOk.f k x0 := by kernel_rfl

set_option maxRecDepth 100000 in
theorem spec_NoteOk.eq (k : Nat) (x0 : (Int × Int × Int × Int × Int × Unit)) : evFn tabO false [(74, .sig spec_l01In.sig)] [⟨10, [], []⟩] Tryz.f121 spec_NoteOk.sig k (x0, ()) = spec_NoteOk.f k x0 := by kernel_rfl

set_option maxRecDepth 100000 in
theorem spec_NotesOk.eq (k : Nat) (x0 : List (Int × Int × Int × Int × Int × Unit)) : evFn tabO false [(121, .sig spec_NoteOk.sig)] [⟨9, [], [⟨.slot 3, ⟨false, 0⟩, (.int .i64)⟩]⟩, ⟨10, [], []⟩] Tryz.f80 spec_NotesOk.sig k (x0, ()) = spec_NotesOk.f k x0 := by kernel_rfl

set_option maxRecDepth 100000 in
theorem spec_l09FlightOk.eq (k : Nat) (x0 : (Int × List (Int × Unit) × Int × Int × Int × Int × Bool × List (Int × Int × Int × Unit) × List (Int × Unit) × Int × List (Int × Int × List (Int × Unit) × Unit) × List (Int × List (Int × Unit) × Unit) × Int × List (List (Int × Int × Unit) × Unit) × List (Int × Int × Int × Int × Int × Unit) × List (Int × Int × Int × Bool × Int × Unit) × List (Int × Int × Int × Int × Int × Int × Int × Int × Int × Int × Unit) × Unit)) (x1 : (Int × Int × Int × Bool × Int × Unit)) : evFn tabO false [(74, .sig spec_l01In.sig)] [] Tryz.f81 spec_l09FlightOk.sig k (x0, x1, ()) = spec_l09FlightOk.f k x0 x1 := by kernel_rfl

set_option maxRecDepth 100000 in
theorem spec_TagOk.eq (k : Nat) (x0 : (Int × Int × Int × Unit)) : evFn tabO false [(74, .sig spec_l01In.sig)] [] Tryz.f122 spec_TagOk.sig k (x0, ()) = spec_TagOk.f k x0 := by kernel_rfl

set_option maxRecDepth 100000 in
theorem spec_ScreenOk.eq (k : Nat) (x0 : (Int × Int × Int × Unit)) : evFn tabO false [(74, .sig spec_l01In.sig)] [] Tryz.f123 spec_ScreenOk.sig k (x0, ()) = spec_ScreenOk.f k x0 := by kernel_rfl

set_option maxRecDepth 100000 in
theorem spec_l09OnBelt.eq (k : Nat) (x0 : (Int × List (Int × Unit) × Int × Int × Int × Int × Bool × List (Int × Int × Int × Unit) × List (Int × Unit) × Int × List (Int × Int × List (Int × Unit) × Unit) × List (Int × List (Int × Unit) × Unit) × Int × List (List (Int × Int × Unit) × Unit) × List (Int × Int × Int × Int × Int × Unit) × List (Int × Int × Int × Bool × Int × Unit) × List (Int × Int × Int × Int × Int × Int × Int × Int × Int × Int × Unit) × Unit)) (x1 : Int) : evFn tabO false [] [⟨5, [], [⟨.slot 5, ⟨false, 0⟩, (.int .i64)⟩]⟩] Tryz.f124 spec_l09OnBelt.sig k (x0, x1, ()) = spec_l09OnBelt.f k x0 x1 := by kernel_rfl

set_option maxRecDepth 100000 in
theorem spec_l09Chute.eq (k : Nat) (x0 : (Int × List (Int × Unit) × Int × Int × Int × Int × Bool × List (Int × Int × Int × Unit) × List (Int × Unit) × Int × List (Int × Int × List (Int × Unit) × Unit) × List (Int × List (Int × Unit) × Unit) × Int × List (List (Int × Int × Unit) × Unit) × List (Int × Int × Int × Int × Int × Unit) × List (Int × Int × Int × Bool × Int × Unit) × List (Int × Int × Int × Int × Int × Int × Int × Int × Int × Int × Unit) × Unit)) (x1 : Int) : evFn tabO false [(120, .sig spec_l03Has.sig)] [⟨5, [], [⟨.slot 5, ⟨false, 0⟩, (.int .i64)⟩]⟩] Tryz.f125 spec_l09Chute.sig k (x0, x1, ()) = spec_l09Chute.f k x0 x1 := by kernel_rfl

set_option maxRecDepth 100000 in
theorem spec_l06Find.eq (k : Nat) (x0 : (Int × List (List (Int × Int × Unit) × Unit) × Unit)) (x1 : Int) : evFn tabO false [] [⟨5, [], [⟨.slot 5, ⟨false, 0⟩, (.int .i64)⟩]⟩, ⟨11, [], [⟨.slot 6, ⟨false, 0⟩, (.int .i64)⟩]⟩] Tryz.f126 spec_l06Find.sig k (x0, x1, ()) = spec_l06Find.f k x0 x1 := by kernel_rfl

set_option maxRecDepth 100000 in
theorem spec_l09CaseOk.eq (k : Nat) (x0 : (Int × List (Int × Unit) × Int × Int × Int × Int × Bool × List (Int × Int × Int × Unit) × List (Int × Unit) × Int × List (Int × Int × List (Int × Unit) × Unit) × List (Int × List (Int × Unit) × Unit) × Int × List (List (Int × Int × Unit) × Unit) × List (Int × Int × Int × Int × Int × Unit) × List (Int × Int × Int × Bool × Int × Unit) × List (Int × Int × Int × Int × Int × Int × Int × Int × Int × Int × Unit) × Unit)) (x1 : Int) : evFn tabO false [(74, .sig spec_l01In.sig), (120, .sig spec_l03Has.sig), (122, .sig spec_TagOk.sig), (123, .sig spec_ScreenOk.sig), (124, .sig spec_l09OnBelt.sig), (125, .sig spec_l09Chute.sig), (126, .sig spec_l06Find.sig)] [⟨28, [], []⟩, ⟨34, [], []⟩, ⟨38, [], []⟩, ⟨11, [], [⟨.slot 6, ⟨false, 0⟩, (.int .i64)⟩]⟩] Tryz.f82 spec_l09CaseOk.sig k (x0, x1, ()) = spec_l09CaseOk.f k x0 x1 := by kernel_rfl

set_option maxRecDepth 100000 in
theorem spec_HallOk.eq (k : Nat) (x0 : (Int × List (Int × Unit) × Int × Int × Int × Int × Bool × List (Int × Int × Int × Unit) × List (Int × Unit) × Int × List (Int × Int × List (Int × Unit) × Unit) × List (Int × List (Int × Unit) × Unit) × Int × List (List (Int × Int × Unit) × Unit) × List (Int × Int × Int × Int × Int × Unit) × List (Int × Int × Int × Bool × Int × Unit) × List (Int × Int × Int × Int × Int × Int × Int × Int × Int × Int × Unit) × Unit)) : evFn tabO false [(74, .sig spec_l01In.sig), (75, .sig spec_PolicyOk.sig), (76, .sig spec_LimitsOk.sig), (77, .sig spec_BeltOk.sig), (78, .sig spec_LoopOk.sig), (79, .sig spec_StoreOk.sig), (80, .sig spec_NotesOk.sig), (81, .sig spec_l09FlightOk.sig), (82, .sig spec_l09CaseOk.sig)] [⟨29, [], [⟨.slot 5, ⟨false, 0⟩, (.int .i64)⟩]⟩, ⟨39, [], [⟨.slot 6, ⟨false, 0⟩, (.int .i64)⟩]⟩, ⟨49, [], [⟨.slot 7, ⟨false, 0⟩, (.int .i64)⟩]⟩, ⟨55, [], [⟨.slot 8, ⟨false, 0⟩, (.int .i64)⟩]⟩, ⟨65, [], [⟨.slot 9, ⟨false, 0⟩, (.int .i64)⟩]⟩, ⟨71, [], [⟨.slot 10, ⟨false, 0⟩, (.int .i64)⟩]⟩, ⟨9, [], [⟨.slot 3, ⟨false, 0⟩, (.int .i64)⟩]⟩, ⟨19, [], [⟨.slot 4, ⟨false, 0⟩, (.int .i64)⟩]⟩] Tryz.f36 spec_HallOk.sig k (x0, ()) = spec_HallOk.f k x0 := by kernel_rfl

set_option maxRecDepth 100000 in
theorem spec_NewHall.eq (k : Nat) (x0 : (List (Int × Unit) × Unit)) (x1 : (Int × Int × Unit)) (x2 : (Int × Int × Bool × List (Int × Int × Int × Unit) × Unit)) (x3 : (List (Int × Unit) × Int × List (Int × Int × List (Int × Unit) × Unit) × List (Int × List (Int × Unit) × Unit) × Unit)) (x4 : (Int × List (List (Int × Int × Unit) × Unit) × Unit)) (x5 : List (Int × Int × Int × Bool × Int × Unit)) : evFn tabO false [(35, .sig spec_l09Copy.sig), (36, .sig spec_HallOk.sig)] [] Tryz.f9 spec_NewHall.sig k (x0, x1, x2, x3, x4, x5, ()) = spec_NewHall.f k x0 x1 x2 x3 x4 x5 := by kernel_rfl

end Go.Proofs.YtpihkhknehadbabGreat.Eng
