/- The pure functions are what the evaluator computes of the program's code. By a program of this session. No condition. -/
import Derived.Test.YtcfbjloblbhdhaaDFnExactRepack
import Derived.Test.YtcfbjloblbhdhaaProg
import Derived.KernelRfl
namespace Go.Proofs.Ytcfbjloblbhdhaa.Eng
open Go.Proofs
set_option linter.unusedVariables false
set_option maxRecDepth 100000 in
theorem laws_heldIntS.eq (k : Nat) (x0 : List (Int × Unit)) (x1 : Int) : evFn tabO false [] [⟨5, [], [⟨.slot 1, ⟨false, 0⟩, (.int .i64)⟩, ⟨.slot 5, ⟨false, 0⟩, (.int .i64)⟩]⟩] Try.f74 laws_heldIntS.sig k (x0, x1, ()) = laws_heldIntS.f k x0 x1 := by kernel_rfl

set_option maxRecDepth 100000 in
theorem laws_heldBoxS.eq (k : Nat) (x0 : List (Int × Int × List (Int × Unit) × Unit)) (x1 : Int) : evFn tabO false [(74, .sig laws_heldIntS.sig)] [⟨5, [], [⟨.slot 1, ⟨false, 0⟩, (.int .i64)⟩, ⟨.slot 5, ⟨false, 0⟩, (.int .i64)⟩]⟩] Try.f33 laws_heldBoxS.sig k (x0, x1, ()) = laws_heldBoxS.f k x0 x1 := by kernel_rfl

set_option maxRecDepth 100000 in
theorem laws_FnExactRepack.eq (k : Nat) (x0 : (Int × Int × Unit)) (x1 : List (Int × Int × Int × Unit)) : evFn tabO false [(24, .sig laws_szPieceS.sig), (25, .sig spec_Repack.sig), (26, .sig laws_toLimits.sig), (27, .sig laws_toPieceS.sig), (28, .sig impl_Repack.sig), (29, .sig laws_eqBoxS.sig), (30, .sig laws_eqPieceS.sig), (31, .sig laws_markPieceS.sig), (32, .sig laws_markBoxS.sig), (33, .sig laws_heldBoxS.sig)] [] Try.f5 laws_FnExactRepack.sig k (x0, x1, ()) = laws_FnExactRepack.f k x0 x1 := by kernel_rfl

end Go.Proofs.Ytcfbjloblbhdhaa.Eng
