/- The pure functions are what the evaluator computes of the program's code. By a program of this session. No condition. -/
import Derived.Test.YtcfbjloblbhdhaaDFnPacked
import Derived.Test.YtcfbjloblbhdhaaProg
import Derived.KernelRfl
namespace Go.Proofs.Ytcfbjloblbhdhaa.Eng
open Go.Proofs
set_option linter.unusedVariables false
set_option maxRecDepth 100000 in
theorem spec_l07Limits.eq (k : Nat) (x0 : (List (Int × Unit) × Int × Int × Unit)) : evFn tabO false [(49, .sig spec_l01Below.sig), (96, .sig spec_l01PickInt.sig)] [] Try.f75 spec_l07Limits.sig k (x0, ()) = spec_l07Limits.f k x0 := by kernel_rfl

set_option maxRecDepth 100000 in
theorem spec_l07Pieces.eq (k : Nat) (x0 : (List (Int × Unit) × Int × Int × Unit)) (x1 : Int) : evFn tabO false [(49, .sig spec_l01Below.sig), (96, .sig spec_l01PickInt.sig)] [⟨7, [], [⟨.cell 0 0, ⟨false, 0⟩, (.slice K5)⟩, ⟨.cell 0 1, ⟨false, 0⟩, (.int .i64)⟩, ⟨.cell 0 2, ⟨false, 0⟩, (.int .i64)⟩, ⟨.slot 5, ⟨false, 2⟩, (.slice K79)⟩, ⟨.slot 6, ⟨false, 0⟩, (.int .i64)⟩]⟩] Try.f76 spec_l07Pieces.sig k (x0, x1, ()) = spec_l07Pieces.f k x0 x1 := by kernel_rfl

set_option maxRecDepth 100000 in
theorem spec_DrawPieces.eq (k : Nat) (x0 : List (Int × Unit)) : evFn tabO false [(45, .sig spec_l01New.sig), (75, .sig spec_l07Limits.sig), (76, .sig spec_l07Pieces.sig)] [] Try.f34 spec_DrawPieces.sig k (x0, ()) = spec_DrawPieces.f k x0 := by kernel_rfl

set_option maxRecDepth 100000 in
theorem impl_fewest.eq (k : Nat) (x0 : (Int × Int × Unit)) (x1 : List (Int × Int × Int × Unit)) : evFn tabO false [] [⟨25, [], [⟨.slot 9, ⟨false, 0⟩, (.int .i64)⟩, ⟨.slot 10, ⟨false, 0⟩, (.int .i64)⟩, ⟨.slot 37, ⟨false, 0⟩, (.int .i64)⟩]⟩, ⟨32, [], [⟨.slot 9, ⟨false, 0⟩, (.int .i64)⟩, ⟨.slot 10, ⟨false, 0⟩, (.int .i64)⟩]⟩, ⟨9, [], [⟨.root 1, ⟨false, 2⟩, (.slice K2)⟩, ⟨.slot 7, ⟨false, 0⟩, (.int .i64)⟩]⟩, ⟨17, [], [⟨.root 1, ⟨false, 2⟩, (.slice K2)⟩, ⟨.slot 8, ⟨false, 0⟩, (.int .i64)⟩]⟩, ⟨18, [], [⟨.root 1, ⟨false, 2⟩, (.slice K2)⟩]⟩] Try.f79 impl_fewest.sig k (x0, x1, ()) = impl_fewest.f k x0 x1 := by kernel_rfl

set_option maxRecDepth 100000 in
theorem impl_ofClass.eq (k : Nat) (x0 : List (Int × Int × Int × Unit)) (x1 : Int) : evFn tabO false [(67, .sig slices_Clone_impl_Piece.sig), (86, .inl Try.f86 [⟨5, [], [⟨.slot 8, ⟨false, 0⟩, (.int .i64)⟩]⟩]), (99, .inl Try.f99 [⟨11, [], [⟨.root 1, ⟨false, 2⟩, (.slice K79)⟩, ⟨.slot 5, ⟨false, 0⟩, (.int .i64)⟩, ⟨.slot 6, ⟨false, 0⟩, (.int .i64)⟩]⟩, ⟨12, [], [⟨.slot 5, ⟨false, 0⟩, (.int .i64)⟩, ⟨.root 1, ⟨false, 2⟩, (.slice K79)⟩]⟩]), (100, .inl Try.f100 [])] [] Try.f80 impl_ofClass.sig k (x0, x1, ()) = impl_ofClass.f k x0 x1 := by kernel_rfl

set_option maxRecDepth 100000 in
theorem impl_FewestBoxes.eq (k : Nat) (x0 : (Int × Int × Unit)) (x1 : List (Int × Int × Int × Unit)) : evFn tabO false [(42, .sig impl_LimitsOk.sig), (43, .sig impl_PiecesOk.sig), (79, .sig impl_fewest.sig), (80, .sig impl_ofClass.sig)] [⟨11, [], [⟨.slot 5, ⟨false, 0⟩, (.int .i64)⟩, ⟨.slot 6, ⟨false, 0⟩, (.int .i64)⟩]⟩] Try.f36 impl_FewestBoxes.sig k (x0, x1, ()) = impl_FewestBoxes.f k x0 x1 := by kernel_rfl

set_option maxRecDepth 100000 in
theorem laws_sameInts.eq (k : Nat) (x0 : List (Int × Unit)) (x1 : List (Int × Unit)) : evFn tabO false [] [⟨9, [], [⟨.slot 5, ⟨false, 0⟩, (.int .i64)⟩]⟩] Try.f81 laws_sameInts.sig k (x0, x1, ()) = laws_sameInts.f k x0 x1 := by kernel_rfl

set_option maxRecDepth 100000 in
theorem laws_sameBoxes.eq (k : Nat) (x0 : List (Int × Int × List (Int × Unit) × Unit)) (x1 : List (Int × Int × List (Int × Unit) × Unit)) : evFn tabO false [(81, .sig laws_sameInts.sig)] [⟨9, [], [⟨.slot 5, ⟨false, 0⟩, (.int .i64)⟩]⟩] Try.f37 laws_sameBoxes.sig k (x0, x1, ()) = laws_sameBoxes.f k x0 x1 := by kernel_rfl

set_option maxRecDepth 100000 in
theorem spec_l07Few.eq (rf F : Nat → ((Int × Int × Unit) × List (Int × Int × Int × Unit) × Int × List (Int × Int × List (Int × Unit) × Unit) × Unit) → Option (Int × Unit)) (k : Nat) (x0 : (Int × Int × Unit)) (x1 : List (Int × Int × Int × Unit)) (x2 : Int) (x3 : List (Int × Int × List (Int × Unit) × Unit)) : evFn tabR true [(82, .sig spec_l07Takes.sig), (83, .sig spec_l07With.sig), (84, .sig (spec_l07Few.sig0.re rf))] [⟨11, [], [⟨.slot 9, ⟨false, 0⟩, (.int .i64)⟩, ⟨.slot 10, ⟨false, 0⟩, (.int .i64)⟩]⟩, ⟨12, [], [⟨.slot 9, ⟨false, 0⟩, (.int .i64)⟩]⟩] Try.f84 (spec_l07Few.sig0.re F) k (x0, x1, x2, x3, ()) = spec_l07Few.body rf k x0 x1 x2 x3 := by kernel_rfl

set_option maxRecDepth 100000 in
theorem spec_FewestBoxes.eq (k : Nat) (x0 : (Int × Int × Unit)) (x1 : List (Int × Int × Int × Unit)) : evFn tabO false [(64, .sig spec_LimitsOk.sig), (65, .sig spec_PiecesOk.sig), (84, .sig spec_l07Few.sig)] [] Try.f39 spec_FewestBoxes.sig k (x0, x1, ()) = spec_FewestBoxes.f k x0 x1 := by kernel_rfl

set_option maxRecDepth 100000 in
theorem impl_BoxBound.eq (k : Nat) (x0 : (Int × Int × Unit)) (x1 : List (Int × Int × Int × Unit)) : evFn tabO false [(42, .sig impl_LimitsOk.sig), (43, .sig impl_PiecesOk.sig), (80, .sig impl_ofClass.sig)] [⟨11, [], [⟨.slot 5, ⟨false, 0⟩, (.int .i64)⟩, ⟨.slot 6, ⟨false, 0⟩, (.int .i64)⟩]⟩, ⟨19, [], [⟨.slot 7, ⟨false, 0⟩, (.int .i64)⟩, ⟨.slot 28, ⟨false, 0⟩, (.int .i64)⟩]⟩] Try.f40 impl_BoxBound.sig k (x0, x1, ()) = impl_BoxBound.f k x0 x1 := by kernel_rfl

set_option maxRecDepth 100000 in
theorem spec_BoxBound.eq (k : Nat) (x0 : (Int × Int × Unit)) (x1 : List (Int × Int × Int × Unit)) : evFn tabO false [(64, .sig spec_LimitsOk.sig), (65, .sig spec_PiecesOk.sig)] [⟨21, [], [⟨.slot 7, ⟨false, 0⟩, (.int .i64)⟩, ⟨.slot 8, ⟨false, 0⟩, (.int .i64)⟩, ⟨.slot 9, ⟨false, 0⟩, (.int .i64)⟩]⟩, ⟨22, [], [⟨.slot 7, ⟨false, 0⟩, (.int .i64)⟩, ⟨.slot 8, ⟨false, 0⟩, (.int .i64)⟩]⟩, ⟨11, [], [⟨.slot 5, ⟨false, 0⟩, (.int .i64)⟩, ⟨.slot 6, ⟨false, 0⟩, (.int .i64)⟩]⟩] Try.f41 spec_BoxBound.sig k (x0, x1, ()) = spec_BoxBound.f k x0 x1 := by kernel_rfl

set_option maxRecDepth 100000 in
theorem slices_Index_int_int.eq (k : Nat) (x0 : List (Int × Unit)) (x1 : Int) : evFn tabO false [] [⟨5, [], [⟨.slot 8, ⟨false, 0⟩, (.int .i64)⟩]⟩] Try.f104 slices_Index_int_int.sig k (x0, x1, ()) = slices_Index_int_int.f k x0 x1 := by kernel_rfl

set_option maxRecDepth 100000 in
theorem slices_Contains_int_int.eq (k : Nat) (x0 : List (Int × Unit)) (x1 : Int) : evFn tabO false [(104, .sig slices_Index_int_int.sig)] [] Try.f88 slices_Contains_int_int.sig k (x0, x1, ()) = slices_Contains_int_int.f k x0 x1 := by kernel_rfl

set_option maxRecDepth 100000 in
theorem impl_BoxesOk.eq (k : Nat) (x0 : (Int × Int × Unit)) (x1 : List (Int × Int × Int × Unit)) (x2 : List (Int × Int × List (Int × Unit) × Unit)) : evFn tabO false [(42, .sig impl_LimitsOk.sig), (43, .sig impl_PiecesOk.sig), (86, .inl Try.f86 [⟨5, [], [⟨.slot 8, ⟨false, 0⟩, (.int .i64)⟩]⟩]), (87, .inl Try.f87 []), (88, .sig slices_Contains_int_int.sig)] [⟨32, [], [⟨.slot 7, ⟨false, 2⟩, (.slice K2)⟩, ⟨.slot 10, ⟨false, 0⟩, (.int .i64)⟩]⟩, ⟨11, [], [⟨.slot 7, ⟨false, 2⟩, (.slice K2)⟩, ⟨.slot 24, ⟨false, 0⟩, (.int .i64)⟩]⟩, ⟨19, [], [⟨.slot 7, ⟨false, 2⟩, (.slice K2)⟩, ⟨.slot 10, ⟨false, 0⟩, (.int .i64)⟩, ⟨.slot 31, ⟨false, 0⟩, (.int .i64)⟩]⟩] Try.f44 impl_BoxesOk.sig k (x0, x1, x2, ()) = impl_BoxesOk.f k x0 x1 x2 := by kernel_rfl

set_option maxRecDepth 100000 in
theorem laws_FnPacked.eq (k : Nat) (x0 : List (Int × Unit)) : evFn tabO false [(7, .sig laws_big.sig), (25, .sig spec_Repack.sig), (28, .sig impl_Repack.sig), (34, .sig spec_DrawPieces.sig), (35, .sig impl_FirstFit.sig), (36, .sig impl_FewestBoxes.sig), (37, .sig laws_sameBoxes.sig), (38, .sig spec_FirstFit.sig), (39, .sig spec_FewestBoxes.sig), (40, .sig impl_BoxBound.sig), (41, .sig spec_BoxBound.sig), (42, .sig impl_LimitsOk.sig), (43, .sig impl_PiecesOk.sig), (44, .sig impl_BoxesOk.sig)] [] Try.f6 laws_FnPacked.sig k (x0, ()) = laws_FnPacked.f k x0 := by kernel_rfl

end Go.Proofs.Ytcfbjloblbhdhaa.Eng
