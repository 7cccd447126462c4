/- The pure functions are what the evaluator computes of the program's code. By a program of this session. No condition. -/
import Derived.Test.YtcfbjloblbhdhaaDFnExactRepack
import Derived.Test.YtcfbjloblbhdhaaProg
import Derived.KernelRfl
namespace Go.Proofs.Ytcfbjloblbhdhaa.Eng
open Go.Proofs
set_option linter.unusedVariables false
set_option maxRecDepth 100000 in
theorem laws_szPieceS.eq (k : Nat) (x0 : List (Int × Int × Int × Unit)) (x1 : Int) : evFn tabO false [] [] Try.f24 laws_szPieceS.sig k (x0, x1, ()) = laws_szPieceS.f k x0 x1 := by kernel_rfl

set_option maxRecDepth 100000 in
theorem spec_LimitsOk.eq (k : Nat) (x0 : (Int × Int × Unit)) : evFn tabO false [(61, .sig spec_l01In.sig)] [] Try.f64 spec_LimitsOk.sig k (x0, ()) = spec_LimitsOk.f k x0 := by kernel_rfl

set_option maxRecDepth 100000 in
theorem spec_PiecesOk.eq (k : Nat) (x0 : List (Int × Int × Int × Unit)) : evFn tabO false [(61, .sig spec_l01In.sig)] [⟨9, [], [⟨.slot 3, ⟨false, 0⟩, (.int .i64)⟩]⟩, ⟨19, [], [⟨.slot 4, ⟨false, 0⟩, (.int .i64)⟩]⟩] Try.f65 spec_PiecesOk.sig k (x0, ()) = spec_PiecesOk.f k x0 := by kernel_rfl

set_option maxRecDepth 100000 in
theorem spec_l07Takes.eq (k : Nat) (x0 : (Int × Int × Unit)) (x1 : (Int × Int × List (Int × Unit) × Unit)) (x2 : (Int × Int × Int × Unit)) : evFn tabO false [] [] Try.f82 spec_l07Takes.sig k (x0, x1, x2, ()) = spec_l07Takes.f k x0 x1 x2 := by kernel_rfl

set_option maxRecDepth 100000 in
theorem spec_l07With.eq (k : Nat) (x0 : (Int × Int × List (Int × Unit) × Unit)) (x1 : (Int × Int × Int × Unit)) : evFn tabO false [] [] Try.f83 spec_l07With.sig k (x0, x1, ()) = spec_l07With.f k x0 x1 := by kernel_rfl

set_option maxRecDepth 100000 in
theorem spec_FirstFit.eq (k : Nat) (x0 : (Int × Int × Unit)) (x1 : List (Int × Int × Int × Unit)) : evFn tabO false [(64, .sig spec_LimitsOk.sig), (65, .sig spec_PiecesOk.sig), (82, .sig spec_l07Takes.sig), (83, .sig spec_l07With.sig)] [⟨20, [], [⟨.slot 7, ⟨false, 0⟩, (.int .i64)⟩]⟩, ⟨24, [], [⟨.slot 5, ⟨false, 2⟩, (.slice K88)⟩]⟩, ⟨11, [], [⟨.slot 5, ⟨false, 2⟩, (.slice K88)⟩, ⟨.slot 6, ⟨false, 0⟩, (.int .i64)⟩]⟩, ⟨17, [], [⟨.slot 7, ⟨false, 0⟩, (.int .i64)⟩]⟩] Try.f38 spec_FirstFit.sig k (x0, x1, ()) = spec_FirstFit.f k x0 x1 := by kernel_rfl

set_option maxRecDepth 100000 in
theorem spec_Repack.eq (k : Nat) (x0 : (Int × Int × Unit)) (x1 : List (Int × Int × Int × Unit)) : evFn tabO false [(38, .sig spec_FirstFit.sig), (64, .sig spec_LimitsOk.sig), (65, .sig spec_PiecesOk.sig)] [⟨11, [], [⟨.root 1, ⟨false, 2⟩, (.slice K79)⟩, ⟨.slot 6, ⟨false, 0⟩, (.int .i64)⟩]⟩, ⟨17, [], [⟨.root 1, ⟨false, 2⟩, (.slice K79)⟩, ⟨.slot 7, ⟨false, 0⟩, (.int .i64)⟩]⟩, ⟨18, [], [⟨.root 1, ⟨false, 2⟩, (.slice K79)⟩]⟩] Try.f25 spec_Repack.sig k (x0, x1, ()) = spec_Repack.f k x0 x1 := by kernel_rfl

set_option maxRecDepth 100000 in
theorem laws_toLimits.eq (k : Nat) (x0 : (Int × Int × Unit)) : evFn tabO false [] [] Try.f26 laws_toLimits.sig k (x0, ()) = laws_toLimits.f k x0 := by kernel_rfl

set_option maxRecDepth 100000 in
theorem laws_toPiece.eq (k : Nat) (x0 : (Int × Int × Int × Unit)) : evFn tabO false [] [] Try.f66 laws_toPiece.sig k (x0, ()) = laws_toPiece.f k x0 := by kernel_rfl

set_option maxRecDepth 100000 in
theorem laws_toPieceS.eq (k : Nat) (x0 : List (Int × Int × Int × Unit)) : evFn tabO false [(66, .sig laws_toPiece.sig)] [⟨7, [], [⟨.root 0, ⟨false, 2⟩, (.slice K79)⟩, ⟨.slot 4, ⟨false, 0⟩, (.int .i64)⟩]⟩] Try.f27 laws_toPieceS.sig k (x0, ()) = laws_toPieceS.f k x0 := by kernel_rfl

set_option maxRecDepth 100000 in
theorem impl_LimitsOk.eq (k : Nat) (x0 : (Int × Int × Unit)) : evFn tabO false [] [] Try.f42 impl_LimitsOk.sig k (x0, ()) = impl_LimitsOk.f k x0 := by kernel_rfl

set_option maxRecDepth 100000 in
theorem slices_Clone_int_int.eq (k : Nat) (x0 : List (Int × Unit)) : evFn tabO false [] [] Try.f101 slices_Clone_int_int.sig k (x0, ()) = slices_Clone_int_int.f k x0 := by kernel_rfl

set_option maxRecDepth 100000 in
theorem impl_areDifferent.eq (k : Nat) (x0 : List (Int × Unit)) : evFn tabO false [(101, .sig slices_Clone_int_int.sig), (102, .sig sortSig), (103, .inl Try.f103 [⟨20, [], [⟨.slot 3, ⟨false, 0⟩, (.int .i64)⟩, ⟨.root 0, ⟨false, 2⟩, (.slice K2)⟩]⟩, ⟨9, [], [⟨.slot 3, ⟨false, 0⟩, (.int .i64)⟩]⟩, ⟨19, [], [⟨.root 0, ⟨false, 2⟩, (.slice K2)⟩, ⟨.slot 3, ⟨false, 0⟩, (.int .i64)⟩, ⟨.slot 5, ⟨false, 0⟩, (.int .i64)⟩]⟩])] [] Try.f85 impl_areDifferent.sig k (x0, ()) = impl_areDifferent.f k x0 := by kernel_rfl

set_option maxRecDepth 100000 in
theorem impl_PiecesOk.eq (k : Nat) (x0 : List (Int × Int × Int × Unit)) : evFn tabO false [(85, .sig impl_areDifferent.sig)] [⟨7, [], [⟨.slot 3, ⟨false, 2⟩, (.slice K2)⟩, ⟨.slot 8, ⟨false, 0⟩, (.int .i64)⟩]⟩] Try.f43 impl_PiecesOk.sig k (x0, ()) = impl_PiecesOk.f k x0 := by kernel_rfl

set_option maxRecDepth 100000 in
theorem impl_FirstFit.eq (k : Nat) (x0 : (Int × Int × Unit)) (x1 : List (Int × Int × Int × Unit)) : evFn tabO false [(42, .sig impl_LimitsOk.sig), (43, .sig impl_PiecesOk.sig), (77, .inl Try.f77 [⟨5, [], [⟨.slot 8, ⟨false, 0⟩, (.int .i64)⟩]⟩, ⟨12, [], []⟩]), (78, .inl Try.f78 [])] [⟨22, [], [⟨.slot 5, ⟨false, 2⟩, (.slice K88)⟩, ⟨.slot 8, ⟨false, 0⟩, (.int .i64)⟩]⟩, ⟨26, [], [⟨.slot 5, ⟨false, 2⟩, (.slice K88)⟩]⟩, ⟨11, [], [⟨.slot 5, ⟨false, 2⟩, (.slice K88)⟩, ⟨.slot 19, ⟨false, 0⟩, (.int .i64)⟩]⟩] Try.f35 impl_FirstFit.sig k (x0, x1, ()) = impl_FirstFit.f k x0 x1 := by kernel_rfl

set_option maxRecDepth 100000 in
theorem slices_Clone_impl_Piece.eq (k : Nat) (x0 : List (Int × Int × Int × Unit)) : evFn tabO false [] [] Try.f67 slices_Clone_impl_Piece.sig k (x0, ()) = slices_Clone_impl_Piece.f k x0 := by kernel_rfl

set_option maxRecDepth 100000 in
theorem cmp_isNaN_int.eq (k : Nat) (x0 : Int) : evFn tabO false [] [] Try.f95 cmp_isNaN_int.sig k (x0, ()) = cmp_isNaN_int.f k x0 := by kernel_rfl

set_option maxRecDepth 100000 in
theorem cmp_Compare_int.eq (k : Nat) (x0 : Int) (x1 : Int) : evFn tabO false [(95, .sig cmp_isNaN_int.sig)] [] Try.f54 cmp_Compare_int.sig k (x0, x1, ()) = cmp_Compare_int.f k x0 x1 := by kernel_rfl

set_option maxRecDepth 100000 in
theorem cmp_Or_int.eq (k : Nat) (x0 : List (Int × Unit)) : evFn tabO false [] [⟨7, [], [⟨.slot 8, ⟨false, 0⟩, (.int .i64)⟩]⟩] Try.f70 cmp_Or_int.sig k (x0, ()) = cmp_Or_int.f k x0 := by kernel_rfl

set_option maxRecDepth 100000 in
theorem impl_Repack_1.eq (k : Nat) (x0 : (Int × Int × Int × Unit)) (x1 : (Int × Int × Int × Unit)) : evFn tabO false [(54, .sig cmp_Compare_int.sig), (70, .sig cmp_Or_int.sig)] [] Try.f69 impl_Repack_1.sig k (x0, x1, ()) = impl_Repack_1.f k x0 x1 := by kernel_rfl

set_option maxRecDepth 100000 in
theorem slices_insertionSortCmpFunc_impl_Piece.eq (k : Nat) (x0 : List (Int × Int × Int × Unit)) (x1 : Int) (x2 : Int) : evFn tabO false [(69, .sig impl_Repack_1.sig)] [⟨3, [], [⟨.root 0, ⟨false, 2⟩, (.slice K79)⟩, ⟨.slot 8, ⟨false, 0⟩, (.int .i64)⟩]⟩, ⟨4, [], [⟨.root 0, ⟨false, 2⟩, (.slice K79)⟩]⟩, ⟨9, [], [⟨.root 0, ⟨false, 2⟩, (.slice K79)⟩, ⟨.slot 9, ⟨false, 0⟩, (.int .i64)⟩]⟩] Try.f115 slices_insertionSortCmpFunc_impl_Piece.sig k (x0, x1, x2, ()) = slices_insertionSortCmpFunc_impl_Piece.f k x0 x1 x2 := by kernel_rfl

set_option maxRecDepth 100000 in
theorem slices_swapRangeCmpFunc_impl_Piece.eq (k : Nat) (x0 : List (Int × Int × Int × Unit)) (x1 : Int) (x2 : Int) (x3 : Int) : evFn tabO false [] [⟨3, [], [⟨.root 0, ⟨false, 2⟩, (.slice K79)⟩, ⟨.slot 10, ⟨false, 0⟩, (.int .i64)⟩]⟩] Try.f134 slices_swapRangeCmpFunc_impl_Piece.sig k (x0, x1, x2, x3, ()) = slices_swapRangeCmpFunc_impl_Piece.f k x0 x1 x2 x3 := by kernel_rfl

set_option maxRecDepth 100000 in
theorem slices_rotateCmpFunc_impl_Piece.eq (k : Nat) (x0 : List (Int × Int × Int × Unit)) (x1 : Int) (x2 : Int) (x3 : Int) : evFn tabO false [(134, .sig slices_swapRangeCmpFunc_impl_Piece.sig)] [⟨5, [], [⟨.root 0, ⟨false, 2⟩, (.slice K79)⟩, ⟨.slot 10, ⟨false, 0⟩, (.int .i64)⟩, ⟨.slot 11, ⟨false, 0⟩, (.int .i64)⟩]⟩] Try.f123 slices_rotateCmpFunc_impl_Piece.sig k (x0, x1, x2, x3, ()) = slices_rotateCmpFunc_impl_Piece.f k x0 x1 x2 x3 := by kernel_rfl

set_option maxRecDepth 100000 in
theorem slices_symMergeCmpFunc_impl_Piece.eq (rf F : Nat → (List (Int × Int × Int × Unit) × Int × Int × Int × Unit) → Option (List (Int × Int × Int × Unit) × Unit)) (k : Nat) (x0 : List (Int × Int × Int × Unit)) (x1 : Int) (x2 : Int) (x3 : Int) : evFn tabO false [(69, .sig impl_Repack_1.sig), (116, .sig (slices_symMergeCmpFunc_impl_Piece.sig0.re rf)), (123, .sig slices_rotateCmpFunc_impl_Piece.sig)] [⟨31, [], [⟨.slot 14, ⟨false, 0⟩, (.int .i64)⟩, ⟨.slot 15, ⟨false, 0⟩, (.int .i64)⟩]⟩, ⟨43, [], [⟨.root 0, ⟨false, 2⟩, (.slice K79)⟩, ⟨.slot 17, ⟨false, 0⟩, (.int .i64)⟩]⟩, ⟨7, [], [⟨.slot 10, ⟨false, 0⟩, (.int .i64)⟩, ⟨.slot 11, ⟨false, 0⟩, (.int .i64)⟩]⟩, ⟨64, [], [⟨.slot 20, ⟨false, 0⟩, (.int .i64)⟩, ⟨.slot 21, ⟨false, 0⟩, (.int .i64)⟩]⟩, ⟨67, [], [⟨.slot 20, ⟨false, 0⟩, (.int .i64)⟩, ⟨.slot 21, ⟨false, 0⟩, (.int .i64)⟩]⟩, ⟨82, [], [⟨.root 0, ⟨false, 2⟩, (.slice K79)⟩]⟩, ⟨86, [], [⟨.root 0, ⟨false, 2⟩, (.slice K79)⟩]⟩, ⟨19, [], [⟨.root 0, ⟨false, 2⟩, (.slice K79)⟩, ⟨.slot 13, ⟨false, 0⟩, (.int .i64)⟩]⟩] Try.f116 (slices_symMergeCmpFunc_impl_Piece.sig0.re F) k (x0, x1, x2, x3, ()) = slices_symMergeCmpFunc_impl_Piece.body rf k x0 x1 x2 x3 := by kernel_rfl

set_option maxRecDepth 100000 in
theorem slices_stableCmpFunc_impl_Piece.eq (k : Nat) (x0 : List (Int × Int × Int × Unit)) (x1 : Int) : evFn tabO false [(115, .sig slices_insertionSortCmpFunc_impl_Piece.sig), (116, .sig slices_symMergeCmpFunc_impl_Piece.sig)] [⟨32, [], [⟨.root 0, ⟨false, 2⟩, (.slice K79)⟩]⟩, ⟨5, [], [⟨.root 0, ⟨false, 2⟩, (.slice K79)⟩, ⟨.slot 7, ⟨false, 0⟩, (.int .i64)⟩, ⟨.slot 8, ⟨false, 0⟩, (.int .i64)⟩]⟩, ⟨15, [], [⟨.root 0, ⟨false, 2⟩, (.slice K79)⟩, ⟨.slot 6, ⟨false, 0⟩, (.int .i64)⟩]⟩, ⟨19, [], [⟨.root 0, ⟨false, 2⟩, (.slice K79)⟩, ⟨.slot 7, ⟨false, 0⟩, (.int .i64)⟩, ⟨.slot 8, ⟨false, 0⟩, (.int .i64)⟩]⟩] Try.f97 slices_stableCmpFunc_impl_Piece.sig k (x0, x1, ()) = slices_stableCmpFunc_impl_Piece.f k x0 x1 := by kernel_rfl

set_option maxRecDepth 100000 in
theorem slices_SortStableFunc_impl_Piece.eq (k : Nat) (x0 : List (Int × Int × Int × Unit)) : evFn tabO false [(97, .sig slices_stableCmpFunc_impl_Piece.sig)] [] Try.f68 slices_SortStableFunc_impl_Piece.sig k (x0, ()) = slices_SortStableFunc_impl_Piece.f k x0 := by kernel_rfl

set_option maxRecDepth 100000 in
theorem impl_Repack.eq (k : Nat) (x0 : (Int × Int × Unit)) (x1 : List (Int × Int × Int × Unit)) : evFn tabO false [(35, .sig impl_FirstFit.sig), (67, .sig slices_Clone_impl_Piece.sig), (68, .sig slices_SortStableFunc_impl_Piece.sig)] [] Try.f28 impl_Repack.sig k (x0, x1, ()) = impl_Repack.f k x0 x1 := by kernel_rfl

set_option maxRecDepth 100000 in
theorem laws_eqIntS.eq (k : Nat) (x0 : List (Int × Unit)) (x1 : List (Int × Unit)) : evFn tabO false [] [⟨9, [], [⟨.slot 5, ⟨false, 0⟩, (.int .i64)⟩]⟩] Try.f98 laws_eqIntS.sig k (x0, x1, ()) = laws_eqIntS.f k x0 x1 := by kernel_rfl

set_option maxRecDepth 100000 in
theorem laws_eqBox.eq (k : Nat) (x0 : (Int × Int × List (Int × Unit) × Unit)) (x1 : (Int × Int × List (Int × Unit) × Unit)) : evFn tabO false [(98, .sig laws_eqIntS.sig)] [] Try.f71 laws_eqBox.sig k (x0, x1, ()) = laws_eqBox.f k x0 x1 := by kernel_rfl

set_option maxRecDepth 100000 in
theorem laws_eqBoxS.eq (k : Nat) (x0 : List (Int × Int × List (Int × Unit) × Unit)) (x1 : List (Int × Int × List (Int × Unit) × Unit)) : evFn tabO false [(71, .sig laws_eqBox.sig)] [⟨9, [], [⟨.slot 5, ⟨false, 0⟩, (.int .i64)⟩]⟩] Try.f29 laws_eqBoxS.sig k (x0, x1, ()) = laws_eqBoxS.f k x0 x1 := by kernel_rfl

set_option maxRecDepth 100000 in
theorem laws_eqPiece.eq (k : Nat) (x0 : (Int × Int × Int × Unit)) (x1 : (Int × Int × Int × Unit)) : evFn tabO false [] [] Try.f72 laws_eqPiece.sig k (x0, x1, ()) = laws_eqPiece.f k x0 x1 := by kernel_rfl

set_option maxRecDepth 100000 in
theorem laws_eqPieceS.eq (k : Nat) (x0 : List (Int × Int × Int × Unit)) (x1 : List (Int × Int × Int × Unit)) : evFn tabO false [(72, .sig laws_eqPiece.sig)] [⟨9, [], [⟨.slot 5, ⟨false, 0⟩, (.int .i64)⟩]⟩] Try.f30 laws_eqPieceS.sig k (x0, x1, ()) = laws_eqPieceS.f k x0 x1 := by kernel_rfl

set_option maxRecDepth 100000 in
theorem laws_markPieceS.eq (k : Nat) (x0 : List (Int × Int × Int × Unit)) (x1 : Int) : evFn tabO false [] [⟨5, [], [⟨.root 0, ⟨false, 2⟩, (.slice K79)⟩, ⟨.slot 1, ⟨false, 0⟩, (.int .i64)⟩, ⟨.slot 5, ⟨false, 0⟩, (.int .i64)⟩]⟩] Try.f31 laws_markPieceS.sig k (x0, x1, ()) = laws_markPieceS.f k x0 x1 := by kernel_rfl

set_option maxRecDepth 100000 in
theorem laws_markIntS.eq (k : Nat) (x0 : List (Int × Unit)) (x1 : Int) : evFn tabO false [] [⟨5, [], [⟨.root 0, ⟨false, 2⟩, (.slice K2)⟩, ⟨.slot 1, ⟨false, 0⟩, (.int .i64)⟩, ⟨.slot 5, ⟨false, 0⟩, (.int .i64)⟩]⟩] Try.f73 laws_markIntS.sig k (x0, x1, ()) = laws_markIntS.f k x0 x1 := by kernel_rfl

set_option maxRecDepth 100000 in
theorem laws_markBoxS.eq (k : Nat) (x0 : List (Int × Int × List (Int × Unit) × Unit)) (x1 : Int) : evFn tabO false [(73, .sig laws_markIntS.sig)] [⟨5, [], [⟨.root 0, ⟨false, 2⟩, (.slice K88)⟩, ⟨.slot 1, ⟨false, 0⟩, (.int .i64)⟩, ⟨.slot 5, ⟨false, 0⟩, (.int .i64)⟩]⟩] Try.f32 laws_markBoxS.sig k (x0, x1, ()) = laws_markBoxS.f k x0 x1 := by kernel_rfl

end Go.Proofs.Ytcfbjloblbhdhaa.Eng
