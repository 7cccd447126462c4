/- The contracts of the program's functions. By a program of this session. No condition. -/
import Derived.Test.YtcfbjloblbhdhaaK
import Derived.Test.YtcfbjloblbhdhaaEFnExactRepack1
import Derived.Test.YtcfbjloblbhdhaaEFnExactRepack2
namespace Go.Proofs.Ytcfbjloblbhdhaa.Eng
open Go.Proofs
set_option linter.unusedVariables false
theorem laws_szPieceS.ok : FnOk Try.prog 24 laws_szPieceS.sig := fn_ok (fun k x => laws_szPieceS.eq k x.1 x.2.1) Try.func24 tabO_ok mixed (by kernel_rfl) (by kernel_rfl) trivial
theorem spec_LimitsOk.ok : FnOk Try.prog 64 spec_LimitsOk.sig := fn_ok (fun k x => spec_LimitsOk.eq k x.1) Try.func64 tabO_ok mixed (by kernel_rfl) (by kernel_rfl) ⟨spec_l01In.ok, trivial⟩
theorem spec_PiecesOk.ok : FnOk Try.prog 65 spec_PiecesOk.sig := fn_ok (fun k x => spec_PiecesOk.eq k x.1) Try.func65 tabO_ok mixed (by kernel_rfl) (by kernel_rfl) ⟨spec_l01In.ok, trivial⟩
theorem spec_l07Takes.ok : FnOk Try.prog 82 spec_l07Takes.sig := fn_ok (fun k x => spec_l07Takes.eq k x.1 x.2.1 x.2.2.1) Try.func82 tabO_ok mixed (by kernel_rfl) (by kernel_rfl) trivial
theorem spec_l07With.ok : FnOk Try.prog 83 spec_l07With.sig := fn_ok (fun k x => spec_l07With.eq k x.1 x.2.1) Try.func83 tabO_ok mixed (by kernel_rfl) (by kernel_rfl) trivial
theorem spec_FirstFit.ok : FnOk Try.prog 38 spec_FirstFit.sig := fn_ok (fun k x => spec_FirstFit.eq k x.1 x.2.1) Try.func38 tabO_ok mixed (by kernel_rfl) (by kernel_rfl) ⟨spec_LimitsOk.ok, spec_PiecesOk.ok, spec_l07Takes.ok, spec_l07With.ok, trivial⟩
theorem spec_Repack.ok : FnOk Try.prog 25 spec_Repack.sig := fn_ok (fun k x => spec_Repack.eq k x.1 x.2.1) Try.func25 tabO_ok mixed (by kernel_rfl) (by kernel_rfl) ⟨spec_FirstFit.ok, spec_LimitsOk.ok, spec_PiecesOk.ok, trivial⟩
theorem laws_toLimits.ok : FnOk Try.prog 26 laws_toLimits.sig := fn_ok (fun k x => laws_toLimits.eq k x.1) Try.func26 tabO_ok mixed (by kernel_rfl) (by kernel_rfl) trivial
theorem laws_toPiece.ok : FnOk Try.prog 66 laws_toPiece.sig := fn_ok (fun k x => laws_toPiece.eq k x.1) Try.func66 tabO_ok mixed (by kernel_rfl) (by kernel_rfl) trivial
theorem laws_toPieceS.ok : FnOk Try.prog 27 laws_toPieceS.sig := fn_ok (fun k x => laws_toPieceS.eq k x.1) Try.func27 tabO_ok mixed (by kernel_rfl) (by kernel_rfl) ⟨laws_toPiece.ok, trivial⟩
theorem impl_LimitsOk.ok : FnOk Try.prog 42 impl_LimitsOk.sig := fn_ok (fun k x => impl_LimitsOk.eq k x.1) Try.func42 tabO_ok mixed (by kernel_rfl) (by kernel_rfl) trivial
theorem slices_Clone_int_int.ok : FnOk Try.prog 101 slices_Clone_int_int.sig := fn_ok (fun k x => slices_Clone_int_int.eq k x.1) Try.func101 tabO_ok mixed (by kernel_rfl) (by kernel_rfl) trivial
theorem impl_areDifferent.ok : FnOk Try.prog 85 impl_areDifferent.sig := fn_ok (fun k x => impl_areDifferent.eq k x.1) Try.func85 tabO_ok mixed (by kernel_rfl) (by kernel_rfl) ⟨slices_Clone_int_int.ok, slices_Sort_int_int.ok, ⟨Try.func103, by kernel_rfl⟩, trivial⟩
theorem impl_PiecesOk.ok : FnOk Try.prog 43 impl_PiecesOk.sig := fn_ok (fun k x => impl_PiecesOk.eq k x.1) Try.func43 tabO_ok mixed (by kernel_rfl) (by kernel_rfl) ⟨impl_areDifferent.ok, trivial⟩
theorem impl_FirstFit.ok : FnOk Try.prog 35 impl_FirstFit.sig := fn_ok (fun k x => impl_FirstFit.eq k x.1 x.2.1) Try.func35 tabO_ok mixed (by kernel_rfl) (by kernel_rfl) ⟨impl_LimitsOk.ok, impl_PiecesOk.ok, ⟨Try.func77, by kernel_rfl⟩, ⟨Try.func78, by kernel_rfl⟩, trivial⟩
theorem slices_Clone_impl_Piece.ok : FnOk Try.prog 67 slices_Clone_impl_Piece.sig := fn_ok (fun k x => slices_Clone_impl_Piece.eq k x.1) Try.func67 tabO_ok mixed (by kernel_rfl) (by kernel_rfl) trivial
theorem cmp_isNaN_int.ok : FnOk Try.prog 95 cmp_isNaN_int.sig := fn_ok (fun k x => cmp_isNaN_int.eq k x.1) Try.func95 tabO_ok mixed (by kernel_rfl) (by kernel_rfl) trivial
theorem cmp_Compare_int.ok : FnOk Try.prog 54 cmp_Compare_int.sig := fn_ok (fun k x => cmp_Compare_int.eq k x.1 x.2.1) Try.func54 tabO_ok mixed (by kernel_rfl) (by kernel_rfl) ⟨cmp_isNaN_int.ok, trivial⟩
theorem cmp_Or_int.ok : FnOk Try.prog 70 cmp_Or_int.sig := fn_ok (fun k x => cmp_Or_int.eq k x.1) Try.func70 tabO_ok mixed (by kernel_rfl) (by kernel_rfl) trivial
theorem impl_Repack_1.ok : FnOk Try.prog 69 impl_Repack_1.sig := fn_ok (fun k x => impl_Repack_1.eq k x.1 x.2.1) Try.func69 tabO_ok mixed (by kernel_rfl) (by kernel_rfl) ⟨cmp_Compare_int.ok, cmp_Or_int.ok, trivial⟩
theorem slices_insertionSortCmpFunc_impl_Piece.ok : FnOk Try.prog 115 slices_insertionSortCmpFunc_impl_Piece.sig := fn_ok (fun k x => slices_insertionSortCmpFunc_impl_Piece.eq k x.1 x.2.1 x.2.2.1) Try.func115 tabO_ok mixed (by kernel_rfl) (by kernel_rfl) ⟨impl_Repack_1.ok, trivial⟩
theorem slices_swapRangeCmpFunc_impl_Piece.ok : FnOk Try.prog 134 slices_swapRangeCmpFunc_impl_Piece.sig := fn_ok (fun k x => slices_swapRangeCmpFunc_impl_Piece.eq k x.1 x.2.1 x.2.2.1 x.2.2.2.1) Try.func134 tabO_ok mixed (by kernel_rfl) (by kernel_rfl) trivial
theorem slices_rotateCmpFunc_impl_Piece.ok : FnOk Try.prog 123 slices_rotateCmpFunc_impl_Piece.sig := fn_ok (fun k x => slices_rotateCmpFunc_impl_Piece.eq k x.1 x.2.1 x.2.2.1 x.2.2.2.1) Try.func123 tabO_ok mixed (by kernel_rfl) (by kernel_rfl) ⟨slices_swapRangeCmpFunc_impl_Piece.ok, trivial⟩
theorem slices_symMergeCmpFunc_impl_Piece.ok : FnOk Try.prog 116 slices_symMergeCmpFunc_impl_Piece.sig := rec_ok (g := slices_symMergeCmpFunc_impl_Piece.sig0) (F := slices_symMergeCmpFunc_impl_Piece.fn) (fun _ _ => rfl) ⟨Try.f116, Try.func116, by kernel_rfl, by kernel_rfl⟩ fun m ih => fn_ok (fun k x => slices_symMergeCmpFunc_impl_Piece.eq (slices_symMergeCmpFunc_impl_Piece.fn m) (slices_symMergeCmpFunc_impl_Piece.fn (m + 1)) k x.1 x.2.1 x.2.2.1 x.2.2.2.1) Try.func116 tabO_ok mixed (by kernel_rfl) (by kernel_rfl) ⟨impl_Repack_1.ok, ih, slices_rotateCmpFunc_impl_Piece.ok, trivial⟩
theorem slices_stableCmpFunc_impl_Piece.ok : FnOk Try.prog 97 slices_stableCmpFunc_impl_Piece.sig := fn_ok (fun k x => slices_stableCmpFunc_impl_Piece.eq k x.1 x.2.1) Try.func97 tabO_ok mixed (by kernel_rfl) (by kernel_rfl) ⟨slices_insertionSortCmpFunc_impl_Piece.ok, slices_symMergeCmpFunc_impl_Piece.ok, trivial⟩
theorem slices_SortStableFunc_impl_Piece.ok : FnOk Try.prog 68 slices_SortStableFunc_impl_Piece.sig := fn_ok (fun k x => slices_SortStableFunc_impl_Piece.eq k x.1) Try.func68 tabO_ok mixed (by kernel_rfl) (by kernel_rfl) ⟨slices_stableCmpFunc_impl_Piece.ok, trivial⟩
theorem impl_Repack.ok : FnOk Try.prog 28 impl_Repack.sig := fn_ok (fun k x => impl_Repack.eq k x.1 x.2.1) Try.func28 tabO_ok mixed (by kernel_rfl) (by kernel_rfl) ⟨impl_FirstFit.ok, slices_Clone_impl_Piece.ok, slices_SortStableFunc_impl_Piece.ok, trivial⟩
theorem laws_eqIntS.ok : FnOk Try.prog 98 laws_eqIntS.sig := fn_ok (fun k x => laws_eqIntS.eq k x.1 x.2.1) Try.func98 tabO_ok mixed (by kernel_rfl) (by kernel_rfl) trivial
theorem laws_eqBox.ok : FnOk Try.prog 71 laws_eqBox.sig := fn_ok (fun k x => laws_eqBox.eq k x.1 x.2.1) Try.func71 tabO_ok mixed (by kernel_rfl) (by kernel_rfl) ⟨laws_eqIntS.ok, trivial⟩
theorem laws_eqBoxS.ok : FnOk Try.prog 29 laws_eqBoxS.sig := fn_ok (fun k x => laws_eqBoxS.eq k x.1 x.2.1) Try.func29 tabO_ok mixed (by kernel_rfl) (by kernel_rfl) ⟨laws_eqBox.ok, trivial⟩
theorem laws_eqPiece.ok : FnOk Try.prog 72 laws_eqPiece.sig := fn_ok (fun k x => laws_eqPiece.eq k x.1 x.2.1) Try.func72 tabO_ok mixed (by kernel_rfl) (by kernel_rfl) trivial
theorem laws_eqPieceS.ok : FnOk Try.prog 30 laws_eqPieceS.sig := fn_ok (fun k x => laws_eqPieceS.eq k x.1 x.2.1) Try.func30 tabO_ok mixed (by kernel_rfl) (by kernel_rfl) ⟨laws_eqPiece.ok, trivial⟩
theorem laws_markPieceS.ok : FnOk Try.prog 31 laws_markPieceS.sig := fn_ok (fun k x => laws_markPieceS.eq k x.1 x.2.1) Try.func31 tabO_ok mixed (by kernel_rfl) (by kernel_rfl) trivial
theorem laws_markIntS.ok : FnOk Try.prog 73 laws_markIntS.sig := fn_ok (fun k x => laws_markIntS.eq k x.1 x.2.1) Try.func73 tabO_ok mixed (by kernel_rfl) (by kernel_rfl) trivial
theorem laws_markBoxS.ok : FnOk Try.prog 32 laws_markBoxS.sig := fn_ok (fun k x => laws_markBoxS.eq k x.1 x.2.1) Try.func32 tabO_ok mixed (by kernel_rfl) (by kernel_rfl) ⟨laws_markIntS.ok, trivial⟩
theorem laws_heldIntS.ok : FnOk Try.prog 74 laws_heldIntS.sig := fn_ok (fun k x => laws_heldIntS.eq k x.1 x.2.1) Try.func74 tabO_ok mixed (by kernel_rfl) (by kernel_rfl) trivial
theorem laws_heldBoxS.ok : FnOk Try.prog 33 laws_heldBoxS.sig := fn_ok (fun k x => laws_heldBoxS.eq k x.1 x.2.1) Try.func33 tabO_ok mixed (by kernel_rfl) (by kernel_rfl) ⟨laws_heldIntS.ok, trivial⟩
theorem laws_FnExactRepack.ok : FnOk Try.prog 5 laws_FnExactRepack.sig := fn_ok (fun k x => laws_FnExactRepack.eq k x.1 x.2.1) Try.func5 tabO_ok mixed (by kernel_rfl) (by kernel_rfl) ⟨laws_szPieceS.ok, spec_Repack.ok, laws_toLimits.ok, laws_toPieceS.ok, impl_Repack.ok, laws_eqBoxS.ok, laws_eqPieceS.ok, laws_markPieceS.ok, laws_markBoxS.ok, laws_heldBoxS.ok, trivial⟩
end Go.Proofs.Ytcfbjloblbhdhaa.Eng
