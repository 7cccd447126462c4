/- The contracts of the program's functions. By a program of this session. No condition. -/
import Derived.Test.YtcfbjloblbhdhaaK
import Derived.Test.YtcfbjloblbhdhaaEFnPacked1
import Derived.Test.YtcfbjloblbhdhaaKFnAdded
import Derived.Test.YtcfbjloblbhdhaaKFnExactRepack
namespace Go.Proofs.Ytcfbjloblbhdhaa.Eng
open Go.Proofs
set_option linter.unusedVariables false
theorem spec_l07Limits.ok : FnOk Try.prog 75 spec_l07Limits.sig := fn_ok (fun k x => spec_l07Limits.eq k x.1) Try.func75 tabO_ok mixed (by kernel_rfl) (by kernel_rfl) ⟨spec_l01Below.ok, spec_l01PickInt.ok, trivial⟩
theorem spec_l07Pieces.ok : FnOk Try.prog 76 spec_l07Pieces.sig := fn_ok (fun k x => spec_l07Pieces.eq k x.1 x.2.1) Try.func76 tabO_ok mixed (by kernel_rfl) (by kernel_rfl) ⟨spec_l01Below.ok, spec_l01PickInt.ok, trivial⟩
theorem spec_DrawPieces.ok : FnOk Try.prog 34 spec_DrawPieces.sig := fn_ok (fun k x => spec_DrawPieces.eq k x.1) Try.func34 tabO_ok mixed (by kernel_rfl) (by kernel_rfl) ⟨spec_l01New.ok, spec_l07Limits.ok, spec_l07Pieces.ok, trivial⟩
theorem impl_fewest.ok : FnOk Try.prog 79 impl_fewest.sig := fn_ok (fun k x => impl_fewest.eq k x.1 x.2.1) Try.func79 tabO_ok mixed (by kernel_rfl) (by kernel_rfl) trivial
theorem impl_ofClass.ok : FnOk Try.prog 80 impl_ofClass.sig := fn_ok (fun k x => impl_ofClass.eq k x.1 x.2.1) Try.func80 tabO_ok mixed (by kernel_rfl) (by kernel_rfl) ⟨slices_Clone_impl_Piece.ok, ⟨Try.func86, by kernel_rfl⟩, ⟨Try.func99, by kernel_rfl⟩, ⟨Try.func100, by kernel_rfl⟩, trivial⟩
theorem impl_FewestBoxes.ok : FnOk Try.prog 36 impl_FewestBoxes.sig := fn_ok (fun k x => impl_FewestBoxes.eq k x.1 x.2.1) Try.func36 tabO_ok mixed (by kernel_rfl) (by kernel_rfl) ⟨impl_LimitsOk.ok, impl_PiecesOk.ok, impl_fewest.ok, impl_ofClass.ok, trivial⟩
theorem laws_sameInts.ok : FnOk Try.prog 81 laws_sameInts.sig := fn_ok (fun k x => laws_sameInts.eq k x.1 x.2.1) Try.func81 tabO_ok mixed (by kernel_rfl) (by kernel_rfl) trivial
theorem laws_sameBoxes.ok : FnOk Try.prog 37 laws_sameBoxes.sig := fn_ok (fun k x => laws_sameBoxes.eq k x.1 x.2.1) Try.func37 tabO_ok mixed (by kernel_rfl) (by kernel_rfl) ⟨laws_sameInts.ok, trivial⟩
theorem spec_l07Few.ok : FnOk Try.prog 84 spec_l07Few.sig := rec_ok (g := spec_l07Few.sig0) (F := spec_l07Few.fn) (fun _ _ => rfl) ⟨Try.f84, Try.func84, by kernel_rfl, by kernel_rfl⟩ fun m ih => fn_ok (fun k x => spec_l07Few.eq (spec_l07Few.fn m) (spec_l07Few.fn (m + 1)) k x.1 x.2.1 x.2.2.1 x.2.2.2.1) Try.func84 tabR_ok mixed (by kernel_rfl) (by kernel_rfl) ⟨spec_l07Takes.ok, spec_l07With.ok, ih, trivial⟩
theorem spec_FewestBoxes.ok : FnOk Try.prog 39 spec_FewestBoxes.sig := fn_ok (fun k x => spec_FewestBoxes.eq k x.1 x.2.1) Try.func39 tabO_ok mixed (by kernel_rfl) (by kernel_rfl) ⟨spec_LimitsOk.ok, spec_PiecesOk.ok, spec_l07Few.ok, trivial⟩
theorem impl_BoxBound.ok : FnOk Try.prog 40 impl_BoxBound.sig := fn_ok (fun k x => impl_BoxBound.eq k x.1 x.2.1) Try.func40 tabO_ok mixed (by kernel_rfl) (by kernel_rfl) ⟨impl_LimitsOk.ok, impl_PiecesOk.ok, impl_ofClass.ok, trivial⟩
theorem spec_BoxBound.ok : FnOk Try.prog 41 spec_BoxBound.sig := fn_ok (fun k x => spec_BoxBound.eq k x.1 x.2.1) Try.func41 tabO_ok mixed (by kernel_rfl) (by kernel_rfl) ⟨spec_LimitsOk.ok, spec_PiecesOk.ok, trivial⟩
theorem slices_Index_int_int.ok : FnOk Try.prog 104 slices_Index_int_int.sig := fn_ok (fun k x => slices_Index_int_int.eq k x.1 x.2.1) Try.func104 tabO_ok mixed (by kernel_rfl) (by kernel_rfl) trivial
theorem slices_Contains_int_int.ok : FnOk Try.prog 88 slices_Contains_int_int.sig := fn_ok (fun k x => slices_Contains_int_int.eq k x.1 x.2.1) Try.func88 tabO_ok mixed (by kernel_rfl) (by kernel_rfl) ⟨slices_Index_int_int.ok, trivial⟩
theorem impl_BoxesOk.ok : FnOk Try.prog 44 impl_BoxesOk.sig := fn_ok (fun k x => impl_BoxesOk.eq k x.1 x.2.1 x.2.2.1) Try.func44 tabO_ok mixed (by kernel_rfl) (by kernel_rfl) ⟨impl_LimitsOk.ok, impl_PiecesOk.ok, ⟨Try.func86, by kernel_rfl⟩, ⟨Try.func87, by kernel_rfl⟩, slices_Contains_int_int.ok, trivial⟩
theorem laws_FnPacked.ok : FnOk Try.prog 6 laws_FnPacked.sig := fn_ok (fun k x => laws_FnPacked.eq k x.1) Try.func6 tabO_ok mixed (by kernel_rfl) (by kernel_rfl) ⟨laws_big.ok, spec_Repack.ok, impl_Repack.ok, spec_DrawPieces.ok, impl_FirstFit.ok, impl_FewestBoxes.ok, laws_sameBoxes.ok, spec_FirstFit.ok, spec_FewestBoxes.ok, impl_BoxBound.ok, spec_BoxBound.ok, impl_LimitsOk.ok, impl_PiecesOk.ok, impl_BoxesOk.ok, trivial⟩
end Go.Proofs.Ytcfbjloblbhdhaa.Eng
