/- The contracts of the program's functions. By a program of this session. No condition. -/
import Derived.Test.YtcfbjloblbhdhaaK
import Derived.Test.YtcfbjloblbhdhaaEFnMerged1
import Derived.Test.YtcfbjloblbhdhaaKFnAdded
namespace Go.Proofs.Ytcfbjloblbhdhaa.Eng
open Go.Proofs
set_option linter.unusedVariables false
theorem impl_MergeNotes.ok : FnOk Try.prog 19 impl_MergeNotes.sig := fn_ok (fun k x => impl_MergeNotes.eq k x.1 x.2.1) Try.func19 tabO_ok mixed (by kernel_rfl) (by kernel_rfl) ⟨impl_AddNote.ok, impl_NotesOk.ok, slices_Clone_impl_Note.ok, trivial⟩
theorem impl_Unknown.ok : FnOk Try.prog 21 impl_Unknown.sig := fn_ok (fun k x => impl_Unknown.eq k x.1 x.2.1) Try.func21 tabO_ok mixed (by kernel_rfl) (by kernel_rfl) ⟨impl_NotesOk.ok, slices_Clone_impl_Note.ok, impl_noteAt.ok, ⟨Try.func62, by kernel_rfl⟩, ⟨Try.func63, by kernel_rfl⟩, ⟨Try.func91, by kernel_rfl⟩, trivial⟩
theorem spec_DrawMergeNotes.ok : FnOk Try.prog 22 spec_DrawMergeNotes.sig := fn_ok (fun k x => spec_DrawMergeNotes.eq k x.1) Try.func22 tabO_ok mixed (by kernel_rfl) (by kernel_rfl) ⟨spec_l01New.ok, spec_l08Twin.ok, spec_l08Any.ok, spec_l01Once.ok, trivial⟩
theorem spec_Unknown.ok : FnOk Try.prog 23 spec_Unknown.sig := fn_ok (fun k x => spec_Unknown.eq k x.1 x.2.1) Try.func23 tabO_ok mixed (by kernel_rfl) (by kernel_rfl) ⟨spec_l08At.ok, spec_NotesOk.ok, trivial⟩
theorem laws_FnMerged.ok : FnOk Try.prog 4 laws_FnMerged.sig := fn_ok (fun k x => laws_FnMerged.eq k x.1) Try.func4 tabO_ok mixed (by kernel_rfl) (by kernel_rfl) ⟨laws_big.ok, spec_DrawNotes.ok, spec_MergeNotes.ok, laws_sameNotes.ok, impl_MergeNotes.ok, impl_NotesOk.ok, impl_Unknown.ok, spec_DrawMergeNotes.ok, spec_Unknown.ok, trivial⟩
end Go.Proofs.Ytcfbjloblbhdhaa.Eng
