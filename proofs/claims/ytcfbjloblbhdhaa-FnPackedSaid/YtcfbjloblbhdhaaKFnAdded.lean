/- The contracts of the program's functions. By a program of this session. No condition. -/
import Derived.Test.YtcfbjloblbhdhaaK
import Derived.Test.YtcfbjloblbhdhaaEFnAdded1
import Derived.Test.YtcfbjloblbhdhaaSeatSortN
namespace Go.Proofs.Ytcfbjloblbhdhaa.Eng
open Go.Proofs
set_option linter.unusedVariables false
theorem laws_big.ok : FnOk Try.prog 7 laws_big.sig := fn_ok (fun k x => laws_big.eq k x.1) Try.func7 tabO_ok mixed (by kernel_rfl) (by kernel_rfl) trivial
theorem spec_l01New.ok : FnOk Try.prog 45 spec_l01New.sig := fn_ok (fun k x => spec_l01New.eq k x.1) Try.func45 tabO_ok mixed (by kernel_rfl) (by kernel_rfl) trivial
theorem spec_l08At.ok : FnOk Try.prog 48 spec_l08At.sig := fn_ok (fun k x => spec_l08At.eq k x.1 x.2.1) Try.func48 tabO_ok mixed (by kernel_rfl) (by kernel_rfl) trivial
theorem spec_l01Byte.ok : FnOk Try.prog 90 spec_l01Byte.sig := fn_ok (fun k x => spec_l01Byte.eq k x.1) Try.func90 tabO_ok mixed (by kernel_rfl) (by kernel_rfl) trivial
theorem spec_l01Below.ok : FnOk Try.prog 49 spec_l01Below.sig := fn_ok (fun k x => spec_l01Below.eq k x.1 x.2.1) Try.func49 tabO_ok mixed (by kernel_rfl) (by kernel_rfl) ⟨spec_l01Byte.ok, trivial⟩
theorem spec_l08With.ok : FnOk Try.prog 56 spec_l08With.sig := fn_ok (fun k x => spec_l08With.eq k x.1 x.2.1) Try.func56 tabO_ok mixed (by kernel_rfl) (by kernel_rfl) trivial
theorem spec_l01PickInt.ok : FnOk Try.prog 96 spec_l01PickInt.sig := fn_ok (fun k x => spec_l01PickInt.eq k x.1 x.2.1) Try.func96 tabO_ok mixed (by kernel_rfl) (by kernel_rfl) ⟨spec_l01Below.ok, trivial⟩
theorem spec_l08Note.ok : FnOk Try.prog 89 spec_l08Note.sig := fn_ok (fun k x => spec_l08Note.eq k x.1) Try.func89 tabO_ok mixed (by kernel_rfl) (by kernel_rfl) ⟨spec_l01Below.ok, spec_l01PickInt.ok, trivial⟩
theorem spec_l08Notes.ok : FnOk Try.prog 46 spec_l08Notes.sig := fn_ok (fun k x => spec_l08Notes.eq k x.1) Try.func46 tabO_ok mixed (by kernel_rfl) (by kernel_rfl) ⟨spec_l08At.ok, spec_l01Below.ok, spec_l08With.ok, spec_l08Note.ok, trivial⟩
theorem spec_NoteOk.ok : FnOk Try.prog 18 spec_NoteOk.sig := fn_ok (fun k x => spec_NoteOk.eq k x.1) Try.func18 tabO_ok mixed (by kernel_rfl) (by kernel_rfl) ⟨spec_l01In.ok, trivial⟩
theorem spec_NotesOk.ok : FnOk Try.prog 55 spec_NotesOk.sig := fn_ok (fun k x => spec_NotesOk.eq k x.1) Try.func55 tabO_ok mixed (by kernel_rfl) (by kernel_rfl) ⟨spec_NoteOk.ok, trivial⟩
theorem spec_l01Once.ok : FnOk Try.prog 58 spec_l01Once.sig := fn_ok (fun k x => spec_l01Once.eq k x.1 x.2.1) Try.func58 tabO_ok mixed (by kernel_rfl) (by kernel_rfl) ⟨spec_l01Below.ok, trivial⟩
theorem spec_l08Twin.ok : FnOk Try.prog 47 spec_l08Twin.sig := fn_ok (fun k x => spec_l08Twin.eq k x.1 x.2.1) Try.func47 tabO_ok mixed (by kernel_rfl) (by kernel_rfl) ⟨spec_l08At.ok, spec_l01Below.ok, spec_NotesOk.ok, spec_l08With.ok, spec_l01Once.ok, spec_l08Note.ok, trivial⟩
theorem spec_DrawNotes.ok : FnOk Try.prog 8 spec_DrawNotes.sig := fn_ok (fun k x => spec_DrawNotes.eq k x.1) Try.func8 tabO_ok mixed (by kernel_rfl) (by kernel_rfl) ⟨spec_l01New.ok, spec_l08Notes.ok, spec_l08Twin.ok, spec_l08At.ok, trivial⟩
theorem spec_DrawPlaces.ok : FnOk Try.prog 9 spec_DrawPlaces.sig := fn_ok (fun k x => spec_DrawPlaces.eq k x.1) Try.func9 tabO_ok mixed (by kernel_rfl) (by kernel_rfl) ⟨spec_l01New.ok, spec_l01Below.ok, trivial⟩
theorem impl_isFrom1.ok : FnOk Try.prog 60 impl_isFrom1.sig := fn_ok (fun k x => impl_isFrom1.eq k x.1 x.2.1) Try.func60 tabO_ok mixed (by kernel_rfl) (by kernel_rfl) trivial
theorem impl_NoteOk.ok : FnOk Try.prog 17 impl_NoteOk.sig := fn_ok (fun k x => impl_NoteOk.eq k x.1) Try.func17 tabO_ok mixed (by kernel_rfl) (by kernel_rfl) ⟨impl_isFrom1.ok, trivial⟩
theorem impl_NotesOk.ok : FnOk Try.prog 20 impl_NotesOk.sig := fn_ok (fun k x => impl_NotesOk.eq k x.1) Try.func20 tabO_ok mixed (by kernel_rfl) (by kernel_rfl) ⟨impl_NoteOk.ok, trivial⟩
theorem slices_Clone_impl_Note.ok : FnOk Try.prog 50 slices_Clone_impl_Note.sig := fn_ok (fun k x => slices_Clone_impl_Note.eq k x.1) Try.func50 tabO_ok mixed (by kernel_rfl) (by kernel_rfl) trivial
theorem impl_noteAt.ok : FnOk Try.prog 51 impl_noteAt.sig := fn_ok (fun k x => impl_noteAt.eq k x.1 x.2.1) Try.func51 tabO_ok mixed (by kernel_rfl) (by kernel_rfl) ⟨⟨Try.func91, by kernel_rfl⟩, ⟨Try.func92, by kernel_rfl⟩, trivial⟩
theorem impl_AddNote.ok : FnOk Try.prog 10 impl_AddNote.sig := fn_ok (fun k x => impl_AddNote.eq k x.1 x.2.1) Try.func10 tabO_ok mixed (by kernel_rfl) (by kernel_rfl) ⟨impl_NoteOk.ok, impl_NotesOk.ok, slices_Clone_impl_Note.ok, impl_noteAt.ok, slices_SortFunc_impl_Note.ok, trivial⟩
theorem spec_MergeNotes.ok : FnOk Try.prog 11 spec_MergeNotes.sig := fn_ok (fun k x => spec_MergeNotes.eq k x.1 x.2.1) Try.func11 tabO_ok mixed (by kernel_rfl) (by kernel_rfl) ⟨spec_l08At.ok, spec_NotesOk.ok, spec_l08With.ok, trivial⟩
theorem spec_l08AnyNote.ok : FnOk Try.prog 59 spec_l08AnyNote.sig := fn_ok (fun k x => spec_l08AnyNote.eq k x.1) Try.func59 tabO_ok mixed (by kernel_rfl) (by kernel_rfl) ⟨spec_l01Below.ok, spec_l08Note.ok, spec_l01PickInt.ok, trivial⟩
theorem spec_l08Any.ok : FnOk Try.prog 57 spec_l08Any.sig := fn_ok (fun k x => spec_l08Any.eq k x.1) Try.func57 tabO_ok mixed (by kernel_rfl) (by kernel_rfl) ⟨spec_l08Notes.ok, spec_l01Below.ok, spec_l08AnyNote.ok, trivial⟩
theorem spec_DrawAddNote.ok : FnOk Try.prog 12 spec_DrawAddNote.sig := fn_ok (fun k x => spec_DrawAddNote.eq k x.1) Try.func12 tabO_ok mixed (by kernel_rfl) (by kernel_rfl) ⟨spec_l01New.ok, spec_l01Below.ok, spec_l08Any.ok, spec_l01Once.ok, spec_l08AnyNote.ok, trivial⟩
theorem spec_AddNote.ok : FnOk Try.prog 13 spec_AddNote.sig := fn_ok (fun k x => spec_AddNote.eq k x.1 x.2.1) Try.func13 tabO_ok mixed (by kernel_rfl) (by kernel_rfl) ⟨spec_NoteOk.ok, spec_l08At.ok, spec_NotesOk.ok, spec_l08With.ok, trivial⟩
theorem laws_sameNotes.ok : FnOk Try.prog 14 laws_sameNotes.sig := fn_ok (fun k x => laws_sameNotes.eq k x.1 x.2.1) Try.func14 tabO_ok mixed (by kernel_rfl) (by kernel_rfl) trivial
theorem impl_Gaps.ok : FnOk Try.prog 15 impl_Gaps.sig := fn_ok (fun k x => impl_Gaps.eq k x.1) Try.func15 tabO_ok mixed (by kernel_rfl) (by kernel_rfl) ⟨impl_NotesOk.ok, trivial⟩
theorem spec_Gaps.ok : FnOk Try.prog 16 spec_Gaps.sig := fn_ok (fun k x => spec_Gaps.eq k x.1) Try.func16 tabO_ok mixed (by kernel_rfl) (by kernel_rfl) ⟨spec_NotesOk.ok, trivial⟩
theorem laws_FnAdded.ok : FnOk Try.prog 3 laws_FnAdded.sig := fn_ok (fun k x => laws_FnAdded.eq k x.1) Try.func3 tabO_ok mixed (by kernel_rfl) (by kernel_rfl) ⟨laws_big.ok, spec_DrawNotes.ok, spec_DrawPlaces.ok, impl_AddNote.ok, spec_MergeNotes.ok, spec_DrawAddNote.ok, spec_AddNote.ok, laws_sameNotes.ok, impl_Gaps.ok, spec_Gaps.ok, impl_NoteOk.ok, spec_NoteOk.ok, trivial⟩
end Go.Proofs.Ytcfbjloblbhdhaa.Eng
