/- The pure functions are what the evaluator computes of the program's code. By a program of this session. No condition. -/
import Derived.Test.YtcfbjloblbhdhaaDFnAdded
import Derived.Test.YtcfbjloblbhdhaaProg
import Derived.KernelRfl
namespace Go.Proofs.Ytcfbjloblbhdhaa.Eng
open Go.Proofs
set_option linter.unusedVariables false
set_option maxRecDepth 100000 in
theorem laws_big.eq (k : Nat) (x0 : List (Int × Unit)) : evFn tabO false [] [] Try.f7 laws_big.sig k (x0, ()) = laws_big.f k x0 := by kernel_rfl

set_option maxRecDepth 100000 in
theorem spec_l01New.eq (k : Nat) (x0 : List (Int × Unit)) : evFn tabO false [] [⟨7, [], [⟨.slot 3, ⟨false, 0⟩, (.int .i64)⟩, ⟨.slot 4, ⟨false, 0⟩, (.int .i64)⟩]⟩, ⟨12, [], [⟨.slot 3, ⟨false, 0⟩, (.int .i64)⟩]⟩] Try.f45 spec_l01New.sig k (x0, ()) = spec_l01New.f k x0 := by kernel_rfl

set_option maxRecDepth 100000 in
theorem spec_l08At.eq (k : Nat) (x0 : List (Int × Int × Int × Int × Int × Unit)) (x1 : Int) : evFn tabO false [] [⟨5, [], [⟨.slot 5, ⟨false, 0⟩, (.int .i64)⟩]⟩] Try.f48 spec_l08At.sig k (x0, x1, ()) = spec_l08At.f k x0 x1 := by kernel_rfl

set_option maxRecDepth 100000 in
theorem spec_l01Byte.eq (k : Nat) (x0 : (List (Int × Unit) × Int × Int × Unit)) : evFn tabO false [] [⟨12, [], [⟨.slot 3, ⟨false, 0⟩, (.int .i64)⟩, ⟨.cell 0 1, ⟨false, 0⟩, (.int .i64)⟩]⟩] Try.f90 spec_l01Byte.sig k (x0, ()) = spec_l01Byte.f k x0 := by kernel_rfl

set_option maxRecDepth 100000 in
theorem spec_l01Below.eq (k : Nat) (x0 : (List (Int × Unit) × Int × Int × Unit)) (x1 : Int) : evFn tabO false [(90, .sig spec_l01Byte.sig)] [] Try.f49 spec_l01Below.sig k (x0, x1, ()) = spec_l01Below.f k x0 x1 := by kernel_rfl

set_option maxRecDepth 100000 in
theorem spec_l08With.eq (k : Nat) (x0 : List (Int × Int × Int × Int × Int × Unit)) (x1 : (Int × Int × Int × Int × Int × Unit)) : evFn tabO false [] [⟨24, [], [⟨.slot 5, ⟨false, 2⟩, (.slice K29)⟩]⟩, ⟨9, [], [⟨.slot 5, ⟨false, 2⟩, (.slice K29)⟩, ⟨.slot 6, ⟨false, 0⟩, .bool⟩, ⟨.slot 7, ⟨false, 0⟩, (.int .i64)⟩]⟩, ⟨18, [], [⟨.slot 5, ⟨false, 2⟩, (.slice K29)⟩, ⟨.slot 6, ⟨false, 0⟩, .bool⟩]⟩] Try.f56 spec_l08With.sig k (x0, x1, ()) = spec_l08With.f k x0 x1 := by kernel_rfl

set_option maxRecDepth 100000 in
theorem spec_l01PickInt.eq (k : Nat) (x0 : (List (Int × Unit) × Int × Int × Unit)) (x1 : List (Int × Unit)) : evFn tabO false [(49, .sig spec_l01Below.sig)] [] Try.f96 spec_l01PickInt.sig k (x0, x1, ()) = spec_l01PickInt.f k x0 x1 := by kernel_rfl

set_option maxRecDepth 100000 in
theorem spec_l08Note.eq (k : Nat) (x0 : (List (Int × Unit) × Int × Int × Unit)) : evFn tabO false [(49, .sig spec_l01Below.sig), (96, .sig spec_l01PickInt.sig)] [⟨8, [], [⟨.cell 0 0, ⟨false, 0⟩, (.slice K5)⟩, ⟨.cell 0 1, ⟨false, 0⟩, (.int .i64)⟩, ⟨.cell 0 2, ⟨false, 0⟩, (.int .i64)⟩, ⟨.cell 3 2, ⟨false, 0⟩, (.int .i64)⟩]⟩, ⟨12, [], [⟨.cell 0 0, ⟨false, 0⟩, (.slice K5)⟩, ⟨.cell 0 1, ⟨false, 0⟩, (.int .i64)⟩, ⟨.cell 0 2, ⟨false, 0⟩, (.int .i64)⟩, ⟨.cell 3 3, ⟨false, 0⟩, (.int .i64)⟩]⟩] Try.f89 spec_l08Note.sig k (x0, ()) = spec_l08Note.f k x0 := by kernel_rfl

set_option maxRecDepth 100000 in
theorem spec_l08Notes.eq (k : Nat) (x0 : (List (Int × Unit) × Int × Int × Unit)) : evFn tabO false [(48, .sig spec_l08At.sig), (49, .sig spec_l01Below.sig), (56, .sig spec_l08With.sig), (89, .sig spec_l08Note.sig)] [⟨7, [], [⟨.cell 0 0, ⟨false, 0⟩, (.slice K5)⟩, ⟨.cell 0 1, ⟨false, 0⟩, (.int .i64)⟩, ⟨.cell 0 2, ⟨false, 0⟩, (.int .i64)⟩, ⟨.slot 3, ⟨false, 2⟩, (.slice K29)⟩, ⟨.slot 4, ⟨false, 0⟩, (.int .i64)⟩]⟩, ⟨8, [], [⟨.slot 3, ⟨false, 2⟩, (.slice K29)⟩, ⟨.cell 0 0, ⟨false, 0⟩, (.slice K5)⟩, ⟨.cell 0 1, ⟨false, 0⟩, (.int .i64)⟩, ⟨.cell 0 2, ⟨false, 0⟩, (.int .i64)⟩]⟩] Try.f46 spec_l08Notes.sig k (x0, ()) = spec_l08Notes.f k x0 := by kernel_rfl

set_option maxRecDepth 100000 in
theorem spec_NoteOk.eq (k : Nat) (x0 : (Int × Int × Int × Int × Int × Unit)) : evFn tabO false [(61, .sig spec_l01In.sig)] [⟨10, [], []⟩] Try.f18 spec_NoteOk.sig k (x0, ()) = spec_NoteOk.f k x0 := by kernel_rfl

set_option maxRecDepth 100000 in
theorem spec_NotesOk.eq (k : Nat) (x0 : List (Int × Int × Int × Int × Int × Unit)) : evFn tabO false [(18, .sig spec_NoteOk.sig)] [⟨9, [], [⟨.slot 3, ⟨false, 0⟩, (.int .i64)⟩]⟩, ⟨10, [], []⟩] Try.f55 spec_NotesOk.sig k (x0, ()) = spec_NotesOk.f k x0 := by kernel_rfl

set_option maxRecDepth 100000 in
theorem spec_l01Once.eq (k : Nat) (x0 : (List (Int × Unit) × Int × Int × Unit)) (x1 : Int) : evFn tabO false [(49, .sig spec_l01Below.sig)] [] Try.f58 spec_l01Once.sig k (x0, x1, ()) = spec_l01Once.f k x0 x1 := by kernel_rfl

set_option maxRecDepth 100000 in
theorem spec_l08Twin.eq (k : Nat) (x0 : (List (Int × Unit) × Int × Int × Unit)) (x1 : List (Int × Int × Int × Int × Int × Unit)) : evFn tabO false [(48, .sig spec_l08At.sig), (49, .sig spec_l01Below.sig), (55, .sig spec_NotesOk.sig), (56, .sig spec_l08With.sig), (58, .sig spec_l01Once.sig), (89, .sig spec_l08Note.sig)] [⟨7, [], [⟨.cell 0 0, ⟨false, 0⟩, (.slice K5)⟩, ⟨.cell 0 1, ⟨false, 0⟩, (.int .i64)⟩, ⟨.cell 0 2, ⟨false, 0⟩, (.int .i64)⟩, ⟨.slot 5, ⟨false, 2⟩, (.slice K29)⟩, ⟨.slot 6, ⟨false, 0⟩, (.int .i64)⟩]⟩, ⟨8, [], [⟨.slot 5, ⟨false, 2⟩, (.slice K29)⟩, ⟨.cell 0 0, ⟨false, 0⟩, (.slice K5)⟩, ⟨.cell 0 1, ⟨false, 0⟩, (.int .i64)⟩, ⟨.cell 0 2, ⟨false, 0⟩, (.int .i64)⟩]⟩, ⟨17, [], [⟨.cell 0 0, ⟨false, 0⟩, (.slice K5)⟩, ⟨.cell 0 1, ⟨false, 0⟩, (.int .i64)⟩, ⟨.cell 0 2, ⟨false, 0⟩, (.int .i64)⟩, ⟨.slot 5, ⟨false, 2⟩, (.slice K29)⟩, ⟨.slot 7, ⟨false, 0⟩, (.int .i64)⟩]⟩, ⟨18, [], [⟨.slot 5, ⟨false, 2⟩, (.slice K29)⟩, ⟨.cell 0 0, ⟨false, 0⟩, (.slice K5)⟩, ⟨.cell 0 1, ⟨false, 0⟩, (.int .i64)⟩, ⟨.cell 0 2, ⟨false, 0⟩, (.int .i64)⟩]⟩] Try.f47 spec_l08Twin.sig k (x0, x1, ()) = spec_l08Twin.f k x0 x1 := by kernel_rfl

set_option maxRecDepth 100000 in
theorem spec_DrawNotes.eq (k : Nat) (x0 : List (Int × Unit)) : evFn tabO false [(45, .sig spec_l01New.sig), (46, .sig spec_l08Notes.sig), (47, .sig spec_l08Twin.sig), (48, .sig spec_l08At.sig)] [⟨13, [], [⟨.slot 7, ⟨false, 2⟩, (.slice K29)⟩, ⟨.slot 8, ⟨false, 0⟩, (.int .i64)⟩]⟩, ⟨14, [], [⟨.slot 7, ⟨false, 2⟩, (.slice K29)⟩]⟩] Try.f8 spec_DrawNotes.sig k (x0, ()) = spec_DrawNotes.f k x0 := by kernel_rfl

set_option maxRecDepth 100000 in
theorem spec_DrawPlaces.eq (k : Nat) (x0 : List (Int × Unit)) : evFn tabO false [(45, .sig spec_l01New.sig), (49, .sig spec_l01Below.sig)] [⟨9, [], [⟨.cell 0 0, ⟨false, 0⟩, (.slice K5)⟩, ⟨.cell 0 1, ⟨false, 0⟩, (.int .i64)⟩, ⟨.cell 0 2, ⟨false, 0⟩, (.int .i64)⟩, ⟨.slot 4, ⟨false, 2⟩, (.slice K2)⟩, ⟨.slot 5, ⟨false, 0⟩, (.int .i64)⟩]⟩] Try.f9 spec_DrawPlaces.sig k (x0, ()) = spec_DrawPlaces.f k x0 := by kernel_rfl

set_option maxRecDepth 100000 in
theorem impl_isFrom1.eq (k : Nat) (x0 : Int) (x1 : Int) : evFn tabO false [] [] Try.f60 impl_isFrom1.sig k (x0, x1, ()) = impl_isFrom1.f k x0 x1 := by kernel_rfl

set_option maxRecDepth 100000 in
theorem impl_NoteOk.eq (k : Nat) (x0 : (Int × Int × Int × Int × Int × Unit)) : evFn tabO false [(60, .sig impl_isFrom1.sig)] [⟨16, [], [⟨.slot 25, ⟨false, 0⟩, .bool⟩]⟩] Try.f17 impl_NoteOk.sig k (x0, ()) = impl_NoteOk.f k x0 := by kernel_rfl

set_option maxRecDepth 100000 in
theorem impl_NotesOk.eq (k : Nat) (x0 : List (Int × Int × Int × Int × Int × Unit)) : evFn tabO false [(17, .sig impl_NoteOk.sig)] [⟨5, [], [⟨.slot 7, ⟨false, 0⟩, (.int .i64)⟩]⟩, ⟨12, [], []⟩] Try.f20 impl_NotesOk.sig k (x0, ()) = impl_NotesOk.f k x0 := by kernel_rfl

set_option maxRecDepth 100000 in
theorem slices_Clone_impl_Note.eq (k : Nat) (x0 : List (Int × Int × Int × Int × Int × Unit)) : evFn tabO false [] [] Try.f50 slices_Clone_impl_Note.sig k (x0, ()) = slices_Clone_impl_Note.f k x0 := by kernel_rfl

set_option maxRecDepth 100000 in
theorem impl_noteAt.eq (k : Nat) (x0 : List (Int × Int × Int × Int × Int × Unit)) (x1 : Int) : evFn tabO false [(91, .inl Try.f91 [⟨5, [], [⟨.slot 8, ⟨false, 0⟩, (.int .i64)⟩]⟩]), (92, .inl Try.f92 [])] [] Try.f51 impl_noteAt.sig k (x0, x1, ()) = impl_noteAt.f k x0 x1 := by kernel_rfl

set_option maxRecDepth 100000 in
theorem impl_AddNote.eq (k : Nat) (x0 : List (Int × Int × Int × Int × Int × Unit)) (x1 : (Int × Int × Int × Int × Int × Unit)) : evFn tabO false [(17, .sig impl_NoteOk.sig), (20, .sig impl_NotesOk.sig), (50, .sig slices_Clone_impl_Note.sig), (51, .sig impl_noteAt.sig), (52, .sig (sortNSig 53))] [] Try.f10 impl_AddNote.sig k (x0, x1, ()) = impl_AddNote.f k x0 x1 := by kernel_rfl

set_option maxRecDepth 100000 in
theorem spec_MergeNotes.eq (k : Nat) (x0 : List (Int × Int × Int × Int × Int × Unit)) (x1 : List (Int × Int × Int × Int × Int × Unit)) : evFn tabO false [(48, .sig spec_l08At.sig), (55, .sig spec_NotesOk.sig), (56, .sig spec_l08With.sig)] [⟨11, [], [⟨.slot 6, ⟨false, 2⟩, (.slice K29)⟩, ⟨.slot 7, ⟨false, 0⟩, (.int .i64)⟩]⟩, ⟨12, [], [⟨.slot 6, ⟨false, 2⟩, (.slice K29)⟩]⟩] Try.f11 spec_MergeNotes.sig k (x0, x1, ()) = spec_MergeNotes.f k x0 x1 := by kernel_rfl

set_option maxRecDepth 100000 in
theorem spec_l08AnyNote.eq (k : Nat) (x0 : (List (Int × Unit) × Int × Int × Unit)) : evFn tabO false [(49, .sig spec_l01Below.sig), (89, .sig spec_l08Note.sig), (96, .sig spec_l01PickInt.sig)] [⟨26, [], [⟨.cell 0 0, ⟨false, 0⟩, (.slice K5)⟩, ⟨.cell 0 1, ⟨false, 0⟩, (.int .i64)⟩, ⟨.cell 0 2, ⟨false, 0⟩, (.int .i64)⟩, ⟨.cell 2 0, ⟨false, 0⟩, (.int .i64)⟩, ⟨.cell 2 1, ⟨false, 0⟩, (.int .i64)⟩, ⟨.cell 2 2, ⟨false, 0⟩, (.int .i64)⟩, ⟨.cell 2 3, ⟨false, 0⟩, (.int .i64)⟩, ⟨.cell 2 4, ⟨false, 0⟩, (.int .i64)⟩]⟩] Try.f59 spec_l08AnyNote.sig k (x0, ()) = spec_l08AnyNote.f k x0 := by kernel_rfl

set_option maxRecDepth 100000 in
theorem spec_l08Any.eq (k : Nat) (x0 : (List (Int × Unit) × Int × Int × Unit)) : evFn tabO false [(46, .sig spec_l08Notes.sig), (49, .sig spec_l01Below.sig), (59, .sig spec_l08AnyNote.sig)] [⟨23, [], [⟨.cell 0 0, ⟨false, 0⟩, (.slice K5)⟩, ⟨.cell 0 1, ⟨false, 0⟩, (.int .i64)⟩, ⟨.cell 0 2, ⟨false, 0⟩, (.int .i64)⟩, ⟨.slot 3, ⟨false, 2⟩, (.slice K29)⟩]⟩, ⟨26, [], [⟨.slot 3, ⟨false, 2⟩, (.slice K29)⟩, ⟨.cell 0 0, ⟨false, 0⟩, (.slice K5)⟩, ⟨.cell 0 1, ⟨false, 0⟩, (.int .i64)⟩, ⟨.cell 0 2, ⟨false, 0⟩, (.int .i64)⟩]⟩] Try.f57 spec_l08Any.sig k (x0, ()) = spec_l08Any.f k x0 := by kernel_rfl

set_option maxRecDepth 100000 in
theorem spec_DrawAddNote.eq (k : Nat) (x0 : List (Int × Unit)) : evFn tabO false [(45, .sig spec_l01New.sig), (49, .sig spec_l01Below.sig), (57, .sig spec_l08Any.sig), (58, .sig spec_l01Once.sig), (59, .sig spec_l08AnyNote.sig)] [⟨10, [], [⟨.cell 1 0, ⟨false, 0⟩, (.slice K5)⟩, ⟨.cell 1 1, ⟨false, 0⟩, (.int .i64)⟩, ⟨.cell 1 2, ⟨false, 0⟩, (.int .i64)⟩]⟩] Try.f12 spec_DrawAddNote.sig k (x0, ()) = spec_DrawAddNote.f k x0 := by kernel_rfl

set_option maxRecDepth 100000 in
theorem spec_AddNote.eq (k : Nat) (x0 : List (Int × Int × Int × Int × Int × Unit)) (x1 : (Int × Int × Int × Int × Int × Unit)) : evFn tabO false [(18, .sig spec_NoteOk.sig), (48, .sig spec_l08At.sig), (55, .sig spec_NotesOk.sig), (56, .sig spec_l08With.sig)] [] Try.f13 spec_AddNote.sig k (x0, x1, ()) = spec_AddNote.f k x0 x1 := by kernel_rfl

set_option maxRecDepth 100000 in
theorem laws_sameNotes.eq (k : Nat) (x0 : List (Int × Int × Int × Int × Int × Unit)) (x1 : List (Int × Int × Int × Int × Int × Unit)) : evFn tabO false [] [⟨9, [], [⟨.slot 5, ⟨false, 0⟩, (.int .i64)⟩]⟩] Try.f14 laws_sameNotes.sig k (x0, x1, ()) = laws_sameNotes.f k x0 x1 := by kernel_rfl

set_option maxRecDepth 100000 in
theorem impl_Gaps.eq (k : Nat) (x0 : List (Int × Int × Int × Int × Int × Unit)) : evFn tabO false [(20, .sig impl_NotesOk.sig)] [] Try.f15 impl_Gaps.sig k (x0, ()) = impl_Gaps.f k x0 := by kernel_rfl

set_option maxRecDepth 100000 in
theorem spec_Gaps.eq (k : Nat) (x0 : List (Int × Int × Int × Int × Int × Unit)) : evFn tabO false [(55, .sig spec_NotesOk.sig)] [] Try.f16 spec_Gaps.sig k (x0, ()) = spec_Gaps.f k x0 := by kernel_rfl

set_option maxRecDepth 100000 in
theorem laws_FnAdded.eq (k : Nat) (x0 : List (Int × Unit)) : evFn tabO false [(7, .sig laws_big.sig), (8, .sig spec_DrawNotes.sig), (9, .sig spec_DrawPlaces.sig), (10, .sig impl_AddNote.sig), (11, .sig spec_MergeNotes.sig), (12, .sig spec_DrawAddNote.sig), (13, .sig spec_AddNote.sig), (14, .sig laws_sameNotes.sig), (15, .sig impl_Gaps.sig), (16, .sig spec_Gaps.sig), (17, .sig impl_NoteOk.sig), (18, .sig spec_NoteOk.sig)] [⟨29, [], [⟨.slot 9, ⟨false, 0⟩, (.slice K29)⟩, ⟨.slot 10, ⟨false, 0⟩, (.int .i64)⟩]⟩, ⟨45, [], [⟨.slot 13, ⟨false, 0⟩, (.slice K29)⟩, ⟨.slot 14, ⟨false, 0⟩, (.int .i64)⟩]⟩, ⟨13, [], [⟨.root 0, ⟨false, 2⟩, (.slice K29)⟩, ⟨.slot 6, ⟨false, 0⟩, (.int .i64)⟩]⟩] Try.f3 laws_FnAdded.sig k (x0, ()) = laws_FnAdded.f k x0 := by kernel_rfl

end Go.Proofs.Ytcfbjloblbhdhaa.Eng
