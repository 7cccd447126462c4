/- The pure functions are what the evaluator computes of the program's code. By a program of this session. No condition. -/
import Derived.Test.YtcfbjloblbhdhaaDFnMerged
import Derived.Test.YtcfbjloblbhdhaaProg
import Derived.KernelRfl
namespace Go.Proofs.Ytcfbjloblbhdhaa.Eng
open Go.Proofs
set_option linter.unusedVariables false
set_option maxRecDepth 100000 in
theorem impl_MergeNotes.eq (k : Nat) (x0 : List (Int × Int × Int × Int × Int × Unit)) (x1 : List (Int × Int × Int × Int × Int × Unit)) : evFn tabO false [(10, .sig impl_AddNote.sig), (20, .sig impl_NotesOk.sig), (50, .sig slices_Clone_impl_Note.sig)] [⟨11, [], [⟨.slot 6, ⟨false, 2⟩, (.slice K29)⟩, ⟨.slot 23, ⟨false, 0⟩, (.int .i64)⟩]⟩] Try.f19 impl_MergeNotes.sig k (x0, x1, ()) = impl_MergeNotes.f k x0 x1 := by kernel_rfl

set_option maxRecDepth 100000 in
theorem impl_Unknown.eq (k : Nat) (x0 : List (Int × Int × Int × Int × Int × Unit)) (x1 : List (Int × Int × Int × Int × Int × Unit)) : evFn tabO false [(20, .sig impl_NotesOk.sig), (50, .sig slices_Clone_impl_Note.sig), (51, .sig impl_noteAt.sig), (62, .inl Try.f62 [⟨11, [], [⟨.root 1, ⟨false, 2⟩, (.slice K29)⟩, ⟨.slot 5, ⟨false, 0⟩, (.int .i64)⟩, ⟨.slot 6, ⟨false, 0⟩, (.int .i64)⟩]⟩, ⟨12, [], [⟨.slot 5, ⟨false, 0⟩, (.int .i64)⟩, ⟨.root 1, ⟨false, 2⟩, (.slice K29)⟩]⟩]), (63, .inl Try.f63 []), (91, .inl Try.f91 [⟨5, [], [⟨.slot 8, ⟨false, 0⟩, (.int .i64)⟩]⟩])] [] Try.f21 impl_Unknown.sig k (x0, x1, ()) = impl_Unknown.f k x0 x1 := by kernel_rfl

set_option maxRecDepth 100000 in
theorem spec_DrawMergeNotes.eq (k : Nat) (x0 : List (Int × Unit)) : evFn tabO false [(45, .sig spec_l01New.sig), (47, .sig spec_l08Twin.sig), (57, .sig spec_l08Any.sig), (58, .sig spec_l01Once.sig)] [] Try.f22 spec_DrawMergeNotes.sig k (x0, ()) = spec_DrawMergeNotes.f k x0 := by kernel_rfl

set_option maxRecDepth 100000 in
theorem spec_Unknown.eq (k : Nat) (x0 : List (Int × Int × Int × Int × Int × Unit)) (x1 : List (Int × Int × Int × Int × Int × Unit)) : evFn tabO false [(48, .sig spec_l08At.sig), (55, .sig spec_NotesOk.sig)] [⟨11, [], [⟨.slot 5, ⟨false, 2⟩, (.slice K29)⟩, ⟨.slot 6, ⟨false, 0⟩, (.int .i64)⟩]⟩, ⟨12, [], [⟨.slot 5, ⟨false, 2⟩, (.slice K29)⟩]⟩] Try.f23 spec_Unknown.sig k (x0, x1, ()) = spec_Unknown.f k x0 x1 := by kernel_rfl

set_option maxRecDepth 100000 in
theorem laws_FnMerged.eq (k : Nat) (x0 : List (Int × Unit)) : evFn tabO false [(7, .sig laws_big.sig), (8, .sig spec_DrawNotes.sig), (11, .sig spec_MergeNotes.sig), (14, .sig laws_sameNotes.sig), (19, .sig impl_MergeNotes.sig), (20, .sig impl_NotesOk.sig), (21, .sig impl_Unknown.sig), (22, .sig spec_DrawMergeNotes.sig), (23, .sig spec_Unknown.sig)] [] Try.f4 laws_FnMerged.sig k (x0, ()) = laws_FnMerged.f k x0 := by kernel_rfl

end Go.Proofs.Ytcfbjloblbhdhaa.Eng
