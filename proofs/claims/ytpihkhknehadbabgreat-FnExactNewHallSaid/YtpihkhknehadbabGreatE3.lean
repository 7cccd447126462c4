/- The pure functions are what the evaluator computes of the program's code. By a program of this session. No condition. -/
import Derived.Test.YtpihkhknehadbabGreatD
import Derived.Test.YtpihkhknehadbabGreatProg
import Derived.KernelRfl
namespace Go.Proofs.YtpihkhknehadbabGreat.Eng
open Go.Proofs
set_option linter.unusedVariables false
set_option maxRecDepth 100000 in
theorem impl_hasTag.eq (k : Nat) (x0 : List (Int × Int × Int × Int × Int × Int × Int × Int × Int × Int × Unit)) (x1 : (Int × Int × Int × Unit)) : evFn tabO false [(145, .inl Tryz.f145 []), (146, .inl Tryz.f146 []), (163, .inl Tryz.f163 [⟨5, [], [⟨.slot 8, ⟨false, 0⟩, (.int .i64)⟩]⟩])] [] Tryz.f96 impl_hasTag.sig k (x0, x1, ()) = impl_hasTag.f k x0 x1 := by kernel_rfl

set_option maxRecDepth 100000 in
theorem slices_Equal_int_int.eq (k : Nat) (x0 : List (Int × Unit)) (x1 : List (Int × Unit)) : evFn tabO false [] [⟨9, [], [⟨.slot 13, ⟨false, 0⟩, (.int .i64)⟩]⟩] Tryz.f149 slices_Equal_int_int.sig k (x0, x1, ()) = slices_Equal_int_int.f k x0 x1 := by kernel_rfl

set_option maxRecDepth 100000 in
theorem impl_at.eq (k : Nat) (x0 : (Int × List (Int × Unit) × Int × Int × Int × Int × Bool × List (Int × Int × Int × Unit) × List (Int × Unit) × Int × List (Int × Int × List (Int × Unit) × Unit) × List (Int × List (Int × Unit) × Unit) × Int × List (List (Int × Int × Unit) × Unit) × List (Int × Int × Int × Int × Int × Unit) × List (Int × Int × Int × Bool × Int × Unit) × List (Int × Int × Int × Int × Int × Int × Int × Int × Int × Int × Unit) × Unit)) (x1 : Int) : evFn tabO false [] [⟨7, [], [⟨.slot 5, ⟨false, 2⟩, (.slice K2)⟩, ⟨.slot 11, ⟨false, 0⟩, (.int .i64)⟩]⟩, ⟨14, [], [⟨.slot 5, ⟨false, 2⟩, (.slice K2)⟩]⟩] Tryz.f150 impl_at.sig k (x0, x1, ()) = impl_at.f k x0 x1 := by kernel_rfl

set_option maxRecDepth 100000 in
theorem impl_areBags.eq (k : Nat) (x0 : (Int × List (Int × Unit) × Int × Int × Int × Int × Bool × List (Int × Int × Int × Unit) × List (Int × Unit) × Int × List (Int × Int × List (Int × Unit) × Unit) × List (Int × List (Int × Unit) × Unit) × Int × List (List (Int × Int × Unit) × Unit) × List (Int × Int × Int × Int × Int × Unit) × List (Int × Int × Int × Bool × Int × Unit) × List (Int × Int × Int × Int × Int × Int × Int × Int × Int × Int × Unit) × Unit)) (x1 : Int) (x2 : List (Int × Unit)) : evFn tabO false [(148, .sig sortSig), (149, .sig slices_Equal_int_int.sig), (150, .sig impl_at.sig)] [] Tryz.f100 impl_areBags.sig k (x0, x1, x2, ()) = impl_areBags.f k x0 x1 x2 := by kernel_rfl

set_option maxRecDepth 100000 in
theorem impl_HallOk.eq (k : Nat) (x0 : (Int × List (Int × Unit) × Int × Int × Int × Int × Bool × List (Int × Int × Int × Unit) × List (Int × Unit) × Int × List (Int × Int × List (Int × Unit) × Unit) × List (Int × List (Int × Unit) × Unit) × Int × List (List (Int × Int × Unit) × Unit) × List (Int × Int × Int × Int × Int × Unit) × List (Int × Int × Int × Bool × Int × Unit) × List (Int × Int × Int × Int × Int × Int × Int × Int × Int × Int × Unit) × Unit)) : evFn tabO false [(87, .sig impl_isTick.sig), (88, .sig impl_PolicyOk.sig), (89, .sig impl_LimitsOk.sig), (90, .sig impl_BeltOk.sig), (91, .sig impl_LoopOk.sig), (92, .sig impl_StoreOk.sig), (93, .sig impl_NotesOk.sig), (94, .sig impl_areFlights.sig), (95, .sig impl_isCase.sig), (96, .sig impl_hasTag.sig), (97, .inl Tryz.f97 [⟨11, [], [⟨.root 3, ⟨false, 2⟩, (.slice K2)⟩, ⟨.slot 5, ⟨false, 0⟩, (.int .i64)⟩, ⟨.slot 6, ⟨false, 0⟩, (.int .i64)⟩]⟩, ⟨12, [], [⟨.slot 5, ⟨false, 0⟩, (.int .i64)⟩, ⟨.root 3, ⟨false, 2⟩, (.slice K2)⟩]⟩]), (98, .sig slices_Clone_int_int.sig), (99, .inl Tryz.f99 []), (100, .sig impl_areBags.sig), (101, .sig impl_bagsIn.sig), (147, .inl Tryz.f147 [⟨5, [], [⟨.slot 8, ⟨false, 0⟩, (.int .i64)⟩]⟩])] [⟨27, [], [⟨.slot 5, ⟨false, 2⟩, (.slice K2)⟩, ⟨.slot 87, ⟨false, 0⟩, (.int .i64)⟩]⟩, ⟨37, [], [⟨.slot 6, ⟨false, 2⟩, (.slice K2)⟩, ⟨.slot 101, ⟨false, 0⟩, (.int .i64)⟩]⟩, ⟨13, [], [⟨.slot 64, ⟨false, 0⟩, (.int .i64)⟩]⟩] Tryz.f43 impl_HallOk.sig k (x0, ()) = impl_HallOk.f k x0 := by kernel_rfl

set_option maxRecDepth 100000 in
theorem slices_Clone_impl_Item.eq (k : Nat) (x0 : List (Int × Int × Int × Unit)) : evFn tabO false [] [] Tryz.f151 slices_Clone_impl_Item.sig k (x0, ()) = slices_Clone_impl_Item.f k x0 := by kernel_rfl

set_option maxRecDepth 100000 in
theorem impl_copyBelt.eq (k : Nat) (x0 : (Int × Int × Bool × List (Int × Int × Int × Unit) × Unit)) : evFn tabO false [(151, .sig slices_Clone_impl_Item.sig)] [] Tryz.f102 impl_copyBelt.sig k (x0, ()) = impl_copyBelt.f k x0 := by kernel_rfl

set_option maxRecDepth 100000 in
theorem impl_copyLoop.eq (k : Nat) (x0 : (List (Int × Unit) × Int × List (Int × Int × List (Int × Unit) × Unit) × List (Int × List (Int × Unit) × Unit) × Unit)) : evFn tabO false [(98, .sig slices_Clone_int_int.sig)] [⟨4, [], [⟨.slot 3, ⟨true, 2⟩, K32⟩]⟩, ⟨7, [], [⟨.cell 2 2, ⟨false, 2⟩, (.slice K113)⟩, ⟨.slot 17, ⟨false, 0⟩, (.int .i64)⟩]⟩, ⟨19, [], [⟨.cell 2 3, ⟨false, 2⟩, (.slice K116)⟩, ⟨.slot 35, ⟨false, 0⟩, (.int .i64)⟩]⟩] Tryz.f103 impl_copyLoop.sig k (x0, ()) = impl_copyLoop.f k x0 := by kernel_rfl

set_option maxRecDepth 100000 in
theorem slices_Clone_impl_Kept.eq (k : Nat) (x0 : List (Int × Int × Unit)) : evFn tabO false [] [] Tryz.f152 slices_Clone_impl_Kept.sig k (x0, ()) = slices_Clone_impl_Kept.f k x0 := by kernel_rfl

set_option maxRecDepth 100000 in
theorem impl_copyStore.eq (k : Nat) (x0 : (Int × List (List (Int × Int × Unit) × Unit) × Unit)) : evFn tabO false [(152, .sig slices_Clone_impl_Kept.sig)] [⟨7, [], [⟨.cell 2 1, ⟨false, 2⟩, (.slice K119)⟩, ⟨.slot 12, ⟨false, 0⟩, (.int .i64)⟩]⟩] Tryz.f104 impl_copyStore.sig k (x0, ()) = impl_copyStore.f k x0 := by kernel_rfl

set_option maxRecDepth 100000 in
theorem slices_Clone_impl_Note.eq (k : Nat) (x0 : List (Int × Int × Int × Int × Int × Unit)) : evFn tabO false [] [] Tryz.f105 slices_Clone_impl_Note.sig k (x0, ()) = slices_Clone_impl_Note.f k x0 := by kernel_rfl

set_option maxRecDepth 100000 in
theorem slices_Clone_impl_Flight.eq (k : Nat) (x0 : List (Int × Int × Int × Bool × Int × Unit)) : evFn tabO false [] [] Tryz.f106 slices_Clone_impl_Flight.sig k (x0, ()) = slices_Clone_impl_Flight.f k x0 := by kernel_rfl

set_option maxRecDepth 100000 in
theorem slices_Clone_impl_Case.eq (k : Nat) (x0 : List (Int × Int × Int × Int × Int × Int × Int × Int × Int × Int × Unit)) : evFn tabO false [] [] Tryz.f107 slices_Clone_impl_Case.sig k (x0, ()) = slices_Clone_impl_Case.f k x0 := by kernel_rfl

set_option maxRecDepth 100000 in
theorem impl_copyHall.eq (k : Nat) (x0 : (Int × List (Int × Unit) × Int × Int × Int × Int × Bool × List (Int × Int × Int × Unit) × List (Int × Unit) × Int × List (Int × Int × List (Int × Unit) × Unit) × List (Int × List (Int × Unit) × Unit) × Int × List (List (Int × Int × Unit) × Unit) × List (Int × Int × Int × Int × Int × Unit) × List (Int × Int × Int × Bool × Int × Unit) × List (Int × Int × Int × Int × Int × Int × Int × Int × Int × Int × Unit) × Unit)) : evFn tabO false [(98, .sig slices_Clone_int_int.sig), (102, .sig impl_copyBelt.sig), (103, .sig impl_copyLoop.sig), (104, .sig impl_copyStore.sig), (105, .sig slices_Clone_impl_Note.sig), (106, .sig slices_Clone_impl_Flight.sig), (107, .sig slices_Clone_impl_Case.sig)] [] Tryz.f44 impl_copyHall.sig k (x0, ()) = impl_copyHall.f k x0 := by kernel_rfl

set_option maxRecDepth 100000 in
theorem impl_NewHall.eq (k : Nat) (x0 : (List (Int × Unit) × Unit)) (x1 : (Int × Int × Unit)) (x2 : (Int × Int × Bool × List (Int × Int × Int × Unit) × Unit)) (x3 : (List (Int × Unit) × Int × List (Int × Int × List (Int × Unit) × Unit) × List (Int × List (Int × Unit) × Unit) × Unit)) (x4 : (Int × List (List (Int × Int × Unit) × Unit) × Unit)) (x5 : List (Int × Int × Int × Bool × Int × Unit)) : evFn tabO false [(43, .sig impl_HallOk.sig), (44, .sig impl_copyHall.sig)] [] Tryz.f16 impl_NewHall.sig k (x0, x1, x2, x3, x4, x5, ()) = impl_NewHall.f k x0 x1 x2 x3 x4 x5 := by kernel_rfl

set_option maxRecDepth 100000 in
theorem laws_eqIntS.eq (k : Nat) (x0 : List (Int × Unit)) (x1 : List (Int × Unit)) : evFn tabO false [] [⟨9, [], [⟨.slot 5, ⟨false, 0⟩, (.int .i64)⟩]⟩] Tryz.f48 laws_eqIntS.sig k (x0, x1, ()) = laws_eqIntS.f k x0 x1 := by kernel_rfl

set_option maxRecDepth 100000 in
theorem laws_eqPolicy.eq (k : Nat) (x0 : (List (Int × Unit) × Unit)) (x1 : (List (Int × Unit) × Unit)) : evFn tabO false [(48, .sig laws_eqIntS.sig)] [] Tryz.f18 laws_eqPolicy.sig k (x0, x1, ()) = laws_eqPolicy.f k x0 x1 := by kernel_rfl

set_option maxRecDepth 100000 in
theorem laws_eqItem.eq (k : Nat) (x0 : (Int × Int × Int × Unit)) (x1 : (Int × Int × Int × Unit)) : evFn tabO false [] [] Tryz.f110 laws_eqItem.sig k (x0, x1, ()) = laws_eqItem.f k x0 x1 := by kernel_rfl

set_option maxRecDepth 100000 in
theorem laws_eqItemS.eq (k : Nat) (x0 : List (Int × Int × Int × Unit)) (x1 : List (Int × Int × Int × Unit)) : evFn tabO false [(110, .sig laws_eqItem.sig)] [⟨9, [], [⟨.slot 5, ⟨false, 0⟩, (.int .i64)⟩]⟩] Tryz.f49 laws_eqItemS.sig k (x0, x1, ()) = laws_eqItemS.f k x0 x1 := by kernel_rfl

set_option maxRecDepth 100000 in
theorem laws_eqBelt.eq (k : Nat) (x0 : (Int × Int × Bool × List (Int × Int × Int × Unit) × Unit)) (x1 : (Int × Int × Bool × List (Int × Int × Int × Unit) × Unit)) : evFn tabO false [(49, .sig laws_eqItemS.sig)] [] Tryz.f19 laws_eqBelt.sig k (x0, x1, ()) = laws_eqBelt.f k x0 x1 := by kernel_rfl

set_option maxRecDepth 100000 in
theorem laws_eqChute.eq (k : Nat) (x0 : (Int × Int × List (Int × Unit) × Unit)) (x1 : (Int × Int × List (Int × Unit) × Unit)) : evFn tabO false [(48, .sig laws_eqIntS.sig)] [] Tryz.f111 laws_eqChute.sig k (x0, x1, ()) = laws_eqChute.f k x0 x1 := by kernel_rfl

set_option maxRecDepth 100000 in
theorem laws_eqChuteS.eq (k : Nat) (x0 : List (Int × Int × List (Int × Unit) × Unit)) (x1 : List (Int × Int × List (Int × Unit) × Unit)) : evFn tabO false [(111, .sig laws_eqChute.sig)] [⟨9, [], [⟨.slot 5, ⟨false, 0⟩, (.int .i64)⟩]⟩] Tryz.f50 laws_eqChuteS.sig k (x0, x1, ()) = laws_eqChuteS.f k x0 x1 := by kernel_rfl

set_option maxRecDepth 100000 in
theorem laws_eqWant.eq (k : Nat) (x0 : (Int × List (Int × Unit) × Unit)) (x1 : (Int × List (Int × Unit) × Unit)) : evFn tabO false [(48, .sig laws_eqIntS.sig)] [] Tryz.f112 laws_eqWant.sig k (x0, x1, ()) = laws_eqWant.f k x0 x1 := by kernel_rfl

set_option maxRecDepth 100000 in
theorem laws_eqWantS.eq (k : Nat) (x0 : List (Int × List (Int × Unit) × Unit)) (x1 : List (Int × List (Int × Unit) × Unit)) : evFn tabO false [(112, .sig laws_eqWant.sig)] [⟨9, [], [⟨.slot 5, ⟨false, 0⟩, (.int .i64)⟩]⟩] Tryz.f51 laws_eqWantS.sig k (x0, x1, ()) = laws_eqWantS.f k x0 x1 := by kernel_rfl

set_option maxRecDepth 100000 in
theorem laws_eqLoop.eq (k : Nat) (x0 : (List (Int × Unit) × Int × List (Int × Int × List (Int × Unit) × Unit) × List (Int × List (Int × Unit) × Unit) × Unit)) (x1 : (List (Int × Unit) × Int × List (Int × Int × List (Int × Unit) × Unit) × List (Int × List (Int × Unit) × Unit) × Unit)) : evFn tabO false [(48, .sig laws_eqIntS.sig), (50, .sig laws_eqChuteS.sig), (51, .sig laws_eqWantS.sig)] [] Tryz.f20 laws_eqLoop.sig k (x0, x1, ()) = laws_eqLoop.f k x0 x1 := by kernel_rfl

set_option maxRecDepth 100000 in
theorem laws_eqKept.eq (k : Nat) (x0 : (Int × Int × Unit)) (x1 : (Int × Int × Unit)) : evFn tabO false [] [] Tryz.f155 laws_eqKept.sig k (x0, x1, ()) = laws_eqKept.f k x0 x1 := by kernel_rfl

set_option maxRecDepth 100000 in
theorem laws_eqKeptS.eq (k : Nat) (x0 : List (Int × Int × Unit)) (x1 : List (Int × Int × Unit)) : evFn tabO false [(155, .sig laws_eqKept.sig)] [⟨9, [], [⟨.slot 5, ⟨false, 0⟩, (.int .i64)⟩]⟩] Tryz.f113 laws_eqKeptS.sig k (x0, x1, ()) = laws_eqKeptS.f k x0 x1 := by kernel_rfl

set_option maxRecDepth 100000 in
theorem laws_eqKeptSS.eq (k : Nat) (x0 : List (List (Int × Int × Unit) × Unit)) (x1 : List (List (Int × Int × Unit) × Unit)) : evFn tabO false [(113, .sig laws_eqKeptS.sig)] [⟨9, [], [⟨.slot 5, ⟨false, 0⟩, (.int .i64)⟩]⟩] Tryz.f52 laws_eqKeptSS.sig k (x0, x1, ()) = laws_eqKeptSS.f k x0 x1 := by kernel_rfl

set_option maxRecDepth 100000 in
theorem laws_eqStore.eq (k : Nat) (x0 : (Int × List (List (Int × Int × Unit) × Unit) × Unit)) (x1 : (Int × List (List (Int × Int × Unit) × Unit) × Unit)) : evFn tabO false [(52, .sig laws_eqKeptSS.sig)] [] Tryz.f21 laws_eqStore.sig k (x0, x1, ()) = laws_eqStore.f k x0 x1 := by kernel_rfl

set_option maxRecDepth 100000 in
theorem laws_eqFlight.eq (k : Nat) (x0 : (Int × Int × Int × Bool × Int × Unit)) (x1 : (Int × Int × Int × Bool × Int × Unit)) : evFn tabO false [] [] Tryz.f53 laws_eqFlight.sig k (x0, x1, ()) = laws_eqFlight.f k x0 x1 := by kernel_rfl

set_option maxRecDepth 100000 in
theorem laws_eqFlightS.eq (k : Nat) (x0 : List (Int × Int × Int × Bool × Int × Unit)) (x1 : List (Int × Int × Int × Bool × Int × Unit)) : evFn tabO false [(53, .sig laws_eqFlight.sig)] [⟨9, [], [⟨.slot 5, ⟨false, 0⟩, (.int .i64)⟩]⟩] Tryz.f22 laws_eqFlightS.sig k (x0, x1, ()) = laws_eqFlightS.f k x0 x1 := by kernel_rfl

set_option maxRecDepth 100000 in
theorem laws_eqLimits.eq (k : Nat) (x0 : (Int × Int × Unit)) (x1 : (Int × Int × Unit)) : evFn tabO false [] [] Tryz.f45 laws_eqLimits.sig k (x0, x1, ()) = laws_eqLimits.f k x0 x1 := by kernel_rfl

set_option maxRecDepth 100000 in
theorem laws_eqNote.eq (k : Nat) (x0 : (Int × Int × Int × Int × Int × Unit)) (x1 : (Int × Int × Int × Int × Int × Unit)) : evFn tabO false [] [] Tryz.f108 laws_eqNote.sig k (x0, x1, ()) = laws_eqNote.f k x0 x1 := by kernel_rfl

set_option maxRecDepth 100000 in
theorem laws_eqNoteS.eq (k : Nat) (x0 : List (Int × Int × Int × Int × Int × Unit)) (x1 : List (Int × Int × Int × Int × Int × Unit)) : evFn tabO false [(108, .sig laws_eqNote.sig)] [⟨9, [], [⟨.slot 5, ⟨false, 0⟩, (.int .i64)⟩]⟩] Tryz.f46 laws_eqNoteS.sig k (x0, x1, ()) = laws_eqNoteS.f k x0 x1 := by kernel_rfl

end Go.Proofs.YtpihkhknehadbabGreat.Eng
