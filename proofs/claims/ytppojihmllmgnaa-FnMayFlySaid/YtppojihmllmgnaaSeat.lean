/- Facts of the loaded program that every row of this seat asks for, told once. No condition. -/
import Derived.Test.YtppojihmllmgnaaRows
import Derived.WalkKit
import Derived.ProofKit
import Derived.OpenShut
namespace Go.Proofs.Ytppojihmllmgnaa.Seat
open Go.RowKit
theorem and2 {a b : Bool} (ha : a = true) (hb : b = true) : (a && b) = true := by rw [ha, hb]; rfl
theorem enter : Try.pinned.checked.prog.mayEnter = true := by kernel_rfl
theorem lifts0 : (Rows.fnExactNoteOkRow.lifted == Try.pinned.checked.prog.liftsFinal) = true := by kernel_rfl
theorem make0 : (Try.pinned.checked.prog.make == some Rows.fnExactNoteOkRow.make) = true := by kernel_rfl
theorem lifts (l) (h : l = Rows.fnExactNoteOkRow.lifted) : (l == Try.pinned.checked.prog.liftsFinal) = true := h ▸ lifts0
theorem make (m) (h : m = Rows.fnExactNoteOkRow.make) : (Try.pinned.checked.prog.make == some m) = true := h ▸ make0
end Go.Proofs.Ytppojihmllmgnaa.Seat
