/- Facts of the loaded program that every row of this seat asks for, told once. No condition. -/
import Derived.Test.YtcfbjloblbhdhaaRows
import Derived.WalkKit
import Derived.ProofKit
import Derived.OpenShut
namespace Go.Proofs.Ytcfbjloblbhdhaa.Seat
open Go.RowKit
theorem and2 {a b : Bool} (ha : a = true) (hb : b = true) : (a && b) = true := by rw [ha, hb]; rfl
theorem enter : Try.pinned.checked.prog.mayEnter = true := by kernel_rfl
theorem lifts0 : (Rows.fnAddedRow.lifted == Try.pinned.checked.prog.liftsFinal) = true := by kernel_rfl
theorem make0 : (Try.pinned.checked.prog.make == some Rows.fnAddedRow.make) = true := by kernel_rfl
theorem lifts (l) (h : l = Rows.fnAddedRow.lifted) : (l == Try.pinned.checked.prog.liftsFinal) = true := h ▸ lifts0
theorem make (m) (h : m = Rows.fnAddedRow.make) : (Try.pinned.checked.prog.make == some m) = true := h ▸ make0
end Go.Proofs.Ytcfbjloblbhdhaa.Seat
