/- Facts of the loaded program that every row of this seat asks for, told once. No condition. -/
import Derived.Test.YtcfbjloblbhdhaaGreatRows
import Derived.WalkKit
import Derived.ProofKit
import Derived.OpenShut
namespace Go.Proofs.YtcfbjloblbhdhaaGreat.Seat
open Go.RowKit
theorem and2 {a b : Bool} (ha : a = true) (hb : b = true) : (a && b) = true := by rw [ha, hb]; rfl
theorem enter : Tryz.pinned.checked.prog.mayEnter = true := by kernel_rfl
theorem lifts0 : (Rows.fnLedgerRow.lifted == Tryz.pinned.checked.prog.liftsFinal) = true := by kernel_rfl
theorem make0 : (Tryz.pinned.checked.prog.make == some Rows.fnLedgerRow.make) = true := by kernel_rfl
theorem lifts (l) (h : l = Rows.fnLedgerRow.lifted) : (l == Tryz.pinned.checked.prog.liftsFinal) = true := h ▸ lifts0
theorem make (m) (h : m = Rows.fnLedgerRow.make) : (Tryz.pinned.checked.prog.make == some m) = true := h ▸ make0
end Go.Proofs.YtcfbjloblbhdhaaGreat.Seat
