/- Facts of the loaded program that every row of this seat asks for, told once. No condition. -/
import Derived.Test.YtpmjopbgccajgaaGreatRows
import Derived.WalkKit
import Derived.ProofKit
import Derived.OpenShut
namespace Go.Proofs.YtpmjopbgccajgaaGreat.Seat
open Go.RowKit
theorem and2 {a b : Bool} (ha : a = true) (hb : b = true) : (a && b) = true := by rw [ha, hb]; rfl
theorem enter : Tryz.pinned.checked.prog.mayEnter = true := by kernel_rfl
theorem lifts0 : (Rows.fnHallDepartsRow.lifted == Tryz.pinned.checked.prog.liftsFinal) = true := by kernel_rfl
theorem make0 : (Tryz.pinned.checked.prog.make == some Rows.fnHallDepartsRow.make) = true := by kernel_rfl
theorem laid : laidOutB Tryz.pinned.checked.prog = true := by kernel_rfl
theorem maps : mapsRowed Tryz.pinned.checked.prog = true := by kernel_rfl
theorem heard : Tryz.pinned.checked.prog.stopsHeard = true := by kernel_rfl
theorem keys0 : (Rows.fnHallDepartsRow.plainKeys == Tryz.pinned.checked.prog.plainKeys) = true := by kernel_rfl
theorem keys (m) (h : m = Rows.fnHallDepartsRow.plainKeys) : (m == Tryz.pinned.checked.prog.plainKeys) = true := h ▸ keys0
theorem lifts (l) (h : l = Rows.fnHallDepartsRow.lifted) : (l == Tryz.pinned.checked.prog.liftsFinal) = true := h ▸ lifts0
theorem make (m) (h : m = Rows.fnHallDepartsRow.make) : (Tryz.pinned.checked.prog.make == some m) = true := h ▸ make0
end Go.Proofs.YtpmjopbgccajgaaGreat.Seat
