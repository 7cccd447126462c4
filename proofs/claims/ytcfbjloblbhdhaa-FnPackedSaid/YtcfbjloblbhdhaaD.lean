/- What the program's functions compute, as pure functions. By a program of this session. No condition. -/
import Derived.Test.YtcfbjloblbhdhaaTy
namespace Go.Proofs.Ytcfbjloblbhdhaa.Eng
open Go.Proofs
set_option linter.unusedVariables false
noncomputable def spec_l01In.f (k : Nat) (x0 : Int) (x1 : Int) (x2 : Int) : Option (Bool × Unit) := (br (leI x1 x0) (some ((leI x0 x2), ())) (some (false, ())))
noncomputable def spec_l01In.sig : Sig := ⟨K79, [⟨false, 0⟩, ⟨false, 0⟩, ⟨false, 0⟩], K4, [⟨false, 0⟩], 1, fun k x => spec_l01In.f k x.1 x.2.1 x.2.2.1, []⟩

end Go.Proofs.Ytcfbjloblbhdhaa.Eng
