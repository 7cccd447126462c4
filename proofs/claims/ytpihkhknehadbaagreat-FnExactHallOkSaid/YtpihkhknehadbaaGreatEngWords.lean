/- Words of the printed functions. No condition. -/
import Derived.Test.YtpihkhknehadbaaGreatEngEv
namespace Go.Proofs.YtpihkhknehadbaaGreat.Eng
/-- a list's element, told plainly -/
def rdP {α : Type} (d : α) (l : List α) (i : Nat) : α := l.getD i d
def sortL (l : List (Int × Unit)) : List (Int × Unit) := ((l.map Prod.fst).mergeSort fun x y => decide (x ≤ y)).map fun x => (x, ())
def sortI (k : Nat) (l : List (Int × Unit)) : Option (List (Int × Unit) × Unit) := if l.length < 4611686018427387904 then some (sortL l, ()) else none
noncomputable def sortSig : Sig := ⟨.cons (.slice (.cons (.int .i64) .nil)) .nil, [⟨false, 2⟩], .cons (.slice (.cons (.int .i64) .nil)) .nil, [⟨false, 2⟩], 0, fun k x => sortI k x.1⟩
end Go.Proofs.YtpihkhknehadbaaGreat.Eng
