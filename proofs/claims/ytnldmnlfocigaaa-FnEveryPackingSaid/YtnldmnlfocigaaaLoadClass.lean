/- The pieces of a class. No condition. -/
import Derived.Test.YtnldmnlfocigaaaLimBase
import Derived.Test.YtnldmnlfocigaaaF71
namespace Go.Proofs.Ytnldmnlfocigaaa.F
open Go.RowKit Go.Proofs.YtnldmnlfocigaaaW.PrintWords Go.Proofs.YtnldmnlfocigaaaW.PrintLast Go.Proofs.Ytnldmnlfocigaaa.Opn
set_option linter.unusedVariables false
set_option linter.unusedSimpArgs false
/-- The pieces of a class. -/
def ofC (l : List Pc) (c : Int) : List Pc := l.filter (fun x => x.f2 == c)
theorem ofClass_eq (l : List Pc) (c : Int) (h : l.length ≤ 1048576) : impl_ofClass.f l c = some (ofC l c) := by
  unfold impl_ofClass.f slices_Clone_impl_Piece.f impl_ofClass_1__slices_DeleteFunc_impl_Piece.f
  simp only [Option.bind_some, List.length_nil, Nat.zero_add, List.nil_append]
  rw [if_pos (by omega)]
  simp only [Option.bind_some, Option.some.injEq, ofC]
  congr 1
  funext x
  simp [bne]
end Go.Proofs.Ytnldmnlfocigaaa.F
