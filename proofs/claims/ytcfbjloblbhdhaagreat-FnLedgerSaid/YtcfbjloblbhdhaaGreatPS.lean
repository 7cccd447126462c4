/- Pure laws: PSym, PStab, PStab2, PStab3, PStab4. No condition. -/
import Derived.Test.YtcfbjloblbhdhaaGreatPA
set_option linter.unusedVariables false
set_option linter.unusedSimpArgs false
namespace Go.Proofs.YtcfbjloblbhdhaaGreat.Eng
section
variable {α:Type} {d:α} {lt:α→α→Prop}
structure Ord (lt:α→α→Prop):Prop where
 asymm:∀x y,lt x y→¬lt y x
 ntrans:∀x y z,¬lt y x→¬lt z y→¬lt z x
def Srt (lt:α→α→Prop) (l:List α):Prop:=l.Pairwise fun x y=>¬lt y x
theorem rd_mid (A B:List α) (x:α):rdP d (A++x::B) A.length=x:=by unfold rdP;simp
theorem set_mid (A B:List α) (x y:α):(A++x::B).set A.length y=A++y::B:=by rw [List.set_append_right _ _ (Nat.le_refl _),Nat.sub_self,List.set_cons_zero]
theorem rd_mid' (A B:List α) (x:α) {n:Nat} (h:n=A.length):rdP d (A++x::B) n=x:=by rw [h];exact rd_mid A B x
end
end Go.Proofs.YtcfbjloblbhdhaaGreat.Eng
namespace Go.Proofs.YtcfbjloblbhdhaaGreat.Eng
abbrev Pc:=Int×Int×Int×Unit
abbrev rP (l:List Pc) (i:Nat):Pc:=rdP (0,0,0,()) l i
def ltP (a b:Pc):Prop:=b.2.1<a.2.1∨(b.2.1=a.2.1∧a.1<b.1)
theorem ordP:Ord ltP:=⟨fun x y h=>by unfold ltP at*;omega,fun x y z h1 h2=>by unfold ltP at*;omega⟩
theorem pc_eta (e:Pc) (u:Unit):(e.1,e.2.1,e.2.2.1,u)=e:=rfl
section
variable {R:Type} {P:Option R→Prop}
end
end Go.Proofs.YtcfbjloblbhdhaaGreat.Eng
namespace Go.Proofs.YtcfbjloblbhdhaaGreat.Eng
end Go.Proofs.YtcfbjloblbhdhaaGreat.Eng
namespace Go.Proofs.YtcfbjloblbhdhaaGreat.Eng
end Go.Proofs.YtcfbjloblbhdhaaGreat.Eng
namespace Go.Proofs.YtcfbjloblbhdhaaGreat.Eng
section
variable {α:Type} {l Z:List α} {a b:Nat}
end
end Go.Proofs.YtcfbjloblbhdhaaGreat.Eng
