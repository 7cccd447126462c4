/- FnExactApply, as a pure law. No condition. -/
import Derived.Test.YtpmjopbgccajgaaGreatPIk
import Derived.Test.YtpmjopbgccajgaaGreatPHeld
import Derived.Test.YtpmjopbgccajgaaGreatStFnExactApply
import Derived.Test.YtpmjopbgccajgaaGreatD1
import Derived.Test.YtpmjopbgccajgaaGreatDFnExactApply
namespace Go.Proofs.YtpmjopbgccajgaaGreat.Eng
set_option linter.unusedVariables false
set_option linter.unusedSimpArgs false
theorem qws (k:Nat) (c:CmdT):q14 k c=some (c,()):=rfl
theorem q0qz {x:qu} {c:CmdT} (hs:SzH x):SzH (appM x c).1:=by
 unfold appM
 split
 ·rename_i h;exact q4w (q0t8 h)
 ·exact hs
theorem q0o9 (b:Bool):eqB b b=dc True:=by rw [q0m6];cases b<;>rfl
set_option maxHeartbeats 4000000 in
theorem q0gt {k:Nat} (hk:K0≤k) (x:qu) (c:CmdT) (hb:BigH x):laws_FnExactApply.f k x c=some (true,()):=by
 obtain⟨r,h1,h2⟩:=q0b8 hk x hb 1048576 (by omega)
 unfold laws_FnExactApply.f;delta W3 W5
 refine Eq.trans (b:=bnd (q9o k x 1048576) _) rfl ?_
 rw [h1,q00,qn]
 rcases h2 with h2|hs
 ·rw [q8 h2]
 by_cases h:r<0
 ·rw [q8 h]
 rw [qa h]
 have h3:=q0b3 hk x hs.toSzH
 have h4:=q0df hk x c hs
 have h5:=q0eo hk x c hs
 have h6:=qru hk x hs.toSzH
 have hz:=q0qz (c:=c) hs.toSzH
 have h7:=qru hk (appM x c).1 hz
 obtain⟨r1,y1,m1,m2,m3⟩:=qok hk (appM x c).1 hz
 obtain⟨r2,y2,n1,n2,n3⟩:=qok hk x hs.toSzH
 have hc:=qws k c
 generalize appM x c=H at*
 simp (disch:=omega) only [evs,h3,h4,h5,h6,h7,m1,m2,n1,hc,q2y,q0o9,iff_self]
theorem apply_pure:laws_FnExactApply.Pure:=fun x c hw _=>⟨K0,q0gt (Nat.le_refl _) x c (q0sn hw)⟩
end Go.Proofs.YtpmjopbgccajgaaGreat.Eng
theorem Go.Proofs.YtpmjopbgccajgaaGreat.Pure.FnExactApply:Go.Proofs.YtpmjopbgccajgaaGreat.Eng.laws_FnExactApply.Pure:=Go.Proofs.YtpmjopbgccajgaaGreat.Eng.apply_pure
