/- Apply and RunHall, as the rule and as the program compute them. No condition. -/
import Derived.Test.YtpmjopbgccajgaaGreatPIj
import Derived.Test.YtpmjopbgccajgaaGreatD
import Derived.Test.YtpmjopbgccajgaaGreatD1
namespace Go.Proofs.YtpmjopbgccajgaaGreat.Eng
set_option linter.unusedVariables false
set_option linter.unusedSimpArgs false
noncomputable def appM (x:qu) (c:CmdT):qu×Bool×Unit:= @ite _ (q1y x) (Classical.propDecidable _) (doM x c) (x,false,())
theorem q0df {k:Nat} (hk:K0≤k) (x:qu) (c:CmdT) (hs:SzT x):q6r k x c=some (appM x c):=by
 have h1:=q48 hk x hs.toSzH
 have h2:=qr6 hk x hs.toSzH
 unfold q6r appM;delta W3 W5
 refine Eq.trans (b:=bnd (q16 k x) _) rfl ?_
 rw [h1,q00]
 refine Eq.trans (b:=bnd (q6v k x) _) rfl ?_
 rw [h2,qj,qq]
 by_cases hP:q1y x
 case neg=>rw [qa hP,if_neg hP]
 rw [q8 hP,if_pos hP]
 refine Eq.trans (b:=bnd (qbu k x c) _) rfl ?_
 rw [q0d7 hk x c hP,q00]
theorem q0eo {k:Nat} (hk:K0≤k) (x:qu) (c:CmdT) (hs:SzT x):q3m k x c=some (appM x c):=by
 have h1:=q034 hk x hs.toSzH
 have h2:=q0c6 hk x hs
 unfold q3m appM;delta W3 W5
 refine Eq.trans (b:=bnd (q3j k x) _) rfl ?_
 rw [h1,q00]
 refine Eq.trans (b:=bnd (q75 k x) _) rfl ?_
 rw [h2,qj,qq]
 by_cases hP:q1y x
 case neg=>
  rw [qa hP,if_neg hP,q00]
 rw [q8 hP,if_pos hP]
 obtain⟨y,ey,hy⟩:=q07l hk x c hP
 have hn:=q0sd x c
 refine Eq.trans (b:=bnd (q8b k x c) _) rfl ?_
 rw [ey,q00]
 dsimp only
 rw [qq]
 generalize doM x c=m at*
 obtain⟨z,ok,u⟩:=m
 cases ok with
 |true=>
  have:=hy rfl
  subst this
  rw [qec]
 |false=>
  have:z=x:=hn rfl
  subst this
  rw [qi1,q00]
end Go.Proofs.YtpmjopbgccajgaaGreat.Eng
