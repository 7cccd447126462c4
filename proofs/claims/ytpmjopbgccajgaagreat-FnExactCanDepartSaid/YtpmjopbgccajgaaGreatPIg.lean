/- Applying a departure: what the program's functions compute. No condition. -/
import Derived.Test.YtpmjopbgccajgaaGreatPIf
import Derived.Test.YtpmjopbgccajgaaGreatD
namespace Go.Proofs.YtpmjopbgccajgaaGreat.Eng
set_option linter.unusedVariables false
set_option linter.unusedSimpArgs false
theorem depM_dc (x:HallT) (f:Int):(depM x f).2.1=dc (departP x f):=by
 unfold depM
 by_cases h:departP x f
 ·rw [if_pos h,dc_T h]
 ·rw [if_neg h,dc_F h]
theorem depM_no {x:HallT} {f:Int} (h:¬departP x f):(depM x f).1=x:=by
 unfold depM;rw [if_neg h]
theorem impl_execute_d {k:Nat} (hk:K0≤k) (x:HallT) (f:Int) (h:HallP x):impl_execute.f k x (7,0,f,0,0,0,0,0,0,0,0,0,0,0,())=some ((depM x f).2.1,(depM x f).1,()):=by
 have h1:=impl_depart_f hk x f h
 unfold impl_execute.f
 rw [eqI_dc,br_neg (by dsimp only;omega),eqI_dc,br_neg (by dsimp only;omega),eqI_dc,br_neg (by dsimp only;omega),eqI_dc,br_pos rfl]
 refine Eq.trans (b:=bnd (impl_depart.f k x f) _) rfl ?_
 rw [h1,bnd_s]
theorem impl_Apply_d {k:Nat} (hk:K0≤k) (x:HallT) (f:Int) (hs:SzT x):impl_Apply.f k x (7,0,f,0,0,0,0,0,0,0,0,0,0,0,())=some ((depM x f).1,(depM x f).2.1,()):=by
 have h1:=impl_copyHall_f hk x hs.toSzH
 have h2:=impl_HallOk_p hk x hs
 unfold impl_Apply.f
 refine Eq.trans (b:=bnd (impl_copyHall.f k x) _) rfl ?_
 rw [h1,bnd_s]
 refine Eq.trans (b:=bnd (impl_HallOk.f k x) _) rfl ?_
 rw [h2,bnd_chk,br_not]
 by_cases hP:HallP x
 case neg=>
  have hd:¬departP x f:=fun z=>hP z.1
  rw [br_neg hP,depM_dc,depM_no hd,dc_F hd]
  rw [bnd_s]
 rw [br_pos hP]
 refine Eq.trans (b:=bnd (impl_execute.f k x (7,0,f,0,0,0,0,0,0,0,0,0,0,0,())) _) rfl ?_
 rw [impl_execute_d hk x f hP,bnd_s,depM_dc]
 dsimp only
 rw [br_not]
 by_cases hd:departP x f
 ·rw [br_pos hd,dc_T hd]
 ·rw [br_neg hd,depM_no hd,dc_F hd]
  rw [bnd_s]
theorem impl_CanDepart_f {k:Nat} (hk:K0≤k) (x:HallT) (f:Int) (hs:SzT x):impl_CanDepart.f k x f=chkP (departP x f):=by
 unfold impl_CanDepart.f
 refine Eq.trans (b:=bnd (impl_Apply.f k x (7,0,f,0,0,0,0,0,0,0,0,0,0,0,())) _) rfl ?_
 rw [impl_Apply_d hk x f hs,bnd_s,depM_dc]
 rfl
end Go.Proofs.YtpmjopbgccajgaaGreat.Eng
