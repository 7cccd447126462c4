/- The hall's lists by place: the reference's and the program's. No condition. -/
import Derived.Test.YtcfbjloblbhdhaaGreatPA
import Derived.Test.YtcfbjloblbhdhaaGreatPB
import Derived.Test.YtcfbjloblbhdhaaGreatD
namespace Go.Proofs.YtcfbjloblbhdhaaGreat.Eng
set_option linter.unusedVariables false
set_option linter.unusedSimpArgs false
noncomputable def ledM (x:HallT) (p:Int):List (Int×Unit):= @ite _ (HallP x) (Classical.propDecidable _) (atR x.2.2.2.2.2.2.2.2.2.2.2.2.2.2.2.2.1 p x.2.2.2.2.2.2.2.2.2.2.2.2.2.2.2.2.1.length) []
theorem ledM_pos {x:HallT} {p:Int} (h:HallP x):ledM x p=atR x.2.2.2.2.2.2.2.2.2.2.2.2.2.2.2.2.1 p x.2.2.2.2.2.2.2.2.2.2.2.2.2.2.2.2.1.length:=if_pos h
theorem ledM_neg {x:HallT} {p:Int} (h:¬HallP x):ledM x p=[]:=if_neg h
theorem impl_LedgerOf_f {k:Nat} (hk:K0≤k) (x:HallT) (p:Int) (hs:SzT x):impl_LedgerOf.f k x p=some (ledM x p,()):=by
 have h4:=impl_HallOk_f hk x hs
 rw [chk_congr (hall_same x)]at h4
 have h5:=impl_at_f hk x p hs.cases_
 unfold impl_LedgerOf.f
 simp (disch:=omega) only [lett_e,bnd_s,bnd_chk,br_not,br_t,br_f,br_T,br_F,not_true_eq_false,not_false_eq_true,chk_T,chk_F,chk_eq,eqI_dc,ltI_dc,leI_dc,eqN_dc,notB_dc,andB_dc,andB_t,eqB_dc,notB_t,notB_f,inR_dc,upR_dc,ln_e,app_e,tk_e,dp_e,upd_e,repl_e,natI_n,br_pos,br_neg,addI_n,fitN_T,h4,h5]
 by_cases hP:HallP x
 ·rw [br_pos hP,ledM_pos hP]
 ·rw [br_neg hP,ledM_neg hP]
theorem spec_LedgerOf_f {k:Nat} (hk:K0≤k) (x:HallT) (p:Int) (hs:SzT x):spec_LedgerOf.f k x p=some (ledM x p,()):=by
 have h4:=spec_HallOk_f hk x hs.toSzH
 unfold K0 at hk
 have hc:=hs.cases_
 unfold spec_LedgerOf.f
 simp (disch:=omega) only [lett_e,bnd_s,bnd_chk,br_not,br_t,br_f,br_T,br_F,not_true_eq_false,not_false_eq_true,chk_T,chk_F,chk_eq,eqI_dc,ltI_dc,leI_dc,eqN_dc,notB_dc,andB_dc,andB_t,eqB_dc,notB_t,notB_f,inR_dc,upR_dc,ln_e,app_e,tk_e,dp_e,upd_e,repl_e,natI_n,br_pos,br_neg,addI_n,fitN_T,h4]
 by_cases hP:HallP x
 ·rw [ledM_pos hP]
  refine loop_run (n:=x.2.2.2.2.2.2.2.2.2.2.2.2.2.2.2.2.1.length) (fun i=>(atR x.2.2.2.2.2.2.2.2.2.2.2.2.2.2.2.2.1 p i,(i:Int),())) (by simp [atR]) (fun i hi rec=> ?_) (fun rec=>by simp (disch:=omega) only [lett_e,bnd_s,bnd_chk,br_not,br_t,br_f,br_T,br_F,not_true_eq_false,not_false_eq_true,chk_T,chk_F,chk_eq,eqI_dc,ltI_dc,leI_dc,eqN_dc,notB_dc,andB_dc,andB_t,eqB_dc,notB_t,notB_f,inR_dc,upR_dc,ln_e,app_e,tk_e,dp_e,upd_e,repl_e,natI_n,br_pos,br_neg,addI_n,fitN_T]) (by omega)
  have hl:=atR_len x.2.2.2.2.2.2.2.2.2.2.2.2.2.2.2.2.1 p i
  have hf:=fitL_T (l:=atR x.2.2.2.2.2.2.2.2.2.2.2.2.2.2.2.2.1 p i) (m:=[((i:Int)+1,())]) (by simp;omega)
  rw [atR_s]
  by_cases e1:(rdP (0,0,0,0,0,0,0,0,0,0,()) x.2.2.2.2.2.2.2.2.2.2.2.2.2.2.2.2.1 i).2.2.2.2.2.2.1=p
  ·rw [if_pos e1]
   simp (disch:=omega) only [lett_e,bnd_s,bnd_chk,br_not,br_t,br_f,br_T,br_F,not_true_eq_false,not_false_eq_true,chk_T,chk_F,chk_eq,eqI_dc,ltI_dc,leI_dc,eqN_dc,notB_dc,andB_dc,andB_t,eqB_dc,notB_t,notB_f,inR_dc,upR_dc,ln_e,app_e,tk_e,dp_e,upd_e,repl_e,natI_n,br_pos,br_neg,addI_n,fitN_T,hP,dc_True,hf]
   rfl
  ·rw [if_neg e1,List.append_nil]
   simp (disch:=omega) only [lett_e,bnd_s,bnd_chk,br_not,br_t,br_f,br_T,br_F,not_true_eq_false,not_false_eq_true,chk_T,chk_F,chk_eq,eqI_dc,ltI_dc,leI_dc,eqN_dc,notB_dc,andB_dc,andB_t,eqB_dc,notB_t,notB_f,inR_dc,upR_dc,ln_e,app_e,tk_e,dp_e,upd_e,repl_e,natI_n,br_pos,br_neg,addI_n,fitN_T,hP,dc_True]
   rfl
 ·rw [ledM_neg hP]
  refine loop_run (n:=0) (fun i=>([],0,())) rfl (fun i hi=>absurd hi (by omega)) (fun rec=> ?_) (by omega)
  simp only [br_neg hP,ln_e,ltI_dc]
  exact br_same _ _
end Go.Proofs.YtcfbjloblbhdhaaGreat.Eng
