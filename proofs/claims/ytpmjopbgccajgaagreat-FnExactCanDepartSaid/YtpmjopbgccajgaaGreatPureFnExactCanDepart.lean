/- FnExactCanDepart, as a pure law. No condition. -/
import Derived.Test.YtpmjopbgccajgaaGreatPIg
import Derived.Test.YtpmjopbgccajgaaGreatStFnExactCanDepart
import Derived.Test.YtpmjopbgccajgaaGreatDFnExactCanDepart
namespace Go.Proofs.YtpmjopbgccajgaaGreat.Eng
set_option linter.unusedVariables false
set_option linter.unusedSimpArgs false
theorem canDepart_pure' {k:Nat} (hk:K0≤k) (x:HallT) (f:Int) (hb:BigH x):laws_FnExactCanDepart.f k x f=some (true,()):=by
 obtain⟨r,h1,h2⟩:=laws_szHall_f hk x hb 1048576 (by omega)
 unfold laws_FnExactCanDepart.f
 rcases h2 with h2|hs
 ·simp (disch:=omega) only [lett_e,bnd_s,bnd_chk,br_not,br_t,br_f,br_T,br_F,not_true_eq_false,not_false_eq_true,chk_T,chk_F,chk_eq,eqI_dc,ltI_dc,leI_dc,eqN_dc,notB_dc,andB_dc,andB_t,eqB_dc,notB_t,notB_f,inR_dc,upR_dc,ln_e,app_e,tk_e,dp_e,upd_e,repl_e,natI_n,br_pos,br_neg,addI_n,fitN_T,h1]
 ·have h3:=laws_toHall_f hk x hs.toSzH
  have h4:=spec_CanDepart_f hk x f hs.toSzH
  have h5:=impl_CanDepart_f hk x f hs
  have h6:=laws_eqHall_f hk x hs.toSzH
  by_cases h:r<0
  ·simp (disch:=omega) only [lett_e,bnd_s,bnd_chk,br_not,br_t,br_f,br_T,br_F,not_true_eq_false,not_false_eq_true,chk_T,chk_F,chk_eq,eqI_dc,ltI_dc,leI_dc,eqN_dc,notB_dc,andB_dc,andB_t,eqB_dc,notB_t,notB_f,inR_dc,upR_dc,ln_e,app_e,tk_e,dp_e,upd_e,repl_e,natI_n,br_pos,br_neg,addI_n,fitN_T,h1]
  ·simp (disch:=omega) only [lett_e,bnd_s,bnd_chk,br_not,br_t,br_f,br_T,br_F,not_true_eq_false,not_false_eq_true,chk_T,chk_F,chk_eq,eqI_dc,ltI_dc,leI_dc,eqN_dc,notB_dc,andB_dc,andB_t,eqB_dc,notB_t,notB_f,inR_dc,upR_dc,ln_e,app_e,tk_e,dp_e,upd_e,repl_e,natI_n,br_pos,br_neg,addI_n,fitN_T,h1,h3,h4,h5,h6,iff_self]
theorem canDepart_pure:laws_FnExactCanDepart.Pure:=fun x y hw _=>⟨K0,canDepart_pure' (Nat.le_refl _) x y.1 (big_wf hw)⟩
end Go.Proofs.YtpmjopbgccajgaaGreat.Eng
theorem Go.Proofs.YtpmjopbgccajgaaGreat.Pure.FnExactCanDepart:Go.Proofs.YtpmjopbgccajgaaGreat.Eng.laws_FnExactCanDepart.Pure:=Go.Proofs.YtpmjopbgccajgaaGreat.Eng.canDepart_pure
