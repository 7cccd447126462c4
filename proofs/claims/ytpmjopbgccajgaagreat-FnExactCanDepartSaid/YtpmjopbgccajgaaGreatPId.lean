/- Who owns a bag, who is aboard, what was pulled, what may fly: what the program's functions compute. No condition. -/
import Derived.Test.YtpmjopbgccajgaaGreatPIc
import Derived.Test.YtpmjopbgccajgaaGreatPQnote
import Derived.Test.YtpmjopbgccajgaaGreatD
namespace Go.Proofs.YtpmjopbgccajgaaGreat.Eng
set_option linter.unusedVariables false
set_option linter.unusedSimpArgs false
theorem impl_OwnerOf_f {k:Nat} (hk:K0≤k) (l:List NoteT) (b:Int) (hl:l.length≤1048576):impl_OwnerOf.f k l b=some (ownM l b):=by
 have h1:=impl_NotesOk_f hk l hl
 unfold impl_OwnerOf.f ownM lastN
 rw [lett_e,ln_e,subI_id (by omega)]
 by_cases hP:NotesP l
 ·rw [if_pos hP]
  refine(loop_back (p:=ownP b) (hit:=fun n=>some ((n.2.2.1,n.2.2.2.2.1,()),true,())) (e:=some ((0,0,()),false,())) hk hl (fun i rec hi=> ?_) (fun rec=>by simp (disch:=omega) only [lett_e,bnd_s,bnd_chk,br_not,br_t,br_f,br_T,br_F,not_true_eq_false,not_false_eq_true,chk_T,chk_F,chk_eq,eqI_dc,ltI_dc,leI_dc,eqN_dc,notB_dc,andB_dc,andB_t,eqB_dc,notB_t,notB_f,inR_dc,upR_dc,ln_e,app_e,tk_e,dp_e,upd_e,repl_e,natI_n,br_pos,br_neg,addI_n,fitN_T])).trans (by cases bk (ownP b) l l.length<;>rfl)
  by_cases h2:(rdP (0,0,0,0,0,()) l i).2.1=1
  ·by_cases h3:(rdP (0,0,0,0,0,()) l i).2.2.2.1=b
   ·rw [if_pos (by simp [ownP,h2,h3])]
    simp (disch:=omega) only [lett_e,bnd_s,bnd_chk,br_not,br_t,br_f,br_T,br_F,not_true_eq_false,not_false_eq_true,chk_T,chk_F,chk_eq,eqI_dc,ltI_dc,leI_dc,eqN_dc,notB_dc,andB_dc,andB_t,eqB_dc,notB_t,notB_f,inR_dc,upR_dc,ln_e,app_e,tk_e,dp_e,upd_e,repl_e,natI_n,br_pos,br_neg,addI_n,fitN_T,h1,hP]
   ·rw [if_neg (by simp [ownP,h3])]
    simp (disch:=omega) only [lett_e,bnd_s,bnd_chk,br_not,br_t,br_f,br_T,br_F,not_true_eq_false,not_false_eq_true,chk_T,chk_F,chk_eq,eqI_dc,ltI_dc,leI_dc,eqN_dc,notB_dc,andB_dc,andB_t,eqB_dc,notB_t,notB_f,inR_dc,upR_dc,ln_e,app_e,tk_e,dp_e,upd_e,repl_e,natI_n,br_pos,br_neg,addI_n,fitN_T,h1,hP,subI_id]
  ·rw [if_neg (by simp [ownP,h2])]
   simp (disch:=omega) only [lett_e,bnd_s,bnd_chk,br_not,br_t,br_f,br_T,br_F,not_true_eq_false,not_false_eq_true,chk_T,chk_F,chk_eq,eqI_dc,ltI_dc,leI_dc,eqN_dc,notB_dc,andB_dc,andB_t,eqB_dc,notB_t,notB_f,inR_dc,upR_dc,ln_e,app_e,tk_e,dp_e,upd_e,repl_e,natI_n,br_pos,br_neg,addI_n,fitN_T,h1,hP,subI_id]
 ·rw [if_neg hP]
  cases hlen:l.length with
  |zero=>refine loop_run (n:=0) (fun _=>(-1,())) (by simp) (fun i hi=>absurd hi (by omega)) (fun rec=>by simp (disch:=omega) only [lett_e,bnd_s,bnd_chk,br_not,br_t,br_f,br_T,br_F,not_true_eq_false,not_false_eq_true,chk_T,chk_F,chk_eq,eqI_dc,ltI_dc,leI_dc,eqN_dc,notB_dc,andB_dc,andB_t,eqB_dc,notB_t,notB_f,inR_dc,upR_dc,ln_e,app_e,tk_e,dp_e,upd_e,repl_e,natI_n,br_pos,br_neg,addI_n,fitN_T]) (by unfold K0 at hk;omega)
  |succ m=>
   refine loop_run (n:=0) (fun _=>((m:Int),())) (by simp) (fun i hi=>absurd hi (by omega)) (fun rec=> ?_) (by unfold K0 at hk;omega)
   simp (disch:=omega) only [lett_e,bnd_s,bnd_chk,br_not,br_t,br_f,br_T,br_F,not_true_eq_false,not_false_eq_true,chk_T,chk_F,chk_eq,eqI_dc,ltI_dc,leI_dc,eqN_dc,notB_dc,andB_dc,andB_t,eqB_dc,notB_t,notB_f,inR_dc,upR_dc,ln_e,app_e,tk_e,dp_e,upd_e,repl_e,natI_n,br_pos,br_neg,addI_n,fitN_T,h1]
theorem impl_Aboard_f {k:Nat} (hk:K0≤k) (l:List NoteT) (w f:Int) (hl:l.length≤1048576):impl_Aboard.f k l w f=chkP (abM l w f):=by
 have h1:=impl_NotesOk_f hk l hl
 unfold impl_Aboard.f abM lastN
 rw [lett_e,ln_e,subI_id (by omega)]
 by_cases hP:NotesP l
 ·rw [if_pos hP]
  refine(loop_back (p:=abP w f) (hit:=fun n=>chkP (n.2.1=2)) (e:=chkP False) hk hl (fun i rec hi=> ?_) (fun rec=>by simp (disch:=omega) only [lett_e,bnd_s,bnd_chk,br_not,br_t,br_f,br_T,br_F,not_true_eq_false,not_false_eq_true,chk_T,chk_F,chk_eq,eqI_dc,ltI_dc,leI_dc,eqN_dc,notB_dc,andB_dc,andB_t,eqB_dc,notB_t,notB_f,inR_dc,upR_dc,ln_e,app_e,tk_e,dp_e,upd_e,repl_e,natI_n,br_pos,br_neg,addI_n,fitN_T];exact chk_neg (by omega))).trans ?_
  ·by_cases hp:abP w f (rdP (0,0,0,0,0,()) l i)=true
   ·have hp':=hp
    simp only [abP,decide_eq_true_eq]at hp'
    rw [if_pos hp]
    obtain⟨h2|h2,h3,h4⟩:=hp'
    ·simp (disch:=omega) only [lett_e,bnd_s,bnd_chk,br_not,br_t,br_f,br_T,br_F,not_true_eq_false,not_false_eq_true,chk_T,chk_F,chk_eq,eqI_dc,ltI_dc,leI_dc,eqN_dc,notB_dc,andB_dc,andB_t,eqB_dc,notB_t,notB_f,inR_dc,upR_dc,ln_e,app_e,tk_e,dp_e,upd_e,repl_e,natI_n,br_pos,br_neg,addI_n,fitN_T,h1,hP]
    ·simp (disch:=omega) only [lett_e,bnd_s,bnd_chk,br_not,br_t,br_f,br_T,br_F,not_true_eq_false,not_false_eq_true,chk_T,chk_F,chk_eq,eqI_dc,ltI_dc,leI_dc,eqN_dc,notB_dc,andB_dc,andB_t,eqB_dc,notB_t,notB_f,inR_dc,upR_dc,ln_e,app_e,tk_e,dp_e,upd_e,repl_e,natI_n,br_pos,br_neg,addI_n,fitN_T,h1,hP]
   ·have hp':=hp
    simp only [abP,decide_eq_true_eq]at hp'
    rw [if_neg hp]
    by_cases h3:(rdP (0,0,0,0,0,()) l i).2.2.1=w<;>by_cases h4:(rdP (0,0,0,0,0,()) l i).2.2.2.2.1=f<;>by_cases h2:(rdP (0,0,0,0,0,()) l i).2.1=2<;>by_cases h5:(rdP (0,0,0,0,0,()) l i).2.1=3
    all_goals try omega
    all_goals simp (disch:=omega) only [lett_e,bnd_s,bnd_chk,br_not,br_t,br_f,br_T,br_F,not_true_eq_false,not_false_eq_true,chk_T,chk_F,chk_eq,eqI_dc,ltI_dc,leI_dc,eqN_dc,notB_dc,andB_dc,andB_t,eqB_dc,notB_t,notB_f,inR_dc,upR_dc,ln_e,app_e,tk_e,dp_e,upd_e,repl_e,natI_n,br_pos,br_neg,addI_n,fitN_T,h1,hP,subI_id]
  ·cases bk (abP w f) l l.length with
   |none=>exact chk_congr ⟨fun z=>z.elim,fun ⟨n,e,_⟩=>by cases e⟩
   |some n=>exact chk_congr ⟨fun z=>⟨n,rfl,z⟩,fun ⟨m,e,z⟩=>by cases e;exact z⟩
 ·rw [if_neg hP,chk_neg (fun ⟨n,e,_⟩=>by cases e)]
  cases hlen:l.length with
  |zero=>refine loop_run (n:=0) (fun _=>(-1,())) (by simp) (fun i hi=>absurd hi (by omega)) (fun rec=>by simp (disch:=omega) only [lett_e,bnd_s,bnd_chk,br_not,br_t,br_f,br_T,br_F,not_true_eq_false,not_false_eq_true,chk_T,chk_F,chk_eq,eqI_dc,ltI_dc,leI_dc,eqN_dc,notB_dc,andB_dc,andB_t,eqB_dc,notB_t,notB_f,inR_dc,upR_dc,ln_e,app_e,tk_e,dp_e,upd_e,repl_e,natI_n,br_pos,br_neg,addI_n,fitN_T];exact chk_neg (by omega)) (by unfold K0 at hk;omega)
  |succ m=>
   refine loop_run (n:=0) (fun _=>((m:Int),())) (by simp) (fun i hi=>absurd hi (by omega)) (fun rec=> ?_) (by unfold K0 at hk;omega)
   simp (disch:=omega) only [lett_e,bnd_s,bnd_chk,br_not,br_t,br_f,br_T,br_F,not_true_eq_false,not_false_eq_true,chk_T,chk_F,chk_eq,eqI_dc,ltI_dc,leI_dc,eqN_dc,notB_dc,andB_dc,andB_t,eqB_dc,notB_t,notB_f,inR_dc,upR_dc,ln_e,app_e,tk_e,dp_e,upd_e,repl_e,natI_n,br_pos,br_neg,addI_n,fitN_T,h1]
   exact chk_neg (by omega)
theorem impl_Pulled_f {k:Nat} (hk:K0≤k) (l:List NoteT) (w f:Int) (hl:l.length≤1048576):impl_Pulled.f k l w f=chkP (puM l w f):=by
 have h1:=impl_NotesOk_f hk l hl
 unfold impl_Pulled.f puM lastN
 rw [lett_e,ln_e,subI_id (by omega)]
 by_cases hP:NotesP l
 ·rw [if_pos hP]
  refine(loop_back (p:=puP w f) (hit:=fun n=>chkP (n.2.1=4)) (e:=chkP False) hk hl (fun i rec hi=> ?_) (fun rec=>by simp (disch:=omega) only [lett_e,bnd_s,bnd_chk,br_not,br_t,br_f,br_T,br_F,not_true_eq_false,not_false_eq_true,chk_T,chk_F,chk_eq,eqI_dc,ltI_dc,leI_dc,eqN_dc,notB_dc,andB_dc,andB_t,eqB_dc,notB_t,notB_f,inR_dc,upR_dc,ln_e,app_e,tk_e,dp_e,upd_e,repl_e,natI_n,br_pos,br_neg,addI_n,fitN_T];exact chk_neg (by omega))).trans ?_
  ·by_cases hp:puP w f (rdP (0,0,0,0,0,()) l i)=true
   ·have hp':=hp
    simp only [puP,decide_eq_true_eq]at hp'
    rw [if_pos hp]
    obtain⟨h2|h2,h3,h4⟩:=hp'
    ·simp (disch:=omega) only [lett_e,bnd_s,bnd_chk,br_not,br_t,br_f,br_T,br_F,not_true_eq_false,not_false_eq_true,chk_T,chk_F,chk_eq,eqI_dc,ltI_dc,leI_dc,eqN_dc,notB_dc,andB_dc,andB_t,eqB_dc,notB_t,notB_f,inR_dc,upR_dc,ln_e,app_e,tk_e,dp_e,upd_e,repl_e,natI_n,br_pos,br_neg,addI_n,fitN_T,h1,hP]
    ·simp (disch:=omega) only [lett_e,bnd_s,bnd_chk,br_not,br_t,br_f,br_T,br_F,not_true_eq_false,not_false_eq_true,chk_T,chk_F,chk_eq,eqI_dc,ltI_dc,leI_dc,eqN_dc,notB_dc,andB_dc,andB_t,eqB_dc,notB_t,notB_f,inR_dc,upR_dc,ln_e,app_e,tk_e,dp_e,upd_e,repl_e,natI_n,br_pos,br_neg,addI_n,fitN_T,h1,hP]
   ·have hp':=hp
    simp only [puP,decide_eq_true_eq]at hp'
    rw [if_neg hp]
    by_cases h3:(rdP (0,0,0,0,0,()) l i).2.2.2.1=w<;>by_cases h4:(rdP (0,0,0,0,0,()) l i).2.2.2.2.1=f<;>by_cases h2:(rdP (0,0,0,0,0,()) l i).2.1=1<;>by_cases h5:(rdP (0,0,0,0,0,()) l i).2.1=4
    all_goals try omega
    all_goals simp (disch:=omega) only [lett_e,bnd_s,bnd_chk,br_not,br_t,br_f,br_T,br_F,not_true_eq_false,not_false_eq_true,chk_T,chk_F,chk_eq,eqI_dc,ltI_dc,leI_dc,eqN_dc,notB_dc,andB_dc,andB_t,eqB_dc,notB_t,notB_f,inR_dc,upR_dc,ln_e,app_e,tk_e,dp_e,upd_e,repl_e,natI_n,br_pos,br_neg,addI_n,fitN_T,h1,hP,subI_id]
  ·cases bk (puP w f) l l.length with
   |none=>exact chk_congr ⟨fun z=>z.elim,fun ⟨n,e,_⟩=>by cases e⟩
   |some n=>exact chk_congr ⟨fun z=>⟨n,rfl,z⟩,fun ⟨m,e,z⟩=>by cases e;exact z⟩
 ·rw [if_neg hP,chk_neg (fun ⟨n,e,_⟩=>by cases e)]
  cases hlen:l.length with
  |zero=>refine loop_run (n:=0) (fun _=>(-1,())) (by simp) (fun i hi=>absurd hi (by omega)) (fun rec=>by simp (disch:=omega) only [lett_e,bnd_s,bnd_chk,br_not,br_t,br_f,br_T,br_F,not_true_eq_false,not_false_eq_true,chk_T,chk_F,chk_eq,eqI_dc,ltI_dc,leI_dc,eqN_dc,notB_dc,andB_dc,andB_t,eqB_dc,notB_t,notB_f,inR_dc,upR_dc,ln_e,app_e,tk_e,dp_e,upd_e,repl_e,natI_n,br_pos,br_neg,addI_n,fitN_T];exact chk_neg (by omega)) (by unfold K0 at hk;omega)
  |succ m=>
   refine loop_run (n:=0) (fun _=>((m:Int),())) (by simp) (fun i hi=>absurd hi (by omega)) (fun rec=> ?_) (by unfold K0 at hk;omega)
   simp (disch:=omega) only [lett_e,bnd_s,bnd_chk,br_not,br_t,br_f,br_T,br_F,not_true_eq_false,not_false_eq_true,chk_T,chk_F,chk_eq,eqI_dc,ltI_dc,leI_dc,eqN_dc,notB_dc,andB_dc,andB_t,eqB_dc,notB_t,notB_f,inR_dc,upR_dc,ln_e,app_e,tk_e,dp_e,upd_e,repl_e,natI_n,br_pos,br_neg,addI_n,fitN_T,h1]
   exact chk_neg (by omega)
theorem impl_MayFly_f {k:Nat} (hk:K0≤k) (l:List NoteT) (b f:Int) (hl:l.length≤1048576):impl_MayFly.f k l b f=chkP (flyP l b f):=by
 unfold impl_MayFly.f flyP
 rw [impl_OwnerOf_f hk l b hl,bnd_s]
 generalize ownM l b=o
 obtain⟨⟨w,g,_⟩,ok,_⟩:=o
 dsimp only
 cases ok with
 |false=>rw [br_f,chk_F];exact chk_congr ⟨fun z=>z.elim,fun z=>by cases z.1⟩
 |true=>
  rw [br_t,eqI_dc,impl_Aboard_f hk l w f hl,bnd_chk,impl_Pulled_f hk l b f hl,bnd_chk,notB_dc,chk_F,chk_eq,br_chkF',br_chkF']
  exact chk_congr ⟨fun z=>⟨rfl,z⟩,fun z=>z.2⟩
theorem impl_Gaps_m {k:Nat} (hk:K0≤k) (l:List NoteT) (hl:l.length≤1048576):impl_Gaps.f k l=some (gapsM l,()):=impl_Gaps_f hk l hl
end Go.Proofs.YtpmjopbgccajgaaGreat.Eng
