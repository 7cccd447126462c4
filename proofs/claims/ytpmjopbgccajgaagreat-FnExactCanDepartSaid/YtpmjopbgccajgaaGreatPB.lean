/- Pure laws: PHar, PHarH, PSz. No condition. -/
import Derived.Test.YtpmjopbgccajgaaGreatPA
import Derived.Test.YtpmjopbgccajgaaGreatD
import Derived.Test.YtpmjopbgccajgaaGreatEngD
set_option linter.unusedVariables false
set_option linter.unusedSimpArgs false
namespace Go.Proofs.YtpmjopbgccajgaaGreat.Eng
def Szr (f:Option (Int×Unit)) (n:Int) (t:Nat):Prop:=∃r:Int,f=some (r,())∧((r= -1∧n<t)∨(r=n-t∧0≤r))
theorem szr_flat {α:Type} {l:List α} {n:Int} (hn:0≤n∧n≤1048576) (hl:l.length≤9223372036854775807):Szr (br (ltI (subI .i64 n (ln l)) 0) (some (-1,())) (some (subI .i64 n (ln l),()))) n l.length:=by
 rw [ln_e,subI_id (by omega)]
 by_cases h:n-(l.length:Int)<0
 ·exact⟨-1,by simp (disch:=omega) only [lett_e,bnd_s,bnd_chk,br_not,br_t,br_f,br_T,br_F,not_true_eq_false,not_false_eq_true,chk_T,chk_F,chk_eq,eqI_dc,ltI_dc,leI_dc,eqN_dc,notB_dc,andB_dc,andB_t,eqB_dc,notB_t,notB_f,inR_dc,upR_dc,ln_e,app_e,tk_e,dp_e,upd_e,repl_e,natI_n,br_pos,br_neg,addI_n,fitN_T],.inl ⟨rfl,by omega⟩⟩
 ·exact⟨n-l.length,by simp (disch:=omega) only [lett_e,bnd_s,bnd_chk,br_not,br_t,br_f,br_T,br_F,not_true_eq_false,not_false_eq_true,chk_T,chk_F,chk_eq,eqI_dc,ltI_dc,leI_dc,eqN_dc,notB_dc,andB_dc,andB_t,eqB_dc,notB_t,notB_f,inR_dc,upR_dc,ln_e,app_e,tk_e,dp_e,upd_e,repl_e,natI_n,br_pos,br_neg,addI_n,fitN_T],.inr ⟨rfl,by omega⟩⟩
theorem szr_bnd {f:Option (Int×Unit)} {g:Int×Unit→Option (Int×Unit)} {n:Int} {s t:Nat} (hf:Szr f n s) (hg:∀m:Int,0≤m→m≤n→m=n-s→Szr (g (m,())) m t):Szr (bnd f fun y=>br (ltI y.1 0) (some (-1,())) (g y)) n (s+t):=by
 obtain⟨r,e,h|⟨h1,h2⟩⟩:=hf
 ·rw [e,h.1]
  exact⟨-1,by simp (disch:=omega) only [lett_e,bnd_s,bnd_chk,br_not,br_t,br_f,br_T,br_F,not_true_eq_false,not_false_eq_true,chk_T,chk_F,chk_eq,eqI_dc,ltI_dc,leI_dc,eqN_dc,notB_dc,andB_dc,andB_t,eqB_dc,notB_t,notB_f,inR_dc,upR_dc,ln_e,app_e,tk_e,dp_e,upd_e,repl_e,natI_n,br_pos,br_neg,addI_n,fitN_T],.inl ⟨rfl,by omega⟩⟩
 ·obtain⟨r',e',h'⟩:=hg r h2 (by omega) h1
  refine⟨r',?_,?_⟩
  ·rw [e];simp (disch:=omega) only [lett_e,bnd_s,bnd_chk,br_not,br_t,br_f,br_T,br_F,not_true_eq_false,not_false_eq_true,chk_T,chk_F,chk_eq,eqI_dc,ltI_dc,leI_dc,eqN_dc,notB_dc,andB_dc,andB_t,eqB_dc,notB_t,notB_f,inR_dc,upR_dc,ln_e,app_e,tk_e,dp_e,upd_e,repl_e,natI_n,br_pos,br_neg,addI_n,fitN_T];exact e'
  ·rcases h' with⟨h3,h4⟩|⟨h3,h4⟩
   ·exact .inl ⟨h3,by omega⟩
   ·exact .inr ⟨by omega,h4⟩
theorem szr_end {n:Int} (h:0≤n):Szr (some (n,())) n 0:=⟨n,rfl,.inr ⟨by omega,h⟩⟩
theorem szr_loop {α:Type} {d:α} {k:Nat} (hk:K0≤k) {l:List α} {n:Int} (hn:0≤n∧n≤1048576) (hl:l.length≤9223372036854775807) (T:List α→Nat) (h0:T []=0) (s:α→Nat) (hT:∀i,i<l.length→T (l.take (i+1))=T (l.take i)+s (rdP d l i)) {F:(Int×Int×Unit→Option (Int×Unit))→Int×Int×Unit→Option (Int×Unit)}
  (hF:∀(i:Nat) (m:Int) rec,i<l.length→l.length≤1048576→0≤m∧m≤1048576→F rec (m,(i:Int),())=br (dc (0≤m-s (rdP d l i))) (rec (m-s (rdP d l i),((i+1:Nat):Int),())) (some (-1,()))) (hE:∀(m:Int) rec,F rec (m,(l.length:Int),())=some (m,())):
  Szr (br (ltI (subI .i64 n (ln l)) 0) (some (-1,())) (loopN F k (subI .i64 n (ln l),0,()))) n (l.length+T l):=by
 unfold K0 at hk
 rw [ln_e,subI_id (by omega)]
 by_cases h:n-(l.length:Int)<0
 ·exact⟨-1,by simp (disch:=omega) only [lett_e,bnd_s,bnd_chk,br_not,br_t,br_f,br_T,br_F,not_true_eq_false,not_false_eq_true,chk_T,chk_F,chk_eq,eqI_dc,ltI_dc,leI_dc,eqN_dc,notB_dc,andB_dc,andB_t,eqB_dc,notB_t,notB_f,inR_dc,upR_dc,ln_e,app_e,tk_e,dp_e,upd_e,repl_e,natI_n,br_pos,br_neg,addI_n,fitN_T],.inl ⟨rfl,by omega⟩⟩
 have hl2:l.length≤1048576:=by omega
 have hmono:∀i,i≤l.length→T (l.take i)≤T l:=by
  have:∀m i,i+m=l.length→T (l.take i)≤T l:=by
   intro m
   induction m with
   |zero=>intro i e;rw [show i=l.length by omega,List.take_length];exact Nat.le_refl _
   |succ m ih=>
    intro i e
    have:=ih (i+1) (by omega)
    rw [hT i (by omega)]at this
    omega
  exact fun i hi=>this (l.length-i) i (by omega)
 have hb:∀i,i≤l.length→(∀j,j<i→0≤n-l.length-T (l.take (j+1)))→0≤n-l.length-(T (l.take i):Int):=by
  intro i hi hp
  cases i with
  |zero=>rw [List.take_zero,h0];omega
  |succ i=>exact hp i (by omega)
 have e:loopN F k (n-(l.length:Int),0,())=br (dc (∀i,i<l.length→0≤n-l.length-(T (l.take (i+1)):Int))) (some (n-l.length-(T l:Int),())) (some (-1,())):=by
  refine loop_while (n:=l.length) (fun i=>(n-l.length-(T (l.take i):Int),(i:Int),())) (fun i=>0≤n-l.length-(T (l.take (i+1)):Int)) ?_ ?_ ?_ (by omega)
  ·simp [h0]
  ·intro i hi hp rec
   have:=hb i (by omega) hp
   rw [hF i _ rec hi hl2 ⟨this,by omega⟩,hT i hi]
   refine br_iff' (by omega) (fun _=> ?_)
   congr 2
   omega
  ·intro _ rec
   rw [List.take_length];exact hE _ _
 simp (disch:=omega) only [lett_e,bnd_s,bnd_chk,br_not,br_t,br_f,br_T,br_F,not_true_eq_false,not_false_eq_true,chk_T,chk_F,chk_eq,eqI_dc,ltI_dc,leI_dc,eqN_dc,notB_dc,andB_dc,andB_t,eqB_dc,notB_t,notB_f,inR_dc,upR_dc,ln_e,app_e,tk_e,dp_e,upd_e,repl_e,natI_n,br_pos,br_neg,addI_n,fitN_T,e]
 by_cases hall:∀i,i<l.length→0≤n-l.length-(T (l.take (i+1)):Int)
 ·have:=hb _ (Nat.le_refl _) hall
  rw [List.take_length]at this
  exact⟨_,br_pos hall _ _,.inr ⟨by omega,this⟩⟩
 ·refine⟨-1,br_neg hall _ _,.inl ⟨rfl,?_⟩⟩
  obtain⟨i,h1⟩:=Classical.not_forall.1 hall
  obtain⟨h2,h3⟩:=Classical.not_imp.1 h1
  have:=hmono (i+1) (by omega)
  omega
theorem to_loop {α:Type} {d z:α} {k:Nat} (hk:K0≤k) (l:List α) (hl:l.length≤1048576) {F:(List α×Int×Unit→Option (List α×Unit))→List α×Int×Unit→Option (List α×Unit)}
  (hF:∀(i:Nat) (c:List α) rec,i<l.length→c.length=l.length→F rec (c,(i:Int),())=rec (c.set i (rdP d l i),((i+1:Nat):Int),())) (hE:∀c rec,F rec (c,(l.length:Int),())=some (c,())):loopN F k (List.replicate l.length z,0,())=some (l,()):=by
 unfold K0 at hk
 refine loop_run (n:=l.length) (fun i=>(l.take i++List.replicate (l.length-i) z,(i:Int),())) (by simp) (fun i hi rec=> ?_) (fun rec=> ?_) (by omega)
 ·rw [hF i _ rec hi (by simp;omega)]
  have:(l.take i++List.replicate (l.length-i) z).set i (rdP d l i)=l.take (i+1)++List.replicate (l.length-(i+1)) z:=by
   rw [List.set_append_right _ _ (by rw [List.length_take];omega),List.length_take,Nat.min_eq_left (by omega),Nat.sub_self,take_s (d:=d) hi,List.append_assoc]
   congr 1
   rw [show l.length-i=(l.length-(i+1))+1 by omega,List.replicate_succ]
   rfl
  rw [this]
 ·rw [hE,List.take_length,Nat.sub_self]
  simp
theorem eq_loop {k:Nat} (hk:K0≤k) {n:Nat} (hn:n≤1048576) {F:(Int×Unit→Option (Bool×Unit))→Int×Unit→Option (Bool×Unit)} (hF:∀(i:Nat) rec,i<n→F rec ((i:Int),())=rec (((i+1:Nat):Int),())) (hE:∀rec,F rec ((n:Int),())=chkP True):loopN F k (0,())=chkP True:=by
 unfold K0 at hk
 exact loop_run (n:=n) (fun i=>((i:Int),())) (by simp) (fun i hi rec=>hF i rec hi) hE (by omega)
end Go.Proofs.YtpmjopbgccajgaaGreat.Eng
namespace Go.Proofs.YtpmjopbgccajgaaGreat.Eng
theorem laws_toIntS_f {k:Nat} (hk:K0≤k) (l:List (Int×Unit)) (hl:l.length≤1048576):laws_toIntS.f k l=some (l,()):=by
 unfold laws_toIntS.f
 have hf:=fitN_T (n:=l.length) (by omega)
 simp (disch:=omega) only [lett_e,bnd_s,bnd_chk,br_not,br_t,br_f,br_T,br_F,not_true_eq_false,not_false_eq_true,chk_T,chk_F,chk_eq,eqI_dc,ltI_dc,leI_dc,eqN_dc,notB_dc,andB_dc,andB_t,eqB_dc,notB_t,notB_f,inR_dc,upR_dc,ln_e,app_e,tk_e,dp_e,upd_e,repl_e,natI_n,br_pos,br_neg,addI_n,fitN_T,hf]
 refine to_loop (d:=(0,())) hk l hl (fun i c rec hi hc=> ?_) (fun c rec=>by simp (disch:=omega) only [lett_e,bnd_s,bnd_chk,br_not,br_t,br_f,br_T,br_F,not_true_eq_false,not_false_eq_true,chk_T,chk_F,chk_eq,eqI_dc,ltI_dc,leI_dc,eqN_dc,notB_dc,andB_dc,andB_t,eqB_dc,notB_t,notB_f,inR_dc,upR_dc,ln_e,app_e,tk_e,dp_e,upd_e,repl_e,natI_n,br_pos,br_neg,addI_n,fitN_T])
 simp (disch:=omega) only [lett_e,bnd_s,bnd_chk,br_not,br_t,br_f,br_T,br_F,not_true_eq_false,not_false_eq_true,chk_T,chk_F,chk_eq,eqI_dc,ltI_dc,leI_dc,eqN_dc,notB_dc,andB_dc,andB_t,eqB_dc,notB_t,notB_f,inR_dc,upR_dc,ln_e,app_e,tk_e,dp_e,upd_e,repl_e,natI_n,br_pos,br_neg,addI_n,fitN_T,hc]
 rfl
theorem laws_eqIntS_f {k:Nat} (hk:K0≤k) (l:List (Int×Unit)) (hl:l.length≤1048576):laws_eqIntS.f k l l=chkP True:=by
 unfold laws_eqIntS.f
 simp (disch:=omega) only [lett_e,bnd_s,bnd_chk,br_not,br_t,br_f,br_T,br_F,not_true_eq_false,not_false_eq_true,chk_T,chk_F,chk_eq,eqI_dc,ltI_dc,leI_dc,eqN_dc,notB_dc,andB_dc,andB_t,eqB_dc,notB_t,notB_f,inR_dc,upR_dc,ln_e,app_e,tk_e,dp_e,upd_e,repl_e,natI_n,br_pos,br_neg,addI_n,fitN_T]
 refine eq_loop hk hl (fun i rec hi=> ?_) (fun rec=>by simp (disch:=omega) only [lett_e,bnd_s,bnd_chk,br_not,br_t,br_f,br_T,br_F,not_true_eq_false,not_false_eq_true,chk_T,chk_F,chk_eq,eqI_dc,ltI_dc,leI_dc,eqN_dc,notB_dc,andB_dc,andB_t,eqB_dc,notB_t,notB_f,inR_dc,upR_dc,ln_e,app_e,tk_e,dp_e,upd_e,repl_e,natI_n,br_pos,br_neg,addI_n,fitN_T])
 simp (disch:=omega) only [lett_e,bnd_s,bnd_chk,br_not,br_t,br_f,br_T,br_F,not_true_eq_false,not_false_eq_true,chk_T,chk_F,chk_eq,eqI_dc,ltI_dc,leI_dc,eqN_dc,notB_dc,andB_dc,andB_t,eqB_dc,notB_t,notB_f,inR_dc,upR_dc,ln_e,app_e,tk_e,dp_e,upd_e,repl_e,natI_n,br_pos,br_neg,addI_n,fitN_T,]
 rfl
theorem laws_toLimits_f (k:Nat) (x:Int×Int×Unit):laws_toLimits.f k x=some (x,()):=rfl
theorem laws_eqLimits_f (k:Nat) (x:Int×Int×Unit):laws_eqLimits.f k x x=chkP True:=by
 unfold laws_eqLimits.f
 skip
 simp (disch:=omega) only [lett_e,bnd_s,bnd_chk,br_not,br_t,br_f,br_T,br_F,not_true_eq_false,not_false_eq_true,chk_T,chk_F,chk_eq,eqI_dc,ltI_dc,leI_dc,eqN_dc,notB_dc,andB_dc,andB_t,eqB_dc,notB_t,notB_f,inR_dc,upR_dc,ln_e,app_e,tk_e,dp_e,upd_e,repl_e,natI_n,br_pos,br_neg,addI_n,fitN_T,iff_self]
theorem laws_toItem_f (k:Nat) (x:Item):laws_toItem.f k x=some (x,()):=rfl
theorem laws_eqItem_f (k:Nat) (x:Item):laws_eqItem.f k x x=chkP True:=by
 unfold laws_eqItem.f
 skip
 simp (disch:=omega) only [lett_e,bnd_s,bnd_chk,br_not,br_t,br_f,br_T,br_F,not_true_eq_false,not_false_eq_true,chk_T,chk_F,chk_eq,eqI_dc,ltI_dc,leI_dc,eqN_dc,notB_dc,andB_dc,andB_t,eqB_dc,notB_t,notB_f,inR_dc,upR_dc,ln_e,app_e,tk_e,dp_e,upd_e,repl_e,natI_n,br_pos,br_neg,addI_n,fitN_T,iff_self]
theorem laws_toKept_f (k:Nat) (x:Kept):laws_toKept.f k x=some (x,()):=rfl
theorem laws_eqKept_f (k:Nat) (x:Kept):laws_eqKept.f k x x=chkP True:=by
 unfold laws_eqKept.f
 skip
 simp (disch:=omega) only [lett_e,bnd_s,bnd_chk,br_not,br_t,br_f,br_T,br_F,not_true_eq_false,not_false_eq_true,chk_T,chk_F,chk_eq,eqI_dc,ltI_dc,leI_dc,eqN_dc,notB_dc,andB_dc,andB_t,eqB_dc,notB_t,notB_f,inR_dc,upR_dc,ln_e,app_e,tk_e,dp_e,upd_e,repl_e,natI_n,br_pos,br_neg,addI_n,fitN_T,iff_self]
theorem laws_toNote_f (k:Nat) (x:NoteT):laws_toNote.f k x=some (x,()):=rfl
theorem laws_eqNote_f (k:Nat) (x:NoteT):laws_eqNote.f k x x=chkP True:=by
 unfold laws_eqNote.f
 skip
 simp (disch:=omega) only [lett_e,bnd_s,bnd_chk,br_not,br_t,br_f,br_T,br_F,not_true_eq_false,not_false_eq_true,chk_T,chk_F,chk_eq,eqI_dc,ltI_dc,leI_dc,eqN_dc,notB_dc,andB_dc,andB_t,eqB_dc,notB_t,notB_f,inR_dc,upR_dc,ln_e,app_e,tk_e,dp_e,upd_e,repl_e,natI_n,br_pos,br_neg,addI_n,fitN_T,iff_self]
theorem laws_toFlight_f (k:Nat) (x:FlightT):laws_toFlight.f k x=some (x,()):=rfl
theorem laws_eqFlight_f (k:Nat) (x:FlightT):laws_eqFlight.f k x x=chkP True:=by
 unfold laws_eqFlight.f
 rw [dc_bool x.2.2.2.1]
 simp (disch:=omega) only [lett_e,bnd_s,bnd_chk,br_not,br_t,br_f,br_T,br_F,not_true_eq_false,not_false_eq_true,chk_T,chk_F,chk_eq,eqI_dc,ltI_dc,leI_dc,eqN_dc,notB_dc,andB_dc,andB_t,eqB_dc,notB_t,notB_f,inR_dc,upR_dc,ln_e,app_e,tk_e,dp_e,upd_e,repl_e,natI_n,br_pos,br_neg,addI_n,fitN_T,iff_self]
theorem laws_eqTag_f (k:Nat) (x:Int×Int×Int×Unit):laws_eqTag.f k x x=chkP True:=by
 unfold laws_eqTag.f
 simp (disch:=omega) only [lett_e,bnd_s,bnd_chk,br_not,br_t,br_f,br_T,br_F,not_true_eq_false,not_false_eq_true,chk_T,chk_F,chk_eq,eqI_dc,ltI_dc,leI_dc,eqN_dc,notB_dc,andB_dc,andB_t,eqB_dc,notB_t,notB_f,inR_dc,upR_dc,ln_e,app_e,tk_e,dp_e,upd_e,repl_e,natI_n,br_pos,br_neg,addI_n,fitN_T,iff_self]
theorem laws_eqScreen_f (k:Nat) (x:Int×Int×Int×Unit):laws_eqScreen.f k x x=chkP True:=by
 unfold laws_eqScreen.f
 simp (disch:=omega) only [lett_e,bnd_s,bnd_chk,br_not,br_t,br_f,br_T,br_F,not_true_eq_false,not_false_eq_true,chk_T,chk_F,chk_eq,eqI_dc,ltI_dc,leI_dc,eqN_dc,notB_dc,andB_dc,andB_t,eqB_dc,notB_t,notB_f,inR_dc,upR_dc,ln_e,app_e,tk_e,dp_e,upd_e,repl_e,natI_n,br_pos,br_neg,addI_n,fitN_T,iff_self]
theorem laws_toCase_f (k:Nat) (x:CaseT):laws_toCase.f k x=some (x,()):=rfl
theorem laws_eqCase_f (k:Nat) (x:CaseT):laws_eqCase.f k x x=chkP True:=by
 unfold laws_eqCase.f
 simp (disch:=omega) only [lett_e,bnd_s,bnd_chk,br_not,br_t,br_f,br_T,br_F,not_true_eq_false,not_false_eq_true,chk_T,chk_F,chk_eq,eqI_dc,ltI_dc,leI_dc,eqN_dc,notB_dc,andB_dc,andB_t,eqB_dc,notB_t,notB_f,inR_dc,upR_dc,ln_e,app_e,tk_e,dp_e,upd_e,repl_e,natI_n,br_pos,br_neg,addI_n,fitN_T,laws_eqTag_f,laws_eqScreen_f]
theorem laws_toItemS_f {k:Nat} (hk:K0≤k) (l:List (Item)) (hl:l.length≤1048576):laws_toItemS.f k l=some (l,()):=by
 unfold laws_toItemS.f
 have hf:=fitN_T (n:=l.length) (by omega)
 simp (disch:=omega) only [lett_e,bnd_s,bnd_chk,br_not,br_t,br_f,br_T,br_F,not_true_eq_false,not_false_eq_true,chk_T,chk_F,chk_eq,eqI_dc,ltI_dc,leI_dc,eqN_dc,notB_dc,andB_dc,andB_t,eqB_dc,notB_t,notB_f,inR_dc,upR_dc,ln_e,app_e,tk_e,dp_e,upd_e,repl_e,natI_n,br_pos,br_neg,addI_n,fitN_T,hf]
 refine to_loop (d:=(0,0,0,())) hk l hl (fun i c rec hi hc=> ?_) (fun c rec=>by simp (disch:=omega) only [lett_e,bnd_s,bnd_chk,br_not,br_t,br_f,br_T,br_F,not_true_eq_false,not_false_eq_true,chk_T,chk_F,chk_eq,eqI_dc,ltI_dc,leI_dc,eqN_dc,notB_dc,andB_dc,andB_t,eqB_dc,notB_t,notB_f,inR_dc,upR_dc,ln_e,app_e,tk_e,dp_e,upd_e,repl_e,natI_n,br_pos,br_neg,addI_n,fitN_T])
 simp (disch:=omega) only [lett_e,bnd_s,bnd_chk,br_not,br_t,br_f,br_T,br_F,not_true_eq_false,not_false_eq_true,chk_T,chk_F,chk_eq,eqI_dc,ltI_dc,leI_dc,eqN_dc,notB_dc,andB_dc,andB_t,eqB_dc,notB_t,notB_f,inR_dc,upR_dc,ln_e,app_e,tk_e,dp_e,upd_e,repl_e,natI_n,br_pos,br_neg,addI_n,fitN_T,hc,laws_toItem_f k]
 rfl
theorem laws_eqItemS_f {k:Nat} (hk:K0≤k) (l:List (Item)) (hl:l.length≤1048576):laws_eqItemS.f k l l=chkP True:=by
 unfold laws_eqItemS.f
 simp (disch:=omega) only [lett_e,bnd_s,bnd_chk,br_not,br_t,br_f,br_T,br_F,not_true_eq_false,not_false_eq_true,chk_T,chk_F,chk_eq,eqI_dc,ltI_dc,leI_dc,eqN_dc,notB_dc,andB_dc,andB_t,eqB_dc,notB_t,notB_f,inR_dc,upR_dc,ln_e,app_e,tk_e,dp_e,upd_e,repl_e,natI_n,br_pos,br_neg,addI_n,fitN_T]
 refine eq_loop hk hl (fun i rec hi=> ?_) (fun rec=>by simp (disch:=omega) only [lett_e,bnd_s,bnd_chk,br_not,br_t,br_f,br_T,br_F,not_true_eq_false,not_false_eq_true,chk_T,chk_F,chk_eq,eqI_dc,ltI_dc,leI_dc,eqN_dc,notB_dc,andB_dc,andB_t,eqB_dc,notB_t,notB_f,inR_dc,upR_dc,ln_e,app_e,tk_e,dp_e,upd_e,repl_e,natI_n,br_pos,br_neg,addI_n,fitN_T])
 simp (disch:=omega) only [lett_e,bnd_s,bnd_chk,br_not,br_t,br_f,br_T,br_F,not_true_eq_false,not_false_eq_true,chk_T,chk_F,chk_eq,eqI_dc,ltI_dc,leI_dc,eqN_dc,notB_dc,andB_dc,andB_t,eqB_dc,notB_t,notB_f,inR_dc,upR_dc,ln_e,app_e,tk_e,dp_e,upd_e,repl_e,natI_n,br_pos,br_neg,addI_n,fitN_T,laws_eqItem_f k]
 rfl
theorem laws_toKeptS_f {k:Nat} (hk:K0≤k) (l:List (Kept)) (hl:l.length≤1048576):laws_toKeptS.f k l=some (l,()):=by
 unfold laws_toKeptS.f
 have hf:=fitN_T (n:=l.length) (by omega)
 simp (disch:=omega) only [lett_e,bnd_s,bnd_chk,br_not,br_t,br_f,br_T,br_F,not_true_eq_false,not_false_eq_true,chk_T,chk_F,chk_eq,eqI_dc,ltI_dc,leI_dc,eqN_dc,notB_dc,andB_dc,andB_t,eqB_dc,notB_t,notB_f,inR_dc,upR_dc,ln_e,app_e,tk_e,dp_e,upd_e,repl_e,natI_n,br_pos,br_neg,addI_n,fitN_T,hf]
 refine to_loop (d:=(0,0,())) hk l hl (fun i c rec hi hc=> ?_) (fun c rec=>by simp (disch:=omega) only [lett_e,bnd_s,bnd_chk,br_not,br_t,br_f,br_T,br_F,not_true_eq_false,not_false_eq_true,chk_T,chk_F,chk_eq,eqI_dc,ltI_dc,leI_dc,eqN_dc,notB_dc,andB_dc,andB_t,eqB_dc,notB_t,notB_f,inR_dc,upR_dc,ln_e,app_e,tk_e,dp_e,upd_e,repl_e,natI_n,br_pos,br_neg,addI_n,fitN_T])
 simp (disch:=omega) only [lett_e,bnd_s,bnd_chk,br_not,br_t,br_f,br_T,br_F,not_true_eq_false,not_false_eq_true,chk_T,chk_F,chk_eq,eqI_dc,ltI_dc,leI_dc,eqN_dc,notB_dc,andB_dc,andB_t,eqB_dc,notB_t,notB_f,inR_dc,upR_dc,ln_e,app_e,tk_e,dp_e,upd_e,repl_e,natI_n,br_pos,br_neg,addI_n,fitN_T,hc,laws_toKept_f k]
 rfl
theorem laws_eqKeptS_f {k:Nat} (hk:K0≤k) (l:List (Kept)) (hl:l.length≤1048576):laws_eqKeptS.f k l l=chkP True:=by
 unfold laws_eqKeptS.f
 simp (disch:=omega) only [lett_e,bnd_s,bnd_chk,br_not,br_t,br_f,br_T,br_F,not_true_eq_false,not_false_eq_true,chk_T,chk_F,chk_eq,eqI_dc,ltI_dc,leI_dc,eqN_dc,notB_dc,andB_dc,andB_t,eqB_dc,notB_t,notB_f,inR_dc,upR_dc,ln_e,app_e,tk_e,dp_e,upd_e,repl_e,natI_n,br_pos,br_neg,addI_n,fitN_T]
 refine eq_loop hk hl (fun i rec hi=> ?_) (fun rec=>by simp (disch:=omega) only [lett_e,bnd_s,bnd_chk,br_not,br_t,br_f,br_T,br_F,not_true_eq_false,not_false_eq_true,chk_T,chk_F,chk_eq,eqI_dc,ltI_dc,leI_dc,eqN_dc,notB_dc,andB_dc,andB_t,eqB_dc,notB_t,notB_f,inR_dc,upR_dc,ln_e,app_e,tk_e,dp_e,upd_e,repl_e,natI_n,br_pos,br_neg,addI_n,fitN_T])
 simp (disch:=omega) only [lett_e,bnd_s,bnd_chk,br_not,br_t,br_f,br_T,br_F,not_true_eq_false,not_false_eq_true,chk_T,chk_F,chk_eq,eqI_dc,ltI_dc,leI_dc,eqN_dc,notB_dc,andB_dc,andB_t,eqB_dc,notB_t,notB_f,inR_dc,upR_dc,ln_e,app_e,tk_e,dp_e,upd_e,repl_e,natI_n,br_pos,br_neg,addI_n,fitN_T,laws_eqKept_f k]
 rfl
theorem laws_toNoteS_f {k:Nat} (hk:K0≤k) (l:List (NoteT)) (hl:l.length≤1048576):laws_toNoteS.f k l=some (l,()):=by
 unfold laws_toNoteS.f
 have hf:=fitN_T (n:=l.length) (by omega)
 simp (disch:=omega) only [lett_e,bnd_s,bnd_chk,br_not,br_t,br_f,br_T,br_F,not_true_eq_false,not_false_eq_true,chk_T,chk_F,chk_eq,eqI_dc,ltI_dc,leI_dc,eqN_dc,notB_dc,andB_dc,andB_t,eqB_dc,notB_t,notB_f,inR_dc,upR_dc,ln_e,app_e,tk_e,dp_e,upd_e,repl_e,natI_n,br_pos,br_neg,addI_n,fitN_T,hf]
 refine to_loop (d:=(0,0,0,0,0,())) hk l hl (fun i c rec hi hc=> ?_) (fun c rec=>by simp (disch:=omega) only [lett_e,bnd_s,bnd_chk,br_not,br_t,br_f,br_T,br_F,not_true_eq_false,not_false_eq_true,chk_T,chk_F,chk_eq,eqI_dc,ltI_dc,leI_dc,eqN_dc,notB_dc,andB_dc,andB_t,eqB_dc,notB_t,notB_f,inR_dc,upR_dc,ln_e,app_e,tk_e,dp_e,upd_e,repl_e,natI_n,br_pos,br_neg,addI_n,fitN_T])
 simp (disch:=omega) only [lett_e,bnd_s,bnd_chk,br_not,br_t,br_f,br_T,br_F,not_true_eq_false,not_false_eq_true,chk_T,chk_F,chk_eq,eqI_dc,ltI_dc,leI_dc,eqN_dc,notB_dc,andB_dc,andB_t,eqB_dc,notB_t,notB_f,inR_dc,upR_dc,ln_e,app_e,tk_e,dp_e,upd_e,repl_e,natI_n,br_pos,br_neg,addI_n,fitN_T,hc,laws_toNote_f k]
 rfl
theorem laws_eqNoteS_f {k:Nat} (hk:K0≤k) (l:List (NoteT)) (hl:l.length≤1048576):laws_eqNoteS.f k l l=chkP True:=by
 unfold laws_eqNoteS.f
 simp (disch:=omega) only [lett_e,bnd_s,bnd_chk,br_not,br_t,br_f,br_T,br_F,not_true_eq_false,not_false_eq_true,chk_T,chk_F,chk_eq,eqI_dc,ltI_dc,leI_dc,eqN_dc,notB_dc,andB_dc,andB_t,eqB_dc,notB_t,notB_f,inR_dc,upR_dc,ln_e,app_e,tk_e,dp_e,upd_e,repl_e,natI_n,br_pos,br_neg,addI_n,fitN_T]
 refine eq_loop hk hl (fun i rec hi=> ?_) (fun rec=>by simp (disch:=omega) only [lett_e,bnd_s,bnd_chk,br_not,br_t,br_f,br_T,br_F,not_true_eq_false,not_false_eq_true,chk_T,chk_F,chk_eq,eqI_dc,ltI_dc,leI_dc,eqN_dc,notB_dc,andB_dc,andB_t,eqB_dc,notB_t,notB_f,inR_dc,upR_dc,ln_e,app_e,tk_e,dp_e,upd_e,repl_e,natI_n,br_pos,br_neg,addI_n,fitN_T])
 simp (disch:=omega) only [lett_e,bnd_s,bnd_chk,br_not,br_t,br_f,br_T,br_F,not_true_eq_false,not_false_eq_true,chk_T,chk_F,chk_eq,eqI_dc,ltI_dc,leI_dc,eqN_dc,notB_dc,andB_dc,andB_t,eqB_dc,notB_t,notB_f,inR_dc,upR_dc,ln_e,app_e,tk_e,dp_e,upd_e,repl_e,natI_n,br_pos,br_neg,addI_n,fitN_T,laws_eqNote_f k]
 rfl
theorem laws_toFlightS_f {k:Nat} (hk:K0≤k) (l:List (FlightT)) (hl:l.length≤1048576):laws_toFlightS.f k l=some (l,()):=by
 unfold laws_toFlightS.f
 have hf:=fitN_T (n:=l.length) (by omega)
 simp (disch:=omega) only [lett_e,bnd_s,bnd_chk,br_not,br_t,br_f,br_T,br_F,not_true_eq_false,not_false_eq_true,chk_T,chk_F,chk_eq,eqI_dc,ltI_dc,leI_dc,eqN_dc,notB_dc,andB_dc,andB_t,eqB_dc,notB_t,notB_f,inR_dc,upR_dc,ln_e,app_e,tk_e,dp_e,upd_e,repl_e,natI_n,br_pos,br_neg,addI_n,fitN_T,hf]
 refine to_loop (d:=(0,0,0,false,0,())) hk l hl (fun i c rec hi hc=> ?_) (fun c rec=>by simp (disch:=omega) only [lett_e,bnd_s,bnd_chk,br_not,br_t,br_f,br_T,br_F,not_true_eq_false,not_false_eq_true,chk_T,chk_F,chk_eq,eqI_dc,ltI_dc,leI_dc,eqN_dc,notB_dc,andB_dc,andB_t,eqB_dc,notB_t,notB_f,inR_dc,upR_dc,ln_e,app_e,tk_e,dp_e,upd_e,repl_e,natI_n,br_pos,br_neg,addI_n,fitN_T])
 simp (disch:=omega) only [lett_e,bnd_s,bnd_chk,br_not,br_t,br_f,br_T,br_F,not_true_eq_false,not_false_eq_true,chk_T,chk_F,chk_eq,eqI_dc,ltI_dc,leI_dc,eqN_dc,notB_dc,andB_dc,andB_t,eqB_dc,notB_t,notB_f,inR_dc,upR_dc,ln_e,app_e,tk_e,dp_e,upd_e,repl_e,natI_n,br_pos,br_neg,addI_n,fitN_T,hc,laws_toFlight_f k]
 rfl
theorem laws_eqFlightS_f {k:Nat} (hk:K0≤k) (l:List (FlightT)) (hl:l.length≤1048576):laws_eqFlightS.f k l l=chkP True:=by
 unfold laws_eqFlightS.f
 simp (disch:=omega) only [lett_e,bnd_s,bnd_chk,br_not,br_t,br_f,br_T,br_F,not_true_eq_false,not_false_eq_true,chk_T,chk_F,chk_eq,eqI_dc,ltI_dc,leI_dc,eqN_dc,notB_dc,andB_dc,andB_t,eqB_dc,notB_t,notB_f,inR_dc,upR_dc,ln_e,app_e,tk_e,dp_e,upd_e,repl_e,natI_n,br_pos,br_neg,addI_n,fitN_T]
 refine eq_loop hk hl (fun i rec hi=> ?_) (fun rec=>by simp (disch:=omega) only [lett_e,bnd_s,bnd_chk,br_not,br_t,br_f,br_T,br_F,not_true_eq_false,not_false_eq_true,chk_T,chk_F,chk_eq,eqI_dc,ltI_dc,leI_dc,eqN_dc,notB_dc,andB_dc,andB_t,eqB_dc,notB_t,notB_f,inR_dc,upR_dc,ln_e,app_e,tk_e,dp_e,upd_e,repl_e,natI_n,br_pos,br_neg,addI_n,fitN_T])
 simp (disch:=omega) only [lett_e,bnd_s,bnd_chk,br_not,br_t,br_f,br_T,br_F,not_true_eq_false,not_false_eq_true,chk_T,chk_F,chk_eq,eqI_dc,ltI_dc,leI_dc,eqN_dc,notB_dc,andB_dc,andB_t,eqB_dc,notB_t,notB_f,inR_dc,upR_dc,ln_e,app_e,tk_e,dp_e,upd_e,repl_e,natI_n,br_pos,br_neg,addI_n,fitN_T,laws_eqFlight_f k]
 rfl
theorem laws_toCaseS_f {k:Nat} (hk:K0≤k) (l:List (CaseT)) (hl:l.length≤1048576):laws_toCaseS.f k l=some (l,()):=by
 unfold laws_toCaseS.f
 have hf:=fitN_T (n:=l.length) (by omega)
 simp (disch:=omega) only [lett_e,bnd_s,bnd_chk,br_not,br_t,br_f,br_T,br_F,not_true_eq_false,not_false_eq_true,chk_T,chk_F,chk_eq,eqI_dc,ltI_dc,leI_dc,eqN_dc,notB_dc,andB_dc,andB_t,eqB_dc,notB_t,notB_f,inR_dc,upR_dc,ln_e,app_e,tk_e,dp_e,upd_e,repl_e,natI_n,br_pos,br_neg,addI_n,fitN_T,hf]
 refine to_loop (d:=(0,0,0,0,0,0,0,0,0,0,())) hk l hl (fun i c rec hi hc=> ?_) (fun c rec=>by simp (disch:=omega) only [lett_e,bnd_s,bnd_chk,br_not,br_t,br_f,br_T,br_F,not_true_eq_false,not_false_eq_true,chk_T,chk_F,chk_eq,eqI_dc,ltI_dc,leI_dc,eqN_dc,notB_dc,andB_dc,andB_t,eqB_dc,notB_t,notB_f,inR_dc,upR_dc,ln_e,app_e,tk_e,dp_e,upd_e,repl_e,natI_n,br_pos,br_neg,addI_n,fitN_T])
 simp (disch:=omega) only [lett_e,bnd_s,bnd_chk,br_not,br_t,br_f,br_T,br_F,not_true_eq_false,not_false_eq_true,chk_T,chk_F,chk_eq,eqI_dc,ltI_dc,leI_dc,eqN_dc,notB_dc,andB_dc,andB_t,eqB_dc,notB_t,notB_f,inR_dc,upR_dc,ln_e,app_e,tk_e,dp_e,upd_e,repl_e,natI_n,br_pos,br_neg,addI_n,fitN_T,hc,laws_toCase_f k]
 rfl
theorem laws_eqCaseS_f {k:Nat} (hk:K0≤k) (l:List (CaseT)) (hl:l.length≤1048576):laws_eqCaseS.f k l l=chkP True:=by
 unfold laws_eqCaseS.f
 simp (disch:=omega) only [lett_e,bnd_s,bnd_chk,br_not,br_t,br_f,br_T,br_F,not_true_eq_false,not_false_eq_true,chk_T,chk_F,chk_eq,eqI_dc,ltI_dc,leI_dc,eqN_dc,notB_dc,andB_dc,andB_t,eqB_dc,notB_t,notB_f,inR_dc,upR_dc,ln_e,app_e,tk_e,dp_e,upd_e,repl_e,natI_n,br_pos,br_neg,addI_n,fitN_T]
 refine eq_loop hk hl (fun i rec hi=> ?_) (fun rec=>by simp (disch:=omega) only [lett_e,bnd_s,bnd_chk,br_not,br_t,br_f,br_T,br_F,not_true_eq_false,not_false_eq_true,chk_T,chk_F,chk_eq,eqI_dc,ltI_dc,leI_dc,eqN_dc,notB_dc,andB_dc,andB_t,eqB_dc,notB_t,notB_f,inR_dc,upR_dc,ln_e,app_e,tk_e,dp_e,upd_e,repl_e,natI_n,br_pos,br_neg,addI_n,fitN_T])
 simp (disch:=omega) only [lett_e,bnd_s,bnd_chk,br_not,br_t,br_f,br_T,br_F,not_true_eq_false,not_false_eq_true,chk_T,chk_F,chk_eq,eqI_dc,ltI_dc,leI_dc,eqN_dc,notB_dc,andB_dc,andB_t,eqB_dc,notB_t,notB_f,inR_dc,upR_dc,ln_e,app_e,tk_e,dp_e,upd_e,repl_e,natI_n,br_pos,br_neg,addI_n,fitN_T,laws_eqCase_f k]
 rfl
theorem laws_toPolicy_f {k:Nat} (hk:K0≤k) (x:List (Int×Unit)×Unit) (h:x.1.length≤1048576):laws_toPolicy.f k x=some (x,()):=by
 unfold laws_toPolicy.f;simp (disch:=omega) only [lett_e,bnd_s,bnd_chk,br_not,br_t,br_f,br_T,br_F,not_true_eq_false,not_false_eq_true,chk_T,chk_F,chk_eq,eqI_dc,ltI_dc,leI_dc,eqN_dc,notB_dc,andB_dc,andB_t,eqB_dc,notB_t,notB_f,inR_dc,upR_dc,ln_e,app_e,tk_e,dp_e,upd_e,repl_e,natI_n,br_pos,br_neg,addI_n,fitN_T,laws_toIntS_f hk _ h]
theorem laws_eqPolicy_f {k:Nat} (hk:K0≤k) (x:List (Int×Unit)×Unit) (h:x.1.length≤1048576):laws_eqPolicy.f k x x=chkP True:=by
 unfold laws_eqPolicy.f;simp (disch:=omega) only [lett_e,bnd_s,bnd_chk,br_not,br_t,br_f,br_T,br_F,not_true_eq_false,not_false_eq_true,chk_T,chk_F,chk_eq,eqI_dc,ltI_dc,leI_dc,eqN_dc,notB_dc,andB_dc,andB_t,eqB_dc,notB_t,notB_f,inR_dc,upR_dc,ln_e,app_e,tk_e,dp_e,upd_e,repl_e,natI_n,br_pos,br_neg,addI_n,fitN_T,laws_eqIntS_f hk _ h]
theorem laws_toBelt_f {k:Nat} (hk:K0≤k) (x:Int×Int×Bool×List Item×Unit) (h:x.2.2.2.1.length≤1048576):laws_toBelt.f k x=some (x,()):=by
 unfold laws_toBelt.f;simp (disch:=omega) only [lett_e,bnd_s,bnd_chk,br_not,br_t,br_f,br_T,br_F,not_true_eq_false,not_false_eq_true,chk_T,chk_F,chk_eq,eqI_dc,ltI_dc,leI_dc,eqN_dc,notB_dc,andB_dc,andB_t,eqB_dc,notB_t,notB_f,inR_dc,upR_dc,ln_e,app_e,tk_e,dp_e,upd_e,repl_e,natI_n,br_pos,br_neg,addI_n,fitN_T,laws_toItemS_f hk _ h]
theorem laws_eqBelt_f {k:Nat} (hk:K0≤k) (x:Int×Int×Bool×List Item×Unit) (h:x.2.2.2.1.length≤1048576):laws_eqBelt.f k x x=chkP True:=by
 unfold laws_eqBelt.f
 rw [dc_bool x.2.2.1]
 simp (disch:=omega) only [lett_e,bnd_s,bnd_chk,br_not,br_t,br_f,br_T,br_F,not_true_eq_false,not_false_eq_true,chk_T,chk_F,chk_eq,eqI_dc,ltI_dc,leI_dc,eqN_dc,notB_dc,andB_dc,andB_t,eqB_dc,notB_t,notB_f,inR_dc,upR_dc,ln_e,app_e,tk_e,dp_e,upd_e,repl_e,natI_n,br_pos,br_neg,addI_n,fitN_T,laws_eqItemS_f hk _ h,iff_self]
theorem laws_toChute_f {k:Nat} (hk:K0≤k) (x:Chute) (h:x.2.2.1.length≤1048576):laws_toChute.f k x=some (x,()):=by
 unfold laws_toChute.f;simp (disch:=omega) only [lett_e,bnd_s,bnd_chk,br_not,br_t,br_f,br_T,br_F,not_true_eq_false,not_false_eq_true,chk_T,chk_F,chk_eq,eqI_dc,ltI_dc,leI_dc,eqN_dc,notB_dc,andB_dc,andB_t,eqB_dc,notB_t,notB_f,inR_dc,upR_dc,ln_e,app_e,tk_e,dp_e,upd_e,repl_e,natI_n,br_pos,br_neg,addI_n,fitN_T,laws_toIntS_f hk _ h]
theorem laws_eqChute_f {k:Nat} (hk:K0≤k) (x:Chute) (h:x.2.2.1.length≤1048576):laws_eqChute.f k x x=chkP True:=by
 unfold laws_eqChute.f;simp (disch:=omega) only [lett_e,bnd_s,bnd_chk,br_not,br_t,br_f,br_T,br_F,not_true_eq_false,not_false_eq_true,chk_T,chk_F,chk_eq,eqI_dc,ltI_dc,leI_dc,eqN_dc,notB_dc,andB_dc,andB_t,eqB_dc,notB_t,notB_f,inR_dc,upR_dc,ln_e,app_e,tk_e,dp_e,upd_e,repl_e,natI_n,br_pos,br_neg,addI_n,fitN_T,laws_eqIntS_f hk _ h]
theorem laws_toWant_f {k:Nat} (hk:K0≤k) (x:Want) (h:x.2.1.length≤1048576):laws_toWant.f k x=some (x,()):=by
 unfold laws_toWant.f;simp (disch:=omega) only [lett_e,bnd_s,bnd_chk,br_not,br_t,br_f,br_T,br_F,not_true_eq_false,not_false_eq_true,chk_T,chk_F,chk_eq,eqI_dc,ltI_dc,leI_dc,eqN_dc,notB_dc,andB_dc,andB_t,eqB_dc,notB_t,notB_f,inR_dc,upR_dc,ln_e,app_e,tk_e,dp_e,upd_e,repl_e,natI_n,br_pos,br_neg,addI_n,fitN_T,laws_toIntS_f hk _ h]
theorem laws_eqWant_f {k:Nat} (hk:K0≤k) (x:Want) (h:x.2.1.length≤1048576):laws_eqWant.f k x x=chkP True:=by
 unfold laws_eqWant.f;simp (disch:=omega) only [lett_e,bnd_s,bnd_chk,br_not,br_t,br_f,br_T,br_F,not_true_eq_false,not_false_eq_true,chk_T,chk_F,chk_eq,eqI_dc,ltI_dc,leI_dc,eqN_dc,notB_dc,andB_dc,andB_t,eqB_dc,notB_t,notB_f,inR_dc,upR_dc,ln_e,app_e,tk_e,dp_e,upd_e,repl_e,natI_n,br_pos,br_neg,addI_n,fitN_T,laws_eqIntS_f hk _ h]
theorem rd_mem {α:Type} {d:α} {l:List α} {i:Nat} (h:i<l.length):rdP d l i∈l:=by rw [rd_lt h];exact List.getElem_mem h
theorem laws_toChuteS_f {k:Nat} (hk:K0≤k) (l:List Chute) (hl:l.length≤1048576) (hb:∀c∈l,c.2.2.1.length≤1048576):laws_toChuteS.f k l=some (l,()):=by
 unfold laws_toChuteS.f
 have hf:=fitN_T (n:=l.length) (by omega)
 simp (disch:=omega) only [lett_e,bnd_s,bnd_chk,br_not,br_t,br_f,br_T,br_F,not_true_eq_false,not_false_eq_true,chk_T,chk_F,chk_eq,eqI_dc,ltI_dc,leI_dc,eqN_dc,notB_dc,andB_dc,andB_t,eqB_dc,notB_t,notB_f,inR_dc,upR_dc,ln_e,app_e,tk_e,dp_e,upd_e,repl_e,natI_n,br_pos,br_neg,addI_n,fitN_T,hf]
 refine to_loop (d:=(0,0,[],())) hk l hl (fun i c rec hi hc=> ?_) (fun c rec=>by simp (disch:=omega) only [lett_e,bnd_s,bnd_chk,br_not,br_t,br_f,br_T,br_F,not_true_eq_false,not_false_eq_true,chk_T,chk_F,chk_eq,eqI_dc,ltI_dc,leI_dc,eqN_dc,notB_dc,andB_dc,andB_t,eqB_dc,notB_t,notB_f,inR_dc,upR_dc,ln_e,app_e,tk_e,dp_e,upd_e,repl_e,natI_n,br_pos,br_neg,addI_n,fitN_T])
 have:=laws_toChute_f hk (rdP (0,0,[],()) l i) (hb _ (rd_mem hi))
 simp (disch:=omega) only [lett_e,bnd_s,bnd_chk,br_not,br_t,br_f,br_T,br_F,not_true_eq_false,not_false_eq_true,chk_T,chk_F,chk_eq,eqI_dc,ltI_dc,leI_dc,eqN_dc,notB_dc,andB_dc,andB_t,eqB_dc,notB_t,notB_f,inR_dc,upR_dc,ln_e,app_e,tk_e,dp_e,upd_e,repl_e,natI_n,br_pos,br_neg,addI_n,fitN_T,hc,this]
 rfl
theorem laws_eqChuteS_f {k:Nat} (hk:K0≤k) (l:List Chute) (hl:l.length≤1048576) (hb:∀c∈l,c.2.2.1.length≤1048576):laws_eqChuteS.f k l l=chkP True:=by
 unfold laws_eqChuteS.f
 simp (disch:=omega) only [lett_e,bnd_s,bnd_chk,br_not,br_t,br_f,br_T,br_F,not_true_eq_false,not_false_eq_true,chk_T,chk_F,chk_eq,eqI_dc,ltI_dc,leI_dc,eqN_dc,notB_dc,andB_dc,andB_t,eqB_dc,notB_t,notB_f,inR_dc,upR_dc,ln_e,app_e,tk_e,dp_e,upd_e,repl_e,natI_n,br_pos,br_neg,addI_n,fitN_T]
 refine eq_loop hk hl (fun i rec hi=> ?_) (fun rec=>by simp (disch:=omega) only [lett_e,bnd_s,bnd_chk,br_not,br_t,br_f,br_T,br_F,not_true_eq_false,not_false_eq_true,chk_T,chk_F,chk_eq,eqI_dc,ltI_dc,leI_dc,eqN_dc,notB_dc,andB_dc,andB_t,eqB_dc,notB_t,notB_f,inR_dc,upR_dc,ln_e,app_e,tk_e,dp_e,upd_e,repl_e,natI_n,br_pos,br_neg,addI_n,fitN_T])
 have:=laws_eqChute_f hk (rdP (0,0,[],()) l i) (hb _ (rd_mem hi))
 simp (disch:=omega) only [lett_e,bnd_s,bnd_chk,br_not,br_t,br_f,br_T,br_F,not_true_eq_false,not_false_eq_true,chk_T,chk_F,chk_eq,eqI_dc,ltI_dc,leI_dc,eqN_dc,notB_dc,andB_dc,andB_t,eqB_dc,notB_t,notB_f,inR_dc,upR_dc,ln_e,app_e,tk_e,dp_e,upd_e,repl_e,natI_n,br_pos,br_neg,addI_n,fitN_T,this]
 rfl
theorem laws_toWantS_f {k:Nat} (hk:K0≤k) (l:List Want) (hl:l.length≤1048576) (hb:∀c∈l,c.2.1.length≤1048576):laws_toWantS.f k l=some (l,()):=by
 unfold laws_toWantS.f
 have hf:=fitN_T (n:=l.length) (by omega)
 simp (disch:=omega) only [lett_e,bnd_s,bnd_chk,br_not,br_t,br_f,br_T,br_F,not_true_eq_false,not_false_eq_true,chk_T,chk_F,chk_eq,eqI_dc,ltI_dc,leI_dc,eqN_dc,notB_dc,andB_dc,andB_t,eqB_dc,notB_t,notB_f,inR_dc,upR_dc,ln_e,app_e,tk_e,dp_e,upd_e,repl_e,natI_n,br_pos,br_neg,addI_n,fitN_T,hf]
 refine to_loop (d:=(0,[],())) hk l hl (fun i c rec hi hc=> ?_) (fun c rec=>by simp (disch:=omega) only [lett_e,bnd_s,bnd_chk,br_not,br_t,br_f,br_T,br_F,not_true_eq_false,not_false_eq_true,chk_T,chk_F,chk_eq,eqI_dc,ltI_dc,leI_dc,eqN_dc,notB_dc,andB_dc,andB_t,eqB_dc,notB_t,notB_f,inR_dc,upR_dc,ln_e,app_e,tk_e,dp_e,upd_e,repl_e,natI_n,br_pos,br_neg,addI_n,fitN_T])
 have:=laws_toWant_f hk (rdP (0,[],()) l i) (hb _ (rd_mem hi))
 simp (disch:=omega) only [lett_e,bnd_s,bnd_chk,br_not,br_t,br_f,br_T,br_F,not_true_eq_false,not_false_eq_true,chk_T,chk_F,chk_eq,eqI_dc,ltI_dc,leI_dc,eqN_dc,notB_dc,andB_dc,andB_t,eqB_dc,notB_t,notB_f,inR_dc,upR_dc,ln_e,app_e,tk_e,dp_e,upd_e,repl_e,natI_n,br_pos,br_neg,addI_n,fitN_T,hc,this]
 rfl
theorem laws_eqWantS_f {k:Nat} (hk:K0≤k) (l:List Want) (hl:l.length≤1048576) (hb:∀c∈l,c.2.1.length≤1048576):laws_eqWantS.f k l l=chkP True:=by
 unfold laws_eqWantS.f
 simp (disch:=omega) only [lett_e,bnd_s,bnd_chk,br_not,br_t,br_f,br_T,br_F,not_true_eq_false,not_false_eq_true,chk_T,chk_F,chk_eq,eqI_dc,ltI_dc,leI_dc,eqN_dc,notB_dc,andB_dc,andB_t,eqB_dc,notB_t,notB_f,inR_dc,upR_dc,ln_e,app_e,tk_e,dp_e,upd_e,repl_e,natI_n,br_pos,br_neg,addI_n,fitN_T]
 refine eq_loop hk hl (fun i rec hi=> ?_) (fun rec=>by simp (disch:=omega) only [lett_e,bnd_s,bnd_chk,br_not,br_t,br_f,br_T,br_F,not_true_eq_false,not_false_eq_true,chk_T,chk_F,chk_eq,eqI_dc,ltI_dc,leI_dc,eqN_dc,notB_dc,andB_dc,andB_t,eqB_dc,notB_t,notB_f,inR_dc,upR_dc,ln_e,app_e,tk_e,dp_e,upd_e,repl_e,natI_n,br_pos,br_neg,addI_n,fitN_T])
 have:=laws_eqWant_f hk (rdP (0,[],()) l i) (hb _ (rd_mem hi))
 simp (disch:=omega) only [lett_e,bnd_s,bnd_chk,br_not,br_t,br_f,br_T,br_F,not_true_eq_false,not_false_eq_true,chk_T,chk_F,chk_eq,eqI_dc,ltI_dc,leI_dc,eqN_dc,notB_dc,andB_dc,andB_t,eqB_dc,notB_t,notB_f,inR_dc,upR_dc,ln_e,app_e,tk_e,dp_e,upd_e,repl_e,natI_n,br_pos,br_neg,addI_n,fitN_T,this]
 rfl
theorem laws_toKeptSS_f {k:Nat} (hk:K0≤k) (l:List (List Kept×Unit)) (hl:l.length≤1048576) (hb:∀c∈l,c.1.length≤1048576):laws_toKeptSS.f k l=some (l,()):=by
 unfold laws_toKeptSS.f
 have hf:=fitN_T (n:=l.length) (by omega)
 simp (disch:=omega) only [lett_e,bnd_s,bnd_chk,br_not,br_t,br_f,br_T,br_F,not_true_eq_false,not_false_eq_true,chk_T,chk_F,chk_eq,eqI_dc,ltI_dc,leI_dc,eqN_dc,notB_dc,andB_dc,andB_t,eqB_dc,notB_t,notB_f,inR_dc,upR_dc,ln_e,app_e,tk_e,dp_e,upd_e,repl_e,natI_n,br_pos,br_neg,addI_n,fitN_T,hf]
 refine to_loop (d:=([],())) hk l hl (fun i c rec hi hc=> ?_) (fun c rec=>by simp (disch:=omega) only [lett_e,bnd_s,bnd_chk,br_not,br_t,br_f,br_T,br_F,not_true_eq_false,not_false_eq_true,chk_T,chk_F,chk_eq,eqI_dc,ltI_dc,leI_dc,eqN_dc,notB_dc,andB_dc,andB_t,eqB_dc,notB_t,notB_f,inR_dc,upR_dc,ln_e,app_e,tk_e,dp_e,upd_e,repl_e,natI_n,br_pos,br_neg,addI_n,fitN_T])
 have:=laws_toKeptS_f hk (rdP ([],()) l i).1 (hb _ (rd_mem hi))
 simp (disch:=omega) only [lett_e,bnd_s,bnd_chk,br_not,br_t,br_f,br_T,br_F,not_true_eq_false,not_false_eq_true,chk_T,chk_F,chk_eq,eqI_dc,ltI_dc,leI_dc,eqN_dc,notB_dc,andB_dc,andB_t,eqB_dc,notB_t,notB_f,inR_dc,upR_dc,ln_e,app_e,tk_e,dp_e,upd_e,repl_e,natI_n,br_pos,br_neg,addI_n,fitN_T,hc,this]
 rfl
theorem laws_eqKeptSS_f {k:Nat} (hk:K0≤k) (l:List (List Kept×Unit)) (hl:l.length≤1048576) (hb:∀c∈l,c.1.length≤1048576):laws_eqKeptSS.f k l l=chkP True:=by
 unfold laws_eqKeptSS.f
 simp (disch:=omega) only [lett_e,bnd_s,bnd_chk,br_not,br_t,br_f,br_T,br_F,not_true_eq_false,not_false_eq_true,chk_T,chk_F,chk_eq,eqI_dc,ltI_dc,leI_dc,eqN_dc,notB_dc,andB_dc,andB_t,eqB_dc,notB_t,notB_f,inR_dc,upR_dc,ln_e,app_e,tk_e,dp_e,upd_e,repl_e,natI_n,br_pos,br_neg,addI_n,fitN_T]
 refine eq_loop hk hl (fun i rec hi=> ?_) (fun rec=>by simp (disch:=omega) only [lett_e,bnd_s,bnd_chk,br_not,br_t,br_f,br_T,br_F,not_true_eq_false,not_false_eq_true,chk_T,chk_F,chk_eq,eqI_dc,ltI_dc,leI_dc,eqN_dc,notB_dc,andB_dc,andB_t,eqB_dc,notB_t,notB_f,inR_dc,upR_dc,ln_e,app_e,tk_e,dp_e,upd_e,repl_e,natI_n,br_pos,br_neg,addI_n,fitN_T])
 have:=laws_eqKeptS_f hk (rdP ([],()) l i).1 (hb _ (rd_mem hi))
 simp (disch:=omega) only [lett_e,bnd_s,bnd_chk,br_not,br_t,br_f,br_T,br_F,not_true_eq_false,not_false_eq_true,chk_T,chk_F,chk_eq,eqI_dc,ltI_dc,leI_dc,eqN_dc,notB_dc,andB_dc,andB_t,eqB_dc,notB_t,notB_f,inR_dc,upR_dc,ln_e,app_e,tk_e,dp_e,upd_e,repl_e,natI_n,br_pos,br_neg,addI_n,fitN_T,this]
 rfl
theorem laws_toLoop_f {k:Nat} (hk:K0≤k) (x:LoopT) (h1:x.1.length≤1048576) (h2:x.2.2.1.length≤1048576) (h3:∀c∈x.2.2.1,c.2.2.1.length≤1048576) (h4:x.2.2.2.1.length≤1048576) (h5:∀c∈x.2.2.2.1,c.2.1.length≤1048576):laws_toLoop.f k x=some (x,()):=by
 unfold laws_toLoop.f;simp (disch:=omega) only [lett_e,bnd_s,bnd_chk,br_not,br_t,br_f,br_T,br_F,not_true_eq_false,not_false_eq_true,chk_T,chk_F,chk_eq,eqI_dc,ltI_dc,leI_dc,eqN_dc,notB_dc,andB_dc,andB_t,eqB_dc,notB_t,notB_f,inR_dc,upR_dc,ln_e,app_e,tk_e,dp_e,upd_e,repl_e,natI_n,br_pos,br_neg,addI_n,fitN_T,laws_toIntS_f hk _ h1,laws_toChuteS_f hk _ h2 h3,laws_toWantS_f hk _ h4 h5]
theorem laws_eqLoop_f {k:Nat} (hk:K0≤k) (x:LoopT) (h1:x.1.length≤1048576) (h2:x.2.2.1.length≤1048576) (h3:∀c∈x.2.2.1,c.2.2.1.length≤1048576) (h4:x.2.2.2.1.length≤1048576) (h5:∀c∈x.2.2.2.1,c.2.1.length≤1048576):laws_eqLoop.f k x x=chkP True:=by
 unfold laws_eqLoop.f;simp (disch:=omega) only [lett_e,bnd_s,bnd_chk,br_not,br_t,br_f,br_T,br_F,not_true_eq_false,not_false_eq_true,chk_T,chk_F,chk_eq,eqI_dc,ltI_dc,leI_dc,eqN_dc,notB_dc,andB_dc,andB_t,eqB_dc,notB_t,notB_f,inR_dc,upR_dc,ln_e,app_e,tk_e,dp_e,upd_e,repl_e,natI_n,br_pos,br_neg,addI_n,fitN_T,laws_eqIntS_f hk _ h1,laws_eqChuteS_f hk _ h2 h3,laws_eqWantS_f hk _ h4 h5]
theorem laws_toStore_f {k:Nat} (hk:K0≤k) (x:StoreT) (h1:x.2.1.length≤1048576) (h2:∀c∈x.2.1,c.1.length≤1048576):laws_toStore.f k x=some (x,()):=by
 unfold laws_toStore.f;simp (disch:=omega) only [lett_e,bnd_s,bnd_chk,br_not,br_t,br_f,br_T,br_F,not_true_eq_false,not_false_eq_true,chk_T,chk_F,chk_eq,eqI_dc,ltI_dc,leI_dc,eqN_dc,notB_dc,andB_dc,andB_t,eqB_dc,notB_t,notB_f,inR_dc,upR_dc,ln_e,app_e,tk_e,dp_e,upd_e,repl_e,natI_n,br_pos,br_neg,addI_n,fitN_T,laws_toKeptSS_f hk _ h1 h2]
theorem laws_eqStore_f {k:Nat} (hk:K0≤k) (x:StoreT) (h1:x.2.1.length≤1048576) (h2:∀c∈x.2.1,c.1.length≤1048576):laws_eqStore.f k x x=chkP True:=by
 unfold laws_eqStore.f;simp (disch:=omega) only [lett_e,bnd_s,bnd_chk,br_not,br_t,br_f,br_T,br_F,not_true_eq_false,not_false_eq_true,chk_T,chk_F,chk_eq,eqI_dc,ltI_dc,leI_dc,eqN_dc,notB_dc,andB_dc,andB_t,eqB_dc,notB_t,notB_f,inR_dc,upR_dc,ln_e,app_e,tk_e,dp_e,upd_e,repl_e,natI_n,br_pos,br_neg,addI_n,fitN_T,laws_eqKeptSS_f hk _ h1 h2]
theorem laws_toHall_f {k:Nat} (hk:K0≤k) (x:HallT) (hs:SzH x):laws_toHall.f k x=some (x,()):=by
 unfold laws_toHall.f
 have h1:=laws_toPolicy_f hk (x.2.1,()) hs.wait
 have h2:=laws_toBelt_f hk (x.2.2.2.2.1,x.2.2.2.2.2.1,x.2.2.2.2.2.2.1,x.2.2.2.2.2.2.2.1,()) hs.items
 have h3:=laws_toLoop_f hk (x.2.2.2.2.2.2.2.2.1,x.2.2.2.2.2.2.2.2.2.1,x.2.2.2.2.2.2.2.2.2.2.1,x.2.2.2.2.2.2.2.2.2.2.2.1,()) hs.trays hs.chutes hs.bags hs.wants hs.told
 have h4:=laws_toStore_f hk (x.2.2.2.2.2.2.2.2.2.2.2.2.1,x.2.2.2.2.2.2.2.2.2.2.2.2.2.1,()) hs.lanes hs.kept
 simp (disch:=omega) only [lett_e,bnd_s,bnd_chk,br_not,br_t,br_f,br_T,br_F,not_true_eq_false,not_false_eq_true,chk_T,chk_F,chk_eq,eqI_dc,ltI_dc,leI_dc,eqN_dc,notB_dc,andB_dc,andB_t,eqB_dc,notB_t,notB_f,inR_dc,upR_dc,ln_e,app_e,tk_e,dp_e,upd_e,repl_e,natI_n,br_pos,br_neg,addI_n,fitN_T,h1,laws_toLimits_f,h2,h3,h4,laws_toNoteS_f hk _ hs.notes,laws_toFlightS_f hk _ hs.flights,laws_toCaseS_f hk _ hs.cases_]
theorem laws_eqHall_f {k:Nat} (hk:K0≤k) (x:HallT) (hs:SzH x):laws_eqHall.f k x x=chkP True:=by
 unfold laws_eqHall.f
 have h1:=laws_eqPolicy_f hk (x.2.1,()) hs.wait
 have h2:=laws_eqBelt_f hk (x.2.2.2.2.1,x.2.2.2.2.2.1,x.2.2.2.2.2.2.1,x.2.2.2.2.2.2.2.1,()) hs.items
 have h3:=laws_eqLoop_f hk (x.2.2.2.2.2.2.2.2.1,x.2.2.2.2.2.2.2.2.2.1,x.2.2.2.2.2.2.2.2.2.2.1,x.2.2.2.2.2.2.2.2.2.2.2.1,()) hs.trays hs.chutes hs.bags hs.wants hs.told
 have h4:=laws_eqStore_f hk (x.2.2.2.2.2.2.2.2.2.2.2.2.1,x.2.2.2.2.2.2.2.2.2.2.2.2.2.1,()) hs.lanes hs.kept
 simp (disch:=omega) only [lett_e,bnd_s,bnd_chk,br_not,br_t,br_f,br_T,br_F,not_true_eq_false,not_false_eq_true,chk_T,chk_F,chk_eq,eqI_dc,ltI_dc,leI_dc,eqN_dc,notB_dc,andB_dc,andB_t,eqB_dc,notB_t,notB_f,inR_dc,upR_dc,ln_e,app_e,tk_e,dp_e,upd_e,repl_e,natI_n,br_pos,br_neg,addI_n,fitN_T,h1,laws_eqLimits_f,h2,h3,h4,laws_eqNoteS_f hk _ hs.notes,laws_eqFlightS_f hk _ hs.flights,laws_eqCaseS_f hk _ hs.cases_]
end Go.Proofs.YtpmjopbgccajgaaGreat.Eng
namespace Go.Proofs.YtpmjopbgccajgaaGreat.Eng
theorem laws_szIntS_f (k:Nat) (l:List (Int×Unit)) (n:Int) (hn:0≤n∧n≤1048576) (hl:l.length≤9223372036854775807):Szr (laws_szIntS.f k l n) n l.length:=szr_flat hn hl
theorem laws_szItemS_f (k:Nat) (l:List Item) (n:Int) (hn:0≤n∧n≤1048576) (hl:l.length≤9223372036854775807):Szr (laws_szItemS.f k l n) n l.length:=szr_flat hn hl
theorem laws_szKeptS_f (k:Nat) (l:List Kept) (n:Int) (hn:0≤n∧n≤1048576) (hl:l.length≤9223372036854775807):Szr (laws_szKeptS.f k l n) n l.length:=szr_flat hn hl
theorem laws_szNoteS_f (k:Nat) (l:List NoteT) (n:Int) (hn:0≤n∧n≤1048576) (hl:l.length≤9223372036854775807):Szr (laws_szNoteS.f k l n) n l.length:=szr_flat hn hl
theorem laws_szFlightS_f (k:Nat) (l:List FlightT) (n:Int) (hn:0≤n∧n≤1048576) (hl:l.length≤9223372036854775807):Szr (laws_szFlightS.f k l n) n l.length:=szr_flat hn hl
theorem laws_szCaseS_f (k:Nat) (l:List CaseT) (n:Int) (hn:0≤n∧n≤1048576) (hl:l.length≤9223372036854775807):Szr (laws_szCaseS.f k l n) n l.length:=szr_flat hn hl
theorem szr_one {f:Option (Int×Unit)} {n:Int} {s:Nat} (hf:Szr f n s):Szr (bnd f fun y=>br (ltI y.1 0) (some (-1,())) (some (y.1,()))) n (s+0):=szr_bnd hf (fun m h _ _=>szr_end h)
theorem laws_szPolicy_f (k:Nat) (x:List (Int×Unit)×Unit) (n:Int) (hn:0≤n∧n≤1048576) (hl:x.1.length≤9223372036854775807):Szr (laws_szPolicy.f k x n) n (x.1.length+0):=szr_one (laws_szIntS_f k _ n hn hl)
theorem laws_szBelt_f (k:Nat) (x:Int×Int×Bool×List Item×Unit) (n:Int) (hn:0≤n∧n≤1048576) (hl:x.2.2.2.1.length≤9223372036854775807):Szr (laws_szBelt.f k x n) n (x.2.2.2.1.length+0):=szr_one (laws_szItemS_f k _ n hn hl)
theorem laws_szChute_f (k:Nat) (x:Chute) (n:Int) (hn:0≤n∧n≤1048576) (hl:x.2.2.1.length≤9223372036854775807):Szr (laws_szChute.f k x n) n (x.2.2.1.length+0):=szr_one (laws_szIntS_f k _ n hn hl)
theorem laws_szWant_f (k:Nat) (x:Want) (n:Int) (hn:0≤n∧n≤1048576) (hl:x.2.1.length≤9223372036854775807):Szr (laws_szWant.f k x n) n (x.2.1.length+0):=szr_one (laws_szIntS_f k _ n hn hl)
theorem szr_use {f:Option (Int×Unit)} {m:Int} {s:Nat} (hf:Szr f m s) (hm:0≤m) {R:Type} (a:Option R) (b:Int→Option R):(bnd f fun y=>br (ltI y.1 0) a (b y.1))=br (dc (0≤m-s)) (b (m-s)) a:=by
 obtain⟨r,e,⟨h1,h2⟩|⟨h1,h2⟩⟩:=hf
 ·rw [e,h1];simp (disch:=omega) only [lett_e,bnd_s,bnd_chk,br_not,br_t,br_f,br_T,br_F,not_true_eq_false,not_false_eq_true,chk_T,chk_F,chk_eq,eqI_dc,ltI_dc,leI_dc,eqN_dc,notB_dc,andB_dc,andB_t,eqB_dc,notB_t,notB_f,inR_dc,upR_dc,ln_e,app_e,tk_e,dp_e,upd_e,repl_e,natI_n,br_pos,br_neg,addI_n,fitN_T]
 ·rw [e,h1];simp (disch:=omega) only [lett_e,bnd_s,bnd_chk,br_not,br_t,br_f,br_T,br_F,not_true_eq_false,not_false_eq_true,chk_T,chk_F,chk_eq,eqI_dc,ltI_dc,leI_dc,eqN_dc,notB_dc,andB_dc,andB_t,eqB_dc,notB_t,notB_f,inR_dc,upR_dc,ln_e,app_e,tk_e,dp_e,upd_e,repl_e,natI_n,br_pos,br_neg,addI_n,fitN_T]
theorem laws_szChuteS_f {k:Nat} (hk:K0≤k) (l:List Chute) (n:Int) (hn:0≤n∧n≤1048576) (hl:l.length≤9223372036854775807) (hb:∀c∈l,c.2.2.1.length≤9223372036854775807):Szr (laws_szChuteS.f k l n) n (l.length+(inCh l).length):=by
 unfold laws_szChuteS.f
 refine szr_loop (d:=(0,0,[],())) hk hn hl (fun l=>(inCh l).length) rfl (fun c=>c.2.2.1.length+0) (fun i hi=>by rw [inCh_s hi,List.length_append,Nat.add_zero]) (fun i m rec hi hl2 hm=> ?_) (fun m rec=>by simp (disch:=omega) only [lett_e,bnd_s,bnd_chk,br_not,br_t,br_f,br_T,br_F,not_true_eq_false,not_false_eq_true,chk_T,chk_F,chk_eq,eqI_dc,ltI_dc,leI_dc,eqN_dc,notB_dc,andB_dc,andB_t,eqB_dc,notB_t,notB_f,inR_dc,upR_dc,ln_e,app_e,tk_e,dp_e,upd_e,repl_e,natI_n,br_pos,br_neg,addI_n,fitN_T])
 have h1:=laws_szChute_f k (rdP (0,0,[],()) l i) m hm (hb _ (rd_mem hi))
 have h2:=szr_use h1 hm.1 (some (-1,())) (fun r=>rec (r,((i+1:Nat):Int),()))
 rw [←h2]
 simp (disch:=omega) only [lett_e,bnd_s,bnd_chk,br_not,br_t,br_f,br_T,br_F,not_true_eq_false,not_false_eq_true,chk_T,chk_F,chk_eq,eqI_dc,ltI_dc,leI_dc,eqN_dc,notB_dc,andB_dc,andB_t,eqB_dc,notB_t,notB_f,inR_dc,upR_dc,ln_e,app_e,tk_e,dp_e,upd_e,repl_e,natI_n,br_pos,br_neg,addI_n,fitN_T]
 rfl
def toldW (l:List Want):List (Int×Unit):=l.flatMap fun c=>c.2.1
theorem toldW_s {l:List Want} {i:Nat} (h:i<l.length):toldW (l.take (i+1))=toldW (l.take i)++(rdP (0,[],()) l i).2.1:=by
 rw [take_s (d:=(0,[],())) h,toldW,List.flatMap_append];simp [toldW]
theorem laws_szWantS_f {k:Nat} (hk:K0≤k) (l:List Want) (n:Int) (hn:0≤n∧n≤1048576) (hl:l.length≤9223372036854775807) (hb:∀c∈l,c.2.1.length≤9223372036854775807):Szr (laws_szWantS.f k l n) n (l.length+(toldW l).length):=by
 unfold laws_szWantS.f
 refine szr_loop (d:=(0,[],())) hk hn hl (fun l=>(toldW l).length) rfl (fun c=>c.2.1.length+0) (fun i hi=>by rw [toldW_s hi,List.length_append,Nat.add_zero]) (fun i m rec hi hl2 hm=> ?_) (fun m rec=>by simp (disch:=omega) only [lett_e,bnd_s,bnd_chk,br_not,br_t,br_f,br_T,br_F,not_true_eq_false,not_false_eq_true,chk_T,chk_F,chk_eq,eqI_dc,ltI_dc,leI_dc,eqN_dc,notB_dc,andB_dc,andB_t,eqB_dc,notB_t,notB_f,inR_dc,upR_dc,ln_e,app_e,tk_e,dp_e,upd_e,repl_e,natI_n,br_pos,br_neg,addI_n,fitN_T])
 have h1:=laws_szWant_f k (rdP (0,[],()) l i) m hm (hb _ (rd_mem hi))
 have h2:=szr_use h1 hm.1 (some (-1,())) (fun r=>rec (r,((i+1:Nat):Int),()))
 rw [←h2]
 simp (disch:=omega) only [lett_e,bnd_s,bnd_chk,br_not,br_t,br_f,br_T,br_F,not_true_eq_false,not_false_eq_true,chk_T,chk_F,chk_eq,eqI_dc,ltI_dc,leI_dc,eqN_dc,notB_dc,andB_dc,andB_t,eqB_dc,notB_t,notB_f,inR_dc,upR_dc,ln_e,app_e,tk_e,dp_e,upd_e,repl_e,natI_n,br_pos,br_neg,addI_n,fitN_T]
 rfl
theorem laws_szKeptSS_f {k:Nat} (hk:K0≤k) (l:List (List Kept×Unit)) (n:Int) (hn:0≤n∧n≤1048576) (hl:l.length≤9223372036854775807) (hb:∀c∈l,c.1.length≤9223372036854775807):Szr (laws_szKeptSS.f k l n) n (l.length+(bagsS l).length):=by
 unfold laws_szKeptSS.f
 refine szr_loop (d:=([],())) hk hn hl (fun l=>(bagsS l).length) rfl (fun c=>c.1.length) (fun i hi=>by rw [bagsS_s hi,List.length_append,bagsK,List.length_map]) (fun i m rec hi hl2 hm=> ?_) (fun m rec=>by simp (disch:=omega) only [lett_e,bnd_s,bnd_chk,br_not,br_t,br_f,br_T,br_F,not_true_eq_false,not_false_eq_true,chk_T,chk_F,chk_eq,eqI_dc,ltI_dc,leI_dc,eqN_dc,notB_dc,andB_dc,andB_t,eqB_dc,notB_t,notB_f,inR_dc,upR_dc,ln_e,app_e,tk_e,dp_e,upd_e,repl_e,natI_n,br_pos,br_neg,addI_n,fitN_T])
 have h1:=laws_szKeptS_f k (rdP ([],()) l i).1 m hm (hb _ (rd_mem hi))
 have h2:=szr_use h1 hm.1 (some (-1,())) (fun r=>rec (r,((i+1:Nat):Int),()))
 rw [←h2]
 simp (disch:=omega) only [lett_e,bnd_s,bnd_chk,br_not,br_t,br_f,br_T,br_F,not_true_eq_false,not_false_eq_true,chk_T,chk_F,chk_eq,eqI_dc,ltI_dc,leI_dc,eqN_dc,notB_dc,andB_dc,andB_t,eqB_dc,notB_t,notB_f,inR_dc,upR_dc,ln_e,app_e,tk_e,dp_e,upd_e,repl_e,natI_n,br_pos,br_neg,addI_n,fitN_T]
 rfl
theorem laws_szLoop_f {k:Nat} (hk:K0≤k) (x:LoopT) (n:Int) (hn:0≤n∧n≤1048576) (h1:x.1.length≤9223372036854775807) (h2:x.2.2.1.length≤9223372036854775807) (h3:∀c∈x.2.2.1,c.2.2.1.length≤9223372036854775807) (h4:x.2.2.2.1.length≤9223372036854775807) (h5:∀c∈x.2.2.2.1,c.2.1.length≤9223372036854775807):
  Szr (laws_szLoop.f k x n) n (x.1.length+((x.2.2.1.length+(inCh x.2.2.1).length)+((x.2.2.2.1.length+(toldW x.2.2.2.1).length)+0))):=
 szr_bnd (laws_szIntS_f k _ n hn h1) fun m a b _=>szr_bnd (laws_szChuteS_f hk _ m ⟨a,by omega⟩ h2 h3) fun m a b _=>szr_bnd (laws_szWantS_f hk _ m ⟨a,by omega⟩ h4 h5) fun m a b _=>szr_end a
theorem laws_szStore_f {k:Nat} (hk:K0≤k) (x:StoreT) (n:Int) (hn:0≤n∧n≤1048576) (h1:x.2.1.length≤9223372036854775807) (h2:∀c∈x.2.1,c.1.length≤9223372036854775807):Szr (laws_szStore.f k x n) n ((x.2.1.length+(bagsS x.2.1).length)+0):=
 szr_one (laws_szKeptSS_f hk _ n hn h1 h2)
structure BigH (x:HallT):Prop where
 wait:x.2.1.length≤9223372036854775807
 items:x.2.2.2.2.2.2.2.1.length≤9223372036854775807
 trays:x.2.2.2.2.2.2.2.2.1.length≤9223372036854775807
 chutes:x.2.2.2.2.2.2.2.2.2.2.1.length≤9223372036854775807
 bags:∀c∈x.2.2.2.2.2.2.2.2.2.2.1,c.2.2.1.length≤9223372036854775807
 wants:x.2.2.2.2.2.2.2.2.2.2.2.1.length≤9223372036854775807
 told:∀w∈x.2.2.2.2.2.2.2.2.2.2.2.1,w.2.1.length≤9223372036854775807
 lanes:x.2.2.2.2.2.2.2.2.2.2.2.2.2.1.length≤9223372036854775807
 kept:∀l∈x.2.2.2.2.2.2.2.2.2.2.2.2.2.1,l.1.length≤9223372036854775807
 notes:x.2.2.2.2.2.2.2.2.2.2.2.2.2.2.1.length≤9223372036854775807
 flights:x.2.2.2.2.2.2.2.2.2.2.2.2.2.2.2.1.length≤9223372036854775807
 cases_:x.2.2.2.2.2.2.2.2.2.2.2.2.2.2.2.2.1.length≤9223372036854775807
theorem mem_flat_len {α β:Type} {f:α→List β} {l:List α} {c:α} (h:c∈l):(f c).length≤(l.flatMap f).length:=by
 induction l with
 |nil=>cases h
 |cons a l ih=>
  rw [List.flatMap_cons,List.length_append]
  rcases List.mem_cons.1 h with e|h
  ·subst e;omega
  ·have:=ih h;omega
theorem laws_szHall_f {k:Nat} (hk:K0≤k) (x:HallT) (hb:BigH x) (n:Int) (hn:0≤n∧n≤1048576):∃r:Int,laws_szHall.f k x n=some (r,())∧(r<0∨SzT x):=by
 have h:Szr (laws_szHall.f k x n) n ((x.2.1.length+0)+((x.2.2.2.2.2.2.2.1.length+0)+((x.2.2.2.2.2.2.2.2.1.length+((x.2.2.2.2.2.2.2.2.2.2.1.length+(inCh x.2.2.2.2.2.2.2.2.2.2.1).length)+((x.2.2.2.2.2.2.2.2.2.2.2.1.length+(toldW x.2.2.2.2.2.2.2.2.2.2.2.1).length)+0)))+(((x.2.2.2.2.2.2.2.2.2.2.2.2.2.1.length+(bagsS x.2.2.2.2.2.2.2.2.2.2.2.2.2.1).length)+0)+(x.2.2.2.2.2.2.2.2.2.2.2.2.2.2.1.length+(x.2.2.2.2.2.2.2.2.2.2.2.2.2.2.2.1.length+(x.2.2.2.2.2.2.2.2.2.2.2.2.2.2.2.2.1.length+0))))))):=
  szr_bnd (laws_szPolicy_f k (x.2.1,()) n hn hb.wait) fun m a b _=>szr_bnd (laws_szBelt_f k (x.2.2.2.2.1,x.2.2.2.2.2.1,x.2.2.2.2.2.2.1,x.2.2.2.2.2.2.2.1,()) m ⟨a,by omega⟩ hb.items) fun m a b _=>
  szr_bnd (laws_szLoop_f hk (x.2.2.2.2.2.2.2.2.1,x.2.2.2.2.2.2.2.2.2.1,x.2.2.2.2.2.2.2.2.2.2.1,x.2.2.2.2.2.2.2.2.2.2.2.1,()) m ⟨a,by omega⟩ hb.trays hb.chutes hb.bags hb.wants hb.told) fun m a b _=>
  szr_bnd (laws_szStore_f hk (x.2.2.2.2.2.2.2.2.2.2.2.2.1,x.2.2.2.2.2.2.2.2.2.2.2.2.2.1,()) m ⟨a,by omega⟩ hb.lanes hb.kept) fun m a b _=>szr_bnd (laws_szNoteS_f k _ m ⟨a,by omega⟩ hb.notes) fun m a b _=>
  szr_bnd (laws_szFlightS_f k _ m ⟨a,by omega⟩ hb.flights) fun m a b _=>szr_bnd (laws_szCaseS_f k _ m ⟨a,by omega⟩ hb.cases_) fun m a b _=>szr_end a
 obtain⟨r,e,⟨h1,_⟩|⟨h1,h2⟩⟩:=h
 ·exact⟨r,e,.inl (by omega)⟩
 ·refine⟨r,e,.inr ?_⟩
  have hnz:=nz_len x.2.2.2.2.2.2.2.2.1
  refine { wait:=by omega,items:=by omega,trays:=by omega,chutes:=by omega,bags:=fun c hc=> ?_,wants:=by omega,told:=fun c hc=> ?_,lanes:=by omega,kept:=fun c hc=> ?_,notes:=by omega,flights:=by omega,cases_:=by omega,allBags:=by omega,allKept:=by omega }
  ·have:c.2.2.1.length≤(inCh x.2.2.2.2.2.2.2.2.2.2.1).length:=mem_flat_len (f:=fun c:Chute=>c.2.2.1) hc
   omega
  ·have:c.2.1.length≤(toldW x.2.2.2.2.2.2.2.2.2.2.2.1).length:=mem_flat_len (f:=fun c:Want=>c.2.1) hc
   omega
  ·have:(bagsK c.1).length≤(bagsS x.2.2.2.2.2.2.2.2.2.2.2.2.2.1).length:=mem_flat_len (f:=fun c:List Kept×Unit=>bagsK c.1) hc
   simp only [bagsK,List.length_map]at this
   omega
theorem big_wf {x:HallT} (h:Wf K42 x):BigH x:=by
 obtain⟨_,⟨h1,_⟩,_,_,_,_,_,⟨h2,_⟩,⟨h3,_⟩,_,⟨h4,h5⟩,⟨h6,h7⟩,_,⟨h8,h9⟩,⟨h10,_⟩,⟨h11,_⟩,⟨h12,_⟩,_⟩:=h
 exact⟨maxLen_le h1,maxLen_le h2,maxLen_le h3,maxLen_le h4,fun c hc=>maxLen_le (h5 c hc).2.2.1.1,maxLen_le h6,fun c hc=>maxLen_le (h7 c hc).2.1.1,maxLen_le h8,fun c hc=>maxLen_le (h9 c hc).1.1,maxLen_le h10,maxLen_le h11,maxLen_le h12⟩
end Go.Proofs.YtpmjopbgccajgaaGreat.Eng
