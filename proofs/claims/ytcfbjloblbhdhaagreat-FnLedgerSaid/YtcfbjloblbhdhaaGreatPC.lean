/- Pure laws: PBelt, PNote, PScreen, PNew, PLoop, PWant, PStore, PPut, PTake, PTake2, PFly, PDrop, PDep, PHall, PMove, PDec. No condition. -/
import Derived.Test.YtcfbjloblbhdhaaGreatPA
import Derived.Test.YtcfbjloblbhdhaaGreatD
import Derived.Test.YtcfbjloblbhdhaaGreatPB
set_option linter.unusedVariables false
set_option linter.unusedSimpArgs false
namespace Go.Proofs.YtcfbjloblbhdhaaGreat.Eng
theorem copy_loop {α R:Type} {d:α} {k:Nat} (hk:K0≤k) (l:List α) (hl:l.length≤1048576) {F:(List α×Int×Unit→Option R)→List α×Int×Unit→Option R} {r:Option R}
  (hF:∀(i:Nat) rec,i<l.length→(l.take i).length≤1048576→F rec (l.take i,(i:Int),())=rec (l.take i++[rdP d l i],((i+1:Nat):Int),())) (hE:∀rec,F rec (l,(l.length:Int),())=r):loopN F k ([],0,())=r:=by
 unfold K0 at hk
 refine loop_run (n:=l.length) (fun i=>(l.take i,(i:Int),())) (by simp) (fun i hi rec=> ?_) (fun rec=>by rw [List.take_length];exact hE rec) (by omega)
 rw [hF i rec hi (by rw [List.length_take];omega),take_s (d:=d) hi]
theorem lt_t {α R:Type} {l:List α} {i:Nat} (h:i<l.length) (A B:Option R):br (ltI (i:Int) (ln l)) A B=A:=by rw [ltI_dc,ln_e,br_pos (by omega)]
theorem lt_e {α R:Type} {l:List α} (A B:Option R):br (ltI (l.length:Int) (ln l)) A B=B:=by rw [ltI_dc,ln_e,br_neg (by omega)]
abbrev BeltT:=Int×Int×Bool×List Item×Unit
theorem spec_l02Fresh_f (k:Nat) (b:BeltT) (h:b.2.2.2.1.length≤1048576):spec_l02Fresh.f k b=some (b,()):=by
 unfold spec_l02Fresh.f
 simp (disch:=omega) only [lett_e,bnd_s,bnd_chk,br_not,br_t,br_f,br_T,br_F,not_true_eq_false,not_false_eq_true,chk_T,chk_F,chk_eq,eqI_dc,ltI_dc,leI_dc,eqN_dc,notB_dc,andB_dc,andB_t,eqB_dc,notB_t,notB_f,inR_dc,upR_dc,ln_e,app_e,tk_e,dp_e,upd_e,repl_e,natI_n,br_pos,br_neg,addI_n,fitN_T,fit0 h,List.nil_append]
def BeltS (b:BeltT):Prop:=b.2.2.2.1.length≤1048576
theorem beltP_s {b:BeltT} (h:BeltP b):BeltS b:=Nat.le_trans h.2.2.1 (by omega)
theorem br_tt {α:Type} {c:Bool} (h:c=true) (a b:Option α):br c a b=a:=by subst h;rfl
theorem br_ff {α:Type} {c:Bool} (h:c=false) (a b:Option α):br c a b=b:=by subst h;rfl
noncomputable def leaveOk (b:BeltT):Prop:=BeltP b∧b.2.2.1=false∧b.2.2.2.1≠[]∧b.1≤(rdP (0,0,0,()) b.2.2.2.1 0).2.1
noncomputable def leaveM (b:BeltT):BeltT×Int×Bool×Unit:= @ite _ (leaveOk b) (Classical.propDecidable _) ((b.1,b.2.1,b.2.2.1,b.2.2.2.1.drop 1,()),(rdP (0,0,0,()) b.2.2.2.1 0).1,true,()) (b,0,false,())
theorem rd_drop {α:Type} {d:α} {l:List α} (n i:Nat):rdP d (l.drop n) i=rdP d l (n+i):=by
 unfold rdP;simp [List.getD_eq_getElem?_getD]
theorem spec_Leave_f {k:Nat} (hk:K0≤k) (b:BeltT) (hs:BeltS b):spec_Leave.f k b=some (leaveM b):=by
 have h1:=spec_l02Fresh_f k b hs
 have h2:=spec_BeltOk_f hk b
 have hs':b.2.2.2.1.length≤1048576:=hs
 unfold spec_Leave.f
 rw [h1,bnd_s,h2,bnd_chk,br_not]
 by_cases hP:BeltP b
 case neg=>
  rw [br_neg hP,leaveM,if_neg (fun z=>hP z.1)]
 rw [br_pos hP]
 by_cases hh:b.2.2.1=true
 case pos=>
  rw [leaveM,if_neg (fun z=>absurd (z.2.1.symm.trans hh) (by simp))]
  dsimp only;rw [br_tt hh]
 have hh':b.2.2.1=false:=by cases e:b.2.2.1 with|true=>exact absurd e hh|false=>rfl
 dsimp only
 rw [br_ff hh']
 cases hl:b.2.2.2.1 with
 |nil=>
  rw [leaveM,if_neg (fun z=>z.2.2.1 hl)]
  simp (disch:=omega) only [lett_e,bnd_s,bnd_chk,br_not,br_t,br_f,br_T,br_F,not_true_eq_false,not_false_eq_true,chk_T,chk_F,chk_eq,eqI_dc,ltI_dc,leI_dc,eqN_dc,notB_dc,andB_dc,andB_t,eqB_dc,notB_t,notB_f,inR_dc,upR_dc,ln_e,app_e,tk_e,dp_e,upd_e,repl_e,natI_n,br_pos,br_neg,addI_n,fitN_T,hl,List.length_nil]
  rw [←hl]
 |cons y l=>
  rw [←hl]
  have hn:0<b.2.2.2.1.length:=by rw [hl];simp
  have hd:(b.2.2.2.1.drop 1).length≤1048576:=by rw [List.length_drop];omega
  by_cases hf:b.1≤(rdP (0,0,0,()) b.2.2.2.1 0).2.1
  ·rw [leaveM,if_pos ⟨hP,hh',by rw [hl];simp,hf⟩]
   have e0:natI 0=0:=rfl
   have e1:natI 1=1:=rfl
   simp (disch:=omega) only [lett_e,bnd_s,bnd_chk,br_not,br_t,br_f,br_T,br_F,not_true_eq_false,not_false_eq_true,chk_T,chk_F,chk_eq,eqI_dc,ltI_dc,leI_dc,eqN_dc,notB_dc,andB_dc,andB_t,eqB_dc,notB_t,notB_f,inR_dc,upR_dc,ln_e,app_e,tk_e,dp_e,upd_e,repl_e,natI_n,br_pos,br_neg,addI_n,fitN_T,e0,e1,fit0 hd,List.nil_append]
  ·rw [leaveM,if_neg (fun z=>hf z.2.2.2)]
   have e0:natI 0=0:=rfl
   simp (disch:=omega) only [lett_e,bnd_s,bnd_chk,br_not,br_t,br_f,br_T,br_F,not_true_eq_false,not_false_eq_true,chk_T,chk_F,chk_eq,eqI_dc,ltI_dc,leI_dc,eqN_dc,notB_dc,andB_dc,andB_t,eqB_dc,notB_t,notB_f,inR_dc,upR_dc,ln_e,app_e,tk_e,dp_e,upd_e,repl_e,natI_n,br_pos,br_neg,addI_n,fitN_T,e0]
theorem leave_ok {b:BeltT} (h:BeltP b):BeltP (leaveM b).1:=by
 unfold leaveM
 split
 case isFalse=>exact h
 case isTrue hk=>
  obtain⟨h1,h2,h3,h4⟩:=h
  refine⟨h1,h2,by simp only [List.length_drop];omega,fun i hi=> ?_⟩
  simp only [List.length_drop]at hi
  obtain⟨a1,a2,a3,a4,a5⟩:=h4 (1+i) (by omega)
  unfold ItemP
  simp only [rd_drop]
  refine⟨a1,a2,a3,fun j hj=>a4 (1+j) (by omega),fun h0=> ?_⟩
  have:=a5 (by omega)
  rw [show 1+(i-1)=1+i-1 by omega]
  exact this
def stepI (most:Int) (x:Item):Item:=(x.1,if x.2.1<most then x.2.1+1 else x.2.1,x.2.2.1,())
def stepF (gap:Int):Int→List Item→List Item
 |_,[]=>[]
 |most,x::xs=>stepI most x::stepF gap ((stepI most x).2.1-(stepI most x).2.2.1-gap) xs
theorem stepF_len (g:Int):∀(l:List Item) (m:Int),(stepF g m l).length=l.length
 | [],_=>rfl
 |x::xs,m=>by simp [stepF,stepF_len g xs]
theorem rd_cons {α:Type} {d x:α} {l:List α} (i:Nat):rdP d (x::l) (i+1)=rdP d l i:=by unfold rdP;simp
theorem rd_cons0 {α:Type} {d x:α} {l:List α}:rdP d (x::l) 0=x:=by unfold rdP;simp
theorem stepF_0 (g m:Int) {l:List Item} (h:0<l.length):rdP (0,0,0,()) (stepF g m l) 0=stepI m (rdP (0,0,0,()) l 0):=by
 cases l with
 |nil=>cases h
 |cons x xs=>rw [stepF,rd_cons0,rd_cons0]
theorem stepF_s (g:Int):∀(l:List Item) (m:Int) (i:Nat),i+1<l.length→rdP (0,0,0,()) (stepF g m l) (i+1)=stepI ((rdP (0,0,0,()) (stepF g m l) i).2.1-(rdP (0,0,0,()) (stepF g m l) i).2.2.1-g) (rdP (0,0,0,()) l (i+1))
 | [],_,_,h=>absurd h (by simp)
 |x::xs,m,0,h=>by
  rw [stepF,rd_cons,rd_cons,rd_cons0]
  exact stepF_0 g _ (by simpa using h)
 |x::xs,m,i+1,h=>by
  rw [stepF,rd_cons,rd_cons,rd_cons]
  exact stepF_s g xs _ i (by simpa using h)
def stepB (b:BeltT):BeltT:=(b.1,b.2.1,b.2.2.1,stepF b.2.1 b.1 b.2.2.2.1,())
theorem step_at {b:BeltT} (h:BeltP b):∀i,i<b.2.2.2.1.length→((rdP (0,0,0,()) (stepB b).2.2.2.1 i).1=(rdP (0,0,0,()) b.2.2.2.1 i).1∧(rdP (0,0,0,()) (stepB b).2.2.2.1 i).2.2.1=(rdP (0,0,0,()) b.2.2.2.1 i).2.2.1)∧(rdP (0,0,0,()) b.2.2.2.1 i).2.1≤(rdP (0,0,0,()) (stepB b).2.2.2.1 i).2.1∧(rdP (0,0,0,()) (stepB b).2.2.2.1 i).2.1≤b.1∧
  (0<i→(rdP (0,0,0,()) (stepB b).2.2.2.1 i).2.1≤(rdP (0,0,0,()) (stepB b).2.2.2.1 (i-1)).2.1-(rdP (0,0,0,()) (stepB b).2.2.2.1 (i-1)).2.2.1-b.2.1):=by
 intro i
 obtain⟨h1,h2,h3,h4⟩:=h
 induction i with
 |zero=>
  intro hi
  obtain⟨a1,a2,a3,a4,a5⟩:=h4 0 hi
  have e:rdP (0,0,0,()) (stepB b).2.2.2.1 0=stepI b.1 (rdP (0,0,0,()) b.2.2.2.1 0):=stepF_0 _ _ hi
  rw [e]
  unfold stepI
  refine⟨⟨rfl,rfl⟩,?_,?_,fun h=>absurd h (by omega)⟩
  ·dsimp only;split<;>omega
  ·dsimp only;split<;>omega
 |succ i ih=>
  intro hi
  obtain⟨⟨b1,b2⟩,b3,b4,_⟩:=ih (by omega)
  obtain⟨a1,a2,a3,a4,a5⟩:=h4 (i+1) hi
  obtain⟨c1,c2,c3,c4,c5⟩:=h4 i (by omega)
  have a6:=a5 (by omega)
  rw [show i+1-1=i by omega]at a6
  have e:rdP (0,0,0,()) (stepB b).2.2.2.1 (i+1)=stepI ((rdP (0,0,0,()) (stepB b).2.2.2.1 i).2.1-(rdP (0,0,0,()) (stepB b).2.2.2.1 i).2.2.1-b.2.1) (rdP (0,0,0,()) b.2.2.2.1 (i+1)):=stepF_s _ _ _ i hi
  rw [show i+1-1=i by omega,e]
  unfold stepI
  refine⟨⟨rfl,rfl⟩,?_,?_,fun _=> ?_⟩
  ·dsimp only;split<;>omega
  ·dsimp only;split<;>omega
  ·dsimp only;split<;>omega
theorem step_ok {b:BeltT} (h:BeltP b):BeltP (stepB b):=by
 have key:=step_at h
 obtain⟨h1,h2,h3,h4⟩:=h
 have hlen:(stepB b).2.2.2.1.length=b.2.2.2.1.length:=stepF_len _ _ _
 refine⟨h1,h2,by rw [hlen];exact h3,fun i hi=> ?_⟩
 rw [hlen]at hi
 obtain⟨⟨b1,b2⟩,b3,b4,b5⟩:=key i hi
 obtain⟨a1,a2,a3,a4,a5⟩:=h4 i hi
 refine⟨by rw [b1];exact a1,by rw [b2];exact a2,⟨by rw [b2];omega,b4⟩,fun j hj=> ?_,b5⟩
 rw [b1,(key j (by omega)).1.1]
 exact a4 j hj
theorem rd_app_r {α:Type} {d:α} {l m:List α} {i:Nat} (h:l.length≤i):rdP d (l++m) i=rdP d m (i-l.length):=by
 unfold rdP;simp [List.getD_eq_getElem?_getD,List.getElem?_append_right h]
theorem rd_app_l {α:Type} {d:α} {l m:List α} {i:Nat} (h:i<l.length):rdP d (l++m) i=rdP d l i:=by
 unfold rdP;simp [List.getD_eq_getElem?_getD,List.getElem?_append_left h]
theorem rd_take {α:Type} {d:α} {l:List α} {n i:Nat} (h:i<n):rdP d (l.take n) i=rdP d l i:=by
 unfold rdP;simp [List.getD_eq_getElem?_getD,List.getElem?_take,h]
def half {α:Type} (l m:List α) (i:Nat):List α:=m.take i++l.drop i
theorem half_len {α:Type} {l m:List α} (h:m.length=l.length) (i:Nat) (hi:i≤l.length):(half l m i).length=l.length:=by
 simp [half];omega
theorem half_at {α:Type} {d:α} {l m:List α} (h:m.length=l.length) {i:Nat} (hi:i<l.length):rdP d (half l m i) i=rdP d l i:=by
 have hl:(m.take i).length=i:=by rw [List.length_take];omega
 rw [half,rd_app_r (by omega),hl,rd_drop]
 congr 1;omega
theorem half_before {α:Type} {d:α} {l m:List α} (h:m.length=l.length) {i j:Nat} (hi:i≤l.length) (hj:j<i):rdP d (half l m i) j=rdP d m j:=by
 have hl:(m.take i).length=i:=by rw [List.length_take];omega
 rw [half,rd_app_l (by omega),rd_take hj]
theorem half_set {α:Type} {d:α} {l m:List α} (h:m.length=l.length) {i:Nat} (hi:i<l.length):(half l m i).set i (rdP d m i)=half l m (i+1):=by
 have hl:(m.take i).length=i:=by rw [List.length_take];omega
 unfold half
 rw [List.set_append_right _ _ (by omega),hl,Nat.sub_self,take_s (d:=d) (by omega),List.append_assoc]
 congr 1
 rw [List.drop_eq_getElem_cons hi]
 rfl
theorem half_end {α:Type} {l m:List α} (h:m.length=l.length):half l m l.length=m:=by
 unfold half;rw [←h,List.take_length,h,List.drop_length,List.append_nil]
theorem spec_l02Step_f {k:Nat} (hk:K0≤k) (b:BeltT) (h:BeltP b):spec_l02Step.f k b=some (stepB b,()):=by
 have key:=step_at h
 obtain⟨h1,h2,h3,h4⟩:=h
 unfold K0 at hk
 have hlen:(stepB b).2.2.2.1.length=b.2.2.2.1.length:=stepF_len _ _ _
 unfold spec_l02Step.f
 rw [fit0 (by omega),br_t,lett_e,app_e,List.nil_append]
 refine loop_run (n:=b.2.2.2.1.length) (fun i=>(half b.2.2.2.1 (stepB b).2.2.2.1 i,(i:Int),())) (by simp [half]) (fun i hi rec=> ?_) (fun rec=> ?_) (by omega)
 ·have hl:=half_len hlen i (by omega)
  have ha:=half_at (d:=(0,0,0,())) hlen hi
  have hst:=half_set (d:=(0,0,0,())) hlen hi
  obtain⟨⟨b1,b2⟩,b3,b4,b5⟩:=key i hi
  obtain⟨a1,a2,a3,a4,a5⟩:=h4 i hi
  rw [←hst]
  have same:∀y:Item,y=rdP (0,0,0,()) b.2.2.2.1 i→(half b.2.2.2.1 (stepB b).2.2.2.1 i).set i y=half b.2.2.2.1 (stepB b).2.2.2.1 i:=by
   rintro y rfl
   rw [←ha,rd_lt (by omega)]
   exact List.set_getElem_self _
  have hb:∀j,i=j+1→rdP (0,0,0,()) (half b.2.2.2.1 (stepB b).2.2.2.1 i) j=rdP (0,0,0,()) (stepB b).2.2.2.1 j:=fun j hj=>half_before hlen (by omega) (by omega)
  generalize half b.2.2.2.1 (stepB b).2.2.2.1 i=c at*
  cases i with
  |zero=>
   clear hb
   have hb:True:=trivial
   have e:rdP (0,0,0,()) (stepB b).2.2.2.1 0=stepI b.1 (rdP (0,0,0,()) b.2.2.2.1 0):=stepF_0 _ _ hi
   by_cases hlt:(rdP (0,0,0,()) b.2.2.2.1 0).2.1<b.1
   ·have e2:rdP (0,0,0,()) (stepB b).2.2.2.1 0=((rdP (0,0,0,()) b.2.2.2.1 0).1,(rdP (0,0,0,()) b.2.2.2.1 0).2.1+1,(rdP (0,0,0,()) b.2.2.2.1 0).2.2):=by rw [e,stepI,if_pos hlt]
    rw [e2]
    simp (disch:=omega) only [lett_e,bnd_s,bnd_chk,br_not,br_t,br_f,br_T,br_F,not_true_eq_false,not_false_eq_true,chk_T,chk_F,chk_eq,eqI_dc,ltI_dc,leI_dc,eqN_dc,notB_dc,andB_dc,andB_t,eqB_dc,notB_t,notB_f,inR_dc,upR_dc,ln_e,app_e,tk_e,dp_e,upd_e,repl_e,natI_n,br_pos,br_neg,addI_n,fitN_T,hl,ha,hb,subI_nat,subI_id,addI_id]
    rfl
   ·rw [same _ (by rw [e,stepI,if_neg hlt])]
    simp (disch:=omega) only [lett_e,bnd_s,bnd_chk,br_not,br_t,br_f,br_T,br_F,not_true_eq_false,not_false_eq_true,chk_T,chk_F,chk_eq,eqI_dc,ltI_dc,leI_dc,eqN_dc,notB_dc,andB_dc,andB_t,eqB_dc,notB_t,notB_f,inR_dc,upR_dc,ln_e,app_e,tk_e,dp_e,upd_e,repl_e,natI_n,br_pos,br_neg,addI_n,fitN_T,hl,ha,hb,subI_nat,subI_id]
    rfl
  |succ i=>
   have hb:=hb i rfl
   have hn:natI (((i+1:Nat):Int)-1)=i:=by unfold natI;omega
   obtain⟨⟨k1,k2⟩,k3,k4,k5⟩:=key i (by omega)
   obtain⟨z1,z2,z3,z4,z5⟩:=h4 i (by omega)
   have e:rdP (0,0,0,()) (stepB b).2.2.2.1 (i+1)=stepI ((rdP (0,0,0,()) (stepB b).2.2.2.1 i).2.1-(rdP (0,0,0,()) (stepB b).2.2.2.1 i).2.2.1-b.2.1) (rdP (0,0,0,()) b.2.2.2.1 (i+1)):=stepF_s _ _ _ i hi
   by_cases hlt:(rdP (0,0,0,()) b.2.2.2.1 (i+1)).2.1<(rdP (0,0,0,()) (stepB b).2.2.2.1 i).2.1-(rdP (0,0,0,()) (stepB b).2.2.2.1 i).2.2.1-b.2.1
   ·have e2:rdP (0,0,0,()) (stepB b).2.2.2.1 (i+1)=((rdP (0,0,0,()) b.2.2.2.1 (i+1)).1,(rdP (0,0,0,()) b.2.2.2.1 (i+1)).2.1+1,(rdP (0,0,0,()) b.2.2.2.1 (i+1)).2.2):=by rw [e,stepI,if_pos hlt]
    rw [e2]
    simp (disch:=omega) only [lett_e,bnd_s,bnd_chk,br_not,br_t,br_f,br_T,br_F,not_true_eq_false,not_false_eq_true,chk_T,chk_F,chk_eq,eqI_dc,ltI_dc,leI_dc,eqN_dc,notB_dc,andB_dc,andB_t,eqB_dc,notB_t,notB_f,inR_dc,upR_dc,ln_e,app_e,tk_e,dp_e,upd_e,repl_e,natI_n,br_pos,br_neg,addI_n,fitN_T,hl,ha,hn,hb,subI_id,addI_id]
    rfl
   ·rw [same _ (by rw [e,stepI,if_neg hlt])]
    simp (disch:=omega) only [lett_e,bnd_s,bnd_chk,br_not,br_t,br_f,br_T,br_F,not_true_eq_false,not_false_eq_true,chk_T,chk_F,chk_eq,eqI_dc,ltI_dc,leI_dc,eqN_dc,notB_dc,andB_dc,andB_t,eqB_dc,notB_t,notB_f,inR_dc,upR_dc,ln_e,app_e,tk_e,dp_e,upd_e,repl_e,natI_n,br_pos,br_neg,addI_n,fitN_T,hl,ha,hn,hb,subI_id]
    rfl
 ·have:=half_end hlen
  rw [this]
  simp (disch:=omega) only [lett_e,bnd_s,bnd_chk,br_not,br_t,br_f,br_T,br_F,not_true_eq_false,not_false_eq_true,chk_T,chk_F,chk_eq,eqI_dc,ltI_dc,leI_dc,eqN_dc,notB_dc,andB_dc,andB_t,eqB_dc,notB_t,notB_f,inR_dc,upR_dc,ln_e,app_e,tk_e,dp_e,upd_e,repl_e,natI_n,br_pos,br_neg,addI_n,fitN_T,hlen]
  rfl
noncomputable def freeM (b:BeltT):Int:= @ite _ (BeltP b) (Classical.propDecidable _) (if b.2.2.2.1.length=0 then b.1 else maxI 0 ((rdP (0,0,0,()) b.2.2.2.1 (b.2.2.2.1.length-1)).2.1-(rdP (0,0,0,()) b.2.2.2.1 (b.2.2.2.1.length-1)).2.2.1-b.2.1)) (-1)
theorem spec_FreeBehind_f {k:Nat} (hk:K0≤k) (b:BeltT):spec_FreeBehind.f k b=some (freeM b,()):=by
 have h2:=spec_BeltOk_f hk b
 unfold spec_FreeBehind.f freeM
 rw [h2,bnd_chk,br_not]
 by_cases hP:BeltP b
 case neg=>rw [br_neg hP,if_neg hP]
 rw [br_pos hP,if_pos hP]
 obtain⟨h3,h4,h5,h6⟩:=hP
 by_cases h0:b.2.2.2.1.length=0
 ·rw [if_pos h0];simp (disch:=omega) only [lett_e,bnd_s,bnd_chk,br_not,br_t,br_f,br_T,br_F,not_true_eq_false,not_false_eq_true,chk_T,chk_F,chk_eq,eqI_dc,ltI_dc,leI_dc,eqN_dc,notB_dc,andB_dc,andB_t,eqB_dc,notB_t,notB_f,inR_dc,upR_dc,ln_e,app_e,tk_e,dp_e,upd_e,repl_e,natI_n,br_pos,br_neg,addI_n,fitN_T]
 ·rw [if_neg h0]
  obtain⟨a1,a2,a3,a4,a5⟩:=h6 (b.2.2.2.1.length-1) (by omega)
  have hn:natI ((b.2.2.2.1.length:Int)-1)=b.2.2.2.1.length-1:=by unfold natI;omega
  simp (disch:=omega) only [lett_e,bnd_s,bnd_chk,br_not,br_t,br_f,br_T,br_F,not_true_eq_false,not_false_eq_true,chk_T,chk_F,chk_eq,eqI_dc,ltI_dc,leI_dc,eqN_dc,notB_dc,andB_dc,andB_t,eqB_dc,notB_t,notB_f,inR_dc,upR_dc,ln_e,app_e,tk_e,dp_e,upd_e,repl_e,natI_n,br_pos,br_neg,addI_n,fitN_T,subI_id,hn]
noncomputable def enterOk (b:BeltT) (bag size:Int):Prop:=BeltP b∧1≤bag∧(1≤size∧size≤60)∧b.2.2.2.1.length<40∧size≤freeM b∧∀i,i<b.2.2.2.1.length→(rdP (0,0,0,()) b.2.2.2.1 i).1≠bag
noncomputable def enterM (b:BeltT) (bag size:Int):BeltT×Bool×Unit:= @ite _ (enterOk b bag size) (Classical.propDecidable _) ((b.1,b.2.1,b.2.2.1,b.2.2.2.1++[(bag,size,size,())],()),true,()) (b,false,())
theorem spec_Enter_f {k:Nat} (hk:K0≤k) (b:BeltT) (bag size:Int) (hs:BeltS b):spec_Enter.f k b bag size=some (enterM b bag size):=by
 have h1:=spec_l02Fresh_f k b hs
 have h2:=spec_BeltOk_f hk b
 have h3:=spec_FreeBehind_f hk b
 have hs':b.2.2.2.1.length≤1048576:=hs
 unfold K0 at hk
 unfold spec_Enter.f
 rw [h1,bnd_s,h2,bnd_chk,br_not]
 by_cases hP:BeltP b
 case neg=>rw [br_neg hP,enterM,if_neg (fun z=>hP z.1)]
 rw [br_pos hP,ltI_dc]
 by_cases h4:bag<1
 case pos=>rw [br_pos h4,enterM,if_neg (fun z=>absurd z.2.1 (by omega))]
 rw [br_neg h4,spec_l01In_f,bnd_chk,br_not]
 by_cases h5:1≤size∧size≤60
 case neg=>rw [br_neg h5,enterM,if_neg (fun z=>h5 z.2.2.1)]
 rw [br_pos h5,leI_dc,ln_e]
 by_cases h6:(40:Int)≤b.2.2.2.1.length
 case pos=>rw [br_pos h6,enterM,if_neg (fun z=>absurd z.2.2.2.1 (by omega))]
 rw [br_neg h6,h3,bnd_s,ltI_dc]
 by_cases h7:freeM b<size
 case pos=>rw [br_pos h7,enterM,if_neg (fun z=>absurd z.2.2.2.2.1 (by omega))]
 rw [br_neg h7]
 rw [loop_any (n:=b.2.2.2.1.length) (r:=some (b,false,())) (e:=some ((b.1,b.2.1,b.2.2.1,b.2.2.2.1++[(bag,size,size,())],()),true,())) (fun i=>((i:Int),())) (fun i=>(rdP (0,0,0,()) b.2.2.2.1 i).1=bag) ?h0 ?hk ?hs ?he]
 case h0=>simp
 case hk=>omega
 case hs=>intro i hi _ rec;simp (disch:=omega) only [lett_e,bnd_s,bnd_chk,br_not,br_t,br_f,br_T,br_F,not_true_eq_false,not_false_eq_true,chk_T,chk_F,chk_eq,eqI_dc,ltI_dc,leI_dc,eqN_dc,notB_dc,andB_dc,andB_t,eqB_dc,notB_t,notB_f,inR_dc,upR_dc,ln_e,app_e,tk_e,dp_e,upd_e,repl_e,natI_n,br_pos,br_neg,addI_n,fitN_T];rfl
 case he=>
  intro _ rec
  have f1:=fit1 ((bag,size,size,()):Item) hs'
  simp (disch:=omega) only [lett_e,bnd_s,bnd_chk,br_not,br_t,br_f,br_T,br_F,not_true_eq_false,not_false_eq_true,chk_T,chk_F,chk_eq,eqI_dc,ltI_dc,leI_dc,eqN_dc,notB_dc,andB_dc,andB_t,eqB_dc,notB_t,notB_f,inR_dc,upR_dc,ln_e,app_e,tk_e,dp_e,upd_e,repl_e,natI_n,br_pos,br_neg,addI_n,fitN_T,fit0 hs',List.nil_append,f1]
 by_cases h8:∃i,i<b.2.2.2.1.length∧(rdP (0,0,0,()) b.2.2.2.1 i).1=bag
 ·rw [br_pos h8,enterM,if_neg]
  obtain⟨i,hi,e⟩:=h8
  exact fun z=>z.2.2.2.2.2 i hi e
 ·rw [br_neg h8,enterM,if_pos ⟨hP,by omega,h5,by omega,by omega,fun i hi e=>h8 ⟨i,hi,e⟩⟩]
theorem enter_ok {b:BeltT} {bag size:Int} (h:BeltP b):BeltP (enterM b bag size).1:=by
 unfold enterM
 split
 case isFalse=>exact h
 case isTrue hk=>
  obtain⟨_,a1,a2,a3,a4,a5⟩:=hk
  have hfr:=a4
  rw [freeM,if_pos h]at hfr
  obtain⟨h1,h2,h3,h4⟩:=h
  refine⟨h1,h2,by simp only [List.length_append,List.length_singleton];omega,fun i hi=> ?_⟩
  simp only [List.length_append,List.length_singleton]at hi
  by_cases hi2:i<b.2.2.2.1.length
  ·obtain⟨b1,b2,b3,b4,b5⟩:=h4 i hi2
   unfold ItemP
   simp only [rd_app_l hi2]
   refine⟨b1,b2,b3,fun j hj=> ?_,fun h0=> ?_⟩
   ·rw [rd_app_l (by omega)];exact b4 j hj
   ·rw [rd_app_l (by omega)];exact b5 h0
  ·obtain rfl:i=b.2.2.2.1.length:=by omega
   have e:rdP (0,0,0,()) (b.2.2.2.1++[((bag,size,size,()):Item)]) b.2.2.2.1.length=(bag,size,size,()):=by
    rw [rd_app_r (Nat.le_refl _),Nat.sub_self,rd_cons0]
   unfold ItemP
   simp only [e]
   refine⟨a1,a2,⟨Int.le_refl _,?_⟩,fun j hj=> ?_,fun h0=> ?_⟩
   ·by_cases h0:b.2.2.2.1.length=0
    ·rw [if_pos h0]at hfr;exact hfr
    ·rw [if_neg h0]at hfr
     obtain⟨b1,b2,b3,b4,b5⟩:=h4 (b.2.2.2.1.length-1) (by omega)
     unfold maxI at hfr
     split at hfr<;>omega
   ·rw [rd_app_l hj];exact a5 j hj
   ·rw [if_neg (by omega)]at hfr
    rw [rd_app_l (by omega)]
    unfold maxI at hfr
    split at hfr<;>omega
end Go.Proofs.YtcfbjloblbhdhaaGreat.Eng
namespace Go.Proofs.YtcfbjloblbhdhaaGreat.Eng
def nt0:NoteT:=(0,0,0,0,0,())
def atN (s:Int):List NoteT→NoteT
 | []=>nt0
 |x::xs=>if x.1=s then x else atN s xs
theorem atN_app (s:Int):∀(a b:List NoteT),(∀x∈a,x.1≠s)→atN s (a++b)=atN s b
 | [],_,_=>rfl
 |x::xs,b,h=>by
  rw [List.cons_append,atN,if_neg (h x (by simp))]
  exact atN_app s xs b (fun y hy=>h y (by simp [hy]))
theorem atN_spec (s:Int):∀(l:List NoteT),(atN s l∈l∧(atN s l).1=s)∨(atN s l=nt0∧∀x∈l,x.1≠s)
 | []=> .inr ⟨rfl,fun _ h=>by cases h⟩
 |x::xs=>by
  rw [atN]
  by_cases h:x.1=s
  ·rw [if_pos h];exact .inl ⟨by simp,h⟩
  ·rw [if_neg h]
   rcases atN_spec s xs with⟨h1,h2⟩|⟨h1,h2⟩
   ·exact .inl ⟨by simp [h1],h2⟩
   ·refine .inr ⟨h1,fun y hy=> ?_⟩
    rcases List.mem_cons.1 hy with e|e
    ·subst e;exact h
    ·exact h2 y e
theorem spec_l08At_d {k:Nat} (hk:K0≤k) (l:List NoteT) (s:Int) (hl:l.length≤1048576):
  (∃i,i<l.length∧(rdP (0,0,0,0,0,()) l i).1=s∧(∀j,j<i→¬(rdP (0,0,0,0,0,()) l j).1=s)∧spec_l08At.f k l s=some (rdP (0,0,0,0,0,()) l i,()))∨((∀j,j<l.length→¬(rdP (0,0,0,0,0,()) l j).1=s)∧spec_l08At.f k l s=some (nt0,())):=by
 unfold K0 at hk
 unfold spec_l08At.f
 refine loop_find (n:=l.length) (e:=some (nt0,())) (fun i=>((i:Int),())) (fun i=>(rdP (0,0,0,0,0,()) l i).1=s) (fun i=>some (rdP (0,0,0,0,0,()) l i,())) ?h0 ?hk ?hs ?he
 case h0=>simp
 case hk=>omega
 case hs=>intro i hi _ rec;simp (disch:=omega) only [lett_e,bnd_s,bnd_chk,br_not,br_t,br_f,br_T,br_F,not_true_eq_false,not_false_eq_true,chk_T,chk_F,chk_eq,eqI_dc,ltI_dc,leI_dc,eqN_dc,notB_dc,andB_dc,andB_t,eqB_dc,notB_t,notB_f,inR_dc,upR_dc,ln_e,app_e,tk_e,dp_e,upd_e,repl_e,natI_n,br_pos,br_neg,addI_n,fitN_T];rfl
 case he=>intro _ rec;simp (disch:=omega) only [lett_e,bnd_s,bnd_chk,br_not,br_t,br_f,br_T,br_F,not_true_eq_false,not_false_eq_true,chk_T,chk_F,chk_eq,eqI_dc,ltI_dc,leI_dc,eqN_dc,notB_dc,andB_dc,andB_t,eqB_dc,notB_t,notB_f,inR_dc,upR_dc,ln_e,app_e,tk_e,dp_e,upd_e,repl_e,natI_n,br_pos,br_neg,addI_n,fitN_T];rfl
theorem spec_l08At_f {k:Nat} (hk:K0≤k) (l:List NoteT) (s:Int) (hl:l.length≤1048576):spec_l08At.f k l s=some (atN s l,()):=by
 rcases spec_l08At_d hk l s hl with⟨i,hi,h1,h2,e⟩|⟨h2,e⟩
 ·rw [e,←List.take_append_drop i l,atN_app s _ _ ?_,drop_s (d:=(0,0,0,0,0,())) hi,atN,if_pos h1,←drop_s (d:=(0,0,0,0,0,())) hi,List.take_append_drop]
  intro x hx
  obtain⟨j,hj,ex⟩:=List.getElem_of_mem hx
  rw [List.length_take]at hj
  have:=h2 j (by omega)
  rw [rd_lt (by omega)]at this
  rw [List.getElem_take]at ex
  rwa [ex]at this
 ·rw [e]
  rcases atN_spec s l with⟨h3,h4⟩|⟨h3,_⟩
  ·obtain⟨j,hj,ex⟩:=List.getElem_of_mem h3
   exact absurd h4 (by rw [←ex,←rd_lt (d:=(0,0,0,0,0,())) hj];exact h2 j hj)
  ·rw [h3]
def insN (n:NoteT):List NoteT→List NoteT
 | []=>[n]
 |x::xs=>if n.1<x.1 then n::x::xs else x::insN n xs
theorem insN_hit (n:NoteT):∀(a b:List NoteT),(∃x,x∈a∧n.1<x.1)→insN n (a++b)=insN n a++b
 | [],_,h=>by obtain⟨x,h,_⟩:=h;cases h
 |x::xs,b,h=>by
  rw [List.cons_append,insN,insN]
  by_cases hx:n.1<x.1
  ·rw [if_pos hx,if_pos hx];rfl
  ·rw [if_neg hx,if_neg hx,List.cons_append]
   congr 1
   refine insN_hit n xs b ?_
   obtain⟨y,hy,h2⟩:=h
   rcases List.mem_cons.1 hy with e|e
   ·subst e;exact absurd h2 hx
   ·exact⟨y,e,h2⟩
theorem insN_miss (n:NoteT):∀(a b:List NoteT),(∀x∈a,¬n.1<x.1)→insN n (a++b)=a++insN n b
 | [],_,_=>rfl
 |x::xs,b,h=>by
  rw [List.cons_append,insN,if_neg (h x (by simp)),List.cons_append,insN_miss n xs b (fun y hy=>h y (by simp [hy]))]
theorem insN_len (n:NoteT):∀(l:List NoteT),(insN n l).length=l.length+1
 | []=>rfl
 |x::xs=>by rw [insN];split<;>simp [insN_len n xs]
theorem mem_insN (n:NoteT) {y:NoteT}:∀(l:List NoteT),y∈insN n l↔y=n∨y∈l
 | []=>by simp [insN]
 |x::xs=>by
  rw [insN]
  split
  ·simp
  ·rw [List.mem_cons,mem_insN n xs,List.mem_cons]
   constructor
   ·rintro (h|h|h)
    ·exact .inr (.inl h)
    ·exact .inl h
    ·exact .inr (.inr h)
   ·rintro (h|h|h)
    ·exact .inr (.inl h)
    ·exact .inl h
    ·exact .inr (.inr h)
noncomputable def withS (l:List NoteT) (n:NoteT) (i:Nat):List NoteT×Bool×Int×Unit:= @ite _ (∃x,x∈l.take i∧n.1<x.1) (Classical.propDecidable _) (insN n (l.take i),true,(i:Int),()) (l.take i,false,(i:Int),())
theorem spec_l08With_f {k:Nat} (hk:K0≤k) (l:List NoteT) (n:NoteT) (hl:l.length≤1048576):spec_l08With.f k l n=some (insN n l,()):=by
 unfold K0 at hk
 unfold spec_l08With.f
 refine loop_run (n:=l.length) (withS l n) ?_ (fun i hi rec=> ?_) (fun rec=> ?_) (by omega)
 ·rw [withS,if_neg (by simp)];simp
 ·have ht:=take_s (d:=(0,0,0,0,0,())) hi
  have hlt:(l.take i).length≤1048576:=by rw [List.length_take];omega
  by_cases h:∃x,x∈l.take i∧n.1<x.1
  ·have h':∃x,x∈l.take (i+1)∧n.1<x.1:=by obtain⟨x,h1,h2⟩:=h;exact⟨x,by rw [ht];simp [h1],h2⟩
   rw [withS,if_pos h,withS,if_pos h',ht,insN_hit n _ _ h]
   have f1:=fit1 (rdP (0,0,0,0,0,()) l i) (l:=insN n (l.take i)) (by rw [insN_len,List.length_take];omega)
   simp (disch:=omega) only [lett_e,bnd_s,bnd_chk,br_not,br_t,br_f,br_T,br_F,not_true_eq_false,not_false_eq_true,chk_T,chk_F,chk_eq,eqI_dc,ltI_dc,leI_dc,eqN_dc,notB_dc,andB_dc,andB_t,eqB_dc,notB_t,notB_f,inR_dc,upR_dc,ln_e,app_e,tk_e,dp_e,upd_e,repl_e,natI_n,br_pos,br_neg,addI_n,fitN_T,f1,not_true_eq_false]
   rfl
  ·by_cases h2:n.1<(rdP (0,0,0,0,0,()) l i).1
   ·have h':∃x,x∈l.take (i+1)∧n.1<x.1:=⟨_,by rw [ht];simp,h2⟩
    rw [withS,if_neg h,withS,if_pos h',ht,insN_miss n _ _ (fun x hx hn=>h ⟨x,hx,hn⟩)]
    have f1:=fit1 n hlt
    have f2:=fit1 (rdP (0,0,0,0,0,()) l i) (l:=l.take i++[n]) (by rw [List.length_append,List.length_take];simp;omega)
    simp (disch:=omega) only [lett_e,bnd_s,bnd_chk,br_not,br_t,br_f,br_T,br_F,not_true_eq_false,not_false_eq_true,chk_T,chk_F,chk_eq,eqI_dc,ltI_dc,leI_dc,eqN_dc,notB_dc,andB_dc,andB_t,eqB_dc,notB_t,notB_f,inR_dc,upR_dc,ln_e,app_e,tk_e,dp_e,upd_e,repl_e,natI_n,br_pos,br_neg,addI_n,fitN_T,f1,f2]
    rw [insN,if_pos h2,List.append_assoc]
    rfl
   ·have h':¬ ∃x,x∈l.take (i+1)∧n.1<x.1:=by
     rintro ⟨x,h3,h4⟩
     rw [ht]at h3
     rcases List.mem_append.1 h3 with h3|h3
     ·exact h ⟨x,h3,h4⟩
     ·rw [List.mem_singleton.1 h3]at h4;exact h2 h4
    rw [withS,if_neg h,withS,if_neg h',ht]
    have f2:=fit1 (rdP (0,0,0,0,0,()) l i) hlt
    simp (disch:=omega) only [lett_e,bnd_s,bnd_chk,br_not,br_t,br_f,br_T,br_F,not_true_eq_false,not_false_eq_true,chk_T,chk_F,chk_eq,eqI_dc,ltI_dc,leI_dc,eqN_dc,notB_dc,andB_dc,andB_t,eqB_dc,notB_t,notB_f,inR_dc,upR_dc,ln_e,app_e,tk_e,dp_e,upd_e,repl_e,natI_n,br_pos,br_neg,addI_n,fitN_T,f2]
    rfl
 ·by_cases h:∃x,x∈l.take l.length∧n.1<x.1
  ·rw [withS,if_pos h,List.take_length]
   simp (disch:=omega) only [lett_e,bnd_s,bnd_chk,br_not,br_t,br_f,br_T,br_F,not_true_eq_false,not_false_eq_true,chk_T,chk_F,chk_eq,eqI_dc,ltI_dc,leI_dc,eqN_dc,notB_dc,andB_dc,andB_t,eqB_dc,notB_t,notB_f,inR_dc,upR_dc,ln_e,app_e,tk_e,dp_e,upd_e,repl_e,natI_n,br_pos,br_neg,addI_n,fitN_T]
  ·rw [withS,if_neg h]
   rw [List.take_length]at h
   have e:insN n l=l++[n]:=by
    have:=insN_miss n l [] (fun x hx hn=>h ⟨x,hx,hn⟩)
    rw [List.append_nil]at this;exact this
   rw [List.take_length,e]
   have f1:=fit1 n hl
   simp (disch:=omega) only [lett_e,bnd_s,bnd_chk,br_not,br_t,br_f,br_T,br_F,not_true_eq_false,not_false_eq_true,chk_T,chk_F,chk_eq,eqI_dc,ltI_dc,leI_dc,eqN_dc,notB_dc,andB_dc,andB_t,eqB_dc,notB_t,notB_f,inR_dc,upR_dc,ln_e,app_e,tk_e,dp_e,upd_e,repl_e,natI_n,br_pos,br_neg,addI_n,fitN_T,f1]
def Asc (l:List NoteT):Prop:=∀i,0<i→i<l.length→(rdP (0,0,0,0,0,()) l (i-1)).1<(rdP (0,0,0,0,0,()) l i).1
theorem asc_iff (l:List NoteT):Asc l↔l.Pairwise (fun a b=>a.1<b.1):=by
 rw [List.pairwise_iff_getElem]
 constructor
 ·intro h
  have key:∀n i j (hi:i<l.length) (hj:j<l.length),i+n+1=j→l[i].1<l[j].1:=by
   intro n
   induction n with
   |zero=>
    intro i j hi hj e
    have:=h j (by omega) hj
    rw [rd_lt hj,rd_lt (show j-1<l.length by omega)]at this
    simpa [show j-1=i by omega]using this
   |succ n ih=>
    intro i j hi hj e
    have h1:=ih i (j-1) hi (by omega) (by omega)
    have:=h j (by omega) hj
    rw [rd_lt hj,rd_lt (show j-1<l.length by omega)]at this
    exact Int.lt_trans h1 this
  intro i j hi hj hij
  exact key (j-i-1) i j hi hj (by omega)
 ·intro h i h0 hi
  rw [rd_lt hi,rd_lt (show i-1<l.length by omega)]
  exact h (i-1) i (by omega) hi (by omega)
theorem insN_pw (n:NoteT):∀(l:List NoteT),l.Pairwise (fun a b=>a.1<b.1)→(∀x∈l,x.1≠n.1)→(insN n l).Pairwise (fun a b=>a.1<b.1)
 | [],_,_=>by simp [insN]
 |x::xs,h,hn=>by
  obtain⟨h1,h2⟩:=List.pairwise_cons.1 h
  rw [insN]
  split
  ·rename_i hx
   refine List.pairwise_cons.2 ⟨fun y hy=> ?_,h⟩
   rcases List.mem_cons.1 hy with e|e
   ·subst e;exact hx
   ·exact Int.lt_trans hx (h1 y e)
  ·rename_i hx
   refine List.pairwise_cons.2 ⟨fun y hy=> ?_,insN_pw n xs h2 (fun y hy=>hn y (by simp [hy]))⟩
   rcases (mem_insN n xs).1 hy with e|e
   ·subst e;have:=hn x (by simp);omega
   ·exact h1 y e
theorem nt_eq (x n:NoteT):(x.1=n.1∧x.2.1=n.2.1∧x.2.2.1=n.2.2.1∧x.2.2.2.1=n.2.2.2.1∧x.2.2.2.2.1=n.2.2.2.2.1)↔x=n:=by
 obtain⟨a,b,c,d,e,_⟩:=x
 obtain⟨a',b',c',d',e',_⟩:=n
 simp
noncomputable def addM (l:List NoteT) (n:NoteT):List NoteT×Bool×Unit:=
 @ite _ (NotesP l∧NoteP n) (Classical.propDecidable _) (if atN n.1 l=n then(l,true,())else if (atN n.1 l).1≠0∨60≤l.length then(l,false,())else(insN n l,true,())) (l,false,())
theorem spec_AddNote_f {k:Nat} (hk:K0≤k) (l:List NoteT) (n:NoteT) (hl:l.length≤1048576):spec_AddNote.f k l n=some (addM l n):=by
 have h1:=spec_NotesOk_f hk l
 have h2:=spec_NoteOk_f k n
 have h3:=spec_l08At_f hk l n.1 hl
 have h4:=spec_l08With_f hk l n hl
 unfold spec_AddNote.f addM
 rw [fit0 hl,br_t,lett_e,app_e,List.nil_append,h1,bnd_chk,br_not]
 by_cases hP:NotesP l
 case neg=>rw [br_neg hP,if_neg (fun z=>hP z.1)]
 rw [br_pos hP]
 have h2':spec_NoteOk.f k (n.1,n.2.1,n.2.2.1,n.2.2.2.1,n.2.2.2.2.1,())=chkP (NoteP n):=h2
 rw [h2',bnd_chk,br_not]
 by_cases hN:NoteP n
 case neg=>rw [br_neg hN,if_neg (fun z=>hN z.2)]
 rw [br_pos hN,if_pos ⟨hP,hN⟩,h3,bnd_s]
 simp only [eqI_dc,andB_t,andB_dc,nt_eq]
 by_cases h5:atN n.1 l=n
 case pos=>rw [br_pos h5,if_pos h5]
 rw [br_neg h5,if_neg h5]
 by_cases h6:(atN n.1 l).1=0
 case neg=>simp (disch:=omega) only [lett_e,bnd_s,bnd_chk,br_not,br_t,br_f,br_T,br_F,not_true_eq_false,not_false_eq_true,chk_T,chk_F,chk_eq,eqI_dc,ltI_dc,leI_dc,eqN_dc,notB_dc,andB_dc,andB_t,eqB_dc,notB_t,notB_f,inR_dc,upR_dc,ln_e,app_e,tk_e,dp_e,upd_e,repl_e,natI_n,br_pos,br_neg,addI_n,fitN_T];rw [if_pos (.inl h6)]
 by_cases h7:60≤l.length
 case pos=>simp (disch:=omega) only [lett_e,bnd_s,bnd_chk,br_not,br_t,br_f,br_T,br_F,not_true_eq_false,not_false_eq_true,chk_T,chk_F,chk_eq,eqI_dc,ltI_dc,leI_dc,eqN_dc,notB_dc,andB_dc,andB_t,eqB_dc,notB_t,notB_f,inR_dc,upR_dc,ln_e,app_e,tk_e,dp_e,upd_e,repl_e,natI_n,br_pos,br_neg,addI_n,fitN_T];rw [if_pos (.inr h7)]
 rw [if_neg (fun z=>z.elim (fun z=>z h6) h7)]
 have h4':spec_l08With.f k l (n.1,n.2.1,n.2.2.1,n.2.2.2.1,n.2.2.2.2.1,())=some (insN n l,()):=h4
 simp (disch:=omega) only [lett_e,bnd_s,bnd_chk,br_not,br_t,br_f,br_T,br_F,not_true_eq_false,not_false_eq_true,chk_T,chk_F,chk_eq,eqI_dc,ltI_dc,leI_dc,eqN_dc,notB_dc,andB_dc,andB_t,eqB_dc,notB_t,notB_f,inR_dc,upR_dc,ln_e,app_e,tk_e,dp_e,upd_e,repl_e,natI_n,br_pos,br_neg,addI_n,fitN_T,h4']
theorem insN_ok {l:List NoteT} {n:NoteT} (h:NotesP l) (hn:NoteP n) (h1:(atN n.1 l).1=0) (h2:l.length<60):NotesP (insN n l):=by
 obtain⟨a,b,c⟩:=h
 refine⟨by rw [insN_len];omega,fun y hy=> ?_,?_⟩
 ·rcases (mem_insN n l).1 hy with e|e
  ·subst e;exact hn
  ·exact b y e
 ·refine(asc_iff _).2 (insN_pw n l ((asc_iff _).1 c) ?_)
  rcases atN_spec n.1 l with⟨h3,h4⟩|⟨_,h3⟩
  ·have:=hn.1.1;omega
  ·exact h3
theorem addM_ok {l:List NoteT} {n:NoteT} (h:NotesP l):NotesP (addM l n).1:=by
 unfold addM
 split
 case isFalse=>exact h
 case isTrue hh=>
  split
  ·exact h
  ·split
   ·exact h
   ·rename_i h2
    exact insN_ok h hh.2 (by omega) (by omega)
theorem spec_Gaps_f {k:Nat} (hk:K0≤k) (l:List NoteT):spec_Gaps.f k l=some (@ite _ (NotesP l) (Classical.propDecidable _) (if l.length=0 then 0 else(rdP (0,0,0,0,0,()) l (l.length-1)).1-l.length) (-1),()):=by
 have h1:=spec_NotesOk_f hk l
 unfold spec_Gaps.f
 rw [h1,bnd_chk,br_not]
 by_cases hP:NotesP l
 case neg=>rw [br_neg hP,if_neg hP]
 rw [br_pos hP,if_pos hP]
 have hlen:=hP.1
 by_cases h0:l.length=0
 ·rw [if_pos h0];simp (disch:=omega) only [lett_e,bnd_s,bnd_chk,br_not,br_t,br_f,br_T,br_F,not_true_eq_false,not_false_eq_true,chk_T,chk_F,chk_eq,eqI_dc,ltI_dc,leI_dc,eqN_dc,notB_dc,andB_dc,andB_t,eqB_dc,notB_t,notB_f,inR_dc,upR_dc,ln_e,app_e,tk_e,dp_e,upd_e,repl_e,natI_n,br_pos,br_neg,addI_n,fitN_T]
 ·rw [if_neg h0]
  have hb:=hP.2.1 _ (by rw [rd_lt (show l.length-1<l.length by omega)];exact List.getElem_mem _:rdP (0,0,0,0,0,()) l (l.length-1)∈l)
  have hb':=hb.1
  have hn:natI ((l.length:Int)-1)=l.length-1:=by unfold natI;omega
  simp (disch:=omega) only [lett_e,bnd_s,bnd_chk,br_not,br_t,br_f,br_T,br_F,not_true_eq_false,not_false_eq_true,chk_T,chk_F,chk_eq,eqI_dc,ltI_dc,leI_dc,eqN_dc,notB_dc,andB_dc,andB_t,eqB_dc,notB_t,notB_f,inR_dc,upR_dc,ln_e,app_e,tk_e,dp_e,upd_e,repl_e,natI_n,br_pos,br_neg,addI_n,fitN_T,subI_id,hn]
end Go.Proofs.YtcfbjloblbhdhaaGreat.Eng
namespace Go.Proofs.YtcfbjloblbhdhaaGreat.Eng
abbrev ScrT:=Int×Int×Int×Unit
def elSum (w:List (Int×Unit)) (lv sn:Int):Nat→Int
 |0=>sn
 |i+1=>elSum w lv sn i+(rdP (0,()) w (natI (lv+i-1))).1
def elC (w:List (Int×Unit)) (now lv sn:Int) (i:Nat):Prop:=lv+i<4∧(rdP (0,()) w (natI (lv+i-1))).1<now-elSum w lv sn i
noncomputable def elN (w:List (Int×Unit)) (now lv sn:Int):Nat:= @ite _ (elC w now lv sn 0) (Classical.propDecidable _) (@ite _ (elC w now lv sn 1) (Classical.propDecidable _) (@ite _ (elC w now lv sn 2) (Classical.propDecidable _) 3 2) 1) 0
theorem elN_spec (w:List (Int×Unit)) (now lv sn:Int) (h:1≤lv):(∀i,i<elN w now lv sn→elC w now lv sn i)∧¬elC w now lv sn (elN w now lv sn)∧elN w now lv sn≤3:=by
 unfold elN
 split
 ·split
  ·split
   ·refine⟨fun i hi=> ?_,fun z=>absurd z.1 (by omega),Nat.le_refl _⟩
    obtain rfl|rfl|rfl:i=0∨i=1∨i=2:=by omega
    all_goals assumption
   ·refine⟨fun i hi=> ?_,by assumption,by omega⟩
    obtain rfl|rfl:i=0∨i=1:=by omega
    all_goals assumption
  ·refine⟨fun i hi=> ?_,by assumption,by omega⟩
   obtain rfl:i=0:=by omega
   assumption
 ·exact⟨fun i hi=>absurd hi (by omega),by assumption,by omega⟩
theorem pol_at {w:List (Int×Unit)} (h:PolicyP w) {i:Nat} (hi:i<3):1≤(rdP (0,()) w i).1∧(rdP (0,()) w i).1≤5000:=by
 have hl:=h.1
 have hi':i<w.length:=by omega
 rw [rd_lt hi']
 exact h.2 _ (List.getElem_mem hi')
theorem elSum_b {w:List (Int×Unit)} (hw:PolicyP w) {lv sn:Int} (h1:1≤lv):∀i:Nat,lv+i≤4→sn≤elSum w lv sn i∧elSum w lv sn i≤sn+5000*i
 |0,_=>by simp [elSum]
 |i+1,h=>by
  have ih:=elSum_b hw (sn:=sn) h1 i (by omega)
  have:=pol_at hw (i:=natI (lv+i-1)) (by unfold natI;omega)
  simp only [elSum]
  omega
noncomputable def elapseM (w:List (Int×Unit)) (s:ScrT) (now:Int):ScrT:=
 @ite _ (PolicyP w∧ScreenP s∧(0≤now∧now≤100000)∧s.2.2.1=0) (Classical.propDecidable _) (s.1+elN w now s.1 s.2.1,elSum w s.1 s.2.1 (elN w now s.1 s.2.1),s.2.2.1,()) s
theorem spec_Elapse_f {k:Nat} (hk:K0≤k) (w:List (Int×Unit)×Unit) (s:ScrT) (now:Int) (hw:w.1.length≤1048576):spec_Elapse.f k w s now=some (elapseM w.1 s now,()):=by
 have h1:=spec_PolicyOk_f hk w hw
 have h2:spec_ScreenOk.f k (s.1,s.2.1,s.2.2.1,())=chkP (ScreenP s):=spec_ScreenOk_f k s
 have h1':spec_PolicyOk.f k (w.1,())=chkP (PolicyP w.1):=h1
 unfold K0 at hk
 unfold spec_Elapse.f
 rw [h1',bnd_chk,br_not]
 by_cases hP:PolicyP w.1
 case neg=>rw [br_neg hP,elapseM,if_neg (fun z=>hP z.1)]
 rw [br_pos hP,h2,bnd_chk,br_not]
 by_cases hS:ScreenP s
 case neg=>rw [br_neg hS,elapseM,if_neg (fun z=>hS z.2.1)]
 rw [br_pos hS,spec_l01In_f,bnd_chk,br_not]
 by_cases hN:0≤now∧now≤100000
 case neg=>rw [br_neg hN,elapseM,if_neg (fun z=>hN z.2.2.1)]
 rw [br_pos hN,lett_e]
 by_cases hv:s.2.2.1=0
 case neg=>
  rw [elapseM,if_neg (fun z=>hv z.2.2.2)]
  refine loop_run (n:=0) (fun _=>(s.1,s.2.1,())) rfl (fun i hi=>absurd hi (by omega)) (fun rec=> ?_) (by omega)
  rw [eqI_dc,br_neg hv]
 rw [elapseM,if_pos ⟨hP,hS,hN,hv⟩]
 have hl:=hP.1
 obtain⟨⟨s1,s2⟩,⟨s3,s4⟩,s5⟩:=hS
 obtain⟨c1,c2,c3⟩:=elN_spec w.1 now s.1 s.2.1 s1
 refine loop_run (n:=elN w.1 now s.1 s.2.1) (fun i=>(s.1+i,elSum w.1 s.1 s.2.1 i,())) (by simp [elSum]) (fun i hi rec=> ?_) (fun rec=> ?_) (by omega)
 ·obtain⟨d1,d2⟩:=c1 i hi
  obtain⟨b1,b2⟩:=elSum_b hP (sn:=s.2.1) s1 i (by omega)
  have b3:=pol_at hP (i:=natI (s.1+i-1)) (by unfold natI;omega)
  simp (disch:=omega) only [lett_e,bnd_s,bnd_chk,br_not,br_t,br_f,br_T,br_F,not_true_eq_false,not_false_eq_true,chk_T,chk_F,chk_eq,eqI_dc,ltI_dc,leI_dc,eqN_dc,notB_dc,andB_dc,andB_t,eqB_dc,notB_t,notB_f,inR_dc,upR_dc,ln_e,app_e,tk_e,dp_e,upd_e,repl_e,natI_n,br_pos,br_neg,addI_n,fitN_T,subI_id,addI_id]
  congr 2
  omega
 ·by_cases d1:s.1+(elN w.1 now s.1 s.2.1:Int)<4
  ·obtain⟨b1,b2⟩:=elSum_b hP (sn:=s.2.1) s1 (elN w.1 now s.1 s.2.1) (by omega)
   have d2:¬(rdP (0,()) w.1 (natI (s.1+(elN w.1 now s.1 s.2.1:Nat)-1))).1<now-elSum w.1 s.1 s.2.1 (elN w.1 now s.1 s.2.1):=fun z=>c2 ⟨d1,z⟩
   simp (disch:=omega) only [lett_e,bnd_s,bnd_chk,br_not,br_t,br_f,br_T,br_F,not_true_eq_false,not_false_eq_true,chk_T,chk_F,chk_eq,eqI_dc,ltI_dc,leI_dc,eqN_dc,notB_dc,andB_dc,andB_t,eqB_dc,notB_t,notB_f,inR_dc,upR_dc,ln_e,app_e,tk_e,dp_e,upd_e,repl_e,natI_n,br_pos,br_neg,addI_n,fitN_T,subI_id]
  ·simp (disch:=omega) only [lett_e,bnd_s,bnd_chk,br_not,br_t,br_f,br_T,br_F,not_true_eq_false,not_false_eq_true,chk_T,chk_F,chk_eq,eqI_dc,ltI_dc,leI_dc,eqN_dc,notB_dc,andB_dc,andB_t,eqB_dc,notB_t,notB_f,inR_dc,upR_dc,ln_e,app_e,tk_e,dp_e,upd_e,repl_e,natI_n,br_pos,br_neg,addI_n,fitN_T]
theorem elapse_ok {w:List (Int×Unit)} {s:ScrT} {now:Int} (hS:ScreenP s):ScreenP (elapseM w s now)∧(elapseM w s now).2.2.1=s.2.2.1∧s.1≤(elapseM w s now).1∧((elapseM w s now).2.1=s.2.1∨(elapseM w s now).2.1<now):=by
 unfold elapseM
 split
 case isFalse=>exact⟨hS,rfl,Int.le_refl _,.inl rfl⟩
 case isTrue h=>
  obtain⟨hP,_,hN,hv⟩:=h
  obtain⟨⟨s1,s2⟩,⟨s3,s4⟩,s5⟩:=hS
  obtain⟨c1,c2,c3⟩:=elN_spec w now s.1 s.2.1 s1
  have key:elSum w s.1 s.2.1 (elN w now s.1 s.2.1)=s.2.1∨elSum w s.1 s.2.1 (elN w now s.1 s.2.1)<now:=by
   cases e:elN w now s.1 s.2.1 with
   |zero=>exact .inl rfl
   |succ m=>
    obtain⟨_,d2⟩:=c1 m (by omega)
    right
    simp only [elSum]
    omega
  have h4:s.1+(elN w now s.1 s.2.1:Int)≤4:=by
   cases e:elN w now s.1 s.2.1 with
   |zero=>simp;exact s2
   |succ m=>
    obtain⟨d1,_⟩:=c1 m (by omega)
    omega
  obtain⟨b1,b2⟩:=elSum_b hP (sn:=s.2.1) s1 _ h4
  refine⟨⟨⟨?_,?_⟩,⟨?_,?_⟩,.inl hv⟩,rfl,?_,key⟩
  ·dsimp only;omega
  ·exact h4
  ·dsimp only;omega
  ·dsimp only;rcases key with e|e<;>omega
  ·dsimp only;omega
noncomputable def decideM (w:List (Int×Unit)) (s:ScrT) (now v:Int):ScrT×Bool×Unit:=
 @ite _ (PolicyP w∧ScreenP s∧(0≤now∧now≤100000)∧(0≤v∧v≤2)) (Classical.propDecidable _)
  (if (elapseM w s now).2.2.1≠0 then(s,false,())else if now<(elapseM w s now).2.1 then(s,false,())else if v=1 then(((elapseM w s now).1,(elapseM w s now).2.1,1,()),true,())else
   if (elapseM w s now).1=4 then(if v=0 then(s,false,())else(((elapseM w s now).1,(elapseM w s now).2.1,2,()),true,()))else(((elapseM w s now).1+1,now,(elapseM w s now).2.2.1,()),true,()))
  (s,false,())
theorem spec_Decide_f {k:Nat} (hk:K0≤k) (w:List (Int×Unit)×Unit) (s:ScrT) (now v:Int) (hw:w.1.length≤1048576):spec_Decide.f k w s now v=some (decideM w.1 s now v):=by
 have h1:spec_PolicyOk.f k (w.1,())=chkP (PolicyP w.1):=spec_PolicyOk_f hk w hw
 have h2:spec_ScreenOk.f k (s.1,s.2.1,s.2.2.1,())=chkP (ScreenP s):=spec_ScreenOk_f k s
 have h3:spec_Elapse.f k (w.1,()) (s.1,s.2.1,s.2.2.1,()) now=some (elapseM w.1 s now,()):=spec_Elapse_f hk w s now hw
 unfold spec_Decide.f
 rw [h1,bnd_chk,br_not]
 by_cases hP:PolicyP w.1
 case neg=>rw [br_neg hP,decideM,if_neg (fun z=>hP z.1)]
 rw [br_pos hP,h2,bnd_chk,br_not]
 by_cases hS:ScreenP s
 case neg=>rw [br_neg hS,decideM,if_neg (fun z=>hS z.2.1)]
 rw [br_pos hS,spec_l01In_f,bnd_chk,br_not]
 by_cases hN:0≤now∧now≤100000
 case neg=>rw [br_neg hN,decideM,if_neg (fun z=>hN z.2.2.1)]
 rw [br_pos hN,spec_l01In_f,bnd_chk,br_not]
 by_cases hV:0≤v∧v≤2
 case neg=>rw [br_neg hV,decideM,if_neg (fun z=>hV z.2.2.2)]
 rw [br_pos hV,h3,bnd_s,decideM,if_pos ⟨hP,hS,hN,hV⟩]
 obtain⟨⟨⟨t1,t2⟩,⟨t3,t4⟩,t5⟩,_,_,_⟩:=elapse_ok (w:=w.1) (now:=now) hS
 generalize elapseM w.1 s now=t at*
 simp only [eqI_dc,notB_dc,ltI_dc]
 by_cases e1:t.2.2.1=0
 case neg=>rw [br_pos e1,if_pos e1]
 rw [br_neg (fun z=>z e1),if_neg (fun z=>z e1)]
 by_cases e2:now<t.2.1
 case pos=>rw [br_pos e2,if_pos e2]
 rw [br_neg e2,if_neg e2]
 by_cases e3:v=1
 case pos=>rw [br_pos e3,if_pos e3]
 rw [br_neg e3,if_neg e3]
 by_cases e4:t.1=4
 ·rw [br_pos e4,if_pos e4]
  by_cases e5:v=0
  ·rw [br_pos e5,if_pos e5]
  ·rw [br_neg e5,if_neg e5]
 ·rw [br_neg e4,if_neg e4,addI_id (by omega)]
theorem decide_ok {w:List (Int×Unit)} {s:ScrT} {now v:Int} (hS:ScreenP s) (h:s.2.1≤now):ScreenP (decideM w s now v).1∧(decideM w s now v).1.2.1≤now:=by
 unfold decideM
 split
 case isFalse=>exact⟨hS,h⟩
 case isTrue hh=>
  obtain⟨⟨⟨t1,t2⟩,⟨t3,t4⟩,t5⟩,t6,t7,t8⟩:=elapse_ok (w:=w) (now:=now) hS
  obtain⟨_,_,hN,hV⟩:=hh
  generalize elapseM w s now=t at*
  repeat' split
  ·exact⟨hS,h⟩
  ·exact⟨hS,h⟩
  ·refine⟨⟨⟨t1,t2⟩,⟨t3,t4⟩,.inr (.inl rfl)⟩,by dsimp only;omega⟩
  ·exact⟨hS,h⟩
  ·rename_i h4 _
   refine⟨⟨⟨t1,t2⟩,⟨t3,t4⟩,.inr (.inr ⟨rfl,h4⟩)⟩,by dsimp only;omega⟩
  ·rename_i h0 _ _ h4
   refine⟨⟨⟨by dsimp only;omega,by dsimp only;omega⟩,⟨by dsimp only;omega,by dsimp only;omega⟩,.inl (by dsimp only;omega)⟩,Int.le_refl _⟩
end Go.Proofs.YtcfbjloblbhdhaaGreat.Eng
namespace Go.Proofs.YtcfbjloblbhdhaaGreat.Eng
theorem slices_Clone_impl_Item_f (k:Nat) {l:List Item} (h:l.length≤1048576):slices_Clone_impl_Item.f k l=some (l,()):=by
 unfold slices_Clone_impl_Item.f
 simp (disch:=omega) only [lett_e,bnd_s,bnd_chk,br_not,br_t,br_f,br_T,br_F,not_true_eq_false,not_false_eq_true,chk_T,chk_F,chk_eq,eqI_dc,ltI_dc,leI_dc,eqN_dc,notB_dc,andB_dc,andB_t,eqB_dc,notB_t,notB_f,inR_dc,upR_dc,ln_e,app_e,tk_e,dp_e,upd_e,repl_e,natI_n,br_pos,br_neg,addI_n,fitN_T,fit0 h,List.nil_append]
 exact nilB_same _ _ _ (fun e=>by rw [e])
theorem slices_Clone_impl_Kept_f (k:Nat) {l:List Kept} (h:l.length≤1048576):slices_Clone_impl_Kept.f k l=some (l,()):=by
 unfold slices_Clone_impl_Kept.f
 simp (disch:=omega) only [lett_e,bnd_s,bnd_chk,br_not,br_t,br_f,br_T,br_F,not_true_eq_false,not_false_eq_true,chk_T,chk_F,chk_eq,eqI_dc,ltI_dc,leI_dc,eqN_dc,notB_dc,andB_dc,andB_t,eqB_dc,notB_t,notB_f,inR_dc,upR_dc,ln_e,app_e,tk_e,dp_e,upd_e,repl_e,natI_n,br_pos,br_neg,addI_n,fitN_T,fit0 h,List.nil_append]
 exact nilB_same _ _ _ (fun e=>by rw [e])
theorem slices_Clone_impl_Note_f (k:Nat) {l:List NoteT} (h:l.length≤1048576):slices_Clone_impl_Note.f k l=some (l,()):=by
 unfold slices_Clone_impl_Note.f
 simp (disch:=omega) only [lett_e,bnd_s,bnd_chk,br_not,br_t,br_f,br_T,br_F,not_true_eq_false,not_false_eq_true,chk_T,chk_F,chk_eq,eqI_dc,ltI_dc,leI_dc,eqN_dc,notB_dc,andB_dc,andB_t,eqB_dc,notB_t,notB_f,inR_dc,upR_dc,ln_e,app_e,tk_e,dp_e,upd_e,repl_e,natI_n,br_pos,br_neg,addI_n,fitN_T,fit0 h,List.nil_append]
 exact nilB_same _ _ _ (fun e=>by rw [e])
theorem slices_Clone_impl_Flight_f (k:Nat) {l:List FlightT} (h:l.length≤1048576):slices_Clone_impl_Flight.f k l=some (l,()):=by
 unfold slices_Clone_impl_Flight.f
 simp (disch:=omega) only [lett_e,bnd_s,bnd_chk,br_not,br_t,br_f,br_T,br_F,not_true_eq_false,not_false_eq_true,chk_T,chk_F,chk_eq,eqI_dc,ltI_dc,leI_dc,eqN_dc,notB_dc,andB_dc,andB_t,eqB_dc,notB_t,notB_f,inR_dc,upR_dc,ln_e,app_e,tk_e,dp_e,upd_e,repl_e,natI_n,br_pos,br_neg,addI_n,fitN_T,fit0 h,List.nil_append]
 exact nilB_same _ _ _ (fun e=>by rw [e])
theorem slices_Clone_impl_Case_f (k:Nat) {l:List CaseT} (h:l.length≤1048576):slices_Clone_impl_Case.f k l=some (l,()):=by
 unfold slices_Clone_impl_Case.f
 simp (disch:=omega) only [lett_e,bnd_s,bnd_chk,br_not,br_t,br_f,br_T,br_F,not_true_eq_false,not_false_eq_true,chk_T,chk_F,chk_eq,eqI_dc,ltI_dc,leI_dc,eqN_dc,notB_dc,andB_dc,andB_t,eqB_dc,notB_t,notB_f,inR_dc,upR_dc,ln_e,app_e,tk_e,dp_e,upd_e,repl_e,natI_n,br_pos,br_neg,addI_n,fitN_T,fit0 h,List.nil_append]
 exact nilB_same _ _ _ (fun e=>by rw [e])
theorem impl_copyBelt_f (k:Nat) (b:BeltT) (h:b.2.2.2.1.length≤1048576):impl_copyBelt.f k b=some (b,()):=by
 unfold impl_copyBelt.f
 simp (disch:=omega) only [lett_e,bnd_s,bnd_chk,br_not,br_t,br_f,br_T,br_F,not_true_eq_false,not_false_eq_true,chk_T,chk_F,chk_eq,eqI_dc,ltI_dc,leI_dc,eqN_dc,notB_dc,andB_dc,andB_t,eqB_dc,notB_t,notB_f,inR_dc,upR_dc,ln_e,app_e,tk_e,dp_e,upd_e,repl_e,natI_n,br_pos,br_neg,addI_n,fitN_T,slices_Clone_impl_Item_f k h]
theorem spec_l06Copy_f {k:Nat} (hk:K0≤k) (s:StoreT) (h1:s.2.1.length≤1048576) (h2:∀c∈s.2.1,c.1.length≤1048576):spec_l06Copy.f k s=some (s,()):=by
 unfold spec_l06Copy.f
 refine copy_loop (d:=([],())) hk s.2.1 h1 (fun i rec hi hl=> ?_) (fun rec=>by simp (disch:=omega) only [lett_e,bnd_s,bnd_chk,br_not,br_t,br_f,br_T,br_F,not_true_eq_false,not_false_eq_true,chk_T,chk_F,chk_eq,eqI_dc,ltI_dc,leI_dc,eqN_dc,notB_dc,andB_dc,andB_t,eqB_dc,notB_t,notB_f,inR_dc,upR_dc,ln_e,app_e,tk_e,dp_e,upd_e,repl_e,natI_n,br_pos,br_neg,addI_n,fitN_T])
 have h3:=h2 _ (rd_mem (d:=([],())) hi)
 simp (disch:=omega) only [lett_e,bnd_s,bnd_chk,br_not,br_t,br_f,br_T,br_F,not_true_eq_false,not_false_eq_true,chk_T,chk_F,chk_eq,eqI_dc,ltI_dc,leI_dc,eqN_dc,notB_dc,andB_dc,andB_t,eqB_dc,notB_t,notB_f,inR_dc,upR_dc,ln_e,app_e,tk_e,dp_e,upd_e,repl_e,natI_n,br_pos,br_neg,addI_n,fitN_T,fit0 h3,List.nil_append,fit1 _ hl]
 rfl
theorem impl_copyStore_f {k:Nat} (hk:K0≤k) (s:StoreT) (h1:s.2.1.length≤1048576) (h2:∀c∈s.2.1,c.1.length≤1048576):impl_copyStore.f k s=some (s,()):=by
 unfold impl_copyStore.f
 refine copy_loop (d:=([],())) hk s.2.1 h1 (fun i rec hi hl=> ?_) (fun rec=>by simp (disch:=omega) only [lett_e,bnd_s,bnd_chk,br_not,br_t,br_f,br_T,br_F,not_true_eq_false,not_false_eq_true,chk_T,chk_F,chk_eq,eqI_dc,ltI_dc,leI_dc,eqN_dc,notB_dc,andB_dc,andB_t,eqB_dc,notB_t,notB_f,inR_dc,upR_dc,ln_e,app_e,tk_e,dp_e,upd_e,repl_e,natI_n,br_pos,br_neg,addI_n,fitN_T])
 have h3:=h2 _ (rd_mem (d:=([],())) hi)
 simp (disch:=omega) only [lett_e,bnd_s,bnd_chk,br_not,br_t,br_f,br_T,br_F,not_true_eq_false,not_false_eq_true,chk_T,chk_F,chk_eq,eqI_dc,ltI_dc,leI_dc,eqN_dc,notB_dc,andB_dc,andB_t,eqB_dc,notB_t,notB_f,inR_dc,upR_dc,ln_e,app_e,tk_e,dp_e,upd_e,repl_e,natI_n,br_pos,br_neg,addI_n,fitN_T,slices_Clone_impl_Kept_f k h3,fit1 _ hl]
 rfl
theorem spec_l05Copy_f {k:Nat} (hk:K0≤k) (x:LoopT) (h1:x.1.length≤1048576) (h2:x.2.2.1.length≤1048576) (h3:∀c∈x.2.2.1,c.2.2.1.length≤1048576) (h4:x.2.2.2.1.length≤1048576) (h5:∀c∈x.2.2.2.1,c.2.1.length≤1048576):spec_l05Copy.f k x=some (x,()):=by
 unfold spec_l05Copy.f
 rw [fit0 h1,br_t,lett_e,app_e,List.nil_append]
 refine copy_loop (d:=(0,0,[],())) hk x.2.2.1 h2 (fun i rec hi hl=> ?_) (fun rec=> ?_)
 ·have h6:=h3 _ (rd_mem (d:=(0,0,[],())) hi)
  refine(lt_t hi _ _).trans ?_
  simp (disch:=omega) only [lett_e,bnd_s,bnd_chk,br_not,br_t,br_f,br_T,br_F,not_true_eq_false,not_false_eq_true,chk_T,chk_F,chk_eq,eqI_dc,ltI_dc,leI_dc,eqN_dc,notB_dc,andB_dc,andB_t,eqB_dc,notB_t,notB_f,inR_dc,upR_dc,ln_e,app_e,tk_e,dp_e,upd_e,repl_e,natI_n,br_pos,br_neg,addI_n,fitN_T,fit0 h6,List.nil_append,fit1 _ hl]
  rfl
 ·refine(lt_e _ _).trans ?_
  refine copy_loop (d:=(0,[],())) hk x.2.2.2.1 h4 (fun i rec hi hl=> ?_) (fun rec=>by simp (disch:=omega) only [lett_e,bnd_s,bnd_chk,br_not,br_t,br_f,br_T,br_F,not_true_eq_false,not_false_eq_true,chk_T,chk_F,chk_eq,eqI_dc,ltI_dc,leI_dc,eqN_dc,notB_dc,andB_dc,andB_t,eqB_dc,notB_t,notB_f,inR_dc,upR_dc,ln_e,app_e,tk_e,dp_e,upd_e,repl_e,natI_n,br_pos,br_neg,addI_n,fitN_T])
  have h6:=h5 _ (rd_mem (d:=(0,[],())) hi)
  simp (disch:=omega) only [lett_e,bnd_s,bnd_chk,br_not,br_t,br_f,br_T,br_F,not_true_eq_false,not_false_eq_true,chk_T,chk_F,chk_eq,eqI_dc,ltI_dc,leI_dc,eqN_dc,notB_dc,andB_dc,andB_t,eqB_dc,notB_t,notB_f,inR_dc,upR_dc,ln_e,app_e,tk_e,dp_e,upd_e,repl_e,natI_n,br_pos,br_neg,addI_n,fitN_T,fit0 h6,List.nil_append,fit1 _ hl]
  rfl
theorem impl_copyLoop_f {k:Nat} (hk:K0≤k) (x:LoopT) (h1:x.1.length≤1048576) (h2:x.2.2.1.length≤1048576) (h3:∀c∈x.2.2.1,c.2.2.1.length≤1048576) (h4:x.2.2.2.1.length≤1048576) (h5:∀c∈x.2.2.2.1,c.2.1.length≤1048576):impl_copyLoop.f k x=some (x,()):=by
 unfold impl_copyLoop.f
 rw [lett_e,slices_Clone_int_int_f k h1,bnd_s,both_same]
 refine copy_loop (d:=(0,0,[],())) hk x.2.2.1 h2 (fun i rec hi hl=> ?_) (fun rec=> ?_)
 ·have h6:=h3 _ (rd_mem (d:=(0,0,[],())) hi)
  refine(lt_t hi _ _).trans ?_
  simp (disch:=omega) only [lett_e,bnd_s,bnd_chk,br_not,br_t,br_f,br_T,br_F,not_true_eq_false,not_false_eq_true,chk_T,chk_F,chk_eq,eqI_dc,ltI_dc,leI_dc,eqN_dc,notB_dc,andB_dc,andB_t,eqB_dc,notB_t,notB_f,inR_dc,upR_dc,ln_e,app_e,tk_e,dp_e,upd_e,repl_e,natI_n,br_pos,br_neg,addI_n,fitN_T,slices_Clone_int_int_f k h6,fit1 _ hl]
  rfl
 ·refine(lt_e _ _).trans ?_
  refine copy_loop (d:=(0,[],())) hk x.2.2.2.1 h4 (fun i rec hi hl=> ?_) (fun rec=>by simp (disch:=omega) only [lett_e,bnd_s,bnd_chk,br_not,br_t,br_f,br_T,br_F,not_true_eq_false,not_false_eq_true,chk_T,chk_F,chk_eq,eqI_dc,ltI_dc,leI_dc,eqN_dc,notB_dc,andB_dc,andB_t,eqB_dc,notB_t,notB_f,inR_dc,upR_dc,ln_e,app_e,tk_e,dp_e,upd_e,repl_e,natI_n,br_pos,br_neg,addI_n,fitN_T])
  have h6:=h5 _ (rd_mem (d:=(0,[],())) hi)
  simp (disch:=omega) only [lett_e,bnd_s,bnd_chk,br_not,br_t,br_f,br_T,br_F,not_true_eq_false,not_false_eq_true,chk_T,chk_F,chk_eq,eqI_dc,ltI_dc,leI_dc,eqN_dc,notB_dc,andB_dc,andB_t,eqB_dc,notB_t,notB_f,inR_dc,upR_dc,ln_e,app_e,tk_e,dp_e,upd_e,repl_e,natI_n,br_pos,br_neg,addI_n,fitN_T,slices_Clone_int_int_f k h6,fit1 _ hl]
  rfl
theorem spec_l09Copy_f {k:Nat} (hk:K0≤k) (x:HallT) (hs:SzH x):spec_l09Copy.f k x=some (x,()):=by
 have h1:=spec_l02Fresh_f k (x.2.2.2.2.1,x.2.2.2.2.2.1,x.2.2.2.2.2.2.1,x.2.2.2.2.2.2.2.1,()) hs.items
 have h2:=spec_l06Copy_f hk (x.2.2.2.2.2.2.2.2.2.2.2.2.1,x.2.2.2.2.2.2.2.2.2.2.2.2.2.1,()) hs.lanes hs.kept
 have h3:=spec_l05Copy_f hk (x.2.2.2.2.2.2.2.2.1,x.2.2.2.2.2.2.2.2.2.1,x.2.2.2.2.2.2.2.2.2.2.1,x.2.2.2.2.2.2.2.2.2.2.2.1,()) hs.trays hs.chutes hs.bags hs.wants hs.told
 unfold spec_l09Copy.f
 simp (disch:=omega) only [lett_e,bnd_s,bnd_chk,br_not,br_t,br_f,br_T,br_F,not_true_eq_false,not_false_eq_true,chk_T,chk_F,chk_eq,eqI_dc,ltI_dc,leI_dc,eqN_dc,notB_dc,andB_dc,andB_t,eqB_dc,notB_t,notB_f,inR_dc,upR_dc,ln_e,app_e,tk_e,dp_e,upd_e,repl_e,natI_n,br_pos,br_neg,addI_n,fitN_T,fit0 hs.wait,fit0 hs.notes,fit0 hs.flights,fit0 hs.cases_,List.nil_append,h1,h2,h3]
theorem impl_copyHall_f {k:Nat} (hk:K0≤k) (x:HallT) (hs:SzH x):impl_copyHall.f k x=some (x,()):=by
 have h1:=impl_copyBelt_f k (x.2.2.2.2.1,x.2.2.2.2.2.1,x.2.2.2.2.2.2.1,x.2.2.2.2.2.2.2.1,()) hs.items
 have h2:=impl_copyStore_f hk (x.2.2.2.2.2.2.2.2.2.2.2.2.1,x.2.2.2.2.2.2.2.2.2.2.2.2.2.1,()) hs.lanes hs.kept
 have h3:=impl_copyLoop_f hk (x.2.2.2.2.2.2.2.2.1,x.2.2.2.2.2.2.2.2.2.1,x.2.2.2.2.2.2.2.2.2.2.1,x.2.2.2.2.2.2.2.2.2.2.2.1,()) hs.trays hs.chutes hs.bags hs.wants hs.told
 unfold impl_copyHall.f
 simp (disch:=omega) only [lett_e,bnd_s,bnd_chk,br_not,br_t,br_f,br_T,br_F,not_true_eq_false,not_false_eq_true,chk_T,chk_F,chk_eq,eqI_dc,ltI_dc,leI_dc,eqN_dc,notB_dc,andB_dc,andB_t,eqB_dc,notB_t,notB_f,inR_dc,upR_dc,ln_e,app_e,tk_e,dp_e,upd_e,repl_e,natI_n,br_pos,br_neg,addI_n,fitN_T,slices_Clone_int_int_f k hs.wait,slices_Clone_impl_Note_f k hs.notes,slices_Clone_impl_Flight_f k hs.flights,slices_Clone_impl_Case_f k hs.cases_,h1,h2,h3]
abbrev hallOf (P:List (Int×Unit)×Unit) (M:Int×Int×Unit) (B:BeltT) (L:LoopT) (S:StoreT) (F:List FlightT):HallT:=(0,P.1,M.1,M.2.1,B.1,B.2.1,B.2.2.1,B.2.2.2.1,L.1,L.2.1,L.2.2.1,L.2.2.2.1,S.1,S.2.1,[],F,[],())
def hall0:HallT:=(0,[],0,0,0,0,false,[],[],0,[],[],0,[],[],[],[],())
noncomputable def newM (P:List (Int×Unit)×Unit) (M:Int×Int×Unit) (B:BeltT) (L:LoopT) (S:StoreT) (F:List FlightT):HallT:= @ite _ (HallP (hallOf P M B L S F)) (Classical.propDecidable _) (hallOf P M B L S F) hall0
theorem spec_NewHall_f {k:Nat} (hk:K0≤k) (P:List (Int×Unit)×Unit) (M:Int×Int×Unit) (B:BeltT) (L:LoopT) (S:StoreT) (F:List FlightT) (hs:SzH (hallOf P M B L S F)):spec_NewHall.f k P M B L S F=some (newM P M B L S F,dc (HallP (hallOf P M B L S F)),()):=by
 have h1:=spec_l09Copy_f hk _ hs
 have h2:=spec_HallOk_f hk _ hs
 unfold spec_NewHall.f
 by_cases hP:HallP (hallOf P M B L S F)
 ·rw [show newM P M B L S F=hallOf P M B L S F from if_pos hP]
  rw [h1,bnd_s,h2,bnd_chk,br_not,br_pos hP,dc_T hP]
 ·rw [show newM P M B L S F=hall0 from if_neg hP]
  rw [h1,bnd_s,h2,bnd_chk,br_not,br_neg hP,dc_F hP]
  rfl
theorem impl_NewHall_f {k:Nat} (hk:K0≤k) (P:List (Int×Unit)×Unit) (M:Int×Int×Unit) (B:BeltT) (L:LoopT) (S:StoreT) (F:List FlightT) (hs:SzT (hallOf P M B L S F)):impl_NewHall.f k P M B L S F=some (newM P M B L S F,dc (HallP (hallOf P M B L S F)),()):=by
 have h1:=impl_copyHall_f hk _ hs.toSzH
 have h2:=impl_HallOk_f hk _ hs
 rw [chk_congr (hall_same _)]at h2
 unfold impl_NewHall.f
 by_cases hP:HallP (hallOf P M B L S F)
 ·rw [show newM P M B L S F=hallOf P M B L S F from if_pos hP]
  rw [h2,bnd_chk,br_not,br_pos hP,h1,bnd_s,dc_T hP]
 ·rw [show newM P M B L S F=hall0 from if_neg hP]
  rw [h2,bnd_chk,br_not,br_neg hP,dc_F hP]
  rfl
theorem newM_sz {P:List (Int×Unit)×Unit} {M:Int×Int×Unit} {B:BeltT} {L:LoopT} {S:StoreT} {F:List FlightT} (hs:SzH (hallOf P M B L S F)):SzH (newM P M B L S F):=by
 unfold newM
 split
 ·exact hs
 ·exact⟨by simp [hall0],by simp [hall0],by simp [hall0],by simp [hall0],by simp [hall0],by simp [hall0],by simp [hall0],by simp [hall0],by simp [hall0],by simp [hall0],by simp [hall0],by simp [hall0]⟩
end Go.Proofs.YtcfbjloblbhdhaaGreat.Eng
namespace Go.Proofs.YtcfbjloblbhdhaaGreat.Eng
def trayM (l:LoopT) (a:Int):Int:=(a-l.2.1+l.1.length).tmod l.1.length
theorem trayM_b {l:LoopT} {a:Int} (h1:0≤a∧a<l.1.length) (h2:0≤l.2.1∧l.2.1<l.1.length):0≤trayM l a∧trayM l a<l.1.length:=by
 unfold trayM
 rw [Int.tmod_eq_emod_of_nonneg (by omega)]
 exact⟨Int.emod_nonneg _ (by omega),Int.emod_lt_of_pos _ (by omega)⟩
theorem spec_l05Tray_f (k:Nat) (l:LoopT) (a:Int) (h0:l.1.length≠0) (hl:l.1.length≤1048576) (h1: -1048576≤a∧a≤1048576) (h2: -1048576≤l.2.1∧l.2.1≤1048576):spec_l05Tray.f k l a=some (trayM l a,()):=by
 unfold spec_l05Tray.f
 simp (disch:=omega) only [lett_e,bnd_s,bnd_chk,br_not,br_t,br_f,br_T,br_F,not_true_eq_false,not_false_eq_true,chk_T,chk_F,chk_eq,eqI_dc,ltI_dc,leI_dc,eqN_dc,notB_dc,andB_dc,andB_t,eqB_dc,notB_t,notB_f,inR_dc,upR_dc,ln_e,app_e,tk_e,dp_e,upd_e,repl_e,natI_n,br_pos,br_neg,addI_n,fitN_T,subI_id,addI_id]
 rfl
theorem spec_TrayAt_f {k:Nat} (hk:K0≤k) (l:LoopT) (a:Int) (hw:∀w∈l.2.2.2.1,w.2.1.length≤1048576):spec_TrayAt.f k l a=some (@ite _ (LoopP l∧(0≤a∧a<l.1.length)) (Classical.propDecidable _) (trayM l a) (-1),()):=by
 have h1:=spec_LoopOk_f hk l hw
 unfold spec_TrayAt.f
 rw [h1,bnd_chk,br_not]
 by_cases hP:LoopP l
 case neg=>rw [br_neg hP,if_neg (fun z=>hP z.1)]
 rw [br_pos hP]
 have hlen:=hP.1
 have ht:=hP.2.1
 rw [ln_e,subI_id (by omega),spec_l01In_f,bnd_chk,br_not]
 by_cases h2:0≤a∧a<l.1.length
 case neg=>rw [br_neg (by omega),if_neg (fun z=>h2 z.2)]
 have h3:=spec_l05Tray_f k l a (by omega) (by omega) (by omega) (by omega)
 rw [br_pos (by omega),if_pos ⟨hP,h2⟩,h3]
 rfl
theorem spec_l05Wants_d {k:Nat} (hk:K0≤k) (l:LoopT) (bag ch:Int) (hl:l.2.2.2.1.length≤1048576) (hw:∀w∈l.2.2.2.1,w.2.1.length≤1048576):
  (∃i,i<l.2.2.2.1.length∧(rdP (0,[],()) l.2.2.2.1 i).1=bag∧(∀j,j<i→¬(rdP (0,[],()) l.2.2.2.1 j).1=bag)∧spec_l05Wants.f k l bag ch=chkP ((ch,())∈(rdP (0,[],()) l.2.2.2.1 i).2.1))∨((∀j,j<l.2.2.2.1.length→¬(rdP (0,[],()) l.2.2.2.1 j).1=bag)∧spec_l05Wants.f k l bag ch=chkP False):=by
 have hk':=hk
 unfold K0 at hk
 unfold spec_l05Wants.f
 refine loop_find (n:=l.2.2.2.1.length) (e:=chkP False) (fun i=>((i:Int),())) (fun i=>(rdP (0,[],()) l.2.2.2.1 i).1=bag) (fun i=>chkP ((ch,())∈(rdP (0,[],()) l.2.2.2.1 i).2.1)) ?h0 ?hk ?hs ?he
 case h0=>simp
 case hk=>omega
 case hs=>
  intro i hi _ rec
  have:=hw _ (by rw [rd_lt hi];exact List.getElem_mem hi:rdP (0,[],()) l.2.2.2.1 i∈l.2.2.2.1)
  simp (disch:=omega) only [lett_e,bnd_s,bnd_chk,br_not,br_t,br_f,br_T,br_F,not_true_eq_false,not_false_eq_true,chk_T,chk_F,chk_eq,eqI_dc,ltI_dc,leI_dc,eqN_dc,notB_dc,andB_dc,andB_t,eqB_dc,notB_t,notB_f,inR_dc,upR_dc,ln_e,app_e,tk_e,dp_e,upd_e,repl_e,natI_n,br_pos,br_neg,addI_n,fitN_T,spec_l03Has_f hk' _ _ this]
  rfl
 case he=>intro _ rec;simp (disch:=omega) only [lett_e,bnd_s,bnd_chk,br_not,br_t,br_f,br_T,br_F,not_true_eq_false,not_false_eq_true,chk_T,chk_F,chk_eq,eqI_dc,ltI_dc,leI_dc,eqN_dc,notB_dc,andB_dc,andB_t,eqB_dc,notB_t,notB_f,inR_dc,upR_dc,ln_e,app_e,tk_e,dp_e,upd_e,repl_e,natI_n,br_pos,br_neg,addI_n,fitN_T]
theorem spec_l05Wants_f {k:Nat} (hk:K0≤k) (l:LoopT) (bag ch:Int) (hl:l.2.2.2.1.length≤1048576) (hw:∀w∈l.2.2.2.1,w.2.1.length≤1048576) (hd:(l.2.2.2.1.map (·.1)).Nodup):spec_l05Wants.f k l bag ch=chkP (∃w,w∈l.2.2.2.1∧w.1=bag∧(ch,())∈w.2.1):=by
 rcases spec_l05Wants_d hk l bag ch hl hw with⟨i,hi,h1,h2,e⟩|⟨h2,e⟩
 ·rw [e]
  refine chk_congr ⟨fun h=>⟨_,by rw [rd_lt hi];exact List.getElem_mem hi,h1,h⟩,?_⟩
  rintro ⟨w,hw1,hw2,hw3⟩
  obtain⟨j,hj,ew⟩:=List.getElem_of_mem hw1
  have hnd:=nodup_rd (d:=(0,[],())) (l:=l.2.2.2.1) (f:=(·.1))
  have hn:=hnd.1 hd
  have ej:rdP (0,[],()) l.2.2.2.1 j=w:=by rw [rd_lt hj,ew]
  rcases Nat.lt_trichotomy i j with hij|hij|hij
  ·exact absurd (by rw [ej,h1,hw2]:(rdP (0,[],()) l.2.2.2.1 i).1=(rdP (0,[],()) l.2.2.2.1 j).1) (hn j hj i hij)
  ·subst hij;rw [ej];exact hw3
  ·exact absurd (by rw [ej];exact hw2) (h2 j hij)
 ·rw [e]
  refine chk_congr ⟨fun h=>h.elim,?_⟩
  rintro ⟨w,hw1,hw2,hw3⟩
  obtain⟨j,hj,ew⟩:=List.getElem_of_mem hw1
  exact h2 j hj (by rw [rd_lt hj,ew];exact hw2)
theorem spec_l05In_f {k:Nat} (hk:K0≤k) (l:LoopT) (a:Int) (h1:l.1.length≤1048576) (h2:l.2.2.1.length≤1048576) (h3:∀c∈l.2.2.1,c.2.2.1.length≤1048576):spec_l05In.f k l a=chkP ((a,())∈l.1∨∃c,c∈l.2.2.1∧(a,())∈c.2.2.1):=by
 have hk':=hk
 have h4:=spec_l03Has_f hk l.1 a h1
 unfold K0 at hk
 unfold spec_l05In.f
 rw [h4,bnd_chk]
 rw [loop_any (n:=l.2.2.1.length) (r:=chkP True) (e:=chkP False) (fun i=>((i:Int),())) (fun i=>(a,())∈(rdP (0,0,[],()) l.2.2.1 i).2.2.1) ?h0 ?hk ?hs ?he]
 case h0=>simp
 case hk=>omega
 case hs=>
  intro i hi _ rec
  have:=h3 _ (by rw [rd_lt hi];exact List.getElem_mem hi:rdP (0,0,[],()) l.2.2.1 i∈l.2.2.1)
  simp (disch:=omega) only [lett_e,bnd_s,bnd_chk,br_not,br_t,br_f,br_T,br_F,not_true_eq_false,not_false_eq_true,chk_T,chk_F,chk_eq,eqI_dc,ltI_dc,leI_dc,eqN_dc,notB_dc,andB_dc,andB_t,eqB_dc,notB_t,notB_f,inR_dc,upR_dc,ln_e,app_e,tk_e,dp_e,upd_e,repl_e,natI_n,br_pos,br_neg,addI_n,fitN_T,spec_l03Has_f hk' _ _ this]
  rfl
 case he=>intro _ rec;simp (disch:=omega) only [lett_e,bnd_s,bnd_chk,br_not,br_t,br_f,br_T,br_F,not_true_eq_false,not_false_eq_true,chk_T,chk_F,chk_eq,eqI_dc,ltI_dc,leI_dc,eqN_dc,notB_dc,andB_dc,andB_t,eqB_dc,notB_t,notB_f,inR_dc,upR_dc,ln_e,app_e,tk_e,dp_e,upd_e,repl_e,natI_n,br_pos,br_neg,addI_n,fitN_T]
 rw [chk_T,br_chkT,br_chkT]
 refine chk_congr ⟨fun h=> ?_,fun h=> ?_⟩
 ·rcases h with h|h|h
  ·exact .inl h
  ·obtain⟨i,hi,h⟩:=h;exact .inr ⟨_,by rw [rd_lt hi];exact List.getElem_mem hi,h⟩
  ·exact h.elim
 ·rcases h with h|⟨c,hc,h⟩
  ·exact .inl h
  ·obtain⟨i,hi,e⟩:=List.getElem_of_mem hc
   exact .inr (.inl ⟨i,hi,by rw [rd_lt hi,e];exact h⟩)
theorem set_split {α:Type} {l:List α} {t:Nat} (h:t<l.length) (y:α):l.set t y=l.take t++y::l.drop (t+1):=by
 rw [List.set_eq_take_append_cons_drop,if_pos h]
theorem split_at {α:Type} {l:List α} {t:Nat} (h:t<l.length):l=l.take t++l[t]::l.drop (t+1):=by
 rw [←List.drop_eq_getElem_cons h,List.take_append_drop]
theorem nz_app (a b:List (Int×Unit)):nz (a++b)=nz a++nz b:=by simp [nz]
theorem nz_c0 {x:Int×Unit} (h:x.1=0) (l:List (Int×Unit)):nz (x::l)=nz l:=by simp [nz,h]
theorem nz_c1 {x:Int×Unit} (h:x.1≠0) (l:List (Int×Unit)):nz (x::l)=x::nz l:=by simp [nz,h]
theorem nz_put {l:List (Int×Unit)} {t:Nat} (h:t<l.length) (h0:(rdP (0,()) l t).1=0) {b:Int} (hb:b≠0):(nz (l.set t (b,()))).Perm ((b,())::nz l):=by
 rw [rd_lt h]at h0
 have e:nz l=nz (l.take t)++nz (l.drop (t+1)):=by
  conv=>lhs;rw [split_at h]
  rw [nz_app,nz_c0 h0]
 rw [set_split h,nz_app,nz_c1 hb,e]
 exact List.perm_middle
theorem nz_take {l:List (Int×Unit)} {t:Nat} (h:t<l.length) (h0:(rdP (0,()) l t).1≠0):(nz l).Perm (((rdP (0,()) l t).1,())::nz (l.set t (0,()))):=by
 rw [rd_lt h]at h0 ⊢
 have e:nz l=nz (l.take t)++l[t]::nz (l.drop (t+1)):=by
  conv=>lhs;rw [split_at h]
  rw [nz_app,nz_c1 h0]
 rw [set_split h,nz_app,nz_c0 rfl,e]
 exact List.perm_middle
noncomputable def inductOk (l:LoopT) (a b:Int):Prop:=LoopP l∧(0≤a∧a<l.1.length)∧(rdP (0,()) l.1 (natI (trayM l a))).1=0∧1≤b∧¬((b,())∈l.1∨∃c,c∈l.2.2.1∧(b,())∈c.2.2.1)
noncomputable def inductM (l:LoopT) (a b:Int):LoopT×Bool×Unit:= @ite _ (inductOk l a b) (Classical.propDecidable _) ((l.1.set (natI (trayM l a)) (b,()),l.2.1,l.2.2.1,l.2.2.2.1,()),true,()) (l,false,())
theorem induct_ok {l:LoopT} {a b:Int} (h:LoopP l):LoopP (inductM l a b).1:=by
 unfold inductM
 split
 case isFalse=>exact h
 case isTrue hh=>
  obtain⟨_,ha,h0,hb,hin⟩:=hh
  obtain⟨p1,p2,p3,p4,p5,p6,p7,p8,p9,p10⟩:=h
  have ht:=trayM_b ha p2
  have htn:natI (trayM l a)<l.1.length:=by unfold natI;omega
  have hp:(bagsL (l.1.set (natI (trayM l a)) (b,()),l.2.1,l.2.2.1,l.2.2.2.1,())).Perm ((b,())::bagsL l):=(nz_put htn h0 (by omega:b≠0)).append_right _
  have hnot:(b,())∉bagsL l:=by
   intro hm
   rcases List.mem_append.1 hm with hm|hm
   ·exact hin (.inl (List.mem_filter.1 hm).1)
   ·obtain⟨c,hc,hm⟩:=List.mem_flatMap.1 hm
    exact hin (.inr ⟨c,hc,hm⟩)
  refine⟨by simpa using p1,by simpa using p2,p3,p4,by simpa using p5,p6,fun y hy=> ?_,?_,p9,p10⟩
  ·rcases List.mem_cons.1 (hp.mem_iff.1 hy)with e|e
   ·subst e;exact hb
   ·exact p7 y e
  ·exact hp.nodup_iff.2 (List.nodup_cons.2 ⟨hnot,p8⟩)
structure SzL (l:LoopT):Prop where
 trays:l.1.length≤1048576
 chutes:l.2.2.1.length≤1048576
 bags:∀c∈l.2.2.1,c.2.2.1.length≤1048576
 wants:l.2.2.2.1.length≤1048576
 told:∀w∈l.2.2.2.1,w.2.1.length≤1048576
theorem spec_l05Copy_l {k:Nat} (hk:K0≤k) (l:LoopT) (hs:SzL l):spec_l05Copy.f k l=some (l,()):=spec_l05Copy_f hk l hs.trays hs.chutes hs.bags hs.wants hs.told
theorem spec_Induct_f {k:Nat} (hk:K0≤k) (l:LoopT) (a b:Int) (hs:SzL l):spec_Induct.f k l a b=some (inductM l a b):=by
 have h1:=spec_l05Copy_l hk l hs
 have h2:=spec_TrayAt_f hk l a hs.told
 have h3:=spec_l05In_f hk l b hs.trays hs.chutes hs.bags
 unfold spec_Induct.f
 rw [h1,bnd_s,h2,bnd_s,ltI_dc]
 by_cases hP:LoopP l∧(0≤a∧a<l.1.length)
 case neg=>
  rw [if_neg hP,br_pos (by omega),inductM,if_neg (fun z=>hP ⟨z.1,z.2.1⟩)]
 rw [if_pos hP]
 obtain⟨hL,ha⟩:=hP
 have ht:=trayM_b ha hL.2.1
 have htn:natI (trayM l a)<l.1.length:=by unfold natI;omega
 rw [br_neg (by omega),inR_dc,ln_e,br_pos (by omega),lett_e]
 by_cases h0:(rdP (0,()) l.1 (natI (trayM l a))).1=0
 case neg=>rw [eqI_dc,notB_dc,br_pos h0,inductM,if_neg (fun z=>h0 z.2.2.1)]
 rw [eqI_dc,notB_dc,br_neg (fun z=>z h0)]
 by_cases hb:b<1
 case pos=>rw [ltI_dc,br_pos hb,inductM,if_neg (fun z=>absurd z.2.2.2.1 (by omega))]
 rw [ltI_dc,br_neg hb,h3,bnd_chk]
 by_cases hin:(b,())∈l.1∨∃c,c∈l.2.2.1∧(b,())∈c.2.2.1
 case pos=>rw [br_pos hin,inductM,if_neg (fun z=>z.2.2.2.2 hin)]
 rw [br_neg hin,h1,bnd_s,inductM,if_pos ⟨hL,ha,h0,by omega,hin⟩,inR_dc,ln_e,br_pos (by omega),lett_e,lett_e,upd_e]
def WantP (W:List Want) (b ch:Int):Prop:=∃w,w∈W∧w.1=b∧(ch,())∈w.2.1
def lpT (tn:Int) (W:List Want) (p:List (Int×Unit)×List Chute) (i:Nat):Nat:=natI (trayM (p.1,tn,p.2,W,()) (rdP (0,0,[],()) p.2 i).1)
def lpB (tn:Int) (W:List Want) (p:List (Int×Unit)×List Chute) (i:Nat):Int:=(rdP (0,()) p.1 (lpT tn W p i)).1
def lpGo (tn:Int) (W:List Want) (p:List (Int×Unit)×List Chute) (i:Nat):Prop:=lpB tn W p i≠0∧WantP W (lpB tn W p i) i∧((rdP (0,0,[],()) p.2 i).2.2.1.length:Int)<(rdP (0,0,[],()) p.2 i).2.1
noncomputable def lpC (tn:Int) (W:List Want) (p:List (Int×Unit)×List Chute) (i:Nat):List (Int×Unit)×List Chute:=
 @ite _ (lpGo tn W p i) (Classical.propDecidable _) (p.1.set (lpT tn W p i) (0,()),p.2.set i ((rdP (0,0,[],()) p.2 i).1,(rdP (0,0,[],()) p.2 i).2.1,(rdP (0,0,[],()) p.2 i).2.2.1++[(lpB tn W p i,())],())) p
noncomputable def lpS (tn:Int) (W:List Want) (p:List (Int×Unit)×List Chute):Nat→List (Int×Unit)×List Chute
 |0=>p
 |i+1=>lpC tn W (lpS tn W p i) i
theorem lpC_ok {tn:Int} {W:List Want} {p:List (Int×Unit)×List Chute} {i:Nat} (h:LoopP (p.1,tn,p.2,W,())) (hi:i<p.2.length):LoopP ((lpC tn W p i).1,tn,(lpC tn W p i).2,W,()):=by
 unfold lpC
 split
 case isFalse=>exact h
 case isTrue hg=>
  obtain⟨g1,g2,g3⟩:=hg
  obtain⟨p1,p2,p3,p4,p5,p6,p7,p8,p9,p10⟩:=h
  have hc:=p5 _ (by rw [rd_lt hi];exact List.getElem_mem hi:rdP (0,0,[],()) p.2 i∈p.2)
  have hc1:=hc.1
  dsimp only at p1 p2 p3 p4 p5 p6 p9 hc hc1
  have ht:=trayM_b (l:=(p.1,tn,p.2,W,())) (a:=(rdP (0,0,[],()) p.2 i).1) hc.1 p2
  dsimp only at ht
  have htn:lpT tn W p i<p.1.length:=by unfold lpT natI;omega
  have hp:(bagsL (p.1.set (lpT tn W p i) (0,()),tn,p.2.set i ((rdP (0,0,[],()) p.2 i).1,(rdP (0,0,[],()) p.2 i).2.1,(rdP (0,0,[],()) p.2 i).2.2.1++[(lpB tn W p i,())],()),W,())).Perm (bagsL (p.1,tn,p.2,W,())):=by
   have e1:(nz p.1).Perm ((lpB tn W p i,())::nz (p.1.set (lpT tn W p i) (0,()))):=nz_take htn g1
   have e2:(inCh (p.2.set i ((rdP (0,0,[],()) p.2 i).1,(rdP (0,0,[],()) p.2 i).2.1,(rdP (0,0,[],()) p.2 i).2.2.1++[(lpB tn W p i,())],()))).Perm ((lpB tn W p i,())::inCh p.2):=by
    have e3:inCh p.2=inCh (p.2.take i)++((rdP (0,0,[],()) p.2 i).2.2.1++inCh (p.2.drop (i+1))):=by
     have:=congrArg inCh (split_at hi)
     rw [this,rd_lt hi]
     simp only [inCh,List.flatMap_append,List.flatMap_cons]
    have e4:inCh (p.2.set i ((rdP (0,0,[],()) p.2 i).1,(rdP (0,0,[],()) p.2 i).2.1,(rdP (0,0,[],()) p.2 i).2.2.1++[(lpB tn W p i,())],()))=(inCh (p.2.take i)++(rdP (0,0,[],()) p.2 i).2.2.1)++(lpB tn W p i,())::inCh (p.2.drop (i+1)):=by
     rw [set_split hi]
     simp [inCh]
    rw [e4,e3,←List.append_assoc]
    exact List.perm_middle
   have e5:(bagsL (p.1,tn,p.2,W,())).Perm ((lpB tn W p i,())::(nz (p.1.set (lpT tn W p i) (0,()))++inCh p.2)):=e1.append_right _
   have e6:(nz (p.1.set (lpT tn W p i) (0,()))++inCh (p.2.set i ((rdP (0,0,[],()) p.2 i).1,(rdP (0,0,[],()) p.2 i).2.1,(rdP (0,0,[],()) p.2 i).2.2.1++[(lpB tn W p i,())],()))).Perm ((lpB tn W p i,())::(nz (p.1.set (lpT tn W p i) (0,()))++inCh p.2)):=(e2.append_left _).trans List.perm_middle
   exact e6.trans e5.symm
  refine⟨by simpa using p1,by simpa using p2,by simpa using p3,p4,fun c hcm=> ?_,?_,fun y hy=>p7 y (hp.mem_iff.1 hy),hp.nodup_iff.2 p8,by simpa using p9,p10⟩
  ·rcases List.mem_or_eq_of_mem_set hcm with hm|hm
   ·simpa using p5 c hm
   ·subst hm
    refine⟨by simpa using hc.1,hc.2.1,?_⟩
    simp only [List.length_append,List.length_singleton]
    omega
  ·have:(p.2.set i ((rdP (0,0,[],()) p.2 i).1,(rdP (0,0,[],()) p.2 i).2.1,(rdP (0,0,[],()) p.2 i).2.2.1++[(lpB tn W p i,())],())).map (·.1)=p.2.map (·.1):=by
    rw [List.map_set,rd_lt hi]
    have:(p.2[i]).1=(p.2.map (·.1))[i]'(by simpa using hi):=by simp
    dsimp only
    rw [this]
    exact List.set_getElem_self _
   dsimp only at this ⊢
   rw [this]
   exact p6
theorem lpC_len (tn:Int) (W:List Want) (p:List (Int×Unit)×List Chute) (i:Nat):(lpC tn W p i).2.length=p.2.length∧(lpC tn W p i).1.length=p.1.length:=by
 unfold lpC;split<;>simp
theorem lpS_len (tn:Int) (W:List Want) (p:List (Int×Unit)×List Chute):∀i,(lpS tn W p i).2.length=p.2.length∧(lpS tn W p i).1.length=p.1.length
 |0=>⟨rfl,rfl⟩
 |i+1=>by have:=lpS_len tn W p i;have h2:=lpC_len tn W (lpS tn W p i) i;exact⟨h2.1.trans this.1,h2.2.trans this.2⟩
theorem lpS_ok {tn:Int} {W:List Want} {p:List (Int×Unit)×List Chute} (h:LoopP (p.1,tn,p.2,W,())):∀i,i≤p.2.length→LoopP ((lpS tn W p i).1,tn,(lpS tn W p i).2,W,())
 |0,_=>h
 |i+1,hi=>lpC_ok (lpS_ok h i (by omega)) (by rw [(lpS_len tn W p i).1];omega)
def tnM (l:LoopT):Int:=(l.2.1+1).tmod l.1.length
theorem tnM_b {l:LoopT} (h:LoopP l):0≤tnM l∧tnM l<l.1.length:=by
 obtain⟨h1,h2,_⟩:=h
 unfold tnM
 rw [Int.tmod_eq_emod_of_nonneg (by omega)]
 exact⟨Int.emod_nonneg _ (by omega),Int.emod_lt_of_pos _ (by omega)⟩
noncomputable def stepLp (l:LoopT):LoopT:=((lpS (tnM l) l.2.2.2.1 (l.1,l.2.2.1) l.2.2.1.length).1,tnM l,(lpS (tnM l) l.2.2.2.1 (l.1,l.2.2.1) l.2.2.1.length).2,l.2.2.2.1,())
theorem turned_ok {l:LoopT} (h:LoopP l):LoopP (l.1,tnM l,l.2.2.1,l.2.2.2.1,()):=by
 have:=tnM_b h
 obtain⟨p1,p2,p3,p4,p5,p6,p7,p8,p9,p10⟩:=h
 exact⟨p1,this,p3,p4,p5,p6,p7,p8,p9,p10⟩
theorem stepLp_ok {l:LoopT} (h:LoopP l):LoopP (stepLp l):=lpS_ok (p:=(l.1,l.2.2.1)) (turned_ok h) _ (Nat.le_refl _)
theorem spec_l05Step_f {k:Nat} (hk:K0≤k) (l:LoopT) (h:LoopP l) (hs:SzL l):spec_l05Step.f k l=some (stepLp l,()):=by
 have h1:=spec_l05Copy_l hk l hs
 have hk':=hk
 unfold K0 at hk
 unfold spec_l05Step.f
 rw [h1,bnd_s]
 have hlen:=h.1
 have htu:=h.2.1
 have hch:=h.2.2.1
 have hwa:=h.2.2.2.1
 have htn:remI (addI .i64 l.2.1 1) (ln l.1)=tnM l:=by rw [addI_id (by omega)];rfl
 simp only [htn]
 rw [eqI_dc,notB_dc,ln_e,br_pos (by omega)]
 have hok:=lpS_ok (p:=(l.1,l.2.2.1)) (turned_ok h)
 have hls:=lpS_len (tnM l) l.2.2.2.1 (l.1,l.2.2.1)
 have htb:=tnM_b h
 refine loop_run (n:=l.2.2.1.length) (fun i=>((lpS (tnM l) l.2.2.2.1 (l.1,l.2.2.1) i).1,(lpS (tnM l) l.2.2.2.1 (l.1,l.2.2.1) i).2,(i:Int),())) rfl (fun i hi rec=> ?_) (fun rec=> ?_) (by omega)
 ·have hL:=hok i (by (try dsimp only);omega)
  have hln:=hls i
  have e:lpS (tnM l) l.2.2.2.1 (l.1,l.2.2.1) (i+1)=lpC (tnM l) l.2.2.2.1 (lpS (tnM l) l.2.2.2.1 (l.1,l.2.2.1) i) i:=rfl
  rw [e]
  clear e hok hls
  generalize lpS (tnM l) l.2.2.2.1 (l.1,l.2.2.1) i=p at*
  generalize tnM l=tn at*
  (try dsimp only at hln)
  have hi':i<p.2.length:=by omega
  have hc:=hL.2.2.2.2.1 _ (by (try dsimp only);rw [rd_lt hi'];exact List.getElem_mem hi':rdP (0,0,[],()) p.2 i∈p.2)
  have hc1:=hc.1
  have hc3:=hc.2.2
  dsimp only at hc1 hc3
  have ht:=trayM_b (l:=(p.1,tn,p.2,l.2.2.2.1,())) (a:=(rdP (0,0,[],()) p.2 i).1) hc.1 (by (try dsimp only);omega)
  dsimp only at ht
  have hT:=spec_l05Tray_f k (p.1,tn,p.2,l.2.2.2.1,()) (rdP (0,0,[],()) p.2 i).1 (by (try dsimp only);omega) (by (try dsimp only);omega) (by omega) (by (try dsimp only);omega)
  have hnt:natI (trayM (p.1,tn,p.2,l.2.2.2.1,()) (rdP (0,0,[],()) p.2 i).1)=lpT tn l.2.2.2.1 p i:=rfl
  have hbt:(rdP (0,()) p.1 (lpT tn l.2.2.2.1 p i)).1=lpB tn l.2.2.2.1 p i:=rfl
  have hW:spec_l05Wants.f k (p.1,tn,p.2,l.2.2.2.1,()) (lpB tn l.2.2.2.1 p i) i=chkP (WantP l.2.2.2.1 (lpB tn l.2.2.2.1 p i) i):=spec_l05Wants_f hk' (p.1,tn,p.2,l.2.2.2.1,()) _ _ hs.wants hs.told h.2.2.2.2.2.2.2.2.2
  have hfit:=fit1 ((lpB tn l.2.2.2.1 p i,()):Int×Unit) (l:=(rdP (0,0,[],()) p.2 i).2.2.1) (by have:=hc.2.1;omega)
  generalize trayM (p.1,tn,p.2,l.2.2.2.1,()) (rdP (0,0,[],()) p.2 i).1=tt at*
  by_cases b0:lpB tn l.2.2.2.1 p i=0
  ·have e:lpC tn l.2.2.2.1 p i=p:=if_neg (fun z=>z.1 b0)
   rw [e]
   simp (disch:=omega) only [lett_e,bnd_s,bnd_chk,br_not,br_t,br_f,br_T,br_F,not_true_eq_false,not_false_eq_true,chk_T,chk_F,chk_eq,eqI_dc,ltI_dc,leI_dc,eqN_dc,notB_dc,andB_dc,andB_t,eqB_dc,notB_t,notB_f,inR_dc,upR_dc,ln_e,app_e,tk_e,dp_e,upd_e,repl_e,natI_n,br_pos,br_neg,addI_n,fitN_T,hT,hnt,hbt]
   rfl
  by_cases b1:WantP l.2.2.2.1 (lpB tn l.2.2.2.1 p i) i
  case neg=>
   have e:lpC tn l.2.2.2.1 p i=p:=if_neg (fun z=>b1 z.2.1)
   rw [e]
   simp (disch:=omega) only [lett_e,bnd_s,bnd_chk,br_not,br_t,br_f,br_T,br_F,not_true_eq_false,not_false_eq_true,chk_T,chk_F,chk_eq,eqI_dc,ltI_dc,leI_dc,eqN_dc,notB_dc,andB_dc,andB_t,eqB_dc,notB_t,notB_f,inR_dc,upR_dc,ln_e,app_e,tk_e,dp_e,upd_e,repl_e,natI_n,br_pos,br_neg,addI_n,fitN_T,hT,hnt,hbt,hW]
   rfl
  by_cases b2:((rdP (0,0,[],()) p.2 i).2.2.1.length:Int)<(rdP (0,0,[],()) p.2 i).2.1
  ·have e:lpC tn l.2.2.2.1 p i=_:=if_pos ⟨b0,b1,b2⟩
   rw [e]
   simp (disch:=omega) only [lett_e,bnd_s,bnd_chk,br_not,br_t,br_f,br_T,br_F,not_true_eq_false,not_false_eq_true,chk_T,chk_F,chk_eq,eqI_dc,ltI_dc,leI_dc,eqN_dc,notB_dc,andB_dc,andB_t,eqB_dc,notB_t,notB_f,inR_dc,upR_dc,ln_e,app_e,tk_e,dp_e,upd_e,repl_e,natI_n,br_pos,br_neg,addI_n,fitN_T,hT,hnt,hbt,hW,hfit]
   rfl
  ·have e:lpC tn l.2.2.2.1 p i=p:=if_neg (fun z=>b2 z.2.2)
   rw [e]
   simp (disch:=omega) only [lett_e,bnd_s,bnd_chk,br_not,br_t,br_f,br_T,br_F,not_true_eq_false,not_false_eq_true,chk_T,chk_F,chk_eq,eqI_dc,ltI_dc,leI_dc,eqN_dc,notB_dc,andB_dc,andB_t,eqB_dc,notB_t,notB_f,inR_dc,upR_dc,ln_e,app_e,tk_e,dp_e,upd_e,repl_e,natI_n,br_pos,br_neg,addI_n,fitN_T,hT,hnt,hbt,hW]
   rfl
 ·have hln:=hls l.2.2.1.length
  dsimp only at hln
  simp (disch:=omega) only [lett_e,bnd_s,bnd_chk,br_not,br_t,br_f,br_T,br_F,not_true_eq_false,not_false_eq_true,chk_T,chk_F,chk_eq,eqI_dc,ltI_dc,leI_dc,eqN_dc,notB_dc,andB_dc,andB_t,eqB_dc,notB_t,notB_f,inR_dc,upR_dc,ln_e,app_e,tk_e,dp_e,upd_e,repl_e,natI_n,br_pos,br_neg,addI_n,fitN_T,hln]
  rfl
end Go.Proofs.YtcfbjloblbhdhaaGreat.Eng
namespace Go.Proofs.YtcfbjloblbhdhaaGreat.Eng
def wantF (b:Int) (ch:List (Int×Unit)) (w:Want):Want:=if w.1=b then(b,ch,())else w
noncomputable def setW (W:List Want) (b:Int) (ch:List (Int×Unit)):List Want:=W.map (wantF b ch)++ @ite _ (∃j,j<W.length∧(rdP (0,[],()) W j).1=b) (Classical.propDecidable _) [] [(b,ch,())]
noncomputable def setWantM (l:LoopT) (b:Int) (ch:List (Int×Unit)):LoopT×Bool×Unit:=
 @ite _ (LoopP l∧LoopP (l.1,l.2.1,l.2.2.1,setW l.2.2.2.1 b ch,())) (Classical.propDecidable _) ((l.1,l.2.1,l.2.2.1,setW l.2.2.2.1 b ch,()),true,()) (l,false,())
theorem setWant_ok {l:LoopT} {b:Int} {ch:List (Int×Unit)} (h:LoopP l):LoopP (setWantM l b ch).1:=by
 unfold setWantM
 split
 case isFalse=>exact h
 case isTrue hh=>exact hh.2
theorem setW_told {W:List Want} {b:Int} {ch:List (Int×Unit)} (h:∀w∈W,w.2.1.length≤1048576) (hc:ch.length≤1048576):∀w∈setW W b ch,w.2.1.length≤1048576:=by
 intro w hw
 rcases List.mem_append.1 hw with hw|hw
 ·obtain⟨v,hv,rfl⟩:=List.mem_map.1 hw
  unfold wantF
  split
  ·exact hc
  ·exact h v hv
 ·split at hw
  ·cases hw
  ·rw [List.mem_singleton.1 hw];exact hc
theorem rd_map {α β:Type} {d:α} {e:β} {f:α→β} {l:List α} {i:Nat} (h:i<l.length):rdP e (l.map f) i=f (rdP d l i):=by
 rw [rd_lt (by simpa using h),rd_lt h,List.getElem_map]
theorem ex_succ {P:Nat→Prop} {i:Nat} (h:¬P i):(∃j,j<i+1∧P j)↔∃j,j<i∧P j:=by
 constructor
 ·rintro ⟨j,hj,hp⟩
  rcases Nat.lt_or_ge j i with hji|hji
  ·exact⟨j,hji,hp⟩
  ·obtain rfl:j=i:=by omega
   exact absurd hp h
 ·rintro ⟨j,hj,hp⟩
  exact⟨j,by omega,hp⟩
theorem spec_SetWant_f {k:Nat} (hk:K0≤k) (l:LoopT) (b:Int) (ch:List (Int×Unit)) (hs:SzL l) (hc:ch.length≤1048576):spec_SetWant.f k l b ch=some (setWantM l b ch):=by
 have h1:=spec_l05Copy_l hk l hs
 have h2:=spec_LoopOk_f hk l hs.told
 have h3:=spec_LoopOk_f hk (l.1,l.2.1,l.2.2.1,setW l.2.2.2.1 b ch,()) (setW_told hs.told hc)
 unfold K0 at hk
 unfold spec_SetWant.f
 rw [h1,bnd_s,h2,bnd_chk,br_not]
 by_cases hP:LoopP l
 case neg=>rw [br_neg hP,setWantM,if_neg (fun z=>hP z.1)]
 have hw:=hP.2.2.2.1
 rw [br_pos hP,h1,bnd_s,fit0 hc,br_t,lett_e,app_e,List.nil_append]
 have hm:(l.2.2.2.1.map (wantF b ch)).length=l.2.2.2.1.length:=by simp
 refine loop_run (n:=l.2.2.2.1.length) (fun i=>(ch,half l.2.2.2.1 (l.2.2.2.1.map (wantF b ch)) i,dc (∃j,j<i∧(rdP (0,[],()) l.2.2.2.1 j).1=b),(i:Int),())) ?_ (fun i hi rec=> ?_) (fun rec=> ?_) (by omega)
 ·rw [dc_F (fun z=>by obtain⟨j,hj,_⟩:=z;omega)]
  simp [half]
 ·have hl:=half_len hm i (by omega)
  have ha:=half_at (d:=(0,[],())) hm hi
  have hst:=half_set (d:=(0,[],())) hm hi
  rw [rd_map (d:=(0,[],())) hi]at hst
  rw [←hst]
  have same:wantF b ch (rdP (0,[],()) l.2.2.2.1 i)=rdP (0,[],()) l.2.2.2.1 i→(half l.2.2.2.1 (l.2.2.2.1.map (wantF b ch)) i).set i (wantF b ch (rdP (0,[],()) l.2.2.2.1 i))=half l.2.2.2.1 (l.2.2.2.1.map (wantF b ch)) i:=by
   intro e
   rw [e,←ha,rd_lt (by omega)]
   exact List.set_getElem_self _
  generalize half l.2.2.2.1 (l.2.2.2.1.map (wantF b ch)) i=c at*
  by_cases e1:(rdP (0,[],()) l.2.2.2.1 i).1=b
  ·have e2:wantF b ch (rdP (0,[],()) l.2.2.2.1 i)=(b,ch,()):=if_pos e1
   have e3:dc (∃j,j<i+1∧(rdP (0,[],()) l.2.2.2.1 j).1=b)=true:=dc_T ⟨i,by omega,e1⟩
   rw [e2,e3]
   simp (disch:=omega) only [lett_e,bnd_s,bnd_chk,br_not,br_t,br_f,br_T,br_F,not_true_eq_false,not_false_eq_true,chk_T,chk_F,chk_eq,eqI_dc,ltI_dc,leI_dc,eqN_dc,notB_dc,andB_dc,andB_t,eqB_dc,notB_t,notB_f,inR_dc,upR_dc,ln_e,app_e,tk_e,dp_e,upd_e,repl_e,natI_n,br_pos,br_neg,addI_n,fitN_T,hl,ha]
   rfl
  ·have e2:wantF b ch (rdP (0,[],()) l.2.2.2.1 i)=rdP (0,[],()) l.2.2.2.1 i:=if_neg e1
   have e3:dc (∃j,j<i+1∧(rdP (0,[],()) l.2.2.2.1 j).1=b)=dc (∃j,j<i∧(rdP (0,[],()) l.2.2.2.1 j).1=b):=dc_congr (ex_succ (P:=fun j=>(rdP (0,[],()) l.2.2.2.1 j).1=b) e1)
   rw [same e2,e3]
   simp (disch:=omega) only [lett_e,bnd_s,bnd_chk,br_not,br_t,br_f,br_T,br_F,not_true_eq_false,not_false_eq_true,chk_T,chk_F,chk_eq,eqI_dc,ltI_dc,leI_dc,eqN_dc,notB_dc,andB_dc,andB_t,eqB_dc,notB_t,notB_f,inR_dc,upR_dc,ln_e,app_e,tk_e,dp_e,upd_e,repl_e,natI_n,br_pos,br_neg,addI_n,fitN_T,hl,ha]
   rfl
 ·rw [half_end hm]
  by_cases e1:∃j,j<l.2.2.2.1.length∧(rdP (0,[],()) l.2.2.2.1 j).1=b
  ·have e2:setW l.2.2.2.1 b ch=l.2.2.2.1.map (wantF b ch):=by rw [setW,if_pos e1,List.append_nil]
   rw [e2]at h3
   simp (disch:=omega) only [lett_e,bnd_s,bnd_chk,br_not,br_t,br_f,br_T,br_F,not_true_eq_false,not_false_eq_true,chk_T,chk_F,chk_eq,eqI_dc,ltI_dc,leI_dc,eqN_dc,notB_dc,andB_dc,andB_t,eqB_dc,notB_t,notB_f,inR_dc,upR_dc,ln_e,app_e,tk_e,dp_e,upd_e,repl_e,natI_n,br_pos,br_neg,addI_n,fitN_T,hm,h3,dc_T e1]
   rw [setWantM,e2]
   by_cases hx:LoopP (l.1,l.2.1,l.2.2.1,l.2.2.2.1.map (wantF b ch),())
   ·rw [br_pos hx,if_pos ⟨hP,hx⟩]
   ·rw [br_neg hx,if_neg (fun z=>hx z.2)]
  ·have e2:setW l.2.2.2.1 b ch=l.2.2.2.1.map (wantF b ch)++[(b,ch,())]:=by rw [setW,if_neg e1]
   rw [e2]at h3
   have f1:=fit1 ((b,ch,()):Want) (l:=l.2.2.2.1.map (wantF b ch)) (by rw [hm];omega)
   simp (disch:=omega) only [lett_e,bnd_s,bnd_chk,br_not,br_t,br_f,br_T,br_F,not_true_eq_false,not_false_eq_true,chk_T,chk_F,chk_eq,eqI_dc,ltI_dc,leI_dc,eqN_dc,notB_dc,andB_dc,andB_t,eqB_dc,notB_t,notB_f,inR_dc,upR_dc,ln_e,app_e,tk_e,dp_e,upd_e,repl_e,natI_n,br_pos,br_neg,addI_n,fitN_T,hm,h3,dc_F e1,f1]
   rw [setWantM,e2]
   by_cases hx:LoopP (l.1,l.2.1,l.2.2.1,l.2.2.2.1.map (wantF b ch)++[(b,ch,())],())
   ·rw [br_pos hx,if_pos ⟨hP,hx⟩]
   ·rw [br_neg hx,if_neg (fun z=>hx z.2)]
end Go.Proofs.YtcfbjloblbhdhaaGreat.Eng
namespace Go.Proofs.YtcfbjloblbhdhaaGreat.Eng
def leastR (l:List Kept):Nat→Int
 |0=>100001
 |i+1=>minI (leastR l i) (rdP (0,0,()) l i).2.1
def least (l:List Kept):Int:=leastR l l.length
theorem spec_l06Least_f {k:Nat} (hk:K0≤k) (l:List Kept) (hl:l.length≤1048576):spec_l06Least.f k l=some (least l,()):=by
 unfold K0 at hk
 unfold spec_l06Least.f
 refine loop_run (n:=l.length) (fun i=>(leastR l i,(i:Int),())) rfl (fun i hi rec=> ?_) (fun rec=>by simp (disch:=omega) only [lett_e,bnd_s,bnd_chk,br_not,br_t,br_f,br_T,br_F,not_true_eq_false,not_false_eq_true,chk_T,chk_F,chk_eq,eqI_dc,ltI_dc,leI_dc,eqN_dc,notB_dc,andB_dc,andB_t,eqB_dc,notB_t,notB_f,inR_dc,upR_dc,ln_e,app_e,tk_e,dp_e,upd_e,repl_e,natI_n,br_pos,br_neg,addI_n,fitN_T];rfl) (by omega)
 simp (disch:=omega) only [lett_e,bnd_s,bnd_chk,br_not,br_t,br_f,br_T,br_F,not_true_eq_false,not_false_eq_true,chk_T,chk_F,chk_eq,eqI_dc,ltI_dc,leI_dc,eqN_dc,notB_dc,andB_dc,andB_t,eqB_dc,notB_t,notB_f,inR_dc,upR_dc,ln_e,app_e,tk_e,dp_e,upd_e,repl_e,natI_n,br_pos,br_neg,addI_n,fitN_T]
 rfl
def laneFree (s:StoreT) (but:Int) (i:Nat):Prop:=i<s.2.1.length∧(i:Int)≠but∧((rdP ([],()) s.2.1 i).1.length:Int)<s.1
def lnC (s:StoreT) (time but:Int) (c:Int×Int×Int) (i:Nat):Int×Int×Int:=
 if (i:Int)=but then c else if s.1≤((rdP ([],()) s.2.1 i).1.length:Int)then c else if (rdP ([],()) s.2.1 i).1.length=0 then(if c.2.1<0 then(c.1,(i:Int),c.2.2)else c)else
  ((if time≤least (rdP ([],()) s.2.1 i).1 then(if c.1<0 then(i:Int)else if least (rdP ([],()) s.2.1 i).1<least (rdP ([],()) s.2.1 (natI c.1)).1 then(i:Int)else c.1)else c.1),c.2.1,
   if c.2.2<0 then(i:Int)else if least (rdP ([],()) s.2.1 (natI c.2.2)).1<least (rdP ([],()) s.2.1 i).1 then(i:Int)else c.2.2)
def lnS (s:StoreT) (time but:Int):Nat→Int×Int×Int
 |0=>(-1,-1,-1)
 |i+1=>lnC s time but (lnS s time but i) i
def lnOk (s:StoreT) (but:Int) (x:Int):Prop:=x= -1∨∃j:Nat,x=j∧laneFree s but j
theorem lnC_ok {s:StoreT} {time but:Int} {c:Int×Int×Int} {i:Nat} (hi:i<s.2.1.length) (h1:lnOk s but c.1) (h2:lnOk s but c.2.1) (h3:lnOk s but c.2.2):lnOk s but (lnC s time but c i).1∧lnOk s but (lnC s time but c i).2.1∧lnOk s but (lnC s time but c i).2.2:=by
 unfold lnC
 by_cases e1:(i:Int)=but
 ·rw [if_pos e1];exact⟨h1,h2,h3⟩
 rw [if_neg e1]
 by_cases e2:s.1≤((rdP ([],()) s.2.1 i).1.length:Int)
 ·rw [if_pos e2];exact⟨h1,h2,h3⟩
 rw [if_neg e2]
 have hn:lnOk s but (i:Int):= .inr ⟨i,rfl,hi,e1,by omega⟩
 by_cases e3:(rdP ([],()) s.2.1 i).1.length=0
 ·rw [if_pos e3]
  split
  ·exact⟨h1,hn,h3⟩
  ·exact⟨h1,h2,h3⟩
 rw [if_neg e3]
 refine⟨?_,h2,?_⟩
 ·dsimp only
  repeat' split
  all_goals assumption
 ·dsimp only
  repeat' split
  all_goals assumption
theorem lnS_ok (s:StoreT) (time but:Int):∀i,i≤s.2.1.length→lnOk s but (lnS s time but i).1∧lnOk s but (lnS s time but i).2.1∧lnOk s but (lnS s time but i).2.2
 |0,_=>⟨.inl rfl,.inl rfl,.inl rfl⟩
 |i+1,h=>by
  obtain⟨h1,h2,h3⟩:=lnS_ok s time but i (by omega)
  exact lnC_ok (by omega) h1 h2 h3
noncomputable def laneM (s:StoreT) (time but:Int):Int:= @ite _ (StoreP s∧(0≤time∧time≤100000)) (Classical.propDecidable _)
 (if 0≤(lnS s time but s.2.1.length).1 then(lnS s time but s.2.1.length).1 else if 0≤(lnS s time but s.2.1.length).2.1 then(lnS s time but s.2.1.length).2.1 else(lnS s time but s.2.1.length).2.2) (-1)
theorem laneM_ok (s:StoreT) (time but:Int):lnOk s but (laneM s time but):=by
 unfold laneM
 obtain⟨h1,h2,h3⟩:=lnS_ok s time but _ (Nat.le_refl _)
 split
 ·split
  ·exact h1
  ·split
   ·exact h2
   ·exact h3
 ·exact .inl rfl
set_option maxHeartbeats 4000000 in
theorem spec_LaneFor_f {k:Nat} (hk:K0≤k) (s:StoreT) (time but:Int):spec_LaneFor.f k s time but=some (laneM s time but,()):=by
 have h1:spec_StoreOk.f k (s.1,s.2.1,())=chkP (StoreP s):=spec_StoreOk_f hk s
 have hk':=hk
 unfold K0 at hk
 unfold spec_LaneFor.f
 rw [h1,bnd_chk,br_not]
 by_cases hP:StoreP s
 case neg=>rw [br_neg hP,laneM,if_neg (fun z=>hP z.1)]
 rw [br_pos hP,spec_l01In_f,bnd_chk,br_not]
 by_cases hT:0≤time∧time≤100000
 case neg=>rw [br_neg hT,laneM,if_neg (fun z=>hT z.2)]
 rw [br_pos hT,laneM,if_pos ⟨hP,hT⟩]
 obtain⟨hd,hl,hx,_⟩:=hP
 have hle:∀j,j<s.2.1.length→spec_l06Least.f k (rdP ([],()) s.2.1 j).1=some (least (rdP ([],()) s.2.1 j).1,()):=fun j hj=>
  spec_l06Least_f hk' _ (by have:=(hx _ (by rw [rd_lt hj];exact List.getElem_mem hj:rdP ([],()) s.2.1 j∈s.2.1)).1;omega)
 refine loop_run (n:=s.2.1.length) (fun i=>((lnS s time but i).1,(lnS s time but i).2.1,(lnS s time but i).2.2,(i:Int),())) rfl (fun i hi rec=> ?_) (fun rec=> ?_) (by omega)
 ·obtain⟨g1,g2,g3⟩:=lnS_ok s time but i (by omega)
  have e:lnS s time but (i+1)=lnC s time but (lnS s time but i) i:=rfl
  rw [e]
  clear e
  generalize lnS s time but i=c at*
  obtain⟨a,b,g⟩:=c
  dsimp only at g1 g2 g3 ⊢
  have hli:=hle i hi
  by_cases e1:(i:Int)=but
  ·simp (disch:=omega) only [lett_e,bnd_s,bnd_chk,br_not,br_t,br_f,br_T,br_F,not_true_eq_false,not_false_eq_true,chk_T,chk_F,chk_eq,eqI_dc,ltI_dc,leI_dc,eqN_dc,notB_dc,andB_dc,andB_t,eqB_dc,notB_t,notB_f,inR_dc,upR_dc,ln_e,app_e,tk_e,dp_e,upd_e,repl_e,natI_n,br_pos,br_neg,addI_n,fitN_T,lnC,if_pos];rfl
  by_cases e2:s.1≤((rdP ([],()) s.2.1 i).1.length:Int)
  ·simp (disch:=omega) only [lett_e,bnd_s,bnd_chk,br_not,br_t,br_f,br_T,br_F,not_true_eq_false,not_false_eq_true,chk_T,chk_F,chk_eq,eqI_dc,ltI_dc,leI_dc,eqN_dc,notB_dc,andB_dc,andB_t,eqB_dc,notB_t,notB_f,inR_dc,upR_dc,ln_e,app_e,tk_e,dp_e,upd_e,repl_e,natI_n,br_pos,br_neg,addI_n,fitN_T,lnC,if_pos,if_neg];rfl
  by_cases e3:(rdP ([],()) s.2.1 i).1.length=0
  ·by_cases e4:b<0
   ·simp (disch:=omega) only [lett_e,bnd_s,bnd_chk,br_not,br_t,br_f,br_T,br_F,not_true_eq_false,not_false_eq_true,chk_T,chk_F,chk_eq,eqI_dc,ltI_dc,leI_dc,eqN_dc,notB_dc,andB_dc,andB_t,eqB_dc,notB_t,notB_f,inR_dc,upR_dc,ln_e,app_e,tk_e,dp_e,upd_e,repl_e,natI_n,br_pos,br_neg,addI_n,fitN_T,lnC,if_pos,if_neg];rfl
   ·simp (disch:=omega) only [lett_e,bnd_s,bnd_chk,br_not,br_t,br_f,br_T,br_F,not_true_eq_false,not_false_eq_true,chk_T,chk_F,chk_eq,eqI_dc,ltI_dc,leI_dc,eqN_dc,notB_dc,andB_dc,andB_t,eqB_dc,notB_t,notB_f,inR_dc,upR_dc,ln_e,app_e,tk_e,dp_e,upd_e,repl_e,natI_n,br_pos,br_neg,addI_n,fitN_T,lnC,if_pos,if_neg];rfl
  generalize hL:least (rdP ([],()) s.2.1 i).1=L at*
  have over:∃o,(if time≤L then(if a<0 then(i:Int)else if L<least (rdP ([],()) s.2.1 (natI a)).1 then(i:Int)else a)else a)=o:=⟨_,rfl⟩
  rcases g1 with rfl|⟨ja,rfl,fa⟩<;>rcases g3 with rfl|⟨jg,rfl,fg⟩<;>by_cases t1:time≤L
  all_goals first
   |(have ha:=hle ja fa.1;have hg:=hle jg fg.1;by_cases t2:L<least (rdP ([],()) s.2.1 ja).1<;>by_cases t3:least (rdP ([],()) s.2.1 jg).1<L<;>(have:=fa.1;have:=fg.1;simp (disch:=omega) only [lett_e,bnd_s,bnd_chk,br_not,br_t,br_f,br_T,br_F,not_true_eq_false,not_false_eq_true,chk_T,chk_F,chk_eq,eqI_dc,ltI_dc,leI_dc,eqN_dc,notB_dc,andB_dc,andB_t,eqB_dc,notB_t,notB_f,inR_dc,upR_dc,ln_e,app_e,tk_e,dp_e,upd_e,repl_e,natI_n,br_pos,br_neg,addI_n,fitN_T,lnC,if_pos,if_neg,hli,ha,hg,hL];rfl))
   |(have ha:=hle ja fa.1;by_cases t2:L<least (rdP ([],()) s.2.1 ja).1<;>(have:=fa.1;simp (disch:=omega) only [lett_e,bnd_s,bnd_chk,br_not,br_t,br_f,br_T,br_F,not_true_eq_false,not_false_eq_true,chk_T,chk_F,chk_eq,eqI_dc,ltI_dc,leI_dc,eqN_dc,notB_dc,andB_dc,andB_t,eqB_dc,notB_t,notB_f,inR_dc,upR_dc,ln_e,app_e,tk_e,dp_e,upd_e,repl_e,natI_n,br_pos,br_neg,addI_n,fitN_T,lnC,if_pos,if_neg,hli,ha,hL];rfl))
   |(have hg:=hle jg fg.1;by_cases t3:least (rdP ([],()) s.2.1 jg).1<L<;>(have:=fg.1;simp (disch:=omega) only [lett_e,bnd_s,bnd_chk,br_not,br_t,br_f,br_T,br_F,not_true_eq_false,not_false_eq_true,chk_T,chk_F,chk_eq,eqI_dc,ltI_dc,leI_dc,eqN_dc,notB_dc,andB_dc,andB_t,eqB_dc,notB_t,notB_f,inR_dc,upR_dc,ln_e,app_e,tk_e,dp_e,upd_e,repl_e,natI_n,br_pos,br_neg,addI_n,fitN_T,lnC,if_pos,if_neg,hli,hg,hL];rfl))
   |(simp (disch:=omega) only [lett_e,bnd_s,bnd_chk,br_not,br_t,br_f,br_T,br_F,not_true_eq_false,not_false_eq_true,chk_T,chk_F,chk_eq,eqI_dc,ltI_dc,leI_dc,eqN_dc,notB_dc,andB_dc,andB_t,eqB_dc,notB_t,notB_f,inR_dc,upR_dc,ln_e,app_e,tk_e,dp_e,upd_e,repl_e,natI_n,br_pos,br_neg,addI_n,fitN_T,lnC,if_pos,if_neg,hli,hL];rfl)
 ·generalize lnS s time but s.2.1.length=c
  by_cases e1:0≤c.1
  ·simp (disch:=omega) only [lett_e,bnd_s,bnd_chk,br_not,br_t,br_f,br_T,br_F,not_true_eq_false,not_false_eq_true,chk_T,chk_F,chk_eq,eqI_dc,ltI_dc,leI_dc,eqN_dc,notB_dc,andB_dc,andB_t,eqB_dc,notB_t,notB_f,inR_dc,upR_dc,ln_e,app_e,tk_e,dp_e,upd_e,repl_e,natI_n,br_pos,br_neg,addI_n,fitN_T,if_pos]
  by_cases e2:0≤c.2.1
  ·simp (disch:=omega) only [lett_e,bnd_s,bnd_chk,br_not,br_t,br_f,br_T,br_F,not_true_eq_false,not_false_eq_true,chk_T,chk_F,chk_eq,eqI_dc,ltI_dc,leI_dc,eqN_dc,notB_dc,andB_dc,andB_t,eqB_dc,notB_t,notB_f,inR_dc,upR_dc,ln_e,app_e,tk_e,dp_e,upd_e,repl_e,natI_n,br_pos,br_neg,addI_n,fitN_T,if_pos,if_neg]
  ·simp (disch:=omega) only [lett_e,bnd_s,bnd_chk,br_not,br_t,br_f,br_T,br_F,not_true_eq_false,not_false_eq_true,chk_T,chk_F,chk_eq,eqI_dc,ltI_dc,leI_dc,eqN_dc,notB_dc,andB_dc,andB_t,eqB_dc,notB_t,notB_f,inR_dc,upR_dc,ln_e,app_e,tk_e,dp_e,upd_e,repl_e,natI_n,br_pos,br_neg,addI_n,fitN_T,if_neg]
end Go.Proofs.YtcfbjloblbhdhaaGreat.Eng
namespace Go.Proofs.YtcfbjloblbhdhaaGreat.Eng
structure SzS (s:StoreT):Prop where
 lanes:s.2.1.length≤1048576
 kept:∀c∈s.2.1,c.1.length≤1048576
def InS (s:StoreT) (b:Int):Prop:=∃l,l∈s.2.1∧∃y,y∈l.1∧y.1=b
def putL (s:StoreT) (j:Nat) (b t:Int):StoreT:=(s.1,s.2.1.set j ((rdP ([],()) s.2.1 j).1++[(b,t,())],()),())
noncomputable def putOk (s:StoreT) (b t:Int):Prop:=0≤laneM s t (-1)∧1≤b∧¬InS s b
noncomputable def putM (s:StoreT) (b t:Int):StoreT×Int×Bool×Unit:= @ite _ (putOk s b t) (Classical.propDecidable _) (putL s (natI (laneM s t (-1))) b t,laneM s t (-1),true,()) (s,-1,false,())
theorem laneM_P {s:StoreT} {t but:Int} (h:0≤laneM s t but):StoreP s∧(0≤t∧t≤100000):=by
 by_cases hh:StoreP s∧(0≤t∧t≤100000)
 ·exact hh
 ·rw [laneM,if_neg hh]at h;omega
theorem laneM_at {s:StoreT} {t but:Int} (h:0≤laneM s t but):laneFree s but (natI (laneM s t but))∧laneM s t but=(natI (laneM s t but):Nat):=by
 rcases laneM_ok s t but with e|⟨j,e,hf⟩
 ·omega
 ·rw [e,natI_n];exact⟨hf,rfl⟩
theorem bagsS_set {l:List (List Kept×Unit)} {j:Nat} (h:j<l.length) (x:Kept):(bagsS (l.set j ((rdP ([],()) l j).1++[x],()))).Perm ((x.1,())::bagsS l):=by
 have e3:bagsS l=bagsS (l.take j)++(bagsK (rdP ([],()) l j).1++bagsS (l.drop (j+1))):=by
  have:=congrArg bagsS (split_at h)
  rw [this,rd_lt h]
  simp only [bagsS,List.flatMap_append,List.flatMap_cons]
 have e4:bagsS (l.set j ((rdP ([],()) l j).1++[x],()))=(bagsS (l.take j)++bagsK (rdP ([],()) l j).1)++(x.1,())::bagsS (l.drop (j+1)):=by
  rw [set_split h]
  simp [bagsS,bagsK]
 rw [e4,e3,←List.append_assoc]
 exact List.perm_middle
theorem mem_bagsS {s:StoreT} {b:Int}:(b,())∈bagsS s.2.1↔InS s b:=by
 unfold bagsS InS bagsK
 simp [List.mem_flatMap,List.mem_map]
theorem put_ok {s:StoreT} {b t:Int} (h:StoreP s):StoreP (putM s b t).1:=by
 unfold putM
 split
 case isFalse=>exact h
 case isTrue hh=>
  obtain⟨h1,h2,h3⟩:=hh
  obtain⟨⟨hj,_,hd⟩,_⟩:=laneM_at h1
  obtain⟨_,ht⟩:=laneM_P h1
  obtain⟨p1,p2,p3,p4⟩:=h
  generalize natI (laneM s t (-1))=j at*
  have hl:=p3 _ (by rw [rd_lt hj];exact List.getElem_mem hj:rdP ([],()) s.2.1 j∈s.2.1)
  refine⟨p1,by simpa [putL]using p2,fun l hm=> ?_,?_⟩
  ·rcases List.mem_or_eq_of_mem_set hm with hm|hm
   ·exact p3 l hm
   ·subst hm
    refine⟨by simp only [putL,List.length_append,List.length_singleton];omega,fun x hx=> ?_⟩
    rcases List.mem_append.1 hx with hx|hx
    ·exact hl.2 x hx
    ·rw [List.mem_singleton.1 hx];exact⟨h2,ht⟩
  ·refine(bagsS_set hj _).nodup_iff.2 (List.nodup_cons.2 ⟨fun hm=>h3 (mem_bagsS.1 hm),p4⟩)
theorem find_is {k:Nat} (hk:K0≤k) (s:StoreT) (b:Int) (hs:SzS s):∃f:Int,spec_l06Find.f k s b=some (f,())∧(0≤f↔InS s b):=by
 rcases spec_l06Find_f hk s b hs.lanes hs.kept with⟨i,hi,h1,_,e⟩|⟨h1,e⟩
 ·exact⟨_,e,fun _=>⟨_,by rw [rd_lt hi];exact List.getElem_mem hi,h1⟩,fun _=>by omega⟩
 ·refine⟨_,e,fun h=>by omega,fun h=> ?_⟩
  obtain⟨l,hl,h2⟩:=h
  obtain⟨j,hj,el⟩:=List.getElem_of_mem hl
  exact absurd (by rw [rd_lt hj,el];exact h2) (h1 j hj)
theorem spec_PutBag_f {k:Nat} (hk:K0≤k) (s:StoreT) (b t:Int) (hs:SzS s):spec_PutBag.f k s b t=some (putM s b t):=by
 have h1:spec_l06Copy.f k s=some (s,()):=spec_l06Copy_f hk s hs.lanes hs.kept
 have h2:spec_LaneFor.f k s t (-1)=some (laneM s t (-1),()):=spec_LaneFor_f hk s t (-1)
 obtain⟨f,h3,h4⟩:=find_is hk s b hs
 have h3':spec_l06Find.f k (s.1,s.2.1,()) b=some (f,()):=h3
 have h1':spec_l06Copy.f k (s.1,s.2.1,())=some (s,()):=h1
 have h2':spec_LaneFor.f k (s.1,s.2.1,()) t (-1)=some (laneM s t (-1),()):=h2
 unfold spec_PutBag.f
 rw [h1',bnd_s,h2',bnd_s]
 by_cases e1:laneM s t (-1)<0
 case pos=>rw [ltI_dc,br_pos e1,putM,if_neg (fun z=>absurd z.1 (by omega))]
 rw [ltI_dc,br_neg e1]
 by_cases e2:b<1
 case pos=>rw [ltI_dc,br_pos e2,putM,if_neg (fun z=>absurd z.2.1 (by omega))]
 rw [ltI_dc,br_neg e2,h3',bnd_s]
 by_cases e3:0≤f
 case pos=>rw [leI_dc,br_pos e3,putM,if_neg (fun z=>z.2.2 (h4.1 e3))]
 rw [leI_dc,br_neg e3,h1',bnd_s,putM,if_pos ⟨by omega,by omega,fun z=>e3 (h4.2 z)⟩]
 obtain⟨⟨hj,_,hd⟩,ej⟩:=laneM_at (s:=s) (t:=t) (but:= -1) (by omega)
 generalize natI (laneM s t (-1))=j at*
 have hfit:=fit1 ((b,t,()):Kept) (l:=(rdP ([],()) s.2.1 j).1) (hs.kept _ (by rw [rd_lt hj];exact List.getElem_mem hj))
 rw [ej]
 simp (disch:=omega) only [lett_e,bnd_s,bnd_chk,br_not,br_t,br_f,br_T,br_F,not_true_eq_false,not_false_eq_true,chk_T,chk_F,chk_eq,eqI_dc,ltI_dc,leI_dc,eqN_dc,notB_dc,andB_dc,andB_t,eqB_dc,notB_t,notB_f,inR_dc,upR_dc,ln_e,app_e,tk_e,dp_e,upd_e,repl_e,natI_n,br_pos,br_neg,addI_n,fitN_T,hfit]
 rfl
end Go.Proofs.YtcfbjloblbhdhaaGreat.Eng
namespace Go.Proofs.YtcfbjloblbhdhaaGreat.Eng
def lastK (s:StoreT) (i:Nat):Kept:=rdP (0,0,()) (rdP ([],()) s.2.1 i).1 ((rdP ([],()) s.2.1 i).1.length-1)
def hopL (s:StoreT) (i j:Nat):StoreT:=(s.1,(s.2.1.set j ((rdP ([],()) s.2.1 j).1++[lastK s i],())).set i ((rdP ([],()) s.2.1 i).1.take ((rdP ([],()) s.2.1 i).1.length-1),()),())
theorem rd_set_o {α:Type} {d x:α} {l:List α} {i j:Nat} (h:i≠j):rdP d (l.set i x) j=rdP d l j:=by unfold rdP;simp [h]
theorem spec_l06Hop_f {k:Nat} (hk:K0≤k) (s:StoreT) (i j:Nat) (hs:SzS s) (hi:i<s.2.1.length) (hj:j<s.2.1.length) (hij:i≠j) (hne:0<(rdP ([],()) s.2.1 i).1.length):spec_l06Hop.f k s i j=some (hopL s i j,()):=by
 have h1:spec_l06Copy.f k (s.1,s.2.1,())=some (s,()):=spec_l06Copy_f hk s hs.lanes hs.kept
 have hbi:=hs.kept _ (by rw [rd_lt hi];exact List.getElem_mem hi:rdP ([],()) s.2.1 i∈s.2.1)
 have hbj:=hs.kept _ (by rw [rd_lt hj];exact List.getElem_mem hj:rdP ([],()) s.2.1 j∈s.2.1)
 have hn:natI (((rdP ([],()) s.2.1 i).1.length:Int)-1)=(rdP ([],()) s.2.1 i).1.length-1:=by unfold natI;omega
 have hfit:=fit1 (lastK s i) hbj
 have hlast:rdP (0,0,()) (rdP ([],()) s.2.1 i).1 ((rdP ([],()) s.2.1 i).1.length-1)=lastK s i:=rfl
 have hro:∀x,rdP ([],()) (s.2.1.set j x) i=rdP ([],()) s.2.1 i:=fun x=>rd_set_o (fun z=>hij z.symm)
 have hll:=hs.lanes
 unfold spec_l06Hop.f
 rw [h1,bnd_s]
 have hfit':fitL (rdP ([],()) s.2.1 j).1 [((lastK s i).1,(lastK s i).2.1,())]=true:=hfit
 simp (disch:=omega) only [lett_e,bnd_s,bnd_chk,br_not,br_t,br_f,br_T,br_F,not_true_eq_false,not_false_eq_true,chk_T,chk_F,chk_eq,eqI_dc,ltI_dc,leI_dc,eqN_dc,notB_dc,andB_dc,andB_t,eqB_dc,notB_t,notB_f,inR_dc,upR_dc,ln_e,app_e,tk_e,dp_e,upd_e,repl_e,natI_n,br_pos,br_neg,addI_n,fitN_T,hn,hlast,hfit',hro,List.length_set,subI_id]
 rfl
theorem take_last {l:List Kept} (h:0<l.length):l.take (l.length-1)++[rdP (0,0,()) l (l.length-1)]=l:=by
 rw [←take_s (d:=(0,0,())) (by omega),show l.length-1+1=l.length by omega,List.take_length]
theorem hop_perm {s:StoreT} {i j:Nat} (hi:i<s.2.1.length) (hj:j<s.2.1.length) (hij:i≠j) (hne:0<(rdP ([],()) s.2.1 i).1.length):(bagsS (hopL s i j).2.1).Perm (bagsS s.2.1):=by
 have a:=bagsS_set hj (lastK s i)
 have hro:rdP ([],()) (s.2.1.set j ((rdP ([],()) s.2.1 j).1++[lastK s i],())) i=rdP ([],()) s.2.1 i:=rd_set_o (fun z=>hij z.symm)
 have hi':i<(s.2.1.set j ((rdP ([],()) s.2.1 j).1++[lastK s i],())).length:=by simpa using hi
 have b:=bagsS_set (l:=(hopL s i j).2.1) (j:=i) (by simpa [hopL]using hi) (lastK s i)
 have e:(hopL s i j).2.1.set i ((rdP ([],()) (hopL s i j).2.1 i).1++[lastK s i],())=s.2.1.set j ((rdP ([],()) s.2.1 j).1++[lastK s i],()):=by
  have e1:rdP ([],()) (hopL s i j).2.1 i=((rdP ([],()) s.2.1 i).1.take ((rdP ([],()) s.2.1 i).1.length-1),()):=by
   unfold hopL rdP;simp [hi]
  rw [e1]
  dsimp only
  have tl:(rdP ([],()) s.2.1 i).1.take ((rdP ([],()) s.2.1 i).1.length-1)++[lastK s i]=(rdP ([],()) s.2.1 i).1:=take_last hne
  rw [tl,hopL]
  dsimp only
  rw [List.set_set]
  generalize hl:s.2.1.set j ((rdP ([],()) s.2.1 j).1++[lastK s i],())=l' at*
  have e2:((rdP ([],()) s.2.1 i).1,())=l'[i]:=by rw [←hro,rd_lt hi']
  rw [e2]
  exact List.set_getElem_self _
 rw [e]at b
 exact(List.Perm.cons_inv (b.symm.trans a))
theorem hop_ok {s:StoreT} {i j:Nat} (h:StoreP s) (hi:i<s.2.1.length) (hf:laneFree s i j) (hne:0<(rdP ([],()) s.2.1 i).1.length):StoreP (hopL s i j):=by
 obtain⟨hj,hji,hd⟩:=hf
 have hp:=hop_perm hi hj (fun z=>hji (by rw [z])) hne
 obtain⟨p1,p2,p3,p4⟩:=h
 have hli:=p3 _ (by rw [rd_lt hi];exact List.getElem_mem hi:rdP ([],()) s.2.1 i∈s.2.1)
 have hlj:=p3 _ (by rw [rd_lt hj];exact List.getElem_mem hj:rdP ([],()) s.2.1 j∈s.2.1)
 have hlast:lastK s i∈(rdP ([],()) s.2.1 i).1:=by
  unfold lastK
  rw [rd_lt (show (rdP ([],()) s.2.1 i).1.length-1<_ by omega)]
  exact List.getElem_mem _
 refine⟨p1,by simpa [hopL]using p2,fun l hm=> ?_,hp.nodup_iff.2 p4⟩
 rcases List.mem_or_eq_of_mem_set hm with hm|hm
 ·rcases List.mem_or_eq_of_mem_set hm with hm|hm
  ·exact p3 l hm
  ·subst hm
   refine⟨by simp only [hopL,List.length_append,List.length_singleton];omega,fun x hx=> ?_⟩
   rcases List.mem_append.1 hx with hx|hx
   ·exact hlj.2 x hx
   ·rw [List.mem_singleton.1 hx];exact hli.2 _ hlast
 ·subst hm
  refine⟨?_,fun x hx=>hli.2 x (List.mem_of_mem_take hx)⟩
  have:=hli.1
  simp only [hopL,List.length_take]
  omega
end Go.Proofs.YtcfbjloblbhdhaaGreat.Eng
namespace Go.Proofs.YtcfbjloblbhdhaaGreat.Eng
abbrev HopT:=Int×Int×Int×Unit
def laneK (s:StoreT) (i:Nat):List Kept:=(rdP ([],()) s.2.1 i).1
def outL (s:StoreT) (i:Nat):StoreT:=(s.1,s.2.1.set i ((laneK s i).take ((laneK s i).length-1),()),())
noncomputable def takeF (s0:StoreT) (b:Int) (i:Nat):Nat→StoreT→List HopT→StoreT×List HopT×Bool×Unit
 |0,_,_=>(s0,[],false,())
 |f+1,x,h=>if (lastK x i).1=b then(outL x i,h,true,())else if laneM x (lastK x i).2.1 i<0 then(s0,[],false,())else
   takeF s0 b i f (hopL x i (natI (laneM x (lastK x i).2.1 i))) (h++[((lastK x i).1,(i:Int),laneM x (lastK x i).2.1 i,())])
theorem hop_lane {x:StoreT} {i j:Nat} (hi:i<x.2.1.length):laneK (hopL x i j) i=(laneK x i).take ((laneK x i).length-1):=by
 unfold laneK hopL rdP;simp [hi]
theorem hop_keeps {x:StoreT} {i j:Nat} {b:Int} (hi:i<x.2.1.length) (hb:∃y,y∈laneK x i∧y.1=b) (hn:(lastK x i).1≠b):∃y,y∈laneK (hopL x i j) i∧y.1=b:=by
 obtain⟨y,hy,e⟩:=hb
 rw [hop_lane hi]
 have hne:0<(laneK x i).length:=List.length_pos_of_mem hy
 have tl:(laneK x i).take ((laneK x i).length-1)++[lastK x i]=laneK x i:=take_last hne
 rw [←tl]at hy
 rcases List.mem_append.1 hy with hy|hy
 ·exact⟨y,hy,e⟩
 ·rw [List.mem_singleton.1 hy]at e;exact absurd e hn
theorem storeP_sz {s:StoreT} (h:StoreP s):SzS s:=⟨by have:=h.2.1.2;omega,fun c hc=>by have h1:=(h.2.2.1 c hc).1;have:=h.1.2;omega⟩
theorem out_ok {x:StoreT} {i:Nat} (h:StoreP x) (hi:i<x.2.1.length) (hne:0<(laneK x i).length):StoreP (outL x i):=by
 obtain⟨p1,p2,p3,p4⟩:=h
 have hli:=p3 _ (by rw [rd_lt hi];exact List.getElem_mem hi:rdP ([],()) x.2.1 i∈x.2.1)
 have b:=bagsS_set (l:=(outL x i).2.1) (j:=i) (by simpa [outL]using hi) (lastK x i)
 have e:(outL x i).2.1.set i ((rdP ([],()) (outL x i).2.1 i).1++[lastK x i],())=x.2.1:=by
  have e1:rdP ([],()) (outL x i).2.1 i=((laneK x i).take ((laneK x i).length-1),()):=by
   unfold outL rdP;simp [hi]
  have tl:(laneK x i).take ((laneK x i).length-1)++[lastK x i]=laneK x i:=take_last hne
  rw [e1]
  dsimp only
  rw [tl,outL]
  dsimp only
  rw [List.set_set]
  have e2:(laneK x i,())=x.2.1[i]:=by unfold laneK;rw [rd_lt hi]
  rw [e2]
  exact List.set_getElem_self _
 rw [e]at b
 refine⟨p1,by simpa [outL]using p2,fun l hm=> ?_,(List.nodup_cons.1 (b.nodup_iff.1 p4)).2⟩
 rcases List.mem_or_eq_of_mem_set hm with hm|hm
 ·exact p3 l hm
 ·subst hm
  refine⟨?_,fun y hy=>hli.2 y (List.mem_of_mem_take hy)⟩
  have:=hli.1
  simp only [outL,laneK,List.length_take]
  omega
theorem takeF_ok {s0:StoreT} {b:Int} {i:Nat} (h0:StoreP s0):∀(f:Nat) (x:StoreT) (h:List HopT),StoreP x→i<x.2.1.length→(∃y,y∈laneK x i∧y.1=b)→StoreP (takeF s0 b i f x h).1
 |0,_,_,_,_,_=>h0
 |f+1,x,h,hx,hi,hb=>by
  have hne:0<(laneK x i).length:=by obtain⟨y,hy,_⟩:=hb;exact List.length_pos_of_mem hy
  rw [takeF]
  split
  ·exact out_ok hx hi hne
  ·rename_i hn
   split
   ·exact h0
   ·rename_i hm
    obtain⟨hf,ej⟩:=laneM_at (s:=x) (t:=(lastK x i).2.1) (but:=i) (by omega)
    exact takeF_ok h0 f _ _ (hop_ok hx hi hf hne) (by simpa [hopL]using hi) (hop_keeps hi hb hn)
theorem spec_TakeBag_f {k:Nat} (hk:K0≤k) (s:StoreT) (b:Int) (i:Nat) (h:StoreP s) (hi:i<s.2.1.length) (hb:∃y,y∈laneK s i∧y.1=b) (hf:spec_l06Find.f k s b=some ((i:Int),())):spec_TakeBag.f k s b=some (takeF s b i (laneK s i).length s []):=by
 have hs:=storeP_sz h
 have h1:spec_l06Copy.f k (s.1,s.2.1,())=some (s,()):=spec_l06Copy_f hk s hs.lanes hs.kept
 have h2:spec_StoreOk.f k (s.1,s.2.1,())=chkP (StoreP s):=spec_StoreOk_f hk s
 have h3:spec_l06Find.f k (s.1,s.2.1,()) b=some ((i:Int),()):=hf
 have hk':=hk
 unfold K0 at hk
 have hll:=(h.2.2.1 _ (by rw [rd_lt hi];exact List.getElem_mem hi:rdP ([],()) s.2.1 i∈s.2.1)).1
 have hd:=h.1
 unfold spec_TakeBag.f
 rw [h1,bnd_s,h3,bnd_s,h2,bnd_chk,br_not,br_pos h,ltI_dc,br_neg (by omega),h1,bnd_s]
 refine loop_ind (fun f c r=>∃(x:StoreT) (hp:List HopT),c=(x.1,x.2.1,hp,())∧StoreP x∧i<x.2.1.length∧(∃y,y∈laneK x i∧y.1=b)∧(laneK x i).length=f∧hp.length+f≤5∧r=some (takeF s b i f x hp)) ?_ (laneK s i).length k _ _ (by unfold laneK;omega) ⟨s,[],rfl,h,hi,hb,rfl,by unfold laneK;simp;omega,rfl⟩
 rintro f c r ⟨x,hp,rfl,hx,hxi,hxb,hxl,hpl,rfl⟩
 have hne:0<(laneK x i).length:=by obtain⟨y,hy,_⟩:=hxb;exact List.length_pos_of_mem hy
 obtain⟨f,rfl⟩:∃g,f=g+1:=⟨f-1,by omega⟩
 have hsx:=storeP_sz hx
 have hlk:(rdP ([],()) x.2.1 i).1=laneK x i:=rfl
 have hn:natI (((laneK x i).length:Int)-1)=(laneK x i).length-1:=by unfold natI;omega
 have hla:rdP (0,0,()) (laneK x i) ((laneK x i).length-1)=lastK x i:=rfl
 have hlf:spec_LaneFor.f k (x.1,x.2.1,()) (lastK x i).2.1 i=some (laneM x (lastK x i).2.1 i,()):=spec_LaneFor_f hk' x _ _
 rw [takeF]
 by_cases e1:(lastK x i).1=b
 ·left;intro rec
  rw [if_pos e1]
  simp (disch:=omega) only [lett_e,bnd_s,bnd_chk,br_not,br_t,br_f,br_T,br_F,not_true_eq_false,not_false_eq_true,chk_T,chk_F,chk_eq,eqI_dc,ltI_dc,leI_dc,eqN_dc,notB_dc,andB_dc,andB_t,eqB_dc,notB_t,notB_f,inR_dc,upR_dc,ln_e,app_e,tk_e,dp_e,upd_e,repl_e,natI_n,br_pos,br_neg,addI_n,fitN_T,hlk,hn,hla,subI_id]
  rfl
 rw [if_neg e1]
 by_cases e2:laneM x (lastK x i).2.1 i<0
 ·left;intro rec
  rw [if_pos e2]
  simp (disch:=omega) only [lett_e,bnd_s,bnd_chk,br_not,br_t,br_f,br_T,br_F,not_true_eq_false,not_false_eq_true,chk_T,chk_F,chk_eq,eqI_dc,ltI_dc,leI_dc,eqN_dc,notB_dc,andB_dc,andB_t,eqB_dc,notB_t,notB_f,inR_dc,upR_dc,ln_e,app_e,tk_e,dp_e,upd_e,repl_e,natI_n,br_pos,br_neg,addI_n,fitN_T,hlk,hn,hla,subI_id,hlf]
 rw [if_neg e2]
 obtain⟨hfr,ej⟩:=laneM_at (s:=x) (t:=(lastK x i).2.1) (but:=i) (by omega)
 have hho:spec_l06Hop.f k (x.1,x.2.1,()) i (laneM x (lastK x i).2.1 i)=some (hopL x i (natI (laneM x (lastK x i).2.1 i)),()):=by
  conv=>lhs;rw [ej]
  exact spec_l06Hop_f hk' x i _ hsx hxi hfr.1 (fun z=>hfr.2.1 (by rw [←z])) hne
 have hfit:=fit1 (((lastK x i).1,(i:Int),laneM x (lastK x i).2.1 i,()):HopT) (l:=hp) (by omega)
 right
 refine⟨f,((hopL x i (natI (laneM x (lastK x i).2.1 i))).1,(hopL x i (natI (laneM x (lastK x i).2.1 i))).2.1,hp++[((lastK x i).1,(i:Int),laneM x (lastK x i).2.1 i,())],()),rfl,⟨_,_,rfl,hop_ok hx hxi hfr hne,by simpa [hopL]using hxi,hop_keeps hxi hxb e1,?_,by simp;omega,rfl⟩,fun rec=> ?_⟩
 ·rw [hop_lane hxi,List.length_take];omega
 ·simp (disch:=omega) only [lett_e,bnd_s,bnd_chk,br_not,br_t,br_f,br_T,br_F,not_true_eq_false,not_false_eq_true,chk_T,chk_F,chk_eq,eqI_dc,ltI_dc,leI_dc,eqN_dc,notB_dc,andB_dc,andB_t,eqB_dc,notB_t,notB_f,inR_dc,upR_dc,ln_e,app_e,tk_e,dp_e,upd_e,repl_e,natI_n,br_pos,br_neg,addI_n,fitN_T,hlk,hn,hla,subI_id,hlf,hho,hfit]
end Go.Proofs.YtcfbjloblbhdhaaGreat.Eng
namespace Go.Proofs.YtcfbjloblbhdhaaGreat.Eng
def bk (p:NoteT→Bool) (l:List NoteT):Nat→Option NoteT
 |0=>none
 |i+1=>if p (rdP (0,0,0,0,0,()) l i)=true then some (rdP (0,0,0,0,0,()) l i)else bk p l i
noncomputable def lastN (p:NoteT→Bool) (l:List NoteT):Option NoteT:= @ite _ (NotesP l) (Classical.propDecidable _) (bk p l l.length) none
def ownP (b:Int) (n:NoteT):Bool:=decide (n.2.1=1∧n.2.2.2.1=b)
def abP (w f:Int) (n:NoteT):Bool:=decide ((n.2.1=2∨n.2.1=3)∧n.2.2.1=w∧n.2.2.2.2.1=f)
def puP (b f:Int) (n:NoteT):Bool:=decide ((n.2.1=1∨n.2.1=4)∧n.2.2.2.1=b∧n.2.2.2.2.1=f)
theorem loop_back {R:Type} {l:List NoteT} {p:NoteT→Bool} {k:Nat} (hk:K0≤k) (hl:l.length≤1048576) {F:(Int×Unit→Option R)→Int×Unit→Option R} {hit:NoteT→Option R} {e:Option R}
  (hF:∀(i:Nat) rec,i<l.length→F rec ((i:Int),())=if p (rdP (0,0,0,0,0,()) l i)=true then hit (rdP (0,0,0,0,0,()) l i)else rec ((i:Int)-1,())) (hE:∀rec,F rec (-1,())=e):loopN F k ((l.length:Int)-1,())=match bk p l l.length with|some n=>hit n|none=>e:=by
 unfold K0 at hk
 refine loop_ind (fun f c r=>c=((f:Int)-1,())∧f≤l.length∧r=match bk p l f with|some n=>hit n|none=>e) ?_ l.length k _ _ (by omega) ⟨rfl,Nat.le_refl _,rfl⟩
 rintro f c r ⟨rfl,hf,rfl⟩
 cases f with
 |zero=>left;intro rec;exact hE rec
 |succ i=>
  have e0:((i+1:Nat):Int)-1=(i:Int):=by omega
  rw [e0]
  by_cases h:p (rdP (0,0,0,0,0,()) l i)=true
  ·left;intro rec
   rw [hF i rec (by omega),if_pos h,bk,if_pos h]
  ·right
   refine⟨i,((i:Int)-1,()),rfl,⟨rfl,by omega,?_⟩,fun rec=> ?_⟩
   ·rw [bk,if_neg h]
   ·rw [hF i rec (by omega),if_neg h]
noncomputable def ownM (l:List NoteT) (b:Int):(Int×Int×Unit)×Bool×Unit:=match lastN (ownP b) l with|some n=>((n.2.2.1,n.2.2.2.2.1,()),true,())|none=>((0,0,()),false,())
theorem spec_OwnerOf_f {k:Nat} (hk:K0≤k) (l:List NoteT) (b:Int) (hl:l.length≤1048576):spec_OwnerOf.f k l b=some (ownM l b):=by
 have h1:=spec_NotesOk_f hk l
 unfold spec_OwnerOf.f ownM lastN
 rw [lett_e,ln_e,subI_id (by omega)]
 by_cases hP:NotesP l
 ·rw [if_pos hP]
  refine(loop_back (p:=ownP b) (hit:=fun n=>some ((n.2.2.1,n.2.2.2.2.1,()),true,())) (e:=some ((0,0,()),false,())) hk hl (fun i rec hi=> ?_) (fun rec=>by simp (disch:=omega) only [lett_e,bnd_s,bnd_chk,br_not,br_t,br_f,br_T,br_F,not_true_eq_false,not_false_eq_true,chk_T,chk_F,chk_eq,eqI_dc,ltI_dc,leI_dc,eqN_dc,notB_dc,andB_dc,andB_t,eqB_dc,notB_t,notB_f,inR_dc,upR_dc,ln_e,app_e,tk_e,dp_e,upd_e,repl_e,natI_n,br_pos,br_neg,addI_n,fitN_T])).trans (by cases bk (ownP b) l l.length<;>rfl)
  by_cases h2:(rdP (0,0,0,0,0,()) l i).2.1=1
  ·by_cases h3:(rdP (0,0,0,0,0,()) l i).2.2.2.1=b
   ·rw [if_pos (by simp [ownP,h2,h3])]
    simp (disch:=omega) only [lett_e,bnd_s,bnd_chk,br_not,br_t,br_f,br_T,br_F,not_true_eq_false,not_false_eq_true,chk_T,chk_F,chk_eq,eqI_dc,ltI_dc,leI_dc,eqN_dc,notB_dc,andB_dc,andB_t,eqB_dc,notB_t,notB_f,inR_dc,upR_dc,ln_e,app_e,tk_e,dp_e,upd_e,repl_e,natI_n,br_pos,br_neg,addI_n,fitN_T,h1,hP]
   ·rw [if_neg (by simp [ownP,h3])]
    simp (disch:=omega) only [lett_e,bnd_s,bnd_chk,br_not,br_t,br_f,br_T,br_F,not_true_eq_false,not_false_eq_true,chk_T,chk_F,chk_eq,eqI_dc,ltI_dc,leI_dc,eqN_dc,notB_dc,andB_dc,andB_t,eqB_dc,notB_t,notB_f,inR_dc,upR_dc,ln_e,app_e,tk_e,dp_e,upd_e,repl_e,natI_n,br_pos,br_neg,addI_n,fitN_T,h1,hP,subI_id]
  ·rw [if_neg (by simp [ownP,h2])]
   simp (disch:=omega) only [lett_e,bnd_s,bnd_chk,br_not,br_t,br_f,br_T,br_F,not_true_eq_false,not_false_eq_true,chk_T,chk_F,chk_eq,eqI_dc,ltI_dc,leI_dc,eqN_dc,notB_dc,andB_dc,andB_t,eqB_dc,notB_t,notB_f,inR_dc,upR_dc,ln_e,app_e,tk_e,dp_e,upd_e,repl_e,natI_n,br_pos,br_neg,addI_n,fitN_T,h1,hP,subI_id]
 ·rw [if_neg hP]
  cases hlen:l.length with
  |zero=>refine loop_run (n:=0) (fun _=>(-1,())) (by simp) (fun i hi=>absurd hi (by omega)) (fun rec=>by simp (disch:=omega) only [lett_e,bnd_s,bnd_chk,br_not,br_t,br_f,br_T,br_F,not_true_eq_false,not_false_eq_true,chk_T,chk_F,chk_eq,eqI_dc,ltI_dc,leI_dc,eqN_dc,notB_dc,andB_dc,andB_t,eqB_dc,notB_t,notB_f,inR_dc,upR_dc,ln_e,app_e,tk_e,dp_e,upd_e,repl_e,natI_n,br_pos,br_neg,addI_n,fitN_T]) (by unfold K0 at hk;omega)
  |succ m=>
   refine loop_run (n:=0) (fun _=>((m:Int),())) (by simp) (fun i hi=>absurd hi (by omega)) (fun rec=> ?_) (by unfold K0 at hk;omega)
   simp (disch:=omega) only [lett_e,bnd_s,bnd_chk,br_not,br_t,br_f,br_T,br_F,not_true_eq_false,not_false_eq_true,chk_T,chk_F,chk_eq,eqI_dc,ltI_dc,leI_dc,eqN_dc,notB_dc,andB_dc,andB_t,eqB_dc,notB_t,notB_f,inR_dc,upR_dc,ln_e,app_e,tk_e,dp_e,upd_e,repl_e,natI_n,br_pos,br_neg,addI_n,fitN_T,h1]
noncomputable def abM (l:List NoteT) (w f:Int):Prop:=∃n,lastN (abP w f) l=some n∧n.2.1=2
noncomputable def puM (l:List NoteT) (b f:Int):Prop:=∃n,lastN (puP b f) l=some n∧n.2.1=4
theorem spec_Aboard_f {k:Nat} (hk:K0≤k) (l:List NoteT) (w f:Int) (hl:l.length≤1048576):spec_Aboard.f k l w f=chkP (abM l w f):=by
 have h1:=spec_NotesOk_f hk l
 unfold spec_Aboard.f abM lastN
 rw [lett_e,ln_e,subI_id (by omega)]
 by_cases hP:NotesP l
 ·rw [if_pos hP]
  refine(loop_back (p:=abP w f) (hit:=fun n=>chkP (n.2.1=2)) (e:=chkP False) hk hl (fun i rec hi=> ?_) (fun rec=>by simp (disch:=omega) only [lett_e,bnd_s,bnd_chk,br_not,br_t,br_f,br_T,br_F,not_true_eq_false,not_false_eq_true,chk_T,chk_F,chk_eq,eqI_dc,ltI_dc,leI_dc,eqN_dc,notB_dc,andB_dc,andB_t,eqB_dc,notB_t,notB_f,inR_dc,upR_dc,ln_e,app_e,tk_e,dp_e,upd_e,repl_e,natI_n,br_pos,br_neg,addI_n,fitN_T])).trans ?_
  ·by_cases hp:abP w f (rdP (0,0,0,0,0,()) l i)=true
   ·have hp':=hp
    simp only [abP,decide_eq_true_eq]at hp'
    rw [if_pos hp]
    obtain⟨h2|h2,h3,h4⟩:=hp'
    ·simp (disch:=omega) only [lett_e,bnd_s,bnd_chk,br_not,br_t,br_f,br_T,br_F,not_true_eq_false,not_false_eq_true,chk_T,chk_F,chk_eq,eqI_dc,ltI_dc,leI_dc,eqN_dc,notB_dc,andB_dc,andB_t,eqB_dc,notB_t,notB_f,inR_dc,upR_dc,ln_e,app_e,tk_e,dp_e,upd_e,repl_e,natI_n,br_pos,br_neg,addI_n,fitN_T,h1,hP]
    ·simp (disch:=omega) only [lett_e,bnd_s,bnd_chk,br_not,br_t,br_f,br_T,br_F,not_true_eq_false,not_false_eq_true,chk_T,chk_F,chk_eq,eqI_dc,ltI_dc,leI_dc,eqN_dc,notB_dc,andB_dc,andB_t,eqB_dc,notB_t,notB_f,inR_dc,upR_dc,ln_e,app_e,tk_e,dp_e,upd_e,repl_e,natI_n,br_pos,br_neg,addI_n,fitN_T,h1,hP]
   ·have hp':=hp
    simp only [abP,decide_eq_true_eq]at hp'
    rw [if_neg hp]
    by_cases h3:(rdP (0,0,0,0,0,()) l i).2.2.1=w<;>by_cases h4:(rdP (0,0,0,0,0,()) l i).2.2.2.2.1=f<;>by_cases h2:(rdP (0,0,0,0,0,()) l i).2.1=2<;>by_cases h5:(rdP (0,0,0,0,0,()) l i).2.1=3
    all_goals try omega
    all_goals simp (disch:=omega) only [lett_e,bnd_s,bnd_chk,br_not,br_t,br_f,br_T,br_F,not_true_eq_false,not_false_eq_true,chk_T,chk_F,chk_eq,eqI_dc,ltI_dc,leI_dc,eqN_dc,notB_dc,andB_dc,andB_t,eqB_dc,notB_t,notB_f,inR_dc,upR_dc,ln_e,app_e,tk_e,dp_e,upd_e,repl_e,natI_n,br_pos,br_neg,addI_n,fitN_T,h1,hP,subI_id]
  ·cases bk (abP w f) l l.length with
   |none=>exact chk_congr ⟨fun z=>z.elim,fun ⟨n,e,_⟩=>by cases e⟩
   |some n=>exact chk_congr ⟨fun z=>⟨n,rfl,z⟩,fun ⟨m,e,z⟩=>by cases e;exact z⟩
 ·rw [if_neg hP,chk_neg (fun ⟨n,e,_⟩=>by cases e)]
  cases hlen:l.length with
  |zero=>refine loop_run (n:=0) (fun _=>(-1,())) (by simp) (fun i hi=>absurd hi (by omega)) (fun rec=>by simp (disch:=omega) only [lett_e,bnd_s,bnd_chk,br_not,br_t,br_f,br_T,br_F,not_true_eq_false,not_false_eq_true,chk_T,chk_F,chk_eq,eqI_dc,ltI_dc,leI_dc,eqN_dc,notB_dc,andB_dc,andB_t,eqB_dc,notB_t,notB_f,inR_dc,upR_dc,ln_e,app_e,tk_e,dp_e,upd_e,repl_e,natI_n,br_pos,br_neg,addI_n,fitN_T]) (by unfold K0 at hk;omega)
  |succ m=>
   refine loop_run (n:=0) (fun _=>((m:Int),())) (by simp) (fun i hi=>absurd hi (by omega)) (fun rec=> ?_) (by unfold K0 at hk;omega)
   simp (disch:=omega) only [lett_e,bnd_s,bnd_chk,br_not,br_t,br_f,br_T,br_F,not_true_eq_false,not_false_eq_true,chk_T,chk_F,chk_eq,eqI_dc,ltI_dc,leI_dc,eqN_dc,notB_dc,andB_dc,andB_t,eqB_dc,notB_t,notB_f,inR_dc,upR_dc,ln_e,app_e,tk_e,dp_e,upd_e,repl_e,natI_n,br_pos,br_neg,addI_n,fitN_T,h1]
theorem spec_Pulled_f {k:Nat} (hk:K0≤k) (l:List NoteT) (w f:Int) (hl:l.length≤1048576):spec_Pulled.f k l w f=chkP (puM l w f):=by
 have h1:=spec_NotesOk_f hk l
 unfold spec_Pulled.f puM lastN
 rw [lett_e,ln_e,subI_id (by omega)]
 by_cases hP:NotesP l
 ·rw [if_pos hP]
  refine(loop_back (p:=puP w f) (hit:=fun n=>chkP (n.2.1=4)) (e:=chkP False) hk hl (fun i rec hi=> ?_) (fun rec=>by simp (disch:=omega) only [lett_e,bnd_s,bnd_chk,br_not,br_t,br_f,br_T,br_F,not_true_eq_false,not_false_eq_true,chk_T,chk_F,chk_eq,eqI_dc,ltI_dc,leI_dc,eqN_dc,notB_dc,andB_dc,andB_t,eqB_dc,notB_t,notB_f,inR_dc,upR_dc,ln_e,app_e,tk_e,dp_e,upd_e,repl_e,natI_n,br_pos,br_neg,addI_n,fitN_T])).trans ?_
  ·by_cases hp:puP w f (rdP (0,0,0,0,0,()) l i)=true
   ·have hp':=hp
    simp only [puP,decide_eq_true_eq]at hp'
    rw [if_pos hp]
    obtain⟨h2|h2,h3,h4⟩:=hp'
    ·simp (disch:=omega) only [lett_e,bnd_s,bnd_chk,br_not,br_t,br_f,br_T,br_F,not_true_eq_false,not_false_eq_true,chk_T,chk_F,chk_eq,eqI_dc,ltI_dc,leI_dc,eqN_dc,notB_dc,andB_dc,andB_t,eqB_dc,notB_t,notB_f,inR_dc,upR_dc,ln_e,app_e,tk_e,dp_e,upd_e,repl_e,natI_n,br_pos,br_neg,addI_n,fitN_T,h1,hP]
    ·simp (disch:=omega) only [lett_e,bnd_s,bnd_chk,br_not,br_t,br_f,br_T,br_F,not_true_eq_false,not_false_eq_true,chk_T,chk_F,chk_eq,eqI_dc,ltI_dc,leI_dc,eqN_dc,notB_dc,andB_dc,andB_t,eqB_dc,notB_t,notB_f,inR_dc,upR_dc,ln_e,app_e,tk_e,dp_e,upd_e,repl_e,natI_n,br_pos,br_neg,addI_n,fitN_T,h1,hP]
   ·have hp':=hp
    simp only [puP,decide_eq_true_eq]at hp'
    rw [if_neg hp]
    by_cases h3:(rdP (0,0,0,0,0,()) l i).2.2.2.1=w<;>by_cases h4:(rdP (0,0,0,0,0,()) l i).2.2.2.2.1=f<;>by_cases h2:(rdP (0,0,0,0,0,()) l i).2.1=1<;>by_cases h5:(rdP (0,0,0,0,0,()) l i).2.1=4
    all_goals try omega
    all_goals simp (disch:=omega) only [lett_e,bnd_s,bnd_chk,br_not,br_t,br_f,br_T,br_F,not_true_eq_false,not_false_eq_true,chk_T,chk_F,chk_eq,eqI_dc,ltI_dc,leI_dc,eqN_dc,notB_dc,andB_dc,andB_t,eqB_dc,notB_t,notB_f,inR_dc,upR_dc,ln_e,app_e,tk_e,dp_e,upd_e,repl_e,natI_n,br_pos,br_neg,addI_n,fitN_T,h1,hP,subI_id]
  ·cases bk (puP w f) l l.length with
   |none=>exact chk_congr ⟨fun z=>z.elim,fun ⟨n,e,_⟩=>by cases e⟩
   |some n=>exact chk_congr ⟨fun z=>⟨n,rfl,z⟩,fun ⟨m,e,z⟩=>by cases e;exact z⟩
 ·rw [if_neg hP,chk_neg (fun ⟨n,e,_⟩=>by cases e)]
  cases hlen:l.length with
  |zero=>refine loop_run (n:=0) (fun _=>(-1,())) (by simp) (fun i hi=>absurd hi (by omega)) (fun rec=>by simp (disch:=omega) only [lett_e,bnd_s,bnd_chk,br_not,br_t,br_f,br_T,br_F,not_true_eq_false,not_false_eq_true,chk_T,chk_F,chk_eq,eqI_dc,ltI_dc,leI_dc,eqN_dc,notB_dc,andB_dc,andB_t,eqB_dc,notB_t,notB_f,inR_dc,upR_dc,ln_e,app_e,tk_e,dp_e,upd_e,repl_e,natI_n,br_pos,br_neg,addI_n,fitN_T]) (by unfold K0 at hk;omega)
  |succ m=>
   refine loop_run (n:=0) (fun _=>((m:Int),())) (by simp) (fun i hi=>absurd hi (by omega)) (fun rec=> ?_) (by unfold K0 at hk;omega)
   simp (disch:=omega) only [lett_e,bnd_s,bnd_chk,br_not,br_t,br_f,br_T,br_F,not_true_eq_false,not_false_eq_true,chk_T,chk_F,chk_eq,eqI_dc,ltI_dc,leI_dc,eqN_dc,notB_dc,andB_dc,andB_t,eqB_dc,notB_t,notB_f,inR_dc,upR_dc,ln_e,app_e,tk_e,dp_e,upd_e,repl_e,natI_n,br_pos,br_neg,addI_n,fitN_T,h1]
noncomputable def flyP (l:List NoteT) (b f:Int):Prop:=(ownM l b).2.1=true∧(ownM l b).1.2.1=f∧abM l (ownM l b).1.1 f∧¬puM l b f
theorem spec_MayFly_f {k:Nat} (hk:K0≤k) (l:List NoteT) (b f:Int) (hl:l.length≤1048576):spec_MayFly.f k l b f=chkP (flyP l b f):=by
 unfold spec_MayFly.f flyP
 rw [spec_OwnerOf_f hk l b hl,bnd_s]
 generalize ownM l b=o
 obtain⟨⟨w,g,_⟩,ok,_⟩:=o
 dsimp only
 cases ok with
 |false=>rw [br_f,chk_F];exact chk_congr ⟨fun z=>z.elim,fun z=>by cases z.1⟩
 |true=>
  rw [br_t,eqI_dc,spec_Aboard_f hk l w f hl,bnd_chk,spec_Pulled_f hk l b f hl,bnd_chk,notB_dc,chk_F,chk_eq,br_chkF',br_chkF']
  exact chk_congr ⟨fun z=>⟨rfl,z⟩,fun z=>z.2⟩
end Go.Proofs.YtcfbjloblbhdhaaGreat.Eng
namespace Go.Proofs.YtcfbjloblbhdhaaGreat.Eng
def offT (b:Int) (x:Int×Unit):Int×Unit:=if x.1=b then(0,())else x
def offB (b:Int) (l:List (Int×Unit)):List (Int×Unit):=l.filter fun x=>decide (x.1≠b)
def offC (b:Int) (c:Chute):Chute:=(c.1,c.2.1,offB b c.2.2.1,())
def dropLp (l:LoopT) (b:Int):LoopT:=(l.1.map (offT b),l.2.1,l.2.2.1.map (offC b),l.2.2.2.1,())
theorem nz_off {b:Int} (hb:b≠0):∀(l:List (Int×Unit)),nz (l.map (offT b))=offB b (nz l)
 | []=>rfl
 |x::xs=>by
  have ih:=nz_off hb xs
  rw [List.map_cons]
  by_cases h:x.1=b
  ·have h0:x.1≠0:=by omega
   rw [show offT b x=(0,())from if_pos h,nz_c0 rfl,nz_c1 h0,ih]
   unfold offB
   rw [List.filter_cons_of_neg (by simp [h])]
  ·rw [show offT b x=x from if_neg h]
   by_cases h0:x.1=0
   ·rw [nz_c0 h0,nz_c0 h0,ih]
   ·rw [nz_c1 h0,nz_c1 h0,ih]
    unfold offB
    rw [List.filter_cons_of_pos (by simp [h])]
theorem inCh_off (b:Int):∀(l:List Chute),inCh (l.map (offC b))=offB b (inCh l)
 | []=>rfl
 |c::cs=>by
  have ih:=inCh_off b cs
  unfold inCh offB at ih ⊢
  rw [List.map_cons,List.flatMap_cons,List.flatMap_cons,List.filter_append,ih]
  rfl
theorem bagsL_drop {l:LoopT} {b:Int} (hb:b≠0):bagsL (dropLp l b)=offB b (bagsL l):=by
 unfold bagsL dropLp
 dsimp only
 rw [nz_off hb,inCh_off,offB,offB,offB,List.filter_append]
theorem drop_ok {l:LoopT} {b:Int} (h:LoopP l) (hb:b≠0):LoopP (dropLp l b):=by
 obtain⟨p1,p2,p3,p4,p5,p6,p7,p8,p9,p10⟩:=h
 refine⟨by simpa [dropLp]using p1,by simpa [dropLp]using p2,by simpa [dropLp]using p3,p4,fun c hc=> ?_,?_,?_,?_,by simpa [dropLp]using p9,p10⟩
 ·obtain⟨d,hd,rfl⟩:=List.mem_map.1 hc
  obtain⟨q1,q2,q3⟩:=p5 d hd
  refine⟨by simpa [dropLp,offC]using q1,q2,?_⟩
  have:=List.length_filter_le (fun x:Int×Unit=>decide (x.1≠b)) d.2.2.1
  show ((offB b d.2.2.1).length:Int)≤d.2.1
  unfold offB
  omega
 ·have:(l.2.2.1.map (offC b)).map (·.1)=l.2.2.1.map (·.1):=by rw [List.map_map];rfl
  show ((l.2.2.1.map (offC b)).map (·.1)).Nodup
  rw [this];exact p6
 ·rw [bagsL_drop hb];exact fun y hy=>p7 y (List.mem_filter.1 hy).1
 ·rw [bagsL_drop hb];exact p8.filter _
theorem map_loop {α R:Type} {d:α} {k:Nat} (hk:K0≤k) (l:List α) (f:α→α) (hl:l.length≤1048576) {F:(List α×Int×Unit→Option R)→List α×Int×Unit→Option R} {r:Option R}
  (hF:∀(i:Nat) (c:List α) rec,i<l.length→c.length=l.length→rdP d c i=rdP d l i→F rec (c,(i:Int),())=rec (c.set i (f (rdP d l i)),((i+1:Nat):Int),())) (hE:∀rec,F rec (l.map f,(l.length:Int),())=r):loopN F k (l,0,())=r:=by
 unfold K0 at hk
 have hm:(l.map f).length=l.length:=by simp
 refine loop_run (n:=l.length) (fun i=>(half l (l.map f) i,(i:Int),())) (by simp [half]) (fun i hi rec=> ?_) (fun rec=>by rw [half_end hm];exact hE rec) (by omega)
 rw [hF i _ rec hi (half_len hm i (by omega)) (half_at hm hi)]
 have hst:=half_set (d:=d) hm hi
 rw [rd_map (d:=d) hi]at hst
 rw [hst]
theorem set_same {α:Type} {d:α} {c:List α} {i:Nat} (hi:i<c.length):c.set i (rdP d c i)=c:=by
 rw [rd_lt hi];exact List.set_getElem_self _
theorem offB_s {b:Int} {l:List (Int×Unit)} {j:Nat} (h:j<l.length):offB b (l.take (j+1))=offB b (l.take j)++(if (rdP (0,()) l j).1=b then []else [rdP (0,()) l j]):=by
 rw [take_s (d:=(0,())) h,offB,List.filter_append]
 congr 1
 by_cases e:(rdP (0,()) l j).1=b
 ·rw [if_pos e,List.filter_cons_of_neg (by simp [e])];rfl
 ·rw [if_neg e,List.filter_cons_of_pos (by simp [e])];rfl
theorem lt_n {α R:Type} {c:List α} {n:Nat} (h:c.length=n) (A B:Option R):br (ltI (n:Int) (ln c)) A B=B:=by rw [ltI_dc,ln_e,h,br_neg (by omega)]
theorem spec_l09Drop_f {k:Nat} (hk:K0≤k) (l:LoopT) (b:Int) (hs:SzL l):spec_l09Drop.f k l b=some (dropLp l b,()):=by
 have h1:=spec_l05Copy_l hk l hs
 have ht:=hs.trays
 have hch:=hs.chutes
 unfold spec_l09Drop.f
 rw [h1,bnd_s]
 refine map_loop (d:=(0,())) hk l.1 (offT b) hs.trays (fun i c rec hi hc ha=> ?_) (fun rec=> ?_)
 ·by_cases e:(rdP (0,()) l.1 i).1=b
  ·rw [show offT b (rdP (0,()) l.1 i)=(0,())from if_pos e]
   simp (disch:=omega) only [lett_e,bnd_s,bnd_chk,br_not,br_t,br_f,br_T,br_F,not_true_eq_false,not_false_eq_true,chk_T,chk_F,chk_eq,eqI_dc,ltI_dc,leI_dc,eqN_dc,notB_dc,andB_dc,andB_t,eqB_dc,notB_t,notB_f,inR_dc,upR_dc,ln_e,app_e,tk_e,dp_e,upd_e,repl_e,natI_n,br_pos,br_neg,addI_n,fitN_T,hc,ha]
   rfl
  ·rw [show offT b (rdP (0,()) l.1 i)=rdP (0,()) l.1 i from if_neg e,←ha,set_same (by omega)]
   rw [←ha]at e
   simp (disch:=omega) only [lett_e,bnd_s,bnd_chk,br_not,br_t,br_f,br_T,br_F,not_true_eq_false,not_false_eq_true,chk_T,chk_F,chk_eq,eqI_dc,ltI_dc,leI_dc,eqN_dc,notB_dc,andB_dc,andB_t,eqB_dc,notB_t,notB_f,inR_dc,upR_dc,ln_e,app_e,tk_e,dp_e,upd_e,repl_e,natI_n,br_pos,br_neg,addI_n,fitN_T,hc]
   rfl
 ·refine(lt_n (c:=l.1.map (offT b)) (by simp) _ _).trans ?_
  refine map_loop (d:=(0,0,[],())) hk l.2.2.1 (offC b) hs.chutes (fun i c rec hi hc ha=> ?_) (fun rec=> ?_)
  ·have hbl:=hs.bags _ (by rw [rd_lt hi];exact List.getElem_mem hi:rdP (0,0,[],()) l.2.2.1 i∈l.2.2.1)
   refine(lt_t (l:=c) (by omega) _ _).trans ?_
   refine loop_run (n:=(rdP (0,0,[],()) l.2.2.1 i).2.2.1.length) (fun j=>(offB b ((rdP (0,0,[],()) l.2.2.1 i).2.2.1.take j),(j:Int),())) (by simp [offB]) (fun j hj rec2=> ?_) (fun rec2=> ?_) (by unfold K0 at hk;omega)
   ·rw [offB_s hj]
    have hlo:(offB b ((rdP (0,0,[],()) l.2.2.1 i).2.2.1.take j)).length≤1048576:=by
     have:=List.length_filter_le (fun x:Int×Unit=>decide (x.1≠b)) ((rdP (0,0,[],()) l.2.2.1 i).2.2.1.take j)
     rw [List.length_take]at this
     unfold offB;omega
    have hfit:=fit1 (rdP (0,()) (rdP (0,0,[],()) l.2.2.1 i).2.2.1 j) hlo
    by_cases e:(rdP (0,()) (rdP (0,0,[],()) l.2.2.1 i).2.2.1 j).1=b
    ·rw [if_pos e,List.append_nil]
     simp (disch:=omega) only [lett_e,bnd_s,bnd_chk,br_not,br_t,br_f,br_T,br_F,not_true_eq_false,not_false_eq_true,chk_T,chk_F,chk_eq,eqI_dc,ltI_dc,leI_dc,eqN_dc,notB_dc,andB_dc,andB_t,eqB_dc,notB_t,notB_f,inR_dc,upR_dc,ln_e,app_e,tk_e,dp_e,upd_e,repl_e,natI_n,br_pos,br_neg,addI_n,fitN_T,hc,ha]
     rfl
    ·rw [if_neg e]
     simp (disch:=omega) only [lett_e,bnd_s,bnd_chk,br_not,br_t,br_f,br_T,br_F,not_true_eq_false,not_false_eq_true,chk_T,chk_F,chk_eq,eqI_dc,ltI_dc,leI_dc,eqN_dc,notB_dc,andB_dc,andB_t,eqB_dc,notB_t,notB_f,inR_dc,upR_dc,ln_e,app_e,tk_e,dp_e,upd_e,repl_e,natI_n,br_pos,br_neg,addI_n,fitN_T,hc,ha,hfit]
     rfl
   ·rw [List.take_length]
    simp (disch:=omega) only [lett_e,bnd_s,bnd_chk,br_not,br_t,br_f,br_T,br_F,not_true_eq_false,not_false_eq_true,chk_T,chk_F,chk_eq,eqI_dc,ltI_dc,leI_dc,eqN_dc,notB_dc,andB_dc,andB_t,eqB_dc,notB_t,notB_f,inR_dc,upR_dc,ln_e,app_e,tk_e,dp_e,upd_e,repl_e,natI_n,br_pos,br_neg,addI_n,fitN_T,hc,ha]
    rfl
  ·simp (disch:=omega) only [lett_e,bnd_s,bnd_chk,br_not,br_t,br_f,br_T,br_F,not_true_eq_false,not_false_eq_true,chk_T,chk_F,chk_eq,eqI_dc,ltI_dc,leI_dc,eqN_dc,notB_dc,andB_dc,andB_t,eqB_dc,notB_t,notB_f,inR_dc,upR_dc,ln_e,app_e,tk_e,dp_e,upd_e,repl_e,natI_n,br_pos,br_neg,addI_n,fitN_T,List.length_map]
   rfl
end Go.Proofs.YtcfbjloblbhdhaaGreat.Eng
namespace Go.Proofs.YtcfbjloblbhdhaaGreat.Eng
noncomputable def gapsM (l:List NoteT):Int:= @ite _ (NotesP l) (Classical.propDecidable _) (if l.length=0 then 0 else(rdP (0,0,0,0,0,()) l (l.length-1)).1-l.length) (-1)
def departP (x:HallT) (f:Int):Prop:=HallP x∧(1≤f∧f≤x.2.2.2.2.2.2.2.2.2.2.2.2.2.2.2.1.length)∧(rdP (0,0,0,false,0,()) x.2.2.2.2.2.2.2.2.2.2.2.2.2.2.2.1 (natI (f-1))).2.2.2.1=false∧(rdP (0,0,0,false,0,()) x.2.2.2.2.2.2.2.2.2.2.2.2.2.2.2.1 (natI (f-1))).2.1≤x.1∧gapsM x.2.2.2.2.2.2.2.2.2.2.2.2.2.2.1=0
theorem spec_CanDepart_f {k:Nat} (hk:K0≤k) (x:HallT) (f:Int) (hs:SzH x):spec_CanDepart.f k x f=chkP (departP x f):=by
 have h1:=spec_HallOk_f hk x hs
 have h2:spec_Gaps.f k x.2.2.2.2.2.2.2.2.2.2.2.2.2.2.1=some (gapsM x.2.2.2.2.2.2.2.2.2.2.2.2.2.2.1,()):=spec_Gaps_f hk _
 have hfl:=hs.flights
 unfold spec_CanDepart.f
 simp (disch:=omega) only [lett_e,bnd_s,bnd_chk,br_not,br_t,br_f,br_T,br_F,not_true_eq_false,not_false_eq_true,chk_T,chk_F,chk_eq,eqI_dc,ltI_dc,leI_dc,eqN_dc,notB_dc,andB_dc,andB_t,eqB_dc,notB_t,notB_f,inR_dc,upR_dc,ln_e,app_e,tk_e,dp_e,upd_e,repl_e,natI_n,br_pos,br_neg,addI_n,fitN_T,h1,h2,spec_l01In_f]
 by_cases hP:HallP x
 case neg=>rw [br_neg hP];exact chk_congr ⟨fun z=>z.elim,fun z=>hP z.1⟩
 rw [br_pos hP]
 by_cases h3:1≤f∧f≤x.2.2.2.2.2.2.2.2.2.2.2.2.2.2.2.1.length
 case neg=>rw [br_neg h3];exact chk_congr ⟨fun z=>z.elim,fun z=>h3 z.2.1⟩
 rw [br_pos h3]
 have hn:natI (f-1)<x.2.2.2.2.2.2.2.2.2.2.2.2.2.2.2.1.length:=by unfold natI;omega
 unfold departP
 rw [subI_id (by omega)]
 generalize rdP (0,0,0,false,0,()) x.2.2.2.2.2.2.2.2.2.2.2.2.2.2.2.1 (natI (f-1))=e at*
 rw [br_pos (by omega)]
 cases hd:e.2.2.2.1 with
 |true=>rw [br_t];exact chk_congr ⟨fun z=>z.elim,fun z=>by cases z.2.2.1⟩
 |false=>
  rw [br_f]
  by_cases h5:e.2.1≤x.1
  ·rw [br_pos (by omega),br_pos h5];exact chk_congr ⟨fun z=>⟨hP,h3,rfl,h5,z⟩,fun z=>z.2.2.2.2⟩
  ·rw [br_pos (by omega),br_neg h5];exact chk_congr ⟨fun z=>z.elim,fun z=>h5 z.2.2.2.1⟩
end Go.Proofs.YtcfbjloblbhdhaaGreat.Eng
namespace Go.Proofs.YtcfbjloblbhdhaaGreat.Eng
theorem asc_len {l:List (Int×Unit)} {n:Nat} (h:AscP l n):l.length≤n:=by
 have key:∀i,i<l.length→(i:Int)≤(rdP (0,()) l i).1:=by
  intro i
  induction i with
  |zero=>intro hi;exact(h 0 hi).1.1
  |succ i ih=>
   intro hi
   have h1:=ih (by omega)
   have h2:=(h (i+1) hi).2 (by omega)
   rw [Nat.add_sub_cancel]at h2
   omega
 cases e:l.length with
 |zero=>omega
 |succ m=>
  have h1:=key m (by omega)
  have h2:=(h m (by omega)).1.2
  omega
theorem hallP_sz {x:HallT} (h:HallP x):SzH x:=by
 obtain⟨h1,h2,h3,h4,h5,h6,h7,h8,h9,_⟩:=h
 obtain⟨p1,p2,p3,p4,p5,p6,p7,p8,p9,p10⟩:=h5
 dsimp only at p1 p3 p4 p5 p9
 exact {
  wait:=by have:=h2.1;omega
  items:=by have:=h4.2.2.1;dsimp only at this;omega
  trays:=by omega
  chutes:=by omega
  bags:=fun c hc=>by have:=(p5 c hc).2.2;have:=(p5 c hc).2.1;omega
  wants:=by omega
  told:=fun w hw=>by have:=asc_len (p9 w hw).2;omega
  lanes:=by have:=h6.2.1.2;dsimp only at this;omega
  kept:=fun l hl=>by have:=(h6.2.2.1 l hl).1;have:=h6.1;dsimp only at*;omega
  notes:=by have:=h7.1;omega
  flights:=by omega
  cases_:=by omega }
end Go.Proofs.YtcfbjloblbhdhaaGreat.Eng
namespace Go.Proofs.YtcfbjloblbhdhaaGreat.Eng
def onBelt (x:HallT) (b:Int):Prop:=∃y,y∈x.2.2.2.2.2.2.2.1∧y.1=b
def onTray (x:HallT) (b:Int):Prop:=(b,())∈x.2.2.2.2.2.2.2.2.1
def inChute (x:HallT) (b:Int):Prop:=∃c,c∈x.2.2.2.2.2.2.2.2.2.2.1∧(b,())∈c.2.2.1
def inLane (x:HallT) (b:Int):Prop:=∃l,l∈x.2.2.2.2.2.2.2.2.2.2.2.2.2.1∧∃y,y∈l.1∧y.1=b
theorem hall_move {x z:HallT} {i0:Nat} {e':CaseT} (h:HallP x) (hi:i0<x.2.2.2.2.2.2.2.2.2.2.2.2.2.2.2.2.1.length) (hcs:z.2.2.2.2.2.2.2.2.2.2.2.2.2.2.2.2.1=x.2.2.2.2.2.2.2.2.2.2.2.2.2.2.2.2.1.set i0 e') (hnow:z.1=x.1) (hfl:z.2.2.2.2.2.2.2.2.2.2.2.2.2.2.2.1=x.2.2.2.2.2.2.2.2.2.2.2.2.2.2.2.1)
  (hw:PolicyP z.2.1) (hlim:(60≤z.2.2.1∧z.2.2.1≤2000)∧1≤z.2.2.2.1∧z.2.2.2.1≤40) (hbe:BeltP (z.2.2.2.2.1,z.2.2.2.2.2.1,z.2.2.2.2.2.2.1,z.2.2.2.2.2.2.2.1,())) (hlo:LoopP (z.2.2.2.2.2.2.2.2.1,z.2.2.2.2.2.2.2.2.2.1,z.2.2.2.2.2.2.2.2.2.2.1,z.2.2.2.2.2.2.2.2.2.2.2.1,())) (hst:StoreP (z.2.2.2.2.2.2.2.2.2.2.2.2.1,z.2.2.2.2.2.2.2.2.2.2.2.2.2.1,())) (hno:NotesP z.2.2.2.2.2.2.2.2.2.2.2.2.2.2.1) (hch:z.2.2.2.2.2.2.2.2.2.2.1.length=x.2.2.2.2.2.2.2.2.2.2.1.length)
  (b1:∀b,onBelt z b→b≤x.2.2.2.2.2.2.2.2.2.2.2.2.2.2.2.2.1.length) (b2:∀b,onTray z b→b≤x.2.2.2.2.2.2.2.2.2.2.2.2.2.2.2.2.1.length) (b3:∀b,inChute z b→b≤x.2.2.2.2.2.2.2.2.2.2.2.2.2.2.2.2.1.length) (b4:∀b,inLane z b→b≤x.2.2.2.2.2.2.2.2.2.2.2.2.2.2.2.2.1.length)
  (same:∀j:Nat,j≠i0→j<x.2.2.2.2.2.2.2.2.2.2.2.2.2.2.2.2.1.length→(onBelt z ((j:Int)+1)↔onBelt x ((j:Int)+1))∧(onTray z ((j:Int)+1)↔onTray x ((j:Int)+1))∧(inChute z ((j:Int)+1)↔inChute x ((j:Int)+1))∧(inLane z ((j:Int)+1)↔inLane x ((j:Int)+1)))
  (ht:e'.1=(rdP (0,0,0,0,0,0,0,0,0,0,()) x.2.2.2.2.2.2.2.2.2.2.2.2.2.2.2.2.1 i0).1∧e'.2.1=(rdP (0,0,0,0,0,0,0,0,0,0,()) x.2.2.2.2.2.2.2.2.2.2.2.2.2.2.2.2.1 i0).2.1∧e'.2.2.1=(rdP (0,0,0,0,0,0,0,0,0,0,()) x.2.2.2.2.2.2.2.2.2.2.2.2.2.2.2.2.1 i0).2.2.1) (hc:CaseP z i0 e'):HallP z:=by
 obtain⟨h1,h2,h3,h4,h5,h6,h7,h8,h9,h10,h11,h12,h13,h14,h15⟩:=h
 have hlen:z.2.2.2.2.2.2.2.2.2.2.2.2.2.2.2.2.1.length=x.2.2.2.2.2.2.2.2.2.2.2.2.2.2.2.2.1.length:=by rw [hcs];simp
 refine⟨by rw [hnow];exact h1,hw,hlim,hbe,hlo,hst,hno,by rw [hfl];exact h8,by rw [hlen];exact h9,by rw [hfl,hch];exact h10,fun i hi'=> ?_,fun y hy=>by rw [hlen];exact b1 y.1 ⟨y,hy,rfl⟩,fun y hy=>by rw [hlen];exact b2 y.1 hy,fun c hcm y hy=>by rw [hlen];exact b3 y.1 ⟨c,hcm,hy⟩,fun l hl y hy=>by rw [hlen];exact b4 y.1 ⟨l,hl,y,hy,rfl⟩⟩
 rw [hlen]at hi'
 by_cases e:i=i0
 ·subst e
  have:rdP (0,0,0,0,0,0,0,0,0,0,()) z.2.2.2.2.2.2.2.2.2.2.2.2.2.2.2.2.1 i=e':=by rw [hcs];unfold rdP;simp [hi]
  rw [this]
  exact hc
 ·have er:rdP (0,0,0,0,0,0,0,0,0,0,()) z.2.2.2.2.2.2.2.2.2.2.2.2.2.2.2.2.1 i=rdP (0,0,0,0,0,0,0,0,0,0,()) x.2.2.2.2.2.2.2.2.2.2.2.2.2.2.2.2.1 i:=by rw [hcs];exact rd_set_o (fun q=>e q.symm)
  have tag:∀j,j<x.2.2.2.2.2.2.2.2.2.2.2.2.2.2.2.2.1.length→(rdP (0,0,0,0,0,0,0,0,0,0,()) z.2.2.2.2.2.2.2.2.2.2.2.2.2.2.2.2.1 j).1=(rdP (0,0,0,0,0,0,0,0,0,0,()) x.2.2.2.2.2.2.2.2.2.2.2.2.2.2.2.2.1 j).1∧(rdP (0,0,0,0,0,0,0,0,0,0,()) z.2.2.2.2.2.2.2.2.2.2.2.2.2.2.2.2.1 j).2.1=(rdP (0,0,0,0,0,0,0,0,0,0,()) x.2.2.2.2.2.2.2.2.2.2.2.2.2.2.2.2.1 j).2.1∧(rdP (0,0,0,0,0,0,0,0,0,0,()) z.2.2.2.2.2.2.2.2.2.2.2.2.2.2.2.2.1 j).2.2.1=(rdP (0,0,0,0,0,0,0,0,0,0,()) x.2.2.2.2.2.2.2.2.2.2.2.2.2.2.2.2.1 j).2.2.1:=by
   intro j hj
   by_cases ej:j=i0
   ·subst ej
    have:rdP (0,0,0,0,0,0,0,0,0,0,()) z.2.2.2.2.2.2.2.2.2.2.2.2.2.2.2.2.1 j=e':=by rw [hcs];unfold rdP;simp [hi]
    rw [this];exact ht
   ·have:rdP (0,0,0,0,0,0,0,0,0,0,()) z.2.2.2.2.2.2.2.2.2.2.2.2.2.2.2.2.1 j=rdP (0,0,0,0,0,0,0,0,0,0,()) x.2.2.2.2.2.2.2.2.2.2.2.2.2.2.2.2.1 j:=by rw [hcs];exact rd_set_o (fun q=>ej q.symm)
    rw [this];exact⟨rfl,rfl,rfl⟩
  rw [er]
  obtain⟨c1,c2,c3,c4,c5,c6,c7,c8,c9,c10,c11,c12,c13,c14⟩:=h11 i hi'
  obtain⟨s1,s2,s3,s4⟩:=same i e hi'
  refine⟨c1,by rw [hfl];exact c2,c3,c4,c5,fun j hj=> ?_,by rw [hnow];exact c7,c8,c9,by rw [hfl];exact c10,s1.trans c11,s2.trans c12,s3.trans c13,s4.trans c14⟩
  obtain⟨t1,t2,t3⟩:=tag j (by omega)
  rw [t1,t2,t3]
  exact c6 j hj
end Go.Proofs.YtcfbjloblbhdhaaGreat.Eng
namespace Go.Proofs.YtcfbjloblbhdhaaGreat.Eng
def setCase (x:HallT) (i:Nat) (e:CaseT):HallT:=(x.1,x.2.1,x.2.2.1,x.2.2.2.1,x.2.2.2.2.1,x.2.2.2.2.2.1,x.2.2.2.2.2.2.1,x.2.2.2.2.2.2.2.1,x.2.2.2.2.2.2.2.2.1,x.2.2.2.2.2.2.2.2.2.1,x.2.2.2.2.2.2.2.2.2.2.1,x.2.2.2.2.2.2.2.2.2.2.2.1,x.2.2.2.2.2.2.2.2.2.2.2.2.1,x.2.2.2.2.2.2.2.2.2.2.2.2.2.1,x.2.2.2.2.2.2.2.2.2.2.2.2.2.2.1,x.2.2.2.2.2.2.2.2.2.2.2.2.2.2.2.1,x.2.2.2.2.2.2.2.2.2.2.2.2.2.2.2.2.1.set i e,())
def decCase (e:CaseT) (s:ScrT):CaseT:=(e.1,e.2.1,e.2.2.1,e.2.2.2.1,e.2.2.2.2.1,e.2.2.2.2.2.1,if s.2.2.1=2 then 7 else e.2.2.2.2.2.2.1,s.1,s.2.1,s.2.2.1,())
def scrOf (e:CaseT):ScrT:=(e.2.2.2.2.2.2.2.1,e.2.2.2.2.2.2.2.2.1,e.2.2.2.2.2.2.2.2.2.1,())
noncomputable def decM (x:HallT) (i:Nat) (v:Int):HallT×Bool×Unit:=
 if (rdP (0,0,0,0,0,0,0,0,0,0,()) x.2.2.2.2.2.2.2.2.2.2.2.2.2.2.2.2.1 i).2.2.2.2.2.2.1=2∧(decideM x.2.1 (scrOf (rdP (0,0,0,0,0,0,0,0,0,0,()) x.2.2.2.2.2.2.2.2.2.2.2.2.2.2.2.2.1 i)) x.1 v).2.1=true then(setCase x i (decCase (rdP (0,0,0,0,0,0,0,0,0,0,()) x.2.2.2.2.2.2.2.2.2.2.2.2.2.2.2.2.1 i) (decideM x.2.1 (scrOf (rdP (0,0,0,0,0,0,0,0,0,0,()) x.2.2.2.2.2.2.2.2.2.2.2.2.2.2.2.2.1 i)) x.1 v).1),true,())else(x,false,())
theorem dec_ok {x:HallT} {i:Nat} {v:Int} (h:HallP x) (hi:i<x.2.2.2.2.2.2.2.2.2.2.2.2.2.2.2.2.1.length):HallP (decM x i v).1:=by
 unfold decM
 split
 case isFalse=>exact h
 case isTrue hh=>
  obtain⟨hp,_⟩:=hh
  have hx:=h
  obtain⟨h1,h2,h3,h4,h5,h6,h7,h8,h9,h10,h11,h12,h13,h14,h15⟩:=hx
  obtain⟨c1,c2,c3,c4,c5,c6,c7,c8,c9,c10,c11,c12,c13,c14⟩:=h11 i hi
  rw [if_neg (by omega)]at c7
  obtain⟨c7,c7'⟩:=c7
  have hd:=decide_ok (w:=x.2.1) (s:=scrOf (rdP (0,0,0,0,0,0,0,0,0,0,()) x.2.2.2.2.2.2.2.2.2.2.2.2.2.2.2.2.1 i)) (now:=x.1) (v:=v) c7 c7'
  generalize (decideM x.2.1 (scrOf (rdP (0,0,0,0,0,0,0,0,0,0,()) x.2.2.2.2.2.2.2.2.2.2.2.2.2.2.2.2.1 i)) x.1 v).1=s at*
  generalize he:rdP (0,0,0,0,0,0,0,0,0,0,()) x.2.2.2.2.2.2.2.2.2.2.2.2.2.2.2.2.1 i=e at*
  have hpl:(decCase e s).2.2.2.2.2.2.1=2∨((decCase e s).2.2.2.2.2.2.1=7∧s.2.2.1=2):=by
   unfold decCase;dsimp only
   split
   ·rename_i hv;exact .inr ⟨rfl,hv⟩
   ·exact .inl hp
  have hnb:∀p:Int,p≠2→p≠7→¬(decCase e s).2.2.2.2.2.2.1=p:=by intro p q1 q2 q;rcases hpl with r|⟨r,_⟩<;>omega
  refine hall_move (i0:=i) (e':=decCase e s) h hi rfl rfl rfl h2 h3 h4 h5 h6 h7 rfl (fun b ⟨y,hy,e⟩=>by subst e;exact h12 y hy) (fun b hb=>h13 _ hb) (fun b ⟨c,hc,hb⟩=>h14 c hc _ hb) (fun b ⟨l,hl,y,hy,e⟩=>by subst e;exact h15 l hl y hy) (fun j _ _=>⟨Iff.rfl,Iff.rfl,Iff.rfl,Iff.rfl⟩) (by rw [he];exact⟨rfl,rfl,rfl⟩) ?_
  refine⟨c1,c2,c3,c4,by rcases hpl with r|⟨r,_⟩<;>omega,fun j hj=> ?_,?_,?_,?_,?_,?_,?_,?_,?_⟩
  ·have:rdP (0,0,0,0,0,0,0,0,0,0,()) (x.2.2.2.2.2.2.2.2.2.2.2.2.2.2.2.2.1.set i (decCase e s)) j=rdP (0,0,0,0,0,0,0,0,0,0,()) x.2.2.2.2.2.2.2.2.2.2.2.2.2.2.2.2.1 j:=rd_set_o (by omega)
   intro q
   refine c6 j hj ?_
   rw [←this]
   exact q
  ·rw [if_neg (hnb 1 (by omega) (by omega))];exact hd
  ·intro _;exact⟨hnb 3 (by omega) (by omega),hnb 4 (by omega) (by omega),hnb 5 (by omega) (by omega),hnb 6 (by omega) (by omega)⟩
  ·rintro ⟨q1,q2⟩
   rcases hpl with r|⟨r,r2⟩
   ·have:s.2.2.1=2:=q2
    have r3:(if s.2.2.1=2 then(7:Int)else e.2.2.2.2.2.2.1)=2:=q1
    rw [if_pos this]at r3;omega
   ·omega
  ·exact fun q=>absurd q (hnb 6 (by omega) (by omega))
  ·exact⟨fun q=>absurd (c11.1 q) (by omega),fun q=>absurd q (hnb 1 (by omega) (by omega))⟩
  ·exact⟨fun q=>absurd (c12.1 q) (by omega),fun q=>absurd q (hnb 3 (by omega) (by omega))⟩
  ·exact⟨fun q=>absurd (c13.1 q) (by omega),fun q=>absurd q (hnb 4 (by omega) (by omega))⟩
  ·exact⟨fun q=>absurd (c14.1 q) (by omega),fun q=>absurd q (hnb 5 (by omega) (by omega))⟩
theorem rd_set_i {α:Type} {d x:α} {l:List α} {i:Nat} (h:i<l.length):rdP d (l.set i x) i=x:=by unfold rdP;simp [h]
theorem spec_l09Decide_f {k:Nat} (hk:K0≤k) (x:HallT) (b v:Int) (h:HallP x) (hb:1≤b∧b≤x.2.2.2.2.2.2.2.2.2.2.2.2.2.2.2.2.1.length):spec_l09Decide.f k x b v=some (decM x (natI (b-1)) v):=by
 have hs:=hallP_sz h
 have hi:natI (b-1)<x.2.2.2.2.2.2.2.2.2.2.2.2.2.2.2.2.1.length:=by unfold natI;omega
 have hcl:=hs.cases_
 have h1:spec_Decide.f k (x.2.1,()) ((rdP (0,0,0,0,0,0,0,0,0,0,()) x.2.2.2.2.2.2.2.2.2.2.2.2.2.2.2.2.1 (natI (b-1))).2.2.2.2.2.2.2.1,(rdP (0,0,0,0,0,0,0,0,0,0,()) x.2.2.2.2.2.2.2.2.2.2.2.2.2.2.2.2.1 (natI (b-1))).2.2.2.2.2.2.2.2.1,(rdP (0,0,0,0,0,0,0,0,0,0,()) x.2.2.2.2.2.2.2.2.2.2.2.2.2.2.2.2.1 (natI (b-1))).2.2.2.2.2.2.2.2.2.1,()) x.1 v=some (decideM x.2.1 (scrOf (rdP (0,0,0,0,0,0,0,0,0,0,()) x.2.2.2.2.2.2.2.2.2.2.2.2.2.2.2.2.1 (natI (b-1)))) x.1 v):=spec_Decide_f hk (x.2.1,()) (scrOf (rdP (0,0,0,0,0,0,0,0,0,0,()) x.2.2.2.2.2.2.2.2.2.2.2.2.2.2.2.2.1 (natI (b-1)))) x.1 v hs.wait
 have h2:=spec_l09Copy_f hk x hs
 unfold spec_l09Decide.f decM
 generalize hei:natI (b-1)=i at*
 have hin:b-1=(i:Int):=by rw [←hei];unfold natI;omega
 by_cases hp:(rdP (0,0,0,0,0,0,0,0,0,0,()) x.2.2.2.2.2.2.2.2.2.2.2.2.2.2.2.2.1 i).2.2.2.2.2.2.1=2
 case neg=>
  rw [if_neg (fun q=>hp q.1)]
  simp (disch:=omega) only [lett_e,bnd_s,bnd_chk,br_not,br_t,br_f,br_T,br_F,not_true_eq_false,not_false_eq_true,chk_T,chk_F,chk_eq,eqI_dc,ltI_dc,leI_dc,eqN_dc,notB_dc,andB_dc,andB_t,eqB_dc,notB_t,notB_f,inR_dc,upR_dc,ln_e,app_e,tk_e,dp_e,upd_e,repl_e,natI_n,br_pos,br_neg,addI_n,fitN_T,subI_id,hei]
 generalize hd:decideM x.2.1 (scrOf (rdP (0,0,0,0,0,0,0,0,0,0,()) x.2.2.2.2.2.2.2.2.2.2.2.2.2.2.2.2.1 i)) x.1 v=d at*
 obtain⟨s,ok,_⟩:=d
 cases ok with
 |false=>
  rw [if_neg (fun q=>by cases q.2)]
  simp (disch:=omega) only [lett_e,bnd_s,bnd_chk,br_not,br_t,br_f,br_T,br_F,not_true_eq_false,not_false_eq_true,chk_T,chk_F,chk_eq,eqI_dc,ltI_dc,leI_dc,eqN_dc,notB_dc,andB_dc,andB_t,eqB_dc,notB_t,notB_f,inR_dc,upR_dc,ln_e,app_e,tk_e,dp_e,upd_e,repl_e,natI_n,br_pos,br_neg,addI_n,fitN_T,subI_id,hei,h1,both_same]
 |true=>
  rw [if_pos ⟨hp,rfl⟩]
  by_cases hv:s.2.2.1=2
  ·simp (disch:=omega) only [lett_e,bnd_s,bnd_chk,br_not,br_t,br_f,br_T,br_F,not_true_eq_false,not_false_eq_true,chk_T,chk_F,chk_eq,eqI_dc,ltI_dc,leI_dc,eqN_dc,notB_dc,andB_dc,andB_t,eqB_dc,notB_t,notB_f,inR_dc,upR_dc,ln_e,app_e,tk_e,dp_e,upd_e,repl_e,natI_n,br_pos,br_neg,addI_n,fitN_T,subI_id,hei,h1,h2,both_same,List.length_set,rd_set_i,List.set_set]
   unfold setCase decCase
   rw [if_pos hv]
  ·simp (disch:=omega) only [lett_e,bnd_s,bnd_chk,br_not,br_t,br_f,br_T,br_F,not_true_eq_false,not_false_eq_true,chk_T,chk_F,chk_eq,eqI_dc,ltI_dc,leI_dc,eqN_dc,notB_dc,andB_dc,andB_t,eqB_dc,notB_t,notB_f,inR_dc,upR_dc,ln_e,app_e,tk_e,dp_e,upd_e,repl_e,natI_n,br_pos,br_neg,addI_n,fitN_T,subI_id,hei,h1,h2,both_same,List.length_set,rd_set_i,List.set_set]
   unfold setCase decCase
   rw [if_neg hv]
end Go.Proofs.YtcfbjloblbhdhaaGreat.Eng
