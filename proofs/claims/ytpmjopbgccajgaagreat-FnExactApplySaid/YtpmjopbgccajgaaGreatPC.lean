/- Pure laws: PBelt, PNote, PScreen, PNew, PLoop, PWant, PStore, PPut, PTake, PTake2, PFly, PDrop, PDep, PHall, PMove, PDec. No condition. -/
import Derived.Test.YtpmjopbgccajgaaGreatPA
import Derived.Test.YtpmjopbgccajgaaGreatD
import Derived.Test.YtpmjopbgccajgaaGreatD1
import Derived.Test.YtpmjopbgccajgaaGreatPB
set_option linter.unusedVariables false
set_option linter.unusedSimpArgs false
namespace Go.Proofs.YtpmjopbgccajgaaGreat.Eng
theorem qms {α R:Type} {d:α} {k:Nat} (hk:K0≤k) (l:List α) (hl:l.length≤1048576) {F:(List α×Int×Unit→Option R)→List α×Int×Unit→Option R} {r:Option R}
  (hF:∀(i:Nat) rec,i<l.length→(l.take i).length≤1048576→F rec (l.take i,(i:Int),())=rec (l.take i++[rdP d l i],((i+1:Nat):Int),())) (hE:∀rec,F rec (l,(l.length:Int),())=r):qh F k ([],0,())=r:=by
 unfold K0 at hk
 refine q08 (n:=l.length) (fun i=>(l.take i,(i:Int),())) (by simp) (fun i hi rec=> ?_) (fun rec=>by rw [List.take_length];exact hE rec) (by omega)
 rw [hF i rec hi (by rw [List.length_take];omega),q7b (d:=d) hi]
theorem lt_t {α R:Type} {l:List α} {i:Nat} (h:i<l.length) (A B:Option R):br (ltI (i:Int) (ln l)) A B=A:=by rw [qn,q31,q8 (by omega)]
theorem lt_e {α R:Type} {l:List α} (A B:Option R):br (ltI (l.length:Int) (ln l)) A B=B:=by rw [qn,q31,qa (by omega)]
abbrev qed:=Int×Int×Bool×List qnw×Unit
theorem qiu (k:Nat) (b:qed) (h:b.2.2.2.1.length≤1048576):q4o k b=some (b,()):=by
 unfold q4o
 simp (disch:=omega) only [evs,qyv h,List.nil_append]
def q0mn (b:qed):Prop:=b.2.2.2.1.length≤1048576
theorem q0cv {b:qed} (h:qae b):q0mn b:=Nat.le_trans h.2.2.1 (by omega)
theorem q0sl {α:Type} {c:Bool} (h:c=true) (a b:Option α):br c a b=a:=by subst h;rfl
theorem q0sm {α:Type} {c:Bool} (h:c=false) (a b:Option α):br c a b=b:=by subst h;rfl
noncomputable def q0lg (b:qed):Prop:=qae b∧b.2.2.1=false∧b.2.2.2.1≠[]∧b.1≤(rdP (0,0,0,()) b.2.2.2.1 0).2.1
noncomputable def qgf (b:qed):qed×Int×Bool×Unit:= @ite _ (q0lg b) (Classical.propDecidable _) ((b.1,b.2.1,b.2.2.1,b.2.2.2.1.drop 1,()),(rdP (0,0,0,()) b.2.2.2.1 0).1,true,()) (b,0,false,())
theorem q0kj {α:Type} {d:α} {l:List α} (n i:Nat):rdP d (l.drop n) i=rdP d l (n+i):=by
 unfold rdP;simp [List.getD_eq_getElem?_getD]
theorem q0db {k:Nat} (hk:K0≤k) (b:qed) (hs:q0mn b):qbw k b=some (qgf b):=by
 have h1:=qiu k b hs
 have h2:=qi7 hk b
 have hs':b.2.2.2.1.length≤1048576:=hs
 unfold qbw;delta W0
 rw [h1,q00,h2,qj,qq]
 by_cases hP:qae b
 case neg=>
  rw [qa hP,qgf,if_neg (fun z=>hP z.1)]
 rw [q8 hP]
 by_cases hh:b.2.2.1=true
 case pos=>
  rw [qgf,if_neg (fun z=>absurd (z.2.1.symm.trans hh) (by simp))]
  dsimp only;rw [q0sl hh]
 have hh':b.2.2.1=false:=by cases e:b.2.2.1 with|true=>exact absurd e hh|false=>rfl
 dsimp only
 rw [q0sm hh']
 cases hl:b.2.2.2.1 with
 |nil=>
  rw [qgf,if_neg (fun z=>z.2.2.1 hl)]
  simp (disch:=omega) only [evs,hl,List.length_nil]
  rw [←hl]
 |cons y l=>
  rw [←hl]
  have hn:0<b.2.2.2.1.length:=by rw [hl];simp
  have hd:(b.2.2.2.1.drop 1).length≤1048576:=by rw [List.length_drop];omega
  by_cases hf:b.1≤(rdP (0,0,0,()) b.2.2.2.1 0).2.1
  ·rw [qgf,if_pos ⟨hP,hh',by rw [hl];simp,hf⟩]
   have e0:q6 0=0:=rfl
   have e1:q6 1=1:=rfl
   simp (disch:=omega) only [evs,e0,e1,qyv hd,List.nil_append]
  ·rw [qgf,if_neg (fun z=>hf z.2.2.2)]
   have e0:q6 0=0:=rfl
   simp (disch:=omega) only [evs,e0]
theorem q0aw {b:qed} (h:qae b):qae (qgf b).1:=by
 unfold qgf
 split
 case isFalse=>exact h
 case isTrue hk=>
  obtain⟨h1,h2,h3,h4⟩:=h
  refine⟨h1,h2,by simp only [List.length_drop];omega,fun i hi=> ?_⟩
  simp only [List.length_drop]at hi
  obtain⟨a1,a2,a3,a4,a5⟩:=h4 (1+i) (by omega)
  unfold q0cz
  simp only [q0kj]
  refine⟨a1,a2,a3,fun j hj=>a4 (1+j) (by omega),fun h0=> ?_⟩
  have:=a5 (by omega)
  rw [show 1+(i-1)=1+i-1 by omega]
  exact this
def qns (most:Int) (x:qnw):qnw:=(x.1,if x.2.1<most then x.2.1+1 else x.2.1,x.2.2.1,())
def qsw (gap:Int):Int→List qnw→List qnw
 |_,[]=>[]
 |most,x::xs=>qns most x::qsw gap ((qns most x).2.1-(qns most x).2.2.1-gap) xs
theorem qr1 (g:Int):∀(l:List qnw) (m:Int),(qsw g m l).length=l.length
 | [],_=>rfl
 |x::xs,m=>by simp [qsw,qr1 g xs]
theorem qtf {α:Type} {d x:α} {l:List α} (i:Nat):rdP d (x::l) (i+1)=rdP d l i:=by unfold rdP;simp
theorem qp7 {α:Type} {d x:α} {l:List α}:rdP d (x::l) 0=x:=by unfold rdP;simp
theorem q09s (g m:Int) {l:List qnw} (h:0<l.length):rdP (0,0,0,()) (qsw g m l) 0=qns m (rdP (0,0,0,()) l 0):=by
 cases l with
 |nil=>cases h
 |cons x xs=>rw [qsw,qp7,qp7]
theorem q09r (g:Int):∀(l:List qnw) (m:Int) (i:Nat),i+1<l.length→rdP (0,0,0,()) (qsw g m l) (i+1)=qns ((rdP (0,0,0,()) (qsw g m l) i).2.1-(rdP (0,0,0,()) (qsw g m l) i).2.2.1-g) (rdP (0,0,0,()) l (i+1))
 | [],_,_,h=>absurd h (by simp)
 |x::xs,m,0,h=>by
  rw [qsw,qtf,qtf,qp7]
  exact q09s g _ (by simpa using h)
 |x::xs,m,i+1,h=>by
  rw [qsw,qtf,qtf,qtf]
  exact q09r g xs _ i (by simpa using h)
def q23 (b:qed):qed:=(b.1,b.2.1,b.2.2.1,qsw b.2.1 b.1 b.2.2.2.1,())
theorem q0fg {b:qed} (h:qae b):∀i,i<b.2.2.2.1.length→((rdP (0,0,0,()) (q23 b).2.2.2.1 i).1=(rdP (0,0,0,()) b.2.2.2.1 i).1∧(rdP (0,0,0,()) (q23 b).2.2.2.1 i).2.2.1=(rdP (0,0,0,()) b.2.2.2.1 i).2.2.1)∧(rdP (0,0,0,()) b.2.2.2.1 i).2.1≤(rdP (0,0,0,()) (q23 b).2.2.2.1 i).2.1∧(rdP (0,0,0,()) (q23 b).2.2.2.1 i).2.1≤b.1∧
  (0<i→(rdP (0,0,0,()) (q23 b).2.2.2.1 i).2.1≤(rdP (0,0,0,()) (q23 b).2.2.2.1 (i-1)).2.1-(rdP (0,0,0,()) (q23 b).2.2.2.1 (i-1)).2.2.1-b.2.1):=by
 intro i
 obtain⟨h1,h2,h3,h4⟩:=h
 induction i with
 |zero=>
  intro hi
  obtain⟨a1,a2,a3,a4,a5⟩:=h4 0 hi
  have e:rdP (0,0,0,()) (q23 b).2.2.2.1 0=qns b.1 (rdP (0,0,0,()) b.2.2.2.1 0):=q09s _ _ hi
  rw [e]
  unfold qns
  refine⟨⟨rfl,rfl⟩,?_,?_,fun h=>absurd h (by omega)⟩
  ·dsimp only;split<;>omega
  ·dsimp only;split<;>omega
 |succ i ih=>
  intro hi
  obtain⟨⟨b1,b2⟩,b3,b4,_⟩:=ih (by omega)
  obtain⟨a1,a2,a3,a4,a5⟩:=h4 (i+1) hi
  obtain⟨c1,c2,c3,c4,c5⟩:=h4 i (by omega)
  have a6:=a5 (by omega)
  rw [show i+1-1=i by omega]at a6
  have e:rdP (0,0,0,()) (q23 b).2.2.2.1 (i+1)=qns ((rdP (0,0,0,()) (q23 b).2.2.2.1 i).2.1-(rdP (0,0,0,()) (q23 b).2.2.2.1 i).2.2.1-b.2.1) (rdP (0,0,0,()) b.2.2.2.1 (i+1)):=q09r _ _ _ i hi
  rw [show i+1-1=i by omega,e]
  unfold qns
  refine⟨⟨rfl,rfl⟩,?_,?_,fun _=> ?_⟩
  ·dsimp only;split<;>omega
  ·dsimp only;split<;>omega
  ·dsimp only;split<;>omega
theorem q0pk {b:qed} (h:qae b):qae (q23 b):=by
 have key:=q0fg h
 obtain⟨h1,h2,h3,h4⟩:=h
 have hlen:(q23 b).2.2.2.1.length=b.2.2.2.1.length:=qr1 _ _ _
 refine⟨h1,h2,by rw [hlen];exact h3,fun i hi=> ?_⟩
 rw [hlen]at hi
 obtain⟨⟨b1,b2⟩,b3,b4,b5⟩:=key i hi
 obtain⟨a1,a2,a3,a4,a5⟩:=h4 i hi
 refine⟨by rw [b1];exact a1,by rw [b2];exact a2,⟨by rw [b2];omega,b4⟩,fun j hj=> ?_,b5⟩
 rw [b1,(key j (by omega)).1.1]
 exact a4 j hj
theorem q0ar {α:Type} {d:α} {l m:List α} {i:Nat} (h:l.length≤i):rdP d (l++m) i=rdP d m (i-l.length):=by
 unfold rdP;simp [List.getD_eq_getElem?_getD,List.getElem?_append_right h]
theorem qn5 {α:Type} {d:α} {l m:List α} {i:Nat} (h:i<l.length):rdP d (l++m) i=rdP d l i:=by
 unfold rdP;simp [List.getD_eq_getElem?_getD,List.getElem?_append_left h]
theorem q0pr {α:Type} {d:α} {l:List α} {n i:Nat} (h:i<n):rdP d (l.take n) i=rdP d l i:=by
 unfold rdP;simp [List.getD_eq_getElem?_getD,List.getElem?_take,h]
def qnu {α:Type} (l m:List α) (i:Nat):List α:=m.take i++l.drop i
theorem qsg {α:Type} {l m:List α} (h:m.length=l.length) (i:Nat) (hi:i≤l.length):(qnu l m i).length=l.length:=by
 simp [qnu];omega
theorem q0cg {α:Type} {d:α} {l m:List α} (h:m.length=l.length) {i:Nat} (hi:i<l.length):rdP d (qnu l m i) i=rdP d l i:=by
 have hl:(m.take i).length=i:=by rw [List.length_take];omega
 rw [qnu,q0ar (by omega),hl,q0kj]
 congr 1;omega
theorem q03n {α:Type} {d:α} {l m:List α} (h:m.length=l.length) {i j:Nat} (hi:i≤l.length) (hj:j<i):rdP d (qnu l m i) j=rdP d m j:=by
 have hl:(m.take i).length=i:=by rw [List.length_take];omega
 rw [qnu,qn5 (by omega),q0pr hj]
theorem qys {α:Type} {d:α} {l m:List α} (h:m.length=l.length) {i:Nat} (hi:i<l.length):(qnu l m i).set i (rdP d m i)=qnu l m (i+1):=by
 have hl:(m.take i).length=i:=by rw [List.length_take];omega
 unfold qnu
 rw [List.set_append_right _ _ (by omega),hl,Nat.sub_self,q7b (d:=d) (by omega),List.append_assoc]
 congr 1
 rw [List.drop_eq_getElem_cons hi]
 rfl
theorem qyt {α:Type} {l m:List α} (h:m.length=l.length):qnu l m l.length=m:=by
 unfold qnu;rw [←h,List.take_length,h,List.drop_length,List.append_nil]
theorem q04j {k:Nat} (hk:K0≤k) (b:qed) (h:qae b):q84 k b=some (q23 b,()):=by
 have key:=q0fg h
 obtain⟨h1,h2,h3,h4⟩:=h
 unfold K0 at hk
 have hlen:(q23 b).2.2.2.1.length=b.2.2.2.1.length:=qr1 _ _ _
 unfold q84
 rw [qyv (by omega),qec,qk,q6o,List.nil_append]
 refine q08 (n:=b.2.2.2.1.length) (fun i=>(qnu b.2.2.2.1 (q23 b).2.2.2.1 i,(i:Int),())) (by simp [qnu]) (fun i hi rec=> ?_) (fun rec=> ?_) (by omega)
 ·have hl:=qsg hlen i (by omega)
  have ha:=q0cg (d:=(0,0,0,())) hlen hi
  have hst:=qys (d:=(0,0,0,())) hlen hi
  obtain⟨⟨b1,b2⟩,b3,b4,b5⟩:=key i hi
  obtain⟨a1,a2,a3,a4,a5⟩:=h4 i hi
  rw [←hst]
  have same:∀y:qnw,y=rdP (0,0,0,()) b.2.2.2.1 i→(qnu b.2.2.2.1 (q23 b).2.2.2.1 i).set i y=qnu b.2.2.2.1 (q23 b).2.2.2.1 i:=by
   rintro y rfl
   rw [←ha,qo (by omega)]
   exact List.set_getElem_self _
  have hb:∀j,i=j+1→rdP (0,0,0,()) (qnu b.2.2.2.1 (q23 b).2.2.2.1 i) j=rdP (0,0,0,()) (q23 b).2.2.2.1 j:=fun j hj=>q03n hlen (by omega) (by omega)
  generalize qnu b.2.2.2.1 (q23 b).2.2.2.1 i=c at*
  cases i with
  |zero=>
   clear hb
   have hb:True:=trivial
   have e:rdP (0,0,0,()) (q23 b).2.2.2.1 0=qns b.1 (rdP (0,0,0,()) b.2.2.2.1 0):=q09s _ _ hi
   by_cases hlt:(rdP (0,0,0,()) b.2.2.2.1 0).2.1<b.1
   ·have e2:rdP (0,0,0,()) (q23 b).2.2.2.1 0=((rdP (0,0,0,()) b.2.2.2.1 0).1,(rdP (0,0,0,()) b.2.2.2.1 0).2.1+1,(rdP (0,0,0,()) b.2.2.2.1 0).2.2):=by rw [e,qns,if_pos hlt]
    rw [e2]
    simp (disch:=omega) only [evs,hl,ha,hb,qfr,qi,q0h]
    rfl
   ·rw [same _ (by rw [e,qns,if_neg hlt])]
    simp (disch:=omega) only [evs,hl,ha,hb,qfr,qi]
    rfl
  |succ i=>
   have hb:=hb i rfl
   have hn:q6 (((i+1:Nat):Int)-1)=i:=by unfold q6;omega
   obtain⟨⟨k1,k2⟩,k3,k4,k5⟩:=key i (by omega)
   obtain⟨z1,z2,z3,z4,z5⟩:=h4 i (by omega)
   have e:rdP (0,0,0,()) (q23 b).2.2.2.1 (i+1)=qns ((rdP (0,0,0,()) (q23 b).2.2.2.1 i).2.1-(rdP (0,0,0,()) (q23 b).2.2.2.1 i).2.2.1-b.2.1) (rdP (0,0,0,()) b.2.2.2.1 (i+1)):=q09r _ _ _ i hi
   by_cases hlt:(rdP (0,0,0,()) b.2.2.2.1 (i+1)).2.1<(rdP (0,0,0,()) (q23 b).2.2.2.1 i).2.1-(rdP (0,0,0,()) (q23 b).2.2.2.1 i).2.2.1-b.2.1
   ·have e2:rdP (0,0,0,()) (q23 b).2.2.2.1 (i+1)=((rdP (0,0,0,()) b.2.2.2.1 (i+1)).1,(rdP (0,0,0,()) b.2.2.2.1 (i+1)).2.1+1,(rdP (0,0,0,()) b.2.2.2.1 (i+1)).2.2):=by rw [e,qns,if_pos hlt]
    rw [e2]
    simp (disch:=omega) only [evs,hl,ha,hn,hb,qi,q0h]
    rfl
   ·rw [same _ (by rw [e,qns,if_neg hlt])]
    simp (disch:=omega) only [evs,hl,ha,hn,hb,qi]
    rfl
 ·have:=qyt hlen
  rw [this]
  simp (disch:=omega) only [evs,hlen]
  rfl
noncomputable def q0ci (b:qed):Int:= @ite _ (qae b) (Classical.propDecidable _) (if b.2.2.2.1.length=0 then b.1 else maxI 0 ((rdP (0,0,0,()) b.2.2.2.1 (b.2.2.2.1.length-1)).2.1-(rdP (0,0,0,()) b.2.2.2.1 (b.2.2.2.1.length-1)).2.2.1-b.2.1)) (-1)
theorem qt8 {k:Nat} (hk:K0≤k) (b:qed):q5x k b=some (q0ci b,()):=by
 have h2:=qi7 hk b
 unfold q5x q0ci;delta W0
 rw [h2,qj,qq]
 by_cases hP:qae b
 case neg=>rw [qa hP,if_neg hP]
 rw [q8 hP,if_pos hP]
 obtain⟨h3,h4,h5,h6⟩:=hP
 by_cases h0:b.2.2.2.1.length=0
 ·rw [if_pos h0];simp (disch:=omega) only [evs]
 ·rw [if_neg h0]
  obtain⟨a1,a2,a3,a4,a5⟩:=h6 (b.2.2.2.1.length-1) (by omega)
  have hn:q6 ((b.2.2.2.1.length:Int)-1)=b.2.2.2.1.length-1:=by unfold q6;omega
  simp (disch:=omega) only [evs,qi,hn]
noncomputable def q0qk (b:qed) (bag size:Int):Prop:=qae b∧1≤bag∧(1≤size∧size≤60)∧b.2.2.2.1.length<40∧size≤q0ci b∧∀i,i<b.2.2.2.1.length→(rdP (0,0,0,()) b.2.2.2.1 i).1≠bag
noncomputable def qa2 (b:qed) (bag size:Int):qed×Bool×Unit:= @ite _ (q0qk b bag size) (Classical.propDecidable _) ((b.1,b.2.1,b.2.2.1,b.2.2.2.1++[(bag,size,size,())],()),true,()) (b,false,())
theorem q0de {k:Nat} (hk:K0≤k) (b:qed) (bag size:Int) (hs:q0mn b):qbx k b bag size=some (qa2 b bag size):=by
 have h1:=qiu k b hs
 have h2:=qi7 hk b
 have h3:=qt8 hk b
 have hs':b.2.2.2.1.length≤1048576:=hs
 unfold K0 at hk
 unfold qbx;delta W0
 rw [h1,q00,h2,qj,qq]
 by_cases hP:qae b
 case neg=>rw [qa hP,qa2,if_neg (fun z=>hP z.1)]
 rw [q8 hP,qn]
 by_cases h4:bag<1
 case pos=>rw [q8 h4,qa2,if_neg (fun z=>absurd z.2.1 (by omega))]
 rw [qa h4,ql,qj,qq]
 by_cases h5:1≤size∧size≤60
 case neg=>rw [qa h5,qa2,if_neg (fun z=>h5 z.2.2.1)]
 rw [q8 h5,q13,q31]
 by_cases h6:(40:Int)≤b.2.2.2.1.length
 case pos=>rw [q8 h6,qa2,if_neg (fun z=>absurd z.2.2.2.1 (by omega))]
 rw [qa h6,h3,q00,qn]
 by_cases h7:q0ci b<size
 case pos=>rw [q8 h7,qa2,if_neg (fun z=>absurd z.2.2.2.2.1 (by omega))]
 rw [qa h7]
 rw [qi8 (n:=b.2.2.2.1.length) (r:=some (b,false,())) (e:=some ((b.1,b.2.1,b.2.2.1,b.2.2.2.1++[(bag,size,size,())],()),true,())) (fun i=>((i:Int),())) (fun i=>(rdP (0,0,0,()) b.2.2.2.1 i).1=bag) ?h0 ?hk ?hs ?he]
 case h0=>simp
 case hk=>omega
 case hs=>intro i hi _ rec;simp (disch:=omega) only [evs];rfl
 case he=>
  intro _ rec
  have f1:=qny ((bag,size,size,()):qnw) hs'
  simp (disch:=omega) only [evs,qyv hs',List.nil_append,f1]
 by_cases h8:∃i,i<b.2.2.2.1.length∧(rdP (0,0,0,()) b.2.2.2.1 i).1=bag
 ·rw [q8 h8,qa2,if_neg]
  obtain⟨i,hi,e⟩:=h8
  exact fun z=>z.2.2.2.2.2 i hi e
 ·rw [qa h8,qa2,if_pos ⟨hP,by omega,h5,by omega,by omega,fun i hi e=>h8 ⟨i,hi,e⟩⟩]
theorem q0oa {b:qed} {bag size:Int} (h:qae b):qae (qa2 b bag size).1:=by
 unfold qa2
 split
 case isFalse=>exact h
 case isTrue hk=>
  obtain⟨_,a1,a2,a3,a4,a5⟩:=hk
  have hfr:=a4
  rw [q0ci,if_pos h]at hfr
  obtain⟨h1,h2,h3,h4⟩:=h
  refine⟨h1,h2,by simp only [List.length_append,List.length_singleton];omega,fun i hi=> ?_⟩
  simp only [List.length_append,List.length_singleton]at hi
  by_cases hi2:i<b.2.2.2.1.length
  ·obtain⟨b1,b2,b3,b4,b5⟩:=h4 i hi2
   unfold q0cz
   simp only [qn5 hi2]
   refine⟨b1,b2,b3,fun j hj=> ?_,fun h0=> ?_⟩
   ·rw [qn5 (by omega)];exact b4 j hj
   ·rw [qn5 (by omega)];exact b5 h0
  ·obtain rfl:i=b.2.2.2.1.length:=by omega
   have e:rdP (0,0,0,()) (b.2.2.2.1++[((bag,size,size,()):qnw)]) b.2.2.2.1.length=(bag,size,size,()):=by
    rw [q0ar (Nat.le_refl _),Nat.sub_self,qp7]
   unfold q0cz
   simp only [e]
   refine⟨a1,a2,⟨Int.le_refl _,?_⟩,fun j hj=> ?_,fun h0=> ?_⟩
   ·by_cases h0:b.2.2.2.1.length=0
    ·rw [if_pos h0]at hfr;exact hfr
    ·rw [if_neg h0]at hfr
     obtain⟨b1,b2,b3,b4,b5⟩:=h4 (b.2.2.2.1.length-1) (by omega)
     unfold maxI at hfr
     split at hfr<;>omega
   ·rw [qn5 hj];exact a5 j hj
   ·rw [if_neg (by omega)]at hfr
    rw [qn5 (by omega)]
    unfold maxI at hfr
    split at hfr<;>omega
end Go.Proofs.YtpmjopbgccajgaaGreat.Eng
namespace Go.Proofs.YtpmjopbgccajgaaGreat.Eng
def nt0:q0a:=(0,0,0,0,0,())
def atN (s:Int):List q0a→q0a
 | []=>nt0
 |x::xs=>if x.1=s then x else atN s xs
theorem q0mh (s:Int):∀(a b:List q0a),(∀x∈a,x.1≠s)→atN s (a++b)=atN s b
 | [],_,_=>rfl
 |x::xs,b,h=>by
  rw [List.cons_append,atN,if_neg (h x (by simp))]
  exact q0mh s xs b (fun y hy=>h y (by simp [hy]))
theorem qsp (s:Int):∀(l:List q0a),(atN s l∈l∧(atN s l).1=s)∨(atN s l=nt0∧∀x∈l,x.1≠s)
 | []=> .inr ⟨rfl,fun _ h=>by cases h⟩
 |x::xs=>by
  rw [atN]
  by_cases h:x.1=s
  ·rw [if_pos h];exact .inl ⟨by simp,h⟩
  ·rw [if_neg h]
   rcases qsp s xs with⟨h1,h2⟩|⟨h1,h2⟩
   ·exact .inl ⟨by simp [h1],h2⟩
   ·refine .inr ⟨h1,fun y hy=> ?_⟩
    rcases List.mem_cons.1 hy with e|e
    ·subst e;exact h
    ·exact h2 y e
theorem q0d9 {k:Nat} (hk:K0≤k) (l:List q0a) (s:Int) (hl:l.length≤1048576):
  (∃i,i<l.length∧(rdP (0,0,0,0,0,()) l i).1=s∧(∀j,j<i→¬(rdP (0,0,0,0,0,()) l j).1=s)∧q8p k l s=some (rdP (0,0,0,0,0,()) l i,()))∨((∀j,j<l.length→¬(rdP (0,0,0,0,0,()) l j).1=s)∧q8p k l s=some (nt0,())):=by
 unfold K0 at hk
 unfold q8p;delta W1
 refine qcv (n:=l.length) (e:=some (nt0,())) (fun i=>((i:Int),())) (fun i=>(rdP (0,0,0,0,0,()) l i).1=s) (fun i=>some (rdP (0,0,0,0,0,()) l i,())) ?h0 ?hk ?hs ?he
 case h0=>simp
 case hk=>omega
 case hs=>intro i hi _ rec;simp (disch:=omega) only [evs];rfl
 case he=>intro _ rec;simp (disch:=omega) only [evs];rfl
theorem q0d8 {k:Nat} (hk:K0≤k) (l:List q0a) (s:Int) (hl:l.length≤1048576):q8p k l s=some (atN s l,()):=by
 rcases q0d9 hk l s hl with⟨i,hi,h1,h2,e⟩|⟨h2,e⟩
 ·rw [e,←List.take_append_drop i l,q0mh s _ _ ?_,qvm (d:=(0,0,0,0,0,())) hi,atN,if_pos h1,←qvm (d:=(0,0,0,0,0,())) hi,List.take_append_drop]
  intro x hx
  obtain⟨j,hj,ex⟩:=List.getElem_of_mem hx
  rw [List.length_take]at hj
  have:=h2 j (by omega)
  rw [qo (by omega)]at this
  rw [List.getElem_take]at ex
  rwa [ex]at this
 ·rw [e]
  rcases qsp s l with⟨h3,h4⟩|⟨h3,_⟩
  ·obtain⟨j,hj,ex⟩:=List.getElem_of_mem h3
   exact absurd h4 (by rw [←ex,←qo (d:=(0,0,0,0,0,())) hj];exact h2 j hj)
  ·rw [h3]
def qss (n:q0a):List q0a→List q0a
 | []=>[n]
 |x::xs=>if n.1<x.1 then n::x::xs else x::qss n xs
theorem q0hs (n:q0a):∀(a b:List q0a),(∃x,x∈a∧n.1<x.1)→qss n (a++b)=qss n a++b
 | [],_,h=>by obtain⟨x,h,_⟩:=h;cases h
 |x::xs,b,h=>by
  rw [List.cons_append,qss,qss]
  by_cases hx:n.1<x.1
  ·rw [if_pos hx,if_pos hx];rfl
  ·rw [if_neg hx,if_neg hx,List.cons_append]
   congr 1
   refine q0hs n xs b ?_
   obtain⟨y,hy,h2⟩:=h
   rcases List.mem_cons.1 hy with e|e
   ·subst e;exact absurd h2 hx
   ·exact⟨y,e,h2⟩
theorem q02u (n:q0a):∀(a b:List q0a),(∀x∈a,¬n.1<x.1)→qss n (a++b)=a++qss n b
 | [],_,_=>rfl
 |x::xs,b,h=>by
  rw [List.cons_append,qss,if_neg (h x (by simp)),List.cons_append,q02u n xs b (fun y hy=>h y (by simp [hy]))]
theorem q0bl (n:q0a):∀(l:List q0a),(qss n l).length=l.length+1
 | []=>rfl
 |x::xs=>by rw [qss];split<;>simp [q0bl n xs]
theorem q0au (n:q0a) {y:q0a}:∀(l:List q0a),y∈qss n l↔y=n∨y∈l
 | []=>by simp [qss]
 |x::xs=>by
  rw [qss]
  split
  ·simp
  ·rw [List.mem_cons,q0au n xs,List.mem_cons]
   constructor
   ·rintro (h|h|h)
    ·exact .inr (.inl h)
    ·exact .inl h
    ·exact .inr (.inr h)
   ·rintro (h|h|h)
    ·exact .inr (.inl h)
    ·exact .inl h
    ·exact .inr (.inr h)
noncomputable def q04a (l:List q0a) (n:q0a) (i:Nat):List q0a×Bool×Int×Unit:= @ite _ (∃x,x∈l.take i∧n.1<x.1) (Classical.propDecidable _) (qss n (l.take i),true,(i:Int),()) (l.take i,false,(i:Int),())
theorem q04e {k:Nat} (hk:K0≤k) (l:List q0a) (n:q0a) (hl:l.length≤1048576):q80 k l n=some (qss n l,()):=by
 unfold K0 at hk
 unfold q80;delta W1
 refine q08 (n:=l.length) (q04a l n) ?_ (fun i hi rec=> ?_) (fun rec=> ?_) (by omega)
 ·rw [q04a,if_neg (by simp)];simp
 ·have ht:=q7b (d:=(0,0,0,0,0,())) hi
  have hlt:(l.take i).length≤1048576:=by rw [List.length_take];omega
  by_cases h:∃x,x∈l.take i∧n.1<x.1
  ·have h':∃x,x∈l.take (i+1)∧n.1<x.1:=by obtain⟨x,h1,h2⟩:=h;exact⟨x,by rw [ht];simp [h1],h2⟩
   rw [q04a,if_pos h,q04a,if_pos h',ht,q0hs n _ _ h]
   have f1:=qny (rdP (0,0,0,0,0,()) l i) (l:=qss n (l.take i)) (by rw [q0bl,List.length_take];omega)
   simp (disch:=omega) only [evs,f1,not_true_eq_false]
   rfl
  ·by_cases h2:n.1<(rdP (0,0,0,0,0,()) l i).1
   ·have h':∃x,x∈l.take (i+1)∧n.1<x.1:=⟨_,by rw [ht];simp,h2⟩
    rw [q04a,if_neg h,q04a,if_pos h',ht,q02u n _ _ (fun x hx hn=>h ⟨x,hx,hn⟩)]
    have f1:=qny n hlt
    have f2:=qny (rdP (0,0,0,0,0,()) l i) (l:=l.take i++[n]) (by rw [List.length_append,List.length_take];simp;omega)
    simp (disch:=omega) only [evs,f1,f2]
    rw [qss,if_pos h2,List.append_assoc]
    rfl
   ·have h':¬ ∃x,x∈l.take (i+1)∧n.1<x.1:=by
     rintro ⟨x,h3,h4⟩
     rw [ht]at h3
     rcases List.mem_append.1 h3 with h3|h3
     ·exact h ⟨x,h3,h4⟩
     ·rw [List.mem_singleton.1 h3]at h4;exact h2 h4
    rw [q04a,if_neg h,q04a,if_neg h',ht]
    have f2:=qny (rdP (0,0,0,0,0,()) l i) hlt
    simp (disch:=omega) only [evs,f2]
    rfl
 ·by_cases h:∃x,x∈l.take l.length∧n.1<x.1
  ·rw [q04a,if_pos h,List.take_length]
   simp (disch:=omega) only [evs]
  ·rw [q04a,if_neg h]
   rw [List.take_length]at h
   have e:qss n l=l++[n]:=by
    have:=q02u n l [] (fun x hx hn=>h ⟨x,hx,hn⟩)
    rw [List.append_nil]at this;exact this
   rw [List.take_length,e]
   have f1:=qny n hl
   simp (disch:=omega) only [evs,f1]
def Asc (l:List q0a):Prop:=∀i,0<i→i<l.length→(rdP (0,0,0,0,0,()) l (i-1)).1<(rdP (0,0,0,0,0,()) l i).1
theorem q0gr (l:List q0a):Asc l↔l.Pairwise (fun a b=>a.1<b.1):=by
 rw [List.pairwise_iff_getElem]
 constructor
 ·intro h
  have key:∀n i j (hi:i<l.length) (hj:j<l.length),i+n+1=j→l[i].1<l[j].1:=by
   intro n
   induction n with
   |zero=>
    intro i j hi hj e
    have:=h j (by omega) hj
    rw [qo hj,qo (show j-1<l.length by omega)]at this
    simpa [show j-1=i by omega]using this
   |succ n ih=>
    intro i j hi hj e
    have h1:=ih i (j-1) hi (by omega) (by omega)
    have:=h j (by omega) hj
    rw [qo hj,qo (show j-1<l.length by omega)]at this
    exact Int.lt_trans h1 this
  intro i j hi hj hij
  exact key (j-i-1) i j hi hj (by omega)
 ·intro h i h0 hi
  rw [qo hi,qo (show i-1<l.length by omega)]
  exact h (i-1) i (by omega) hi (by omega)
theorem q0g8 (n:q0a):∀(l:List q0a),l.Pairwise (fun a b=>a.1<b.1)→(∀x∈l,x.1≠n.1)→(qss n l).Pairwise (fun a b=>a.1<b.1)
 | [],_,_=>by simp [qss]
 |x::xs,h,hn=>by
  obtain⟨h1,h2⟩:=List.pairwise_cons.1 h
  rw [qss]
  split
  ·rename_i hx
   refine List.pairwise_cons.2 ⟨fun y hy=> ?_,h⟩
   rcases List.mem_cons.1 hy with e|e
   ·subst e;exact hx
   ·exact Int.lt_trans hx (h1 y e)
  ·rename_i hx
   refine List.pairwise_cons.2 ⟨fun y hy=> ?_,q0g8 n xs h2 (fun y hy=>hn y (by simp [hy]))⟩
   rcases (q0au n xs).1 hy with e|e
   ·subst e;have:=hn x (by simp);omega
   ·exact h1 y e
theorem q0q2 (x n:q0a):(x.1=n.1∧x.2.1=n.2.1∧x.2.2.1=n.2.2.1∧x.2.2.2.1=n.2.2.2.1∧x.2.2.2.2.1=n.2.2.2.2.1)↔x=n:=by
 obtain⟨a,b,c,d,e,_⟩:=x
 obtain⟨a',b',c',d',e',_⟩:=n
 simp
noncomputable def addM (l:List q0a) (n:q0a):List q0a×Bool×Unit:=
 @ite _ (q5j l∧qv1 n) (Classical.propDecidable _) (if atN n.1 l=n then(l,true,())else if (atN n.1 l).1≠0∨60≤l.length then(l,false,())else(qss n l,true,())) (l,false,())
theorem q057 {k:Nat} (hk:K0≤k) (l:List q0a) (n:q0a) (hl:l.length≤1048576):q86 k l n=some (addM l n):=by
 have h1:=q85 hk l
 have h2:=qr5 k n
 have h3:=q0d8 hk l n.1 hl
 have h4:=q04e hk l n hl
 unfold q86 addM;delta W1
 rw [qyv hl,qec,qk,q6o,List.nil_append,h1,qj,qq]
 by_cases hP:q5j l
 case neg=>rw [qa hP,if_neg (fun z=>hP z.1)]
 rw [q8 hP]
 have h2':q6u k (n.1,n.2.1,n.2.2.1,n.2.2.2.1,n.2.2.2.2.1,())=q0i (qv1 n):=h2
 rw [h2',qj,qq]
 by_cases hN:qv1 n
 case neg=>rw [qa hN,if_neg (fun z=>hN z.2)]
 rw [q8 hN,if_pos ⟨hP,hN⟩,h3,q00]
 simp only [q02,q4e,q1c,q0q2]
 by_cases h5:atN n.1 l=n
 case pos=>rw [q8 h5,if_pos h5]
 rw [qa h5,if_neg h5]
 by_cases h6:(atN n.1 l).1=0
 case neg=>simp (disch:=omega) only [evs];rw [if_pos (.inl h6)]
 by_cases h7:60≤l.length
 case pos=>simp (disch:=omega) only [evs];rw [if_pos (.inr h7)]
 rw [if_neg (fun z=>z.elim (fun z=>z h6) h7)]
 have h4':q80 k l (n.1,n.2.1,n.2.2.1,n.2.2.2.1,n.2.2.2.2.1,())=some (qss n l,()):=h4
 simp (disch:=omega) only [evs,h4']
theorem q0q9 {l:List q0a} {n:q0a} (h:q5j l) (hn:qv1 n) (h1:(atN n.1 l).1=0) (h2:l.length<60):q5j (qss n l):=by
 obtain⟨a,b,c⟩:=h
 refine⟨by rw [q0bl];omega,fun y hy=> ?_,?_⟩
 ·rcases (q0au n l).1 hy with e|e
  ·subst e;exact hn
  ·exact b y e
 ·refine(q0gr _).2 (q0g8 n l ((q0gr _).1 c) ?_)
  rcases qsp n.1 l with⟨h3,h4⟩|⟨_,h3⟩
  ·have:=hn.1.1;omega
  ·exact h3
theorem q0r0 {l:List q0a} {n:q0a} (h:q5j l):q5j (addM l n).1:=by
 unfold addM
 split
 case isFalse=>exact h
 case isTrue hh=>
  split
  ·exact h
  ·split
   ·exact h
   ·rename_i h2
    exact q0q9 h hh.2 (by omega) (by omega)
theorem q0fk {k:Nat} (hk:K0≤k) (l:List q0a):qeq k l=some (@ite _ (q5j l) (Classical.propDecidable _) (if l.length=0 then 0 else(rdP (0,0,0,0,0,()) l (l.length-1)).1-l.length) (-1),()):=by
 have h1:=q85 hk l
 unfold qeq
 rw [h1,qj,qq]
 by_cases hP:q5j l
 case neg=>rw [qa hP,if_neg hP]
 rw [q8 hP,if_pos hP]
 have hlen:=hP.1
 by_cases h0:l.length=0
 ·rw [if_pos h0];simp (disch:=omega) only [evs]
 ·rw [if_neg h0]
  have hb:=hP.2.1 _ (by rw [qo (show l.length-1<l.length by omega)];exact List.getElem_mem _:rdP (0,0,0,0,0,()) l (l.length-1)∈l)
  have hb':=hb.1
  have hn:q6 ((l.length:Int)-1)=l.length-1:=by unfold q6;omega
  simp (disch:=omega) only [evs,qi,hn]
end Go.Proofs.YtpmjopbgccajgaaGreat.Eng
namespace Go.Proofs.YtpmjopbgccajgaaGreat.Eng
abbrev ScrT:=Int×Int×Int×Unit
def qpi (w:List (Int×Unit)) (lv sn:Int):Nat→Int
 |0=>sn
 |i+1=>qpi w lv sn i+(rdP (0,()) w (q6 (lv+i-1))).1
def elC (w:List (Int×Unit)) (now lv sn:Int) (i:Nat):Prop:=lv+i<4∧(rdP (0,()) w (q6 (lv+i-1))).1<now-qpi w lv sn i
noncomputable def elN (w:List (Int×Unit)) (now lv sn:Int):Nat:= @ite _ (elC w now lv sn 0) (Classical.propDecidable _) (@ite _ (elC w now lv sn 1) (Classical.propDecidable _) (@ite _ (elC w now lv sn 2) (Classical.propDecidable _) 3 2) 1) 0
theorem q0cm (w:List (Int×Unit)) (now lv sn:Int) (h:1≤lv):(∀i,i<elN w now lv sn→elC w now lv sn i)∧¬elC w now lv sn (elN w now lv sn)∧elN w now lv sn≤3:=by
 unfold elN
 split
 ·split
  ·split
   ·refine⟨fun i hi=> ?_,fun z=>absurd z.1 (by omega),Nat.le_refl _⟩
    obtain rfl|rfl|rfl:i=0∨i=1∨i=2:=by omega
    all_goals assumption
   ·refine⟨fun i hi=> ?_,by assumption,by omega⟩
    obtain rfl|rfl:i=0∨i=1:=by omega
    all_goals assumption
  ·refine⟨fun i hi=> ?_,by assumption,by omega⟩
   obtain rfl:i=0:=by omega
   assumption
 ·exact⟨fun i hi=>absurd hi (by omega),by assumption,by omega⟩
theorem q0kq {w:List (Int×Unit)} (h:q8j w) {i:Nat} (hi:i<3):1≤(rdP (0,()) w i).1∧(rdP (0,()) w i).1≤5000:=by
 have hl:=h.1
 have hi':i<w.length:=by omega
 rw [qo hi']
 exact h.2 _ (List.getElem_mem hi')
theorem quu {w:List (Int×Unit)} (hw:q8j w) {lv sn:Int} (h1:1≤lv):∀i:Nat,lv+i≤4→sn≤qpi w lv sn i∧qpi w lv sn i≤sn+5000*i
 |0,_=>by simp [qpi]
 |i+1,h=>by
  have ih:=quu hw (sn:=sn) h1 i (by omega)
  have:=q0kq hw (i:=q6 (lv+i-1)) (by unfold q6;omega)
  simp only [qpi]
  omega
noncomputable def q1x (w:List (Int×Unit)) (s:ScrT) (now:Int):ScrT:=
 @ite _ (q8j w∧q3y s∧(0≤now∧now≤100000)∧s.2.2.1=0) (Classical.propDecidable _) (s.1+elN w now s.1 s.2.1,qpi w s.1 s.2.1 (elN w now s.1 s.2.1),s.2.2.1,()) s
theorem q0ad {k:Nat} (hk:K0≤k) (w:List (Int×Unit)×Unit) (s:ScrT) (now:Int) (hw:w.1.length≤1048576):q9k k w s now=some (q1x w.1 s now,()):=by
 have h1:=qj1 hk w hw
 have h2:q2g k (s.1,s.2.1,s.2.2.1,())=q0i (q3y s):=qix k s
 have h1':q2h k (w.1,())=q0i (q8j w.1):=h1
 unfold K0 at hk
 unfold q9k;delta W2
 rw [h1',qj,qq]
 by_cases hP:q8j w.1
 case neg=>rw [qa hP,q1x,if_neg (fun z=>hP z.1)]
 rw [q8 hP,h2,qj,qq]
 by_cases hS:q3y s
 case neg=>rw [qa hS,q1x,if_neg (fun z=>hS z.2.1)]
 rw [q8 hS,ql,qj,qq]
 by_cases hN:0≤now∧now≤100000
 case neg=>rw [qa hN,q1x,if_neg (fun z=>hN z.2.2.1)]
 rw [q8 hN,qk]
 by_cases hv:s.2.2.1=0
 case neg=>
  rw [q1x,if_neg (fun z=>hv z.2.2.2)]
  refine q08 (n:=0) (fun _=>(s.1,s.2.1,())) rfl (fun i hi=>absurd hi (by omega)) (fun rec=> ?_) (by omega)
  rw [q02,qa hv]
 rw [q1x,if_pos ⟨hP,hS,hN,hv⟩]
 have hl:=hP.1
 obtain⟨⟨s1,s2⟩,⟨s3,s4⟩,s5⟩:=hS
 obtain⟨c1,c2,c3⟩:=q0cm w.1 now s.1 s.2.1 s1
 refine q08 (n:=elN w.1 now s.1 s.2.1) (fun i=>(s.1+i,qpi w.1 s.1 s.2.1 i,())) (by simp [qpi]) (fun i hi rec=> ?_) (fun rec=> ?_) (by omega)
 ·obtain⟨d1,d2⟩:=c1 i hi
  obtain⟨b1,b2⟩:=quu hP (sn:=s.2.1) s1 i (by omega)
  have b3:=q0kq hP (i:=q6 (s.1+i-1)) (by unfold q6;omega)
  simp (disch:=omega) only [evs,qi,q0h]
  congr 2
  omega
 ·by_cases d1:s.1+(elN w.1 now s.1 s.2.1:Int)<4
  ·obtain⟨b1,b2⟩:=quu hP (sn:=s.2.1) s1 (elN w.1 now s.1 s.2.1) (by omega)
   have d2:¬(rdP (0,()) w.1 (q6 (s.1+(elN w.1 now s.1 s.2.1:Nat)-1))).1<now-qpi w.1 s.1 s.2.1 (elN w.1 now s.1 s.2.1):=fun z=>c2 ⟨d1,z⟩
   simp (disch:=omega) only [evs,qi]
  ·simp (disch:=omega) only [evs]
theorem q03x {w:List (Int×Unit)} {s:ScrT} {now:Int} (hS:q3y s):q3y (q1x w s now)∧(q1x w s now).2.2.1=s.2.2.1∧s.1≤(q1x w s now).1∧((q1x w s now).2.1=s.2.1∨(q1x w s now).2.1<now):=by
 unfold q1x
 split
 case isFalse=>exact⟨hS,rfl,Int.le_refl _,.inl rfl⟩
 case isTrue h=>
  obtain⟨hP,_,hN,hv⟩:=h
  obtain⟨⟨s1,s2⟩,⟨s3,s4⟩,s5⟩:=hS
  obtain⟨c1,c2,c3⟩:=q0cm w now s.1 s.2.1 s1
  have key:qpi w s.1 s.2.1 (elN w now s.1 s.2.1)=s.2.1∨qpi w s.1 s.2.1 (elN w now s.1 s.2.1)<now:=by
   cases e:elN w now s.1 s.2.1 with
   |zero=>exact .inl rfl
   |succ m=>
    obtain⟨_,d2⟩:=c1 m (by omega)
    right
    simp only [qpi]
    omega
  have h4:s.1+(elN w now s.1 s.2.1:Int)≤4:=by
   cases e:elN w now s.1 s.2.1 with
   |zero=>simp;exact s2
   |succ m=>
    obtain⟨d1,_⟩:=c1 m (by omega)
    omega
  obtain⟨b1,b2⟩:=quu hP (sn:=s.2.1) s1 _ h4
  refine⟨⟨⟨?_,?_⟩,⟨?_,?_⟩,.inl hv⟩,rfl,?_,key⟩
  ·dsimp only;omega
  ·exact h4
  ·dsimp only;omega
  ·dsimp only;rcases key with e|e<;>omega
  ·dsimp only;omega
noncomputable def q52 (w:List (Int×Unit)) (s:ScrT) (now v:Int):ScrT×Bool×Unit:=
 @ite _ (q8j w∧q3y s∧(0≤now∧now≤100000)∧(0≤v∧v≤2)) (Classical.propDecidable _)
  (if (q1x w s now).2.2.1≠0 then(s,false,())else if now<(q1x w s now).2.1 then(s,false,())else if v=1 then(((q1x w s now).1,(q1x w s now).2.1,1,()),true,())else
   if (q1x w s now).1=4 then(if v=0 then(s,false,())else(((q1x w s now).1,(q1x w s now).2.1,2,()),true,()))else(((q1x w s now).1+1,now,(q1x w s now).2.2.1,()),true,()))
  (s,false,())
theorem q0ae {k:Nat} (hk:K0≤k) (w:List (Int×Unit)×Unit) (s:ScrT) (now v:Int) (hw:w.1.length≤1048576):q6w k w s now v=some (q52 w.1 s now v):=by
 have h1:q2h k (w.1,())=q0i (q8j w.1):=qj1 hk w hw
 have h2:q2g k (s.1,s.2.1,s.2.2.1,())=q0i (q3y s):=qix k s
 have h3:q9k k (w.1,()) (s.1,s.2.1,s.2.2.1,()) now=some (q1x w.1 s now,()):=q0ad hk w s now hw
 unfold q6w;delta W2
 rw [h1,qj,qq]
 by_cases hP:q8j w.1
 case neg=>rw [qa hP,q52,if_neg (fun z=>hP z.1)]
 rw [q8 hP,h2,qj,qq]
 by_cases hS:q3y s
 case neg=>rw [qa hS,q52,if_neg (fun z=>hS z.2.1)]
 rw [q8 hS,ql,qj,qq]
 by_cases hN:0≤now∧now≤100000
 case neg=>rw [qa hN,q52,if_neg (fun z=>hN z.2.2.1)]
 rw [q8 hN,ql,qj,qq]
 by_cases hV:0≤v∧v≤2
 case neg=>rw [qa hV,q52,if_neg (fun z=>hV z.2.2.2)]
 rw [q8 hV,h3,q00,q52,if_pos ⟨hP,hS,hN,hV⟩]
 obtain⟨⟨⟨t1,t2⟩,⟨t3,t4⟩,t5⟩,_,_,_⟩:=q03x (w:=w.1) (now:=now) hS
 generalize q1x w.1 s now=t at*
 simp only [q02,q0o,qn]
 by_cases e1:t.2.2.1=0
 case neg=>rw [q8 e1,if_pos e1]
 rw [qa (fun z=>z e1),if_neg (fun z=>z e1)]
 by_cases e2:now<t.2.1
 case pos=>rw [q8 e2,if_pos e2]
 rw [qa e2,if_neg e2]
 by_cases e3:v=1
 case pos=>rw [q8 e3,if_pos e3]
 rw [qa e3,if_neg e3]
 by_cases e4:t.1=4
 ·rw [q8 e4,if_pos e4]
  by_cases e5:v=0
  ·rw [q8 e5,if_pos e5]
  ·rw [qa e5,if_neg e5]
 ·rw [qa e4,if_neg e4,q0h (by omega)]
theorem q0m5 {w:List (Int×Unit)} {s:ScrT} {now v:Int} (hS:q3y s) (h:s.2.1≤now):q3y (q52 w s now v).1∧(q52 w s now v).1.2.1≤now:=by
 unfold q52
 split
 case isFalse=>exact⟨hS,h⟩
 case isTrue hh=>
  obtain⟨⟨⟨t1,t2⟩,⟨t3,t4⟩,t5⟩,t6,t7,t8⟩:=q03x (w:=w) (now:=now) hS
  obtain⟨_,_,hN,hV⟩:=hh
  generalize q1x w s now=t at*
  repeat' split
  ·exact⟨hS,h⟩
  ·exact⟨hS,h⟩
  ·refine⟨⟨⟨t1,t2⟩,⟨t3,t4⟩,.inr (.inl rfl)⟩,by dsimp only;omega⟩
  ·exact⟨hS,h⟩
  ·rename_i h4 _
   refine⟨⟨⟨t1,t2⟩,⟨t3,t4⟩,.inr (.inr ⟨rfl,h4⟩)⟩,by dsimp only;omega⟩
  ·rename_i h0 _ _ h4
   refine⟨⟨⟨by dsimp only;omega,by dsimp only;omega⟩,⟨by dsimp only;omega,by dsimp only;omega⟩,.inl (by dsimp only;omega)⟩,Int.le_refl _⟩
end Go.Proofs.YtpmjopbgccajgaaGreat.Eng
namespace Go.Proofs.YtpmjopbgccajgaaGreat.Eng
theorem qmf (k:Nat) {l:List qnw} (h:l.length≤1048576):q2a k l=some (l,()):=by
 unfold q2a
 simp (disch:=omega) only [evs,qyv h,List.nil_append]
 exact qge _ _ _ (fun e=>by rw [e])
theorem qme (k:Nat) {l:List qkz} (h:l.length≤1048576):q29 k l=some (l,()):=by
 unfold q29
 simp (disch:=omega) only [evs,qyv h,List.nil_append]
 exact qge _ _ _ (fun e=>by rw [e])
theorem qmd (k:Nat) {l:List q0a} (h:l.length≤1048576):q0k k l=some (l,()):=by
 unfold q0k
 simp (disch:=omega) only [evs,qyv h,List.nil_append]
 exact qge _ _ _ (fun e=>by rw [e])
theorem qkx (k:Nat) {l:List qad} (h:l.length≤1048576):q1l k l=some (l,()):=by
 unfold q1l
 simp (disch:=omega) only [evs,qyv h,List.nil_append]
 exact qge _ _ _ (fun e=>by rw [e])
theorem qmg (k:Nat) {l:List q45} (h:l.length≤1048576):q2b k l=some (l,()):=by
 unfold q2b
 simp (disch:=omega) only [evs,qyv h,List.nil_append]
 exact qge _ _ _ (fun e=>by rw [e])
theorem qk5 (k:Nat) (b:qed) (h:b.2.2.2.1.length≤1048576):q2j k b=some (b,()):=by
 unfold q2j
 simp (disch:=omega) only [evs,qmf k h]
theorem qfs {k:Nat} (hk:K0≤k) (s:q01) (h1:s.2.1.length≤1048576) (h2:∀c∈s.2.1,c.1.length≤1048576):q0y k s=some (s,()):=by
 unfold q0y
 refine qms (d:=([],())) hk s.2.1 h1 (fun i rec hi hl=> ?_) (fun rec=>by simp (disch:=omega) only [evs])
 have h3:=h2 _ (qeg (d:=([],())) hi)
 simp (disch:=omega) only [evs,qyv h3,List.nil_append,qny _ hl]
 rfl
theorem qhp {k:Nat} (hk:K0≤k) (s:q01) (h1:s.2.1.length≤1048576) (h2:∀c∈s.2.1,c.1.length≤1048576):q0t k s=some (s,()):=by
 unfold q0t
 refine qms (d:=([],())) hk s.2.1 h1 (fun i rec hi hl=> ?_) (fun rec=>by simp (disch:=omega) only [evs])
 have h3:=h2 _ (qeg (d:=([],())) hi)
 simp (disch:=omega) only [evs,qme k h3,qny _ hl]
 rfl
theorem qpp {k:Nat} (hk:K0≤k) (x:q28) (h1:x.1.length≤1048576) (h2:x.2.2.1.length≤1048576) (h3:∀c∈x.2.2.1,c.2.2.1.length≤1048576) (h4:x.2.2.2.1.length≤1048576) (h5:∀c∈x.2.2.2.1,c.2.1.length≤1048576):q1e k x=some (x,()):=by
 unfold q1e
 rw [qyv h1,qec,qk,q6o,List.nil_append]
 refine qms (d:=(0,0,[],())) hk x.2.2.1 h2 (fun i rec hi hl=> ?_) (fun rec=> ?_)
 ·have h6:=h3 _ (qeg (d:=(0,0,[],())) hi)
  refine(lt_t hi _ _).trans ?_
  simp (disch:=omega) only [evs,qyv h6,List.nil_append,qny _ hl]
  rfl
 ·refine(lt_e _ _).trans ?_
  refine qms (d:=(0,[],())) hk x.2.2.2.1 h4 (fun i rec hi hl=> ?_) (fun rec=>by simp (disch:=omega) only [evs])
  have h6:=h5 _ (qeg (d:=(0,[],())) hi)
  simp (disch:=omega) only [evs,qyv h6,List.nil_append,qny _ hl]
  rfl
theorem qoo {k:Nat} (hk:K0≤k) (x:q28) (h1:x.1.length≤1048576) (h2:x.2.2.1.length≤1048576) (h3:∀c∈x.2.2.1,c.2.2.1.length≤1048576) (h4:x.2.2.2.1.length≤1048576) (h5:∀c∈x.2.2.2.1,c.2.1.length≤1048576):q15 k x=some (x,()):=by
 unfold q15
 rw [qk,q0s k h1,q00,q2y]
 refine qms (d:=(0,0,[],())) hk x.2.2.1 h2 (fun i rec hi hl=> ?_) (fun rec=> ?_)
 ·have h6:=h3 _ (qeg (d:=(0,0,[],())) hi)
  refine(lt_t hi _ _).trans ?_
  simp (disch:=omega) only [evs,q0s k h6,qny _ hl]
  rfl
 ·refine(lt_e _ _).trans ?_
  refine qms (d:=(0,[],())) hk x.2.2.2.1 h4 (fun i rec hi hl=> ?_) (fun rec=>by simp (disch:=omega) only [evs])
  have h6:=h5 _ (qeg (d:=(0,[],())) hi)
  simp (disch:=omega) only [evs,q0s k h6,qny _ hl]
  rfl
theorem q48 {k:Nat} (hk:K0≤k) (x:qu) (hs:SzH x):q16 k x=some (x,()):=by
 have h1:=qiu k (x.2.2.2.2.1,x.2.2.2.2.2.1,x.2.2.2.2.2.2.1,x.2.2.2.2.2.2.2.1,()) hs.items
 have h2:=qfs hk (x.2.2.2.2.2.2.2.2.2.2.2.2.1,x.2.2.2.2.2.2.2.2.2.2.2.2.2.1,()) hs.lanes hs.kept
 have h3:=qpp hk (x.2.2.2.2.2.2.2.2.1,x.2.2.2.2.2.2.2.2.2.1,x.2.2.2.2.2.2.2.2.2.2.1,x.2.2.2.2.2.2.2.2.2.2.2.1,()) hs.trays hs.chutes hs.bags hs.wants hs.told
 unfold q16;delta W0
 simp (disch:=omega) only [evs,qyv hs.wait,qyv hs.notes,qyv hs.flights,qyv hs.cases_,List.nil_append,h1,h2,h3]
theorem q034 {k:Nat} (hk:K0≤k) (x:qu) (hs:SzH x):q3j k x=some (x,()):=by
 have h1:=qk5 k (x.2.2.2.2.1,x.2.2.2.2.2.1,x.2.2.2.2.2.2.1,x.2.2.2.2.2.2.2.1,()) hs.items
 have h2:=qhp hk (x.2.2.2.2.2.2.2.2.2.2.2.2.1,x.2.2.2.2.2.2.2.2.2.2.2.2.2.1,()) hs.lanes hs.kept
 have h3:=qoo hk (x.2.2.2.2.2.2.2.2.1,x.2.2.2.2.2.2.2.2.2.1,x.2.2.2.2.2.2.2.2.2.2.1,x.2.2.2.2.2.2.2.2.2.2.2.1,()) hs.trays hs.chutes hs.bags hs.wants hs.told
 unfold q3j;delta W0
 simp (disch:=omega) only [evs,q0s k hs.wait,qmd k hs.notes,qkx k hs.flights,qmg k hs.cases_,h1,h2,h3]
end Go.Proofs.YtpmjopbgccajgaaGreat.Eng
namespace Go.Proofs.YtpmjopbgccajgaaGreat.Eng
def qip (l:q28) (a:Int):Int:=(a-l.2.1+l.1.length).tmod l.1.length
theorem qo0 {l:q28} {a:Int} (h1:0≤a∧a<l.1.length) (h2:0≤l.2.1∧l.2.1<l.1.length):0≤qip l a∧qip l a<l.1.length:=by
 unfold qip
 rw [Int.tmod_eq_emod_of_nonneg (by omega)]
 exact⟨Int.emod_nonneg _ (by omega),Int.emod_lt_of_pos _ (by omega)⟩
theorem qpo (k:Nat) (l:q28) (a:Int) (h0:l.1.length≠0) (hl:l.1.length≤1048576) (h1: -1048576≤a∧a≤1048576) (h2: -1048576≤l.2.1∧l.2.1≤1048576):q81 k l a=some (qip l a,()):=by
 unfold q81
 simp (disch:=omega) only [evs,qi,q0h]
 rfl
theorem q0a2 {k:Nat} (hk:K0≤k) (l:q28) (a:Int) (hw:∀w∈l.2.2.2.1,w.2.1.length≤1048576):qch k l a=some (@ite _ (q1n l∧(0≤a∧a<l.1.length)) (Classical.propDecidable _) (qip l a) (-1),()):=by
 have h1:=qi6 hk l hw
 unfold qch;delta W0
 rw [h1,qj,qq]
 by_cases hP:q1n l
 case neg=>rw [qa hP,if_neg (fun z=>hP z.1)]
 rw [q8 hP]
 have hlen:=hP.1
 have ht:=hP.2.1
 rw [q31,qi (by omega),ql,qj,qq]
 by_cases h2:0≤a∧a<l.1.length
 case neg=>rw [qa (by omega),if_neg (fun z=>h2 z.2)]
 have h3:=qpo k l a (by omega) (by omega) (by omega) (by omega)
 rw [q8 (by omega),if_pos ⟨hP,h2⟩,h3]
 rfl
theorem qzu {k:Nat} (hk:K0≤k) (l:q28) (bag ch:Int) (hl:l.2.2.2.1.length≤1048576) (hw:∀w∈l.2.2.2.1,w.2.1.length≤1048576):
  (∃i,i<l.2.2.2.1.length∧(rdP (0,[],()) l.2.2.2.1 i).1=bag∧(∀j,j<i→¬(rdP (0,[],()) l.2.2.2.1 j).1=bag)∧q3e k l bag ch=q0i ((ch,())∈(rdP (0,[],()) l.2.2.2.1 i).2.1))∨((∀j,j<l.2.2.2.1.length→¬(rdP (0,[],()) l.2.2.2.1 j).1=bag)∧q3e k l bag ch=q0i False):=by
 have hk':=hk
 unfold K0 at hk
 unfold q3e
 refine qcv (n:=l.2.2.2.1.length) (e:=q0i False) (fun i=>((i:Int),())) (fun i=>(rdP (0,[],()) l.2.2.2.1 i).1=bag) (fun i=>q0i ((ch,())∈(rdP (0,[],()) l.2.2.2.1 i).2.1)) ?h0 ?hk ?hs ?he
 case h0=>simp
 case hk=>omega
 case hs=>
  intro i hi _ rec
  have:=hw _ (by rw [qo hi];exact List.getElem_mem hi:rdP (0,[],()) l.2.2.2.1 i∈l.2.2.2.1)
  simp (disch:=omega) only [evs,q6t hk' _ _ this]
  rfl
 case he=>intro _ rec;simp (disch:=omega) only [evs]
theorem qzt {k:Nat} (hk:K0≤k) (l:q28) (bag ch:Int) (hl:l.2.2.2.1.length≤1048576) (hw:∀w∈l.2.2.2.1,w.2.1.length≤1048576) (hd:(l.2.2.2.1.map (·.1)).Nodup):q3e k l bag ch=q0i (∃w,w∈l.2.2.2.1∧w.1=bag∧(ch,())∈w.2.1):=by
 rcases qzu hk l bag ch hl hw with⟨i,hi,h1,h2,e⟩|⟨h2,e⟩
 ·rw [e]
  refine qc ⟨fun h=>⟨_,by rw [qo hi];exact List.getElem_mem hi,h1,h⟩,?_⟩
  rintro ⟨w,hw1,hw2,hw3⟩
  obtain⟨j,hj,ew⟩:=List.getElem_of_mem hw1
  have hnd:=q9n (d:=(0,[],())) (l:=l.2.2.2.1) (f:=(·.1))
  have hn:=hnd.1 hd
  have ej:rdP (0,[],()) l.2.2.2.1 j=w:=by rw [qo hj,ew]
  rcases Nat.lt_trichotomy i j with hij|hij|hij
  ·exact absurd (by rw [ej,h1,hw2]:(rdP (0,[],()) l.2.2.2.1 i).1=(rdP (0,[],()) l.2.2.2.1 j).1) (hn j hj i hij)
  ·subst hij;rw [ej];exact hw3
  ·exact absurd (by rw [ej];exact hw2) (h2 j hij)
 ·rw [e]
  refine qc ⟨fun h=>h.elim,?_⟩
  rintro ⟨w,hw1,hw2,hw3⟩
  obtain⟨j,hj,ew⟩:=List.getElem_of_mem hw1
  exact h2 j hj (by rw [qo hj,ew];exact hw2)
theorem q0da {k:Nat} (hk:K0≤k) (l:q28) (a:Int) (h1:l.1.length≤1048576) (h2:l.2.2.1.length≤1048576) (h3:∀c∈l.2.2.1,c.2.2.1.length≤1048576):qgc k l a=q0i ((a,())∈l.1∨∃c,c∈l.2.2.1∧(a,())∈c.2.2.1):=by
 have hk':=hk
 have h4:=q6t hk l.1 a h1
 unfold K0 at hk
 unfold qgc
 rw [h4,qj]
 rw [qi8 (n:=l.2.2.1.length) (r:=q0i True) (e:=q0i False) (fun i=>((i:Int),())) (fun i=>(a,())∈(rdP (0,0,[],()) l.2.2.1 i).2.2.1) ?h0 ?hk ?hs ?he]
 case h0=>simp
 case hk=>omega
 case hs=>
  intro i hi _ rec
  have:=h3 _ (by rw [qo hi];exact List.getElem_mem hi:rdP (0,0,[],()) l.2.2.1 i∈l.2.2.1)
  simp (disch:=omega) only [evs,q6t hk' _ _ this]
  rfl
 case he=>intro _ rec;simp (disch:=omega) only [evs]
 rw [q78,qkp,qkp]
 refine qc ⟨fun h=> ?_,fun h=> ?_⟩
 ·rcases h with h|h|h
  ·exact .inl h
  ·obtain⟨i,hi,h⟩:=h;exact .inr ⟨_,by rw [qo hi];exact List.getElem_mem hi,h⟩
  ·exact h.elim
 ·rcases h with h|⟨c,hc,h⟩
  ·exact .inl h
  ·obtain⟨i,hi,e⟩:=List.getElem_of_mem hc
   exact .inr (.inl ⟨i,hi,by rw [qo hi,e];exact h⟩)
theorem qoa {α:Type} {l:List α} {t:Nat} (h:t<l.length) (y:α):l.set t y=l.take t++y::l.drop (t+1):=by
 rw [List.set_eq_take_append_cons_drop,if_pos h]
theorem qr2 {α:Type} {l:List α} {t:Nat} (h:t<l.length):l=l.take t++l[t]::l.drop (t+1):=by
 rw [←List.drop_eq_getElem_cons h,List.take_append_drop]
theorem q0hf (a b:List (Int×Unit)):nz (a++b)=nz a++nz b:=by simp [nz]
theorem q0l5 {x:Int×Unit} (h:x.1=0) (l:List (Int×Unit)):nz (x::l)=nz l:=by simp [nz,h]
theorem q0l4 {x:Int×Unit} (h:x.1≠0) (l:List (Int×Unit)):nz (x::l)=x::nz l:=by simp [nz,h]
theorem q0rw {l:List (Int×Unit)} {t:Nat} (h:t<l.length) (h0:(rdP (0,()) l t).1=0) {b:Int} (hb:b≠0):(nz (l.set t (b,()))).Perm ((b,())::nz l):=by
 rw [qo h]at h0
 have e:nz l=nz (l.take t)++nz (l.drop (t+1)):=by
  conv=>lhs;rw [qr2 h]
  rw [q0hf,q0l5 h0]
 rw [qoa h,q0hf,q0l4 hb,e]
 exact List.perm_middle
theorem q0l3 {l:List (Int×Unit)} {t:Nat} (h:t<l.length) (h0:(rdP (0,()) l t).1≠0):(nz l).Perm (((rdP (0,()) l t).1,())::nz (l.set t (0,()))):=by
 rw [qo h]at h0 ⊢
 have e:nz l=nz (l.take t)++l[t]::nz (l.drop (t+1)):=by
  conv=>lhs;rw [qr2 h]
  rw [q0hf,q0l4 h0]
 rw [qoa h,q0hf,q0l5 rfl,e]
 exact List.perm_middle
noncomputable def q0ny (l:q28) (a b:Int):Prop:=q1n l∧(0≤a∧a<l.1.length)∧(rdP (0,()) l.1 (q6 (qip l a))).1=0∧1≤b∧¬((b,())∈l.1∨∃c,c∈l.2.2.1∧(b,())∈c.2.2.1)
noncomputable def q42 (l:q28) (a b:Int):q28×Bool×Unit:= @ite _ (q0ny l a b) (Classical.propDecidable _) ((l.1.set (q6 (qip l a)) (b,()),l.2.1,l.2.2.1,l.2.2.2.1,()),true,()) (l,false,())
theorem q0ll {l:q28} {a b:Int} (h:q1n l):q1n (q42 l a b).1:=by
 unfold q42
 split
 case isFalse=>exact h
 case isTrue hh=>
  obtain⟨_,ha,h0,hb,hin⟩:=hh
  obtain⟨p1,p2,p3,p4,p5,p6,p7,p8,p9,p10⟩:=h
  have ht:=qo0 ha p2
  have htn:q6 (qip l a)<l.1.length:=by unfold q6;omega
  have hp:(q3o (l.1.set (q6 (qip l a)) (b,()),l.2.1,l.2.2.1,l.2.2.2.1,())).Perm ((b,())::q3o l):=(q0rw htn h0 (by omega:b≠0)).append_right _
  have hnot:(b,())∉q3o l:=by
   intro hm
   rcases List.mem_append.1 hm with hm|hm
   ·exact hin (.inl (List.mem_filter.1 hm).1)
   ·obtain⟨c,hc,hm⟩:=List.mem_flatMap.1 hm
    exact hin (.inr ⟨c,hc,hm⟩)
  refine⟨by simpa using p1,by simpa using p2,p3,p4,by simpa using p5,p6,fun y hy=> ?_,?_,p9,p10⟩
  ·rcases List.mem_cons.1 (hp.mem_iff.1 hy)with e|e
   ·subst e;exact hb
   ·exact p7 y e
  ·exact hp.nodup_iff.2 (List.nodup_cons.2 ⟨hnot,p8⟩)
structure SzL (l:q28):Prop where
 trays:l.1.length≤1048576
 chutes:l.2.2.1.length≤1048576
 bags:∀c∈l.2.2.1,c.2.2.1.length≤1048576
 wants:l.2.2.2.1.length≤1048576
 told:∀w∈l.2.2.2.1,w.2.1.length≤1048576
theorem qft {k:Nat} (hk:K0≤k) (l:q28) (hs:SzL l):q1e k l=some (l,()):=qpp hk l hs.trays hs.chutes hs.bags hs.wants hs.told
theorem q0aa {k:Nat} (hk:K0≤k) (l:q28) (a b:Int) (hs:SzL l):q9j k l a b=some (q42 l a b):=by
 have h1:=qft hk l hs
 have h2:=q0a2 hk l a hs.told
 have h3:=q0da hk l b hs.trays hs.chutes hs.bags
 unfold q9j;delta W0
 rw [h1,q00,h2,q00,qn]
 by_cases hP:q1n l∧(0≤a∧a<l.1.length)
 case neg=>
  rw [if_neg hP,q8 (by omega),q42,if_neg (fun z=>hP ⟨z.1,z.2.1⟩)]
 rw [if_pos hP]
 obtain⟨hL,ha⟩:=hP
 have ht:=qo0 ha hL.2.1
 have htn:q6 (qip l a)<l.1.length:=by unfold q6;omega
 rw [qa (by omega),q0c,q31,q8 (by omega),qk]
 by_cases h0:(rdP (0,()) l.1 (q6 (qip l a))).1=0
 case neg=>rw [q02,q0o,q8 h0,q42,if_neg (fun z=>h0 z.2.2.1)]
 rw [q02,q0o,qa (fun z=>z h0)]
 by_cases hb:b<1
 case pos=>rw [qn,q8 hb,q42,if_neg (fun z=>absurd z.2.2.2.1 (by omega))]
 rw [qn,qa hb,h3,qj]
 by_cases hin:(b,())∈l.1∨∃c,c∈l.2.2.1∧(b,())∈c.2.2.1
 case pos=>rw [q8 hin,q42,if_neg (fun z=>z.2.2.2.2 hin)]
 rw [qa hin,h1,q00,q42,if_pos ⟨hL,ha,h0,by omega,hin⟩,q0c,q31,q8 (by omega),qk,qk,q6p]
def q0jq (W:List qnr) (b ch:Int):Prop:=∃w,w∈W∧w.1=b∧(ch,())∈w.2.1
def lpT (tn:Int) (W:List qnr) (p:List (Int×Unit)×List q8k) (i:Nat):Nat:=q6 (qip (p.1,tn,p.2,W,()) (rdP (0,0,[],()) p.2 i).1)
def lpB (tn:Int) (W:List qnr) (p:List (Int×Unit)×List q8k) (i:Nat):Int:=(rdP (0,()) p.1 (lpT tn W p i)).1
def lpGo (tn:Int) (W:List qnr) (p:List (Int×Unit)×List q8k) (i:Nat):Prop:=lpB tn W p i≠0∧q0jq W (lpB tn W p i) i∧((rdP (0,0,[],()) p.2 i).2.2.1.length:Int)<(rdP (0,0,[],()) p.2 i).2.1
noncomputable def lpC (tn:Int) (W:List qnr) (p:List (Int×Unit)×List q8k) (i:Nat):List (Int×Unit)×List q8k:=
 @ite _ (lpGo tn W p i) (Classical.propDecidable _) (p.1.set (lpT tn W p i) (0,()),p.2.set i ((rdP (0,0,[],()) p.2 i).1,(rdP (0,0,[],()) p.2 i).2.1,(rdP (0,0,[],()) p.2 i).2.2.1++[(lpB tn W p i,())],())) p
noncomputable def lpS (tn:Int) (W:List qnr) (p:List (Int×Unit)×List q8k):Nat→List (Int×Unit)×List q8k
 |0=>p
 |i+1=>lpC tn W (lpS tn W p i) i
theorem q0rx {tn:Int} {W:List qnr} {p:List (Int×Unit)×List q8k} {i:Nat} (h:q1n (p.1,tn,p.2,W,())) (hi:i<p.2.length):q1n ((lpC tn W p i).1,tn,(lpC tn W p i).2,W,()):=by
 unfold lpC
 split
 case isFalse=>exact h
 case isTrue hg=>
  obtain⟨g1,g2,g3⟩:=hg
  obtain⟨p1,p2,p3,p4,p5,p6,p7,p8,p9,p10⟩:=h
  have hc:=p5 _ (by rw [qo hi];exact List.getElem_mem hi:rdP (0,0,[],()) p.2 i∈p.2)
  have hc1:=hc.1
  dsimp only at p1 p2 p3 p4 p5 p6 p9 hc hc1
  have ht:=qo0 (l:=(p.1,tn,p.2,W,())) (a:=(rdP (0,0,[],()) p.2 i).1) hc.1 p2
  dsimp only at ht
  have htn:lpT tn W p i<p.1.length:=by unfold lpT q6;omega
  have hp:(q3o (p.1.set (lpT tn W p i) (0,()),tn,p.2.set i ((rdP (0,0,[],()) p.2 i).1,(rdP (0,0,[],()) p.2 i).2.1,(rdP (0,0,[],()) p.2 i).2.2.1++[(lpB tn W p i,())],()),W,())).Perm (q3o (p.1,tn,p.2,W,())):=by
   have e1:(nz p.1).Perm ((lpB tn W p i,())::nz (p.1.set (lpT tn W p i) (0,()))):=q0l3 htn g1
   have e2:(q22 (p.2.set i ((rdP (0,0,[],()) p.2 i).1,(rdP (0,0,[],()) p.2 i).2.1,(rdP (0,0,[],()) p.2 i).2.2.1++[(lpB tn W p i,())],()))).Perm ((lpB tn W p i,())::q22 p.2):=by
    have e3:q22 p.2=q22 (p.2.take i)++((rdP (0,0,[],()) p.2 i).2.2.1++q22 (p.2.drop (i+1))):=by
     have:=congrArg q22 (qr2 hi)
     rw [this,qo hi]
     simp only [q22,List.flatMap_append,List.flatMap_cons]
    have e4:q22 (p.2.set i ((rdP (0,0,[],()) p.2 i).1,(rdP (0,0,[],()) p.2 i).2.1,(rdP (0,0,[],()) p.2 i).2.2.1++[(lpB tn W p i,())],()))=(q22 (p.2.take i)++(rdP (0,0,[],()) p.2 i).2.2.1)++(lpB tn W p i,())::q22 (p.2.drop (i+1)):=by
     rw [qoa hi]
     simp [q22]
    rw [e4,e3,←List.append_assoc]
    exact List.perm_middle
   have e5:(q3o (p.1,tn,p.2,W,())).Perm ((lpB tn W p i,())::(nz (p.1.set (lpT tn W p i) (0,()))++q22 p.2)):=e1.append_right _
   have e6:(nz (p.1.set (lpT tn W p i) (0,()))++q22 (p.2.set i ((rdP (0,0,[],()) p.2 i).1,(rdP (0,0,[],()) p.2 i).2.1,(rdP (0,0,[],()) p.2 i).2.2.1++[(lpB tn W p i,())],()))).Perm ((lpB tn W p i,())::(nz (p.1.set (lpT tn W p i) (0,()))++q22 p.2)):=(e2.append_left _).trans List.perm_middle
   exact e6.trans e5.symm
  refine⟨by simpa using p1,by simpa using p2,by simpa using p3,p4,fun c hcm=> ?_,?_,fun y hy=>p7 y (hp.mem_iff.1 hy),hp.nodup_iff.2 p8,by simpa using p9,p10⟩
  ·rcases List.mem_or_eq_of_mem_set hcm with hm|hm
   ·simpa using p5 c hm
   ·subst hm
    refine⟨by simpa using hc.1,hc.2.1,?_⟩
    simp only [List.length_append,List.length_singleton]
    omega
  ·have:(p.2.set i ((rdP (0,0,[],()) p.2 i).1,(rdP (0,0,[],()) p.2 i).2.1,(rdP (0,0,[],()) p.2 i).2.2.1++[(lpB tn W p i,())],())).map (·.1)=p.2.map (·.1):=by
    rw [List.map_set,qo hi]
    have:(p.2[i]).1=(p.2.map (·.1))[i]'(by simpa using hi):=by simp
    dsimp only
    rw [this]
    exact List.set_getElem_self _
   dsimp only at this ⊢
   rw [this]
   exact p6
theorem q0q6 (tn:Int) (W:List qnr) (p:List (Int×Unit)×List q8k) (i:Nat):(lpC tn W p i).2.length=p.2.length∧(lpC tn W p i).1.length=p.1.length:=by
 unfold lpC;split<;>simp
theorem qti (tn:Int) (W:List qnr) (p:List (Int×Unit)×List q8k):∀i,(lpS tn W p i).2.length=p.2.length∧(lpS tn W p i).1.length=p.1.length
 |0=>⟨rfl,rfl⟩
 |i+1=>by have:=qti tn W p i;have h2:=q0q6 tn W (lpS tn W p i) i;exact⟨h2.1.trans this.1,h2.2.trans this.2⟩
theorem q0dy {tn:Int} {W:List qnr} {p:List (Int×Unit)×List q8k} (h:q1n (p.1,tn,p.2,W,())):∀i,i≤p.2.length→q1n ((lpS tn W p i).1,tn,(lpS tn W p i).2,W,())
 |0,_=>h
 |i+1,hi=>q0rx (q0dy h i (by omega)) (by rw [(qti tn W p i).1];omega)
def tnM (l:q28):Int:=(l.2.1+1).tmod l.1.length
theorem q0pi {l:q28} (h:q1n l):0≤tnM l∧tnM l<l.1.length:=by
 obtain⟨h1,h2,_⟩:=h
 unfold tnM
 rw [Int.tmod_eq_emod_of_nonneg (by omega)]
 exact⟨Int.emod_nonneg _ (by omega),Int.emod_lt_of_pos _ (by omega)⟩
noncomputable def q21 (l:q28):q28:=((lpS (tnM l) l.2.2.2.1 (l.1,l.2.2.1) l.2.2.1.length).1,tnM l,(lpS (tnM l) l.2.2.2.1 (l.1,l.2.2.1) l.2.2.1.length).2,l.2.2.2.1,())
theorem qqw {l:q28} (h:q1n l):q1n (l.1,tnM l,l.2.2.1,l.2.2.2.1,()):=by
 have:=q0pi h
 obtain⟨p1,p2,p3,p4,p5,p6,p7,p8,p9,p10⟩:=h
 exact⟨p1,this,p3,p4,p5,p6,p7,p8,p9,p10⟩
theorem qr0 {l:q28} (h:q1n l):q1n (q21 l):=q0dy (p:=(l.1,l.2.2.1)) (qqw h) _ (Nat.le_refl _)
theorem q04h {k:Nat} (hk:K0≤k) (l:q28) (h:q1n l) (hs:SzL l):q82 k l=some (q21 l,()):=by
 have h1:=qft hk l hs
 have hk':=hk
 unfold K0 at hk
 unfold q82;delta W0
 rw [h1,q00]
 have hlen:=h.1
 have htu:=h.2.1
 have hch:=h.2.2.1
 have hwa:=h.2.2.2.1
 have htn:remI (qg .i64 l.2.1 1) (ln l.1)=tnM l:=by rw [q0h (by omega)];rfl
 simp only [htn]
 rw [q02,q0o,q31,q8 (by omega)]
 have hok:=q0dy (p:=(l.1,l.2.2.1)) (qqw h)
 have hls:=qti (tnM l) l.2.2.2.1 (l.1,l.2.2.1)
 have htb:=q0pi h
 refine q08 (n:=l.2.2.1.length) (fun i=>((lpS (tnM l) l.2.2.2.1 (l.1,l.2.2.1) i).1,(lpS (tnM l) l.2.2.2.1 (l.1,l.2.2.1) i).2,(i:Int),())) rfl (fun i hi rec=> ?_) (fun rec=> ?_) (by omega)
 ·have hL:=hok i (by (try dsimp only);omega)
  have hln:=hls i
  have e:lpS (tnM l) l.2.2.2.1 (l.1,l.2.2.1) (i+1)=lpC (tnM l) l.2.2.2.1 (lpS (tnM l) l.2.2.2.1 (l.1,l.2.2.1) i) i:=rfl
  rw [e]
  clear e hok hls
  generalize lpS (tnM l) l.2.2.2.1 (l.1,l.2.2.1) i=p at*
  generalize tnM l=tn at*
  (try dsimp only at hln)
  have hi':i<p.2.length:=by omega
  have hc:=hL.2.2.2.2.1 _ (by (try dsimp only);rw [qo hi'];exact List.getElem_mem hi':rdP (0,0,[],()) p.2 i∈p.2)
  have hc1:=hc.1
  have hc3:=hc.2.2
  dsimp only at hc1 hc3
  have ht:=qo0 (l:=(p.1,tn,p.2,l.2.2.2.1,())) (a:=(rdP (0,0,[],()) p.2 i).1) hc.1 (by (try dsimp only);omega)
  dsimp only at ht
  have hT:=qpo k (p.1,tn,p.2,l.2.2.2.1,()) (rdP (0,0,[],()) p.2 i).1 (by (try dsimp only);omega) (by (try dsimp only);omega) (by omega) (by (try dsimp only);omega)
  have hnt:q6 (qip (p.1,tn,p.2,l.2.2.2.1,()) (rdP (0,0,[],()) p.2 i).1)=lpT tn l.2.2.2.1 p i:=rfl
  have hbt:(rdP (0,()) p.1 (lpT tn l.2.2.2.1 p i)).1=lpB tn l.2.2.2.1 p i:=rfl
  have hW:q3e k (p.1,tn,p.2,l.2.2.2.1,()) (lpB tn l.2.2.2.1 p i) i=q0i (q0jq l.2.2.2.1 (lpB tn l.2.2.2.1 p i) i):=qzt hk' (p.1,tn,p.2,l.2.2.2.1,()) _ _ hs.wants hs.told h.2.2.2.2.2.2.2.2.2
  have hfit:=qny ((lpB tn l.2.2.2.1 p i,()):Int×Unit) (l:=(rdP (0,0,[],()) p.2 i).2.2.1) (by have:=hc.2.1;omega)
  generalize qip (p.1,tn,p.2,l.2.2.2.1,()) (rdP (0,0,[],()) p.2 i).1=tt at*
  by_cases b0:lpB tn l.2.2.2.1 p i=0
  ·have e:lpC tn l.2.2.2.1 p i=p:=if_neg (fun z=>z.1 b0)
   rw [e]
   simp (disch:=omega) only [evs,hT,hnt,hbt]
   rfl
  by_cases b1:q0jq l.2.2.2.1 (lpB tn l.2.2.2.1 p i) i
  case neg=>
   have e:lpC tn l.2.2.2.1 p i=p:=if_neg (fun z=>b1 z.2.1)
   rw [e]
   simp (disch:=omega) only [evs,hT,hnt,hbt,hW]
   rfl
  by_cases b2:((rdP (0,0,[],()) p.2 i).2.2.1.length:Int)<(rdP (0,0,[],()) p.2 i).2.1
  ·have e:lpC tn l.2.2.2.1 p i=_:=if_pos ⟨b0,b1,b2⟩
   rw [e]
   simp (disch:=omega) only [evs,hT,hnt,hbt,hW,hfit]
   rfl
  ·have e:lpC tn l.2.2.2.1 p i=p:=if_neg (fun z=>b2 z.2.2)
   rw [e]
   simp (disch:=omega) only [evs,hT,hnt,hbt,hW]
   rfl
 ·have hln:=hls l.2.2.1.length
  dsimp only at hln
  simp (disch:=omega) only [evs,hln]
  rfl
end Go.Proofs.YtpmjopbgccajgaaGreat.Eng
namespace Go.Proofs.YtpmjopbgccajgaaGreat.Eng
def qle (b:Int) (ch:List (Int×Unit)) (w:qnr):qnr:=if w.1=b then(b,ch,())else w
noncomputable def setW (W:List qnr) (b:Int) (ch:List (Int×Unit)):List qnr:=W.map (qle b ch)++ @ite _ (∃j,j<W.length∧(rdP (0,[],()) W j).1=b) (Classical.propDecidable _) [] [(b,ch,())]
noncomputable def q8l (l:q28) (b:Int) (ch:List (Int×Unit)):q28×Bool×Unit:=
 @ite _ (q1n l∧q1n (l.1,l.2.1,l.2.2.1,setW l.2.2.2.1 b ch,())) (Classical.propDecidable _) ((l.1,l.2.1,l.2.2.1,setW l.2.2.2.1 b ch,()),true,()) (l,false,())
theorem qtb {l:q28} {b:Int} {ch:List (Int×Unit)} (h:q1n l):q1n (q8l l b ch).1:=by
 unfold q8l
 split
 case isFalse=>exact h
 case isTrue hh=>exact hh.2
theorem q0dh {W:List qnr} {b:Int} {ch:List (Int×Unit)} (h:∀w∈W,w.2.1.length≤1048576) (hc:ch.length≤1048576):∀w∈setW W b ch,w.2.1.length≤1048576:=by
 intro w hw
 rcases List.mem_append.1 hw with hw|hw
 ·obtain⟨v,hv,rfl⟩:=List.mem_map.1 hw
  unfold qle
  split
  ·exact hc
  ·exact h v hv
 ·split at hw
  ·cases hw
  ·rw [List.mem_singleton.1 hw];exact hc
theorem q0p3 {α β:Type} {d:α} {e:β} {f:α→β} {l:List α} {i:Nat} (h:i<l.length):rdP e (l.map f) i=f (rdP d l i):=by
 rw [qo (by simpa using h),qo h,List.getElem_map]
theorem q0qd {P:Nat→Prop} {i:Nat} (h:¬P i):(∃j,j<i+1∧P j)↔∃j,j<i∧P j:=by
 constructor
 ·rintro ⟨j,hj,hp⟩
  rcases Nat.lt_or_ge j i with hji|hji
  ·exact⟨j,hji,hp⟩
  ·obtain rfl:j=i:=by omega
   exact absurd hp h
 ·rintro ⟨j,hj,hp⟩
  exact⟨j,by omega,hp⟩
theorem q04n {k:Nat} (hk:K0≤k) (l:q28) (b:Int) (ch:List (Int×Unit)) (hs:SzL l) (hc:ch.length≤1048576):q4a k l b ch=some (q8l l b ch):=by
 have h1:=qft hk l hs
 have h2:=qi6 hk l hs.told
 have h3:=qi6 hk (l.1,l.2.1,l.2.2.1,setW l.2.2.2.1 b ch,()) (q0dh hs.told hc)
 unfold K0 at hk
 unfold q4a;delta W0
 rw [h1,q00,h2,qj,qq]
 by_cases hP:q1n l
 case neg=>rw [qa hP,q8l,if_neg (fun z=>hP z.1)]
 have hw:=hP.2.2.2.1
 rw [q8 hP,h1,q00,qyv hc,qec,qk,q6o,List.nil_append]
 have hm:(l.2.2.2.1.map (qle b ch)).length=l.2.2.2.1.length:=by simp
 refine q08 (n:=l.2.2.2.1.length) (fun i=>(ch,qnu l.2.2.2.1 (l.2.2.2.1.map (qle b ch)) i,dc (∃j,j<i∧(rdP (0,[],()) l.2.2.2.1 j).1=b),(i:Int),())) ?_ (fun i hi rec=> ?_) (fun rec=> ?_) (by omega)
 ·rw [dc_F (fun z=>by obtain⟨j,hj,_⟩:=z;omega)]
  simp [qnu]
 ·have hl:=qsg hm i (by omega)
  have ha:=q0cg (d:=(0,[],())) hm hi
  have hst:=qys (d:=(0,[],())) hm hi
  rw [q0p3 (d:=(0,[],())) hi]at hst
  rw [←hst]
  have same:qle b ch (rdP (0,[],()) l.2.2.2.1 i)=rdP (0,[],()) l.2.2.2.1 i→(qnu l.2.2.2.1 (l.2.2.2.1.map (qle b ch)) i).set i (qle b ch (rdP (0,[],()) l.2.2.2.1 i))=qnu l.2.2.2.1 (l.2.2.2.1.map (qle b ch)) i:=by
   intro e
   rw [e,←ha,qo (by omega)]
   exact List.set_getElem_self _
  generalize qnu l.2.2.2.1 (l.2.2.2.1.map (qle b ch)) i=c at*
  by_cases e1:(rdP (0,[],()) l.2.2.2.1 i).1=b
  ·have e2:qle b ch (rdP (0,[],()) l.2.2.2.1 i)=(b,ch,()):=if_pos e1
   have e3:dc (∃j,j<i+1∧(rdP (0,[],()) l.2.2.2.1 j).1=b)=true:=dc_T ⟨i,by omega,e1⟩
   rw [e2,e3]
   simp (disch:=omega) only [evs,hl,ha]
   rfl
  ·have e2:qle b ch (rdP (0,[],()) l.2.2.2.1 i)=rdP (0,[],()) l.2.2.2.1 i:=if_neg e1
   have e3:dc (∃j,j<i+1∧(rdP (0,[],()) l.2.2.2.1 j).1=b)=dc (∃j,j<i∧(rdP (0,[],()) l.2.2.2.1 j).1=b):=q0oh (q0qd (P:=fun j=>(rdP (0,[],()) l.2.2.2.1 j).1=b) e1)
   rw [same e2,e3]
   simp (disch:=omega) only [evs,hl,ha]
   rfl
 ·rw [qyt hm]
  by_cases e1:∃j,j<l.2.2.2.1.length∧(rdP (0,[],()) l.2.2.2.1 j).1=b
  ·have e2:setW l.2.2.2.1 b ch=l.2.2.2.1.map (qle b ch):=by rw [setW,if_pos e1,List.append_nil]
   rw [e2]at h3
   simp (disch:=omega) only [evs,hm,h3,dc_T e1]
   rw [q8l,e2]
   by_cases hx:q1n (l.1,l.2.1,l.2.2.1,l.2.2.2.1.map (qle b ch),())
   ·rw [q8 hx,if_pos ⟨hP,hx⟩]
   ·rw [qa hx,if_neg (fun z=>hx z.2)]
  ·have e2:setW l.2.2.2.1 b ch=l.2.2.2.1.map (qle b ch)++[(b,ch,())]:=by rw [setW,if_neg e1]
   rw [e2]at h3
   have f1:=qny ((b,ch,()):qnr) (l:=l.2.2.2.1.map (qle b ch)) (by rw [hm];omega)
   simp (disch:=omega) only [evs,hm,h3,dc_F e1,f1]
   rw [q8l,e2]
   by_cases hx:q1n (l.1,l.2.1,l.2.2.1,l.2.2.2.1.map (qle b ch)++[(b,ch,())],())
   ·rw [q8 hx,if_pos ⟨hP,hx⟩]
   ·rw [qa hx,if_neg (fun z=>hx z.2)]
end Go.Proofs.YtpmjopbgccajgaaGreat.Eng
namespace Go.Proofs.YtpmjopbgccajgaaGreat.Eng
def q0hl (l:List qkz):Nat→Int
 |0=>100001
 |i+1=>minI (q0hl l i) (rdP (0,0,()) l i).2.1
def qh0 (l:List qkz):Int:=q0hl l l.length
theorem qzq {k:Nat} (hk:K0≤k) (l:List qkz) (hl:l.length≤1048576):q1q k l=some (qh0 l,()):=by
 unfold K0 at hk
 unfold q1q
 refine q08 (n:=l.length) (fun i=>(q0hl l i,(i:Int),())) rfl (fun i hi rec=> ?_) (fun rec=>by simp (disch:=omega) only [evs];rfl) (by omega)
 simp (disch:=omega) only [evs]
 rfl
def q0bk (s:q01) (but:Int) (i:Nat):Prop:=i<s.2.1.length∧(i:Int)≠but∧((rdP ([],()) s.2.1 i).1.length:Int)<s.1
def lnC (s:q01) (time but:Int) (c:Int×Int×Int) (i:Nat):Int×Int×Int:=
 if (i:Int)=but then c else if s.1≤((rdP ([],()) s.2.1 i).1.length:Int)then c else if (rdP ([],()) s.2.1 i).1.length=0 then(if c.2.1<0 then(c.1,(i:Int),c.2.2)else c)else
  ((if time≤qh0 (rdP ([],()) s.2.1 i).1 then(if c.1<0 then(i:Int)else if qh0 (rdP ([],()) s.2.1 i).1<qh0 (rdP ([],()) s.2.1 (q6 c.1)).1 then(i:Int)else c.1)else c.1),c.2.1,
   if c.2.2<0 then(i:Int)else if qh0 (rdP ([],()) s.2.1 (q6 c.2.2)).1<qh0 (rdP ([],()) s.2.1 i).1 then(i:Int)else c.2.2)
def lnS (s:q01) (time but:Int):Nat→Int×Int×Int
 |0=>(-1,-1,-1)
 |i+1=>lnC s time but (lnS s time but i) i
def lnOk (s:q01) (but:Int) (x:Int):Prop:=x= -1∨∃j:Nat,x=j∧q0bk s but j
theorem q0ry {s:q01} {time but:Int} {c:Int×Int×Int} {i:Nat} (hi:i<s.2.1.length) (h1:lnOk s but c.1) (h2:lnOk s but c.2.1) (h3:lnOk s but c.2.2):lnOk s but (lnC s time but c i).1∧lnOk s but (lnC s time but c i).2.1∧lnOk s but (lnC s time but c i).2.2:=by
 unfold lnC
 by_cases e1:(i:Int)=but
 ·rw [if_pos e1];exact⟨h1,h2,h3⟩
 rw [if_neg e1]
 by_cases e2:s.1≤((rdP ([],()) s.2.1 i).1.length:Int)
 ·rw [if_pos e2];exact⟨h1,h2,h3⟩
 rw [if_neg e2]
 have hn:lnOk s but (i:Int):= .inr ⟨i,rfl,hi,e1,by omega⟩
 by_cases e3:(rdP ([],()) s.2.1 i).1.length=0
 ·rw [if_pos e3]
  split
  ·exact⟨h1,hn,h3⟩
  ·exact⟨h1,h2,h3⟩
 rw [if_neg e3]
 refine⟨?_,h2,?_⟩
 ·dsimp only
  repeat' split
  all_goals assumption
 ·dsimp only
  repeat' split
  all_goals assumption
theorem q0ld (s:q01) (time but:Int):∀i,i≤s.2.1.length→lnOk s but (lnS s time but i).1∧lnOk s but (lnS s time but i).2.1∧lnOk s but (lnS s time but i).2.2
 |0,_=>⟨.inl rfl,.inl rfl,.inl rfl⟩
 |i+1,h=>by
  obtain⟨h1,h2,h3⟩:=q0ld s time but i (by omega)
  exact q0ry (by omega) h1 h2 h3
noncomputable def q38 (s:q01) (time but:Int):Int:= @ite _ (q1p s∧(0≤time∧time≤100000)) (Classical.propDecidable _)
 (if 0≤(lnS s time but s.2.1.length).1 then(lnS s time but s.2.1.length).1 else if 0≤(lnS s time but s.2.1.length).2.1 then(lnS s time but s.2.1.length).2.1 else(lnS s time but s.2.1.length).2.2) (-1)
theorem q0nt (s:q01) (time but:Int):lnOk s but (q38 s time but):=by
 unfold q38
 obtain⟨h1,h2,h3⟩:=q0ld s time but _ (Nat.le_refl _)
 split
 ·split
  ·exact h1
  ·split
   ·exact h2
   ·exact h3
 ·exact .inl rfl
set_option maxHeartbeats 4000000 in
theorem qps {k:Nat} (hk:K0≤k) (s:q01) (time but:Int):q35 k s time but=some (q38 s time but,()):=by
 have h1:q34 k (s.1,s.2.1,())=q0i (q1p s):=qlk hk s
 have hk':=hk
 unfold K0 at hk
 unfold q35;delta W2
 rw [h1,qj,qq]
 by_cases hP:q1p s
 case neg=>rw [qa hP,q38,if_neg (fun z=>hP z.1)]
 rw [q8 hP,ql,qj,qq]
 by_cases hT:0≤time∧time≤100000
 case neg=>rw [qa hT,q38,if_neg (fun z=>hT z.2)]
 rw [q8 hT,q38,if_pos ⟨hP,hT⟩]
 obtain⟨hd,hl,hx,_⟩:=hP
 have hle:∀j,j<s.2.1.length→q1q k (rdP ([],()) s.2.1 j).1=some (qh0 (rdP ([],()) s.2.1 j).1,()):=fun j hj=>
  qzq hk' _ (by have:=(hx _ (by rw [qo hj];exact List.getElem_mem hj:rdP ([],()) s.2.1 j∈s.2.1)).1;omega)
 refine q08 (n:=s.2.1.length) (fun i=>((lnS s time but i).1,(lnS s time but i).2.1,(lnS s time but i).2.2,(i:Int),())) rfl (fun i hi rec=> ?_) (fun rec=> ?_) (by omega)
 ·obtain⟨g1,g2,g3⟩:=q0ld s time but i (by omega)
  have e:lnS s time but (i+1)=lnC s time but (lnS s time but i) i:=rfl
  rw [e]
  clear e
  generalize lnS s time but i=c at*
  obtain⟨a,b,g⟩:=c
  dsimp only at g1 g2 g3 ⊢
  have hli:=hle i hi
  by_cases e1:(i:Int)=but
  ·simp (disch:=omega) only [evs,lnC,if_pos];rfl
  by_cases e2:s.1≤((rdP ([],()) s.2.1 i).1.length:Int)
  ·simp (disch:=omega) only [evs,lnC,if_pos,if_neg];rfl
  by_cases e3:(rdP ([],()) s.2.1 i).1.length=0
  ·by_cases e4:b<0
   ·simp (disch:=omega) only [evs,lnC,if_pos,if_neg];rfl
   ·simp (disch:=omega) only [evs,lnC,if_pos,if_neg];rfl
  generalize hL:qh0 (rdP ([],()) s.2.1 i).1=L at*
  have over:∃o,(if time≤L then(if a<0 then(i:Int)else if L<qh0 (rdP ([],()) s.2.1 (q6 a)).1 then(i:Int)else a)else a)=o:=⟨_,rfl⟩
  rcases g1 with rfl|⟨ja,rfl,fa⟩<;>rcases g3 with rfl|⟨jg,rfl,fg⟩<;>by_cases t1:time≤L
  all_goals first
   |(have ha:=hle ja fa.1;have hg:=hle jg fg.1;by_cases t2:L<qh0 (rdP ([],()) s.2.1 ja).1<;>by_cases t3:qh0 (rdP ([],()) s.2.1 jg).1<L<;>(have:=fa.1;have:=fg.1;simp (disch:=omega) only [evs,lnC,if_pos,if_neg,hli,ha,hg,hL];rfl))
   |(have ha:=hle ja fa.1;by_cases t2:L<qh0 (rdP ([],()) s.2.1 ja).1<;>(have:=fa.1;simp (disch:=omega) only [evs,lnC,if_pos,if_neg,hli,ha,hL];rfl))
   |(have hg:=hle jg fg.1;by_cases t3:qh0 (rdP ([],()) s.2.1 jg).1<L<;>(have:=fg.1;simp (disch:=omega) only [evs,lnC,if_pos,if_neg,hli,hg,hL];rfl))
   |(simp (disch:=omega) only [evs,lnC,if_pos,if_neg,hli,hL];rfl)
 ·generalize lnS s time but s.2.1.length=c
  by_cases e1:0≤c.1
  ·simp (disch:=omega) only [evs,if_pos]
  by_cases e2:0≤c.2.1
  ·simp (disch:=omega) only [evs,if_pos,if_neg]
  ·simp (disch:=omega) only [evs,if_neg]
end Go.Proofs.YtpmjopbgccajgaaGreat.Eng
namespace Go.Proofs.YtpmjopbgccajgaaGreat.Eng
structure SzS (s:q01):Prop where
 lanes:s.2.1.length≤1048576
 kept:∀c∈s.2.1,c.1.length≤1048576
def InS (s:q01) (b:Int):Prop:=∃l,l∈s.2.1∧∃y,y∈l.1∧y.1=b
def putL (s:q01) (j:Nat) (b t:Int):q01:=(s.1,s.2.1.set j ((rdP ([],()) s.2.1 j).1++[(b,t,())],()),())
noncomputable def q0t0 (s:q01) (b t:Int):Prop:=0≤q38 s t (-1)∧1≤b∧¬InS s b
noncomputable def qyp (s:q01) (b t:Int):q01×Int×Bool×Unit:= @ite _ (q0t0 s b t) (Classical.propDecidable _) (putL s (q6 (q38 s t (-1))) b t,q38 s t (-1),true,()) (s,-1,false,())
theorem q0q8 {s:q01} {t but:Int} (h:0≤q38 s t but):q1p s∧(0≤t∧t≤100000):=by
 by_cases hh:q1p s∧(0≤t∧t≤100000)
 ·exact hh
 ·rw [q38,if_neg hh]at h;omega
theorem ql9 {s:q01} {t but:Int} (h:0≤q38 s t but):q0bk s but (q6 (q38 s t but))∧q38 s t but=(q6 (q38 s t but):Nat):=by
 rcases q0nt s t but with e|⟨j,e,hf⟩
 ·omega
 ·rw [e,q04];exact⟨hf,rfl⟩
theorem qmt {l:List (List qkz×Unit)} {j:Nat} (h:j<l.length) (x:qkz):(q19 (l.set j ((rdP ([],()) l j).1++[x],()))).Perm ((x.1,())::q19 l):=by
 have e3:q19 l=q19 (l.take j)++(q6q (rdP ([],()) l j).1++q19 (l.drop (j+1))):=by
  have:=congrArg q19 (qr2 h)
  rw [this,qo h]
  simp only [q19,List.flatMap_append,List.flatMap_cons]
 have e4:q19 (l.set j ((rdP ([],()) l j).1++[x],()))=(q19 (l.take j)++q6q (rdP ([],()) l j).1)++(x.1,())::q19 (l.drop (j+1)):=by
  rw [qoa h]
  simp [q19,q6q]
 rw [e4,e3,←List.append_assoc]
 exact List.perm_middle
theorem qct {s:q01} {b:Int}:(b,())∈q19 s.2.1↔InS s b:=by
 unfold q19 InS q6q
 simp [List.mem_flatMap,List.mem_map]
theorem q0rm {s:q01} {b t:Int} (h:q1p s):q1p (qyp s b t).1:=by
 unfold qyp
 split
 case isFalse=>exact h
 case isTrue hh=>
  obtain⟨h1,h2,h3⟩:=hh
  obtain⟨⟨hj,_,hd⟩,_⟩:=ql9 h1
  obtain⟨_,ht⟩:=q0q8 h1
  obtain⟨p1,p2,p3,p4⟩:=h
  generalize q6 (q38 s t (-1))=j at*
  have hl:=p3 _ (by rw [qo hj];exact List.getElem_mem hj:rdP ([],()) s.2.1 j∈s.2.1)
  refine⟨p1,by simpa [putL]using p2,fun l hm=> ?_,?_⟩
  ·rcases List.mem_or_eq_of_mem_set hm with hm|hm
   ·exact p3 l hm
   ·subst hm
    refine⟨by simp only [putL,List.length_append,List.length_singleton];omega,fun x hx=> ?_⟩
    rcases List.mem_append.1 hx with hx|hx
    ·exact hl.2 x hx
    ·rw [List.mem_singleton.1 hx];exact⟨h2,ht⟩
  ·refine(qmt hj _).nodup_iff.2 (List.nodup_cons.2 ⟨fun hm=>h3 (qct.1 hm),p4⟩)
theorem q0qc {k:Nat} (hk:K0≤k) (s:q01) (b:Int) (hs:SzS s):∃f:Int,q0x k s b=some (f,())∧(0≤f↔InS s b):=by
 rcases qli hk s b hs.lanes hs.kept with⟨i,hi,h1,_,e⟩|⟨h1,e⟩
 ·exact⟨_,e,fun _=>⟨_,by rw [qo hi];exact List.getElem_mem hi,h1⟩,fun _=>by omega⟩
 ·refine⟨_,e,fun h=>by omega,fun h=> ?_⟩
  obtain⟨l,hl,h2⟩:=h
  obtain⟨j,hj,el⟩:=List.getElem_of_mem hl
  exact absurd (by rw [qo hj,el];exact h2) (h1 j hj)
theorem q0a5 {k:Nat} (hk:K0≤k) (s:q01) (b t:Int) (hs:SzS s):q9h k s b t=some (qyp s b t):=by
 have h1:q0y k s=some (s,()):=qfs hk s hs.lanes hs.kept
 have h2:q35 k s t (-1)=some (q38 s t (-1),()):=qps hk s t (-1)
 obtain⟨f,h3,h4⟩:=q0qc hk s b hs
 have h3':q0x k (s.1,s.2.1,()) b=some (f,()):=h3
 have h1':q0y k (s.1,s.2.1,())=some (s,()):=h1
 have h2':q35 k (s.1,s.2.1,()) t (-1)=some (q38 s t (-1),()):=h2
 unfold q9h
 rw [h1',q00,h2',q00]
 by_cases e1:q38 s t (-1)<0
 case pos=>rw [qn,q8 e1,qyp,if_neg (fun z=>absurd z.1 (by omega))]
 rw [qn,qa e1]
 by_cases e2:b<1
 case pos=>rw [qn,q8 e2,qyp,if_neg (fun z=>absurd z.2.1 (by omega))]
 rw [qn,qa e2,h3',q00]
 by_cases e3:0≤f
 case pos=>rw [q13,q8 e3,qyp,if_neg (fun z=>z.2.2 (h4.1 e3))]
 rw [q13,qa e3,h1',q00,qyp,if_pos ⟨by omega,by omega,fun z=>e3 (h4.2 z)⟩]
 obtain⟨⟨hj,_,hd⟩,ej⟩:=ql9 (s:=s) (t:=t) (but:= -1) (by omega)
 generalize q6 (q38 s t (-1))=j at*
 have hfit:=qny ((b,t,()):qkz) (l:=(rdP ([],()) s.2.1 j).1) (hs.kept _ (by rw [qo hj];exact List.getElem_mem hj))
 rw [ej]
 simp (disch:=omega) only [evs,hfit]
 rfl
end Go.Proofs.YtpmjopbgccajgaaGreat.Eng
namespace Go.Proofs.YtpmjopbgccajgaaGreat.Eng
def q0z (s:q01) (i:Nat):qkz:=rdP (0,0,()) (rdP ([],()) s.2.1 i).1 ((rdP ([],()) s.2.1 i).1.length-1)
def qsd (s:q01) (i j:Nat):q01:=(s.1,(s.2.1.set j ((rdP ([],()) s.2.1 j).1++[q0z s i],())).set i ((rdP ([],()) s.2.1 i).1.take ((rdP ([],()) s.2.1 i).1.length-1),()),())
theorem q9l {α:Type} {d x:α} {l:List α} {i j:Nat} (h:i≠j):rdP d (l.set i x) j=rdP d l j:=by unfold rdP;simp [h]
theorem q09y {k:Nat} (hk:K0≤k) (s:q01) (i j:Nat) (hs:SzS s) (hi:i<s.2.1.length) (hj:j<s.2.1.length) (hij:i≠j) (hne:0<(rdP ([],()) s.2.1 i).1.length):q9f k s i j=some (qsd s i j,()):=by
 have h1:q0y k (s.1,s.2.1,())=some (s,()):=qfs hk s hs.lanes hs.kept
 have hbi:=hs.kept _ (by rw [qo hi];exact List.getElem_mem hi:rdP ([],()) s.2.1 i∈s.2.1)
 have hbj:=hs.kept _ (by rw [qo hj];exact List.getElem_mem hj:rdP ([],()) s.2.1 j∈s.2.1)
 have hn:q6 (((rdP ([],()) s.2.1 i).1.length:Int)-1)=(rdP ([],()) s.2.1 i).1.length-1:=by unfold q6;omega
 have hfit:=qny (q0z s i) hbj
 have hlast:rdP (0,0,()) (rdP ([],()) s.2.1 i).1 ((rdP ([],()) s.2.1 i).1.length-1)=q0z s i:=rfl
 have hro:∀x,rdP ([],()) (s.2.1.set j x) i=rdP ([],()) s.2.1 i:=fun x=>q9l (fun z=>hij z.symm)
 have hll:=hs.lanes
 unfold q9f
 rw [h1,q00]
 have hfit':q4x (rdP ([],()) s.2.1 j).1 [((q0z s i).1,(q0z s i).2.1,())]=true:=hfit
 simp (disch:=omega) only [evs,hn,hlast,hfit',hro,List.length_set,qi]
 rfl
theorem qqz {l:List qkz} (h:0<l.length):l.take (l.length-1)++[rdP (0,0,()) l (l.length-1)]=l:=by
 rw [←q7b (d:=(0,0,())) (by omega),show l.length-1+1=l.length by omega,List.take_length]
theorem q0hw {s:q01} {i j:Nat} (hi:i<s.2.1.length) (hj:j<s.2.1.length) (hij:i≠j) (hne:0<(rdP ([],()) s.2.1 i).1.length):(q19 (qsd s i j).2.1).Perm (q19 s.2.1):=by
 have a:=qmt hj (q0z s i)
 have hro:rdP ([],()) (s.2.1.set j ((rdP ([],()) s.2.1 j).1++[q0z s i],())) i=rdP ([],()) s.2.1 i:=q9l (fun z=>hij z.symm)
 have hi':i<(s.2.1.set j ((rdP ([],()) s.2.1 j).1++[q0z s i],())).length:=by simpa using hi
 have b:=qmt (l:=(qsd s i j).2.1) (j:=i) (by simpa [qsd]using hi) (q0z s i)
 have e:(qsd s i j).2.1.set i ((rdP ([],()) (qsd s i j).2.1 i).1++[q0z s i],())=s.2.1.set j ((rdP ([],()) s.2.1 j).1++[q0z s i],()):=by
  have e1:rdP ([],()) (qsd s i j).2.1 i=((rdP ([],()) s.2.1 i).1.take ((rdP ([],()) s.2.1 i).1.length-1),()):=by
   unfold qsd rdP;simp [hi]
  rw [e1]
  dsimp only
  have tl:(rdP ([],()) s.2.1 i).1.take ((rdP ([],()) s.2.1 i).1.length-1)++[q0z s i]=(rdP ([],()) s.2.1 i).1:=qqz hne
  rw [tl,qsd]
  dsimp only
  rw [List.set_set]
  generalize hl:s.2.1.set j ((rdP ([],()) s.2.1 j).1++[q0z s i],())=l' at*
  have e2:((rdP ([],()) s.2.1 i).1,())=l'[i]:=by rw [←hro,qo hi']
  rw [e2]
  exact List.set_getElem_self _
 rw [e]at b
 exact(List.Perm.cons_inv (b.symm.trans a))
theorem q0hx {s:q01} {i j:Nat} (h:q1p s) (hi:i<s.2.1.length) (hf:q0bk s i j) (hne:0<(rdP ([],()) s.2.1 i).1.length):q1p (qsd s i j):=by
 obtain⟨hj,hji,hd⟩:=hf
 have hp:=q0hw hi hj (fun z=>hji (by rw [z])) hne
 obtain⟨p1,p2,p3,p4⟩:=h
 have hli:=p3 _ (by rw [qo hi];exact List.getElem_mem hi:rdP ([],()) s.2.1 i∈s.2.1)
 have hlj:=p3 _ (by rw [qo hj];exact List.getElem_mem hj:rdP ([],()) s.2.1 j∈s.2.1)
 have hlast:q0z s i∈(rdP ([],()) s.2.1 i).1:=by
  unfold q0z
  rw [qo (show (rdP ([],()) s.2.1 i).1.length-1<_ by omega)]
  exact List.getElem_mem _
 refine⟨p1,by simpa [qsd]using p2,fun l hm=> ?_,hp.nodup_iff.2 p4⟩
 rcases List.mem_or_eq_of_mem_set hm with hm|hm
 ·rcases List.mem_or_eq_of_mem_set hm with hm|hm
  ·exact p3 l hm
  ·subst hm
   refine⟨by simp only [qsd,List.length_append,List.length_singleton];omega,fun x hx=> ?_⟩
   rcases List.mem_append.1 hx with hx|hx
   ·exact hlj.2 x hx
   ·rw [List.mem_singleton.1 hx];exact hli.2 _ hlast
 ·subst hm
  refine⟨?_,fun x hx=>hli.2 x (List.mem_of_mem_take hx)⟩
  have:=hli.1
  simp only [qsd,List.length_take]
  omega
end Go.Proofs.YtpmjopbgccajgaaGreat.Eng
namespace Go.Proofs.YtpmjopbgccajgaaGreat.Eng
abbrev HopT:=Int×Int×Int×Unit
def q0w (s:q01) (i:Nat):List qkz:=(rdP ([],()) s.2.1 i).1
def qqf (s:q01) (i:Nat):q01:=(s.1,s.2.1.set i ((q0w s i).take ((q0w s i).length-1),()),())
noncomputable def qvq (s0:q01) (b:Int) (i:Nat):Nat→q01→List HopT→q01×List HopT×Bool×Unit
 |0,_,_=>(s0,[],false,())
 |f+1,x,h=>if (q0z x i).1=b then(qqf x i,h,true,())else if q38 x (q0z x i).2.1 i<0 then(s0,[],false,())else
   qvq s0 b i f (qsd x i (q6 (q38 x (q0z x i).2.1 i))) (h++[((q0z x i).1,(i:Int),q38 x (q0z x i).2.1 i,())])
theorem q0ns {x:q01} {i:Nat} (h:0<(q0w x i).length):q0z x i∈q0w x i:=by
 unfold q0z
 rw [qo (show (rdP ([],()) x.2.1 i).1.length-1<_ by unfold q0w at h;omega)]
 exact List.getElem_mem _
theorem q0cf {x:q01} {i j:Nat} (hi:i<x.2.1.length):q0w (qsd x i j) i=(q0w x i).take ((q0w x i).length-1):=by
 unfold q0w qsd rdP;simp [hi]
theorem qsc {x:q01} {i j:Nat} {b:Int} (hi:i<x.2.1.length) (hb:∃y,y∈q0w x i∧y.1=b) (hn:(q0z x i).1≠b):∃y,y∈q0w (qsd x i j) i∧y.1=b:=by
 obtain⟨y,hy,e⟩:=hb
 rw [q0cf hi]
 have hne:0<(q0w x i).length:=List.length_pos_of_mem hy
 have tl:(q0w x i).take ((q0w x i).length-1)++[q0z x i]=q0w x i:=qqz hne
 rw [←tl]at hy
 rcases List.mem_append.1 hy with hy|hy
 ·exact⟨y,hy,e⟩
 ·rw [List.mem_singleton.1 hy]at e;exact absurd e hn
theorem qgb {s:q01} (h:q1p s):SzS s:=⟨by have:=h.2.1.2;omega,fun c hc=>by have h1:=(h.2.2.1 c hc).1;have:=h.1.2;omega⟩
theorem q0ro {x:q01} {i:Nat} (h:q1p x) (hi:i<x.2.1.length) (hne:0<(q0w x i).length):q1p (qqf x i):=by
 obtain⟨p1,p2,p3,p4⟩:=h
 have hli:=p3 _ (by rw [qo hi];exact List.getElem_mem hi:rdP ([],()) x.2.1 i∈x.2.1)
 have b:=qmt (l:=(qqf x i).2.1) (j:=i) (by simpa [qqf]using hi) (q0z x i)
 have e:(qqf x i).2.1.set i ((rdP ([],()) (qqf x i).2.1 i).1++[q0z x i],())=x.2.1:=by
  have e1:rdP ([],()) (qqf x i).2.1 i=((q0w x i).take ((q0w x i).length-1),()):=by
   unfold qqf rdP;simp [hi]
  have tl:(q0w x i).take ((q0w x i).length-1)++[q0z x i]=q0w x i:=qqz hne
  rw [e1]
  dsimp only
  rw [tl,qqf]
  dsimp only
  rw [List.set_set]
  have e2:(q0w x i,())=x.2.1[i]:=by unfold q0w;rw [qo hi]
  rw [e2]
  exact List.set_getElem_self _
 rw [e]at b
 refine⟨p1,by simpa [qqf]using p2,fun l hm=> ?_,(List.nodup_cons.1 (b.nodup_iff.1 p4)).2⟩
 rcases List.mem_or_eq_of_mem_set hm with hm|hm
 ·exact p3 l hm
 ·subst hm
  refine⟨?_,fun y hy=>hli.2 y (List.mem_of_mem_take hy)⟩
  have:=hli.1
  simp only [qqf,q0w,List.length_take]
  omega
theorem q0h0 {s0:q01} {b:Int} {i:Nat} (h0:q1p s0):∀(f:Nat) (x:q01) (h:List HopT),q1p x→i<x.2.1.length→(∃y,y∈q0w x i∧y.1=b)→q1p (qvq s0 b i f x h).1
 |0,_,_,_,_,_=>h0
 |f+1,x,h,hx,hi,hb=>by
  have hne:0<(q0w x i).length:=by obtain⟨y,hy,_⟩:=hb;exact List.length_pos_of_mem hy
  rw [qvq]
  split
  ·exact q0ro hx hi hne
  ·rename_i hn
   split
   ·exact h0
   ·rename_i hm
    obtain⟨hf,ej⟩:=ql9 (s:=x) (t:=(q0z x i).2.1) (but:=i) (by omega)
    exact q0h0 h0 f _ _ (q0hx hx hi hf hne) (by simpa [qsd]using hi) (qsc hi hb hn)
theorem q04m {k:Nat} (hk:K0≤k) (s:q01) (b:Int) (i:Nat) (h:q1p s) (hi:i<s.2.1.length) (hb:∃y,y∈q0w s i∧y.1=b) (hf:q0x k s b=some ((i:Int),())):q33 k s b=some (qvq s b i (q0w s i).length s []):=by
 have hs:=qgb h
 have h1:q0y k (s.1,s.2.1,())=some (s,()):=qfs hk s hs.lanes hs.kept
 have h2:q34 k (s.1,s.2.1,())=q0i (q1p s):=qlk hk s
 have h3:q0x k (s.1,s.2.1,()) b=some ((i:Int),()):=hf
 have hk':=hk
 unfold K0 at hk
 have hll:=(h.2.2.1 _ (by rw [qo hi];exact List.getElem_mem hi:rdP ([],()) s.2.1 i∈s.2.1)).1
 have hd:=h.1
 unfold q33
 rw [h1,q00,h3,q00,h2,qj,qq,q8 h,qn,qa (by omega),h1,q00]
 refine q0av (fun f c r=>∃(x:q01) (hp:List HopT),c=(x.1,x.2.1,hp,())∧q1p x∧i<x.2.1.length∧(∃y,y∈q0w x i∧y.1=b)∧(q0w x i).length=f∧hp.length+f≤5∧r=some (qvq s b i f x hp)) ?_ (q0w s i).length k _ _ (by unfold q0w;omega) ⟨s,[],rfl,h,hi,hb,rfl,by unfold q0w;simp;omega,rfl⟩
 rintro f c r ⟨x,hp,rfl,hx,hxi,hxb,hxl,hpl,rfl⟩
 have hne:0<(q0w x i).length:=by obtain⟨y,hy,_⟩:=hxb;exact List.length_pos_of_mem hy
 obtain⟨f,rfl⟩:∃g,f=g+1:=⟨f-1,by omega⟩
 have hsx:=qgb hx
 have hlk:(rdP ([],()) x.2.1 i).1=q0w x i:=rfl
 have hn:q6 (((q0w x i).length:Int)-1)=(q0w x i).length-1:=by unfold q6;omega
 have hla:rdP (0,0,()) (q0w x i) ((q0w x i).length-1)=q0z x i:=rfl
 have hlf:q35 k (x.1,x.2.1,()) (q0z x i).2.1 i=some (q38 x (q0z x i).2.1 i,()):=qps hk' x _ _
 rw [qvq]
 by_cases e1:(q0z x i).1=b
 ·left;intro rec
  rw [if_pos e1]
  simp (disch:=omega) only [evs,hlk,hn,hla,qi]
  rfl
 rw [if_neg e1]
 by_cases e2:q38 x (q0z x i).2.1 i<0
 ·left;intro rec
  rw [if_pos e2]
  simp (disch:=omega) only [evs,hlk,hn,hla,qi,hlf]
 rw [if_neg e2]
 obtain⟨hfr,ej⟩:=ql9 (s:=x) (t:=(q0z x i).2.1) (but:=i) (by omega)
 have hho:q9f k (x.1,x.2.1,()) i (q38 x (q0z x i).2.1 i)=some (qsd x i (q6 (q38 x (q0z x i).2.1 i)),()):=by
  conv=>lhs;rw [ej]
  exact q09y hk' x i _ hsx hxi hfr.1 (fun z=>hfr.2.1 (by rw [←z])) hne
 have hfit:=qny (((q0z x i).1,(i:Int),q38 x (q0z x i).2.1 i,()):HopT) (l:=hp) (by omega)
 right
 refine⟨f,((qsd x i (q6 (q38 x (q0z x i).2.1 i))).1,(qsd x i (q6 (q38 x (q0z x i).2.1 i))).2.1,hp++[((q0z x i).1,(i:Int),q38 x (q0z x i).2.1 i,())],()),rfl,⟨_,_,rfl,q0hx hx hxi hfr hne,by simpa [qsd]using hxi,qsc hxi hxb e1,?_,by simp;omega,rfl⟩,fun rec=> ?_⟩
 ·rw [q0cf hxi,List.length_take];omega
 ·simp (disch:=omega) only [evs,hlk,hn,hla,qi,hlf,hho,hfit]
end Go.Proofs.YtpmjopbgccajgaaGreat.Eng
namespace Go.Proofs.YtpmjopbgccajgaaGreat.Eng
def bk (p:q0a→Bool) (l:List q0a):Nat→Option q0a
 |0=>none
 |i+1=>if p (rdP (0,0,0,0,0,()) l i)=true then some (rdP (0,0,0,0,0,()) l i)else bk p l i
noncomputable def q0bj (p:q0a→Bool) (l:List q0a):Option q0a:= @ite _ (q5j l) (Classical.propDecidable _) (bk p l l.length) none
def ownP (b:Int) (n:q0a):Bool:=decide (n.2.1=1∧n.2.2.2.1=b)
def abP (w f:Int) (n:q0a):Bool:=decide ((n.2.1=2∨n.2.1=3)∧n.2.2.1=w∧n.2.2.2.2.1=f)
def puP (b f:Int) (n:q0a):Bool:=decide ((n.2.1=1∨n.2.1=4)∧n.2.2.2.1=b∧n.2.2.2.2.1=f)
theorem qmm {R:Type} {l:List q0a} {p:q0a→Bool} {k:Nat} (hk:K0≤k) (hl:l.length≤1048576) {F:(Int×Unit→Option R)→Int×Unit→Option R} {hit:q0a→Option R} {e:Option R}
  (hF:∀(i:Nat) rec,i<l.length→F rec ((i:Int),())=if p (rdP (0,0,0,0,0,()) l i)=true then hit (rdP (0,0,0,0,0,()) l i)else rec ((i:Int)-1,())) (hE:∀rec,F rec (-1,())=e):qh F k ((l.length:Int)-1,())=match bk p l l.length with|some n=>hit n|none=>e:=by
 unfold K0 at hk
 refine q0av (fun f c r=>c=((f:Int)-1,())∧f≤l.length∧r=match bk p l f with|some n=>hit n|none=>e) ?_ l.length k _ _ (by omega) ⟨rfl,Nat.le_refl _,rfl⟩
 rintro f c r ⟨rfl,hf,rfl⟩
 cases f with
 |zero=>left;intro rec;exact hE rec
 |succ i=>
  have e0:((i+1:Nat):Int)-1=(i:Int):=by omega
  rw [e0]
  by_cases h:p (rdP (0,0,0,0,0,()) l i)=true
  ·left;intro rec
   rw [hF i rec (by omega),if_pos h,bk,if_pos h]
  ·right
   refine⟨i,((i:Int)-1,()),rfl,⟨rfl,by omega,?_⟩,fun rec=> ?_⟩
   ·rw [bk,if_neg h]
   ·rw [hF i rec (by omega),if_neg h]
noncomputable def ownM (l:List q0a) (b:Int):(Int×Int×Unit)×Bool×Unit:=match q0bj (ownP b) l with|some n=>((n.2.2.1,n.2.2.2.2.1,()),true,())|none=>((0,0,()),false,())
theorem q04u {k:Nat} (hk:K0≤k) (l:List q0a) (b:Int) (hl:l.length≤1048576):qaf k l b=some (ownM l b):=by
 have h1:=q85 hk l
 unfold qaf ownM q0bj
 rw [qk,q31,qi (by omega)]
 by_cases hP:q5j l
 ·rw [if_pos hP]
  refine(qmm (p:=ownP b) (hit:=fun n=>some ((n.2.2.1,n.2.2.2.2.1,()),true,())) (e:=some ((0,0,()),false,())) hk hl (fun i rec hi=> ?_) (fun rec=>by simp (disch:=omega) only [evs])).trans (by cases bk (ownP b) l l.length<;>rfl)
  by_cases h2:(rdP (0,0,0,0,0,()) l i).2.1=1
  ·by_cases h3:(rdP (0,0,0,0,0,()) l i).2.2.2.1=b
   ·rw [if_pos (by simp [ownP,h2,h3])]
    simp (disch:=omega) only [evs,h1,hP]
   ·rw [if_neg (by simp [ownP,h3])]
    simp (disch:=omega) only [evs,h1,hP,qi]
  ·rw [if_neg (by simp [ownP,h2])]
   simp (disch:=omega) only [evs,h1,hP,qi]
 ·rw [if_neg hP]
  cases hlen:l.length with
  |zero=>refine q08 (n:=0) (fun _=>(-1,())) (by simp) (fun i hi=>absurd hi (by omega)) (fun rec=>by simp (disch:=omega) only [evs]) (by unfold K0 at hk;omega)
  |succ m=>
   refine q08 (n:=0) (fun _=>((m:Int),())) (by simp) (fun i hi=>absurd hi (by omega)) (fun rec=> ?_) (by unfold K0 at hk;omega)
   simp (disch:=omega) only [evs,h1]
noncomputable def abM (l:List q0a) (w f:Int):Prop:=∃n,q0bj (abP w f) l=some n∧n.2.1=2
noncomputable def puM (l:List q0a) (b f:Int):Prop:=∃n,q0bj (puP b f) l=some n∧n.2.1=4
theorem q0ah {k:Nat} (hk:K0≤k) (l:List q0a) (w f:Int) (hl:l.length≤1048576):qcn k l w f=q0i (abM l w f):=by
 have h1:=q85 hk l
 unfold qcn abM q0bj
 rw [qk,q31,qi (by omega)]
 by_cases hP:q5j l
 ·rw [if_pos hP]
  refine(qmm (p:=abP w f) (hit:=fun n=>q0i (n.2.1=2)) (e:=q0i False) hk hl (fun i rec hi=> ?_) (fun rec=>by simp (disch:=omega) only [evs])).trans ?_
  ·by_cases hp:abP w f (rdP (0,0,0,0,0,()) l i)=true
   ·have hp':=hp
    simp only [abP,decide_eq_true_eq]at hp'
    rw [if_pos hp]
    obtain⟨h2|h2,h3,h4⟩:=hp'
    ·simp (disch:=omega) only [evs,h1,hP]
    ·simp (disch:=omega) only [evs,h1,hP]
   ·have hp':=hp
    simp only [abP,decide_eq_true_eq]at hp'
    rw [if_neg hp]
    by_cases h3:(rdP (0,0,0,0,0,()) l i).2.2.1=w<;>by_cases h4:(rdP (0,0,0,0,0,()) l i).2.2.2.2.1=f<;>by_cases h2:(rdP (0,0,0,0,0,()) l i).2.1=2<;>by_cases h5:(rdP (0,0,0,0,0,()) l i).2.1=3
    all_goals try omega
    all_goals simp (disch:=omega) only [evs,h1,hP,qi]
  ·cases bk (abP w f) l l.length with
   |none=>exact qc ⟨fun z=>z.elim,fun ⟨n,e,_⟩=>by cases e⟩
   |some n=>exact qc ⟨fun z=>⟨n,rfl,z⟩,fun ⟨m,e,z⟩=>by cases e;exact z⟩
 ·rw [if_neg hP,q4t (fun ⟨n,e,_⟩=>by cases e)]
  cases hlen:l.length with
  |zero=>refine q08 (n:=0) (fun _=>(-1,())) (by simp) (fun i hi=>absurd hi (by omega)) (fun rec=>by simp (disch:=omega) only [evs]) (by unfold K0 at hk;omega)
  |succ m=>
   refine q08 (n:=0) (fun _=>((m:Int),())) (by simp) (fun i hi=>absurd hi (by omega)) (fun rec=> ?_) (by unfold K0 at hk;omega)
   simp (disch:=omega) only [evs,h1]
theorem q0a6 {k:Nat} (hk:K0≤k) (l:List q0a) (w f:Int) (hl:l.length≤1048576):qci k l w f=q0i (puM l w f):=by
 have h1:=q85 hk l
 unfold qci puM q0bj
 rw [qk,q31,qi (by omega)]
 by_cases hP:q5j l
 ·rw [if_pos hP]
  refine(qmm (p:=puP w f) (hit:=fun n=>q0i (n.2.1=4)) (e:=q0i False) hk hl (fun i rec hi=> ?_) (fun rec=>by simp (disch:=omega) only [evs])).trans ?_
  ·by_cases hp:puP w f (rdP (0,0,0,0,0,()) l i)=true
   ·have hp':=hp
    simp only [puP,decide_eq_true_eq]at hp'
    rw [if_pos hp]
    obtain⟨h2|h2,h3,h4⟩:=hp'
    ·simp (disch:=omega) only [evs,h1,hP]
    ·simp (disch:=omega) only [evs,h1,hP]
   ·have hp':=hp
    simp only [puP,decide_eq_true_eq]at hp'
    rw [if_neg hp]
    by_cases h3:(rdP (0,0,0,0,0,()) l i).2.2.2.1=w<;>by_cases h4:(rdP (0,0,0,0,0,()) l i).2.2.2.2.1=f<;>by_cases h2:(rdP (0,0,0,0,0,()) l i).2.1=1<;>by_cases h5:(rdP (0,0,0,0,0,()) l i).2.1=4
    all_goals try omega
    all_goals simp (disch:=omega) only [evs,h1,hP,qi]
  ·cases bk (puP w f) l l.length with
   |none=>exact qc ⟨fun z=>z.elim,fun ⟨n,e,_⟩=>by cases e⟩
   |some n=>exact qc ⟨fun z=>⟨n,rfl,z⟩,fun ⟨m,e,z⟩=>by cases e;exact z⟩
 ·rw [if_neg hP,q4t (fun ⟨n,e,_⟩=>by cases e)]
  cases hlen:l.length with
  |zero=>refine q08 (n:=0) (fun _=>(-1,())) (by simp) (fun i hi=>absurd hi (by omega)) (fun rec=>by simp (disch:=omega) only [evs]) (by unfold K0 at hk;omega)
  |succ m=>
   refine q08 (n:=0) (fun _=>((m:Int),())) (by simp) (fun i hi=>absurd hi (by omega)) (fun rec=> ?_) (by unfold K0 at hk;omega)
   simp (disch:=omega) only [evs,h1]
noncomputable def flyP (l:List q0a) (b f:Int):Prop:=(ownM l b).2.1=true∧(ownM l b).1.2.1=f∧abM l (ownM l b).1.1 f∧¬puM l b f
theorem q0a7 {k:Nat} (hk:K0≤k) (l:List q0a) (b f:Int) (hl:l.length≤1048576):qck k l b f=q0i (flyP l b f):=by
 unfold qck flyP
 rw [q04u hk l b hl,q00]
 generalize ownM l b=o
 obtain⟨⟨w,g,_⟩,ok,_⟩:=o
 dsimp only
 cases ok with
 |false=>rw [qi1,q6m];exact qc ⟨fun z=>z.elim,fun z=>by cases z.1⟩
 |true=>
  rw [qec,q02,q0ah hk l w f hl,qj,q0a6 hk l b f hl,qj,q0o,q6m,q3n,q0g,q0g]
  exact qc ⟨fun z=>⟨rfl,z⟩,fun z=>z.2⟩
end Go.Proofs.YtpmjopbgccajgaaGreat.Eng
namespace Go.Proofs.YtpmjopbgccajgaaGreat.Eng
def offT (b:Int) (x:Int×Unit):Int×Unit:=if x.1=b then(0,())else x
def offB (b:Int) (l:List (Int×Unit)):List (Int×Unit):=l.filter fun x=>decide (x.1≠b)
def offC (b:Int) (c:q8k):q8k:=(c.1,c.2.1,offB b c.2.2.1,())
def q3s (l:q28) (b:Int):q28:=(l.1.map (offT b),l.2.1,l.2.2.1.map (offC b),l.2.2.2.1,())
theorem q0p8 {b:Int} (hb:b≠0):∀(l:List (Int×Unit)),nz (l.map (offT b))=offB b (nz l)
 | []=>rfl
 |x::xs=>by
  have ih:=q0p8 hb xs
  rw [List.map_cons]
  by_cases h:x.1=b
  ·have h0:x.1≠0:=by omega
   rw [show offT b x=(0,())from if_pos h,q0l5 rfl,q0l4 h0,ih]
   unfold offB
   rw [List.filter_cons_of_neg (by simp [h])]
  ·rw [show offT b x=x from if_neg h]
   by_cases h0:x.1=0
   ·rw [q0l5 h0,q0l5 h0,ih]
   ·rw [q0l4 h0,q0l4 h0,ih]
    unfold offB
    rw [List.filter_cons_of_pos (by simp [h])]
theorem q0hu (b:Int):∀(l:List q8k),q22 (l.map (offC b))=offB b (q22 l)
 | []=>rfl
 |c::cs=>by
  have ih:=q0hu b cs
  unfold q22 offB at ih ⊢
  rw [List.map_cons,List.flatMap_cons,List.flatMap_cons,List.filter_append,ih]
  rfl
theorem q09f {l:q28} {b:Int} (hb:b≠0):q3o (q3s l b)=offB b (q3o l):=by
 unfold q3o q3s
 dsimp only
 rw [q0p8 hb,q0hu,offB,offB,offB,List.filter_append]
theorem q0m3 {l:q28} {b:Int} (h:q1n l) (hb:b≠0):q1n (q3s l b):=by
 obtain⟨p1,p2,p3,p4,p5,p6,p7,p8,p9,p10⟩:=h
 refine⟨by simpa [q3s]using p1,by simpa [q3s]using p2,by simpa [q3s]using p3,p4,fun c hc=> ?_,?_,?_,?_,by simpa [q3s]using p9,p10⟩
 ·obtain⟨d,hd,rfl⟩:=List.mem_map.1 hc
  obtain⟨q1,q2,q3⟩:=p5 d hd
  refine⟨by simpa [q3s,offC]using q1,q2,?_⟩
  have:=List.length_filter_le (fun x:Int×Unit=>decide (x.1≠b)) d.2.2.1
  show ((offB b d.2.2.1).length:Int)≤d.2.1
  unfold offB
  omega
 ·have:(l.2.2.1.map (offC b)).map (·.1)=l.2.2.1.map (·.1):=by rw [List.map_map];rfl
  show ((l.2.2.1.map (offC b)).map (·.1)).Nodup
  rw [this];exact p6
 ·rw [q09f hb];exact fun y hy=>p7 y (List.mem_filter.1 hy).1
 ·rw [q09f hb];exact p8.filter _
theorem q0hh {α R:Type} {d:α} {k:Nat} (hk:K0≤k) (l:List α) (f:α→α) (hl:l.length≤1048576) {F:(List α×Int×Unit→Option R)→List α×Int×Unit→Option R} {r:Option R}
  (hF:∀(i:Nat) (c:List α) rec,i<l.length→c.length=l.length→rdP d c i=rdP d l i→F rec (c,(i:Int),())=rec (c.set i (f (rdP d l i)),((i+1:Nat):Int),())) (hE:∀rec,F rec (l.map f,(l.length:Int),())=r):qh F k (l,0,())=r:=by
 unfold K0 at hk
 have hm:(l.map f).length=l.length:=by simp
 refine q08 (n:=l.length) (fun i=>(qnu l (l.map f) i,(i:Int),())) (by simp [qnu]) (fun i hi rec=> ?_) (fun rec=>by rw [qyt hm];exact hE rec) (by omega)
 rw [hF i _ rec hi (qsg hm i (by omega)) (q0cg hm hi)]
 have hst:=qys (d:=d) hm hi
 rw [q0p3 (d:=d) hi]at hst
 rw [hst]
theorem q0n2 {α:Type} {d:α} {c:List α} {i:Nat} (hi:i<c.length):c.set i (rdP d c i)=c:=by
 rw [qo hi];exact List.set_getElem_self _
theorem q0rv {b:Int} {l:List (Int×Unit)} {j:Nat} (h:j<l.length):offB b (l.take (j+1))=offB b (l.take j)++(if (rdP (0,()) l j).1=b then []else [rdP (0,()) l j]):=by
 rw [q7b (d:=(0,())) h,offB,List.filter_append]
 congr 1
 by_cases e:(rdP (0,()) l j).1=b
 ·rw [if_pos e,List.filter_cons_of_neg (by simp [e])];rfl
 ·rw [if_neg e,List.filter_cons_of_pos (by simp [e])];rfl
theorem lt_n {α R:Type} {c:List α} {n:Nat} (h:c.length=n) (A B:Option R):br (ltI (n:Int) (ln c)) A B=B:=by rw [qn,q31,h,qa (by omega)]
theorem qpn {k:Nat} (hk:K0≤k) (l:q28) (b:Int) (hs:SzL l):q47 k l b=some (q3s l b,()):=by
 have h1:=qft hk l hs
 have ht:=hs.trays
 have hch:=hs.chutes
 unfold q47;delta W0
 rw [h1,q00]
 refine q0hh (d:=(0,())) hk l.1 (offT b) hs.trays (fun i c rec hi hc ha=> ?_) (fun rec=> ?_)
 ·by_cases e:(rdP (0,()) l.1 i).1=b
  ·rw [show offT b (rdP (0,()) l.1 i)=(0,())from if_pos e]
   simp (disch:=omega) only [evs,hc,ha]
   rfl
  ·rw [show offT b (rdP (0,()) l.1 i)=rdP (0,()) l.1 i from if_neg e,←ha,q0n2 (by omega)]
   rw [←ha]at e
   simp (disch:=omega) only [evs,hc]
   rfl
 ·refine(lt_n (c:=l.1.map (offT b)) (by simp) _ _).trans ?_
  refine q0hh (d:=(0,0,[],())) hk l.2.2.1 (offC b) hs.chutes (fun i c rec hi hc ha=> ?_) (fun rec=> ?_)
  ·have hbl:=hs.bags _ (by rw [qo hi];exact List.getElem_mem hi:rdP (0,0,[],()) l.2.2.1 i∈l.2.2.1)
   refine(lt_t (l:=c) (by omega) _ _).trans ?_
   refine q08 (n:=(rdP (0,0,[],()) l.2.2.1 i).2.2.1.length) (fun j=>(offB b ((rdP (0,0,[],()) l.2.2.1 i).2.2.1.take j),(j:Int),())) (by simp [offB]) (fun j hj rec2=> ?_) (fun rec2=> ?_) (by unfold K0 at hk;omega)
   ·rw [q0rv hj]
    have hlo:(offB b ((rdP (0,0,[],()) l.2.2.1 i).2.2.1.take j)).length≤1048576:=by
     have:=List.length_filter_le (fun x:Int×Unit=>decide (x.1≠b)) ((rdP (0,0,[],()) l.2.2.1 i).2.2.1.take j)
     rw [List.length_take]at this
     unfold offB;omega
    have hfit:=qny (rdP (0,()) (rdP (0,0,[],()) l.2.2.1 i).2.2.1 j) hlo
    by_cases e:(rdP (0,()) (rdP (0,0,[],()) l.2.2.1 i).2.2.1 j).1=b
    ·rw [if_pos e,List.append_nil]
     simp (disch:=omega) only [evs,hc,ha]
     rfl
    ·rw [if_neg e]
     simp (disch:=omega) only [evs,hc,ha,hfit]
     rfl
   ·rw [List.take_length]
    simp (disch:=omega) only [evs,hc,ha]
    rfl
  ·simp (disch:=omega) only [evs,List.length_map]
   rfl
end Go.Proofs.YtpmjopbgccajgaaGreat.Eng
namespace Go.Proofs.YtpmjopbgccajgaaGreat.Eng
noncomputable def q0o1 (l:List q0a):Int:= @ite _ (q5j l) (Classical.propDecidable _) (if l.length=0 then 0 else(rdP (0,0,0,0,0,()) l (l.length-1)).1-l.length) (-1)
def q040 (x:qu) (f:Int):Prop:=q1y x∧(1≤f∧f≤x.2.2.2.2.2.2.2.2.2.2.2.2.2.2.2.1.length)∧(rdP (0,0,0,false,0,()) x.2.2.2.2.2.2.2.2.2.2.2.2.2.2.2.1 (q6 (f-1))).2.2.2.1=false∧(rdP (0,0,0,false,0,()) x.2.2.2.2.2.2.2.2.2.2.2.2.2.2.2.1 (q6 (f-1))).2.1≤x.1∧q0o1 x.2.2.2.2.2.2.2.2.2.2.2.2.2.2.1=0
theorem qwf {k:Nat} (hk:K0≤k) (x:qu) (f:Int) (hs:SzH x):q7g k x f=q0i (q040 x f):=by
 have h1:=qr6 hk x hs
 have h2:qeq k x.2.2.2.2.2.2.2.2.2.2.2.2.2.2.1=some (q0o1 x.2.2.2.2.2.2.2.2.2.2.2.2.2.2.1,()):=q0fk hk _
 have hfl:=hs.flights
 unfold q7g;delta W3
 simp (disch:=omega) only [evs,h1,h2,ql]
 by_cases hP:q1y x
 case neg=>rw [qa hP];exact qc ⟨fun z=>z.elim,fun z=>hP z.1⟩
 rw [q8 hP]
 by_cases h3:1≤f∧f≤x.2.2.2.2.2.2.2.2.2.2.2.2.2.2.2.1.length
 case neg=>rw [qa h3];exact qc ⟨fun z=>z.elim,fun z=>h3 z.2.1⟩
 rw [q8 h3]
 have hn:q6 (f-1)<x.2.2.2.2.2.2.2.2.2.2.2.2.2.2.2.1.length:=by unfold q6;omega
 unfold q040
 rw [qi (by omega)]
 generalize rdP (0,0,0,false,0,()) x.2.2.2.2.2.2.2.2.2.2.2.2.2.2.2.1 (q6 (f-1))=e at*
 rw [q8 (by omega)]
 cases hd:e.2.2.2.1 with
 |true=>rw [qec];exact qc ⟨fun z=>z.elim,fun z=>by cases z.2.2.1⟩
 |false=>
  rw [qi1]
  by_cases h5:e.2.1≤x.1
  ·rw [q8 (by omega),q8 h5];exact qc ⟨fun z=>⟨hP,h3,rfl,h5,z⟩,fun z=>z.2.2.2.2⟩
  ·rw [q8 (by omega),qa h5];exact qc ⟨fun z=>z.elim,fun z=>h5 z.2.2.2.1⟩
end Go.Proofs.YtpmjopbgccajgaaGreat.Eng
namespace Go.Proofs.YtpmjopbgccajgaaGreat.Eng
theorem q0mi {l:List (Int×Unit)} {n:Nat} (h:AscP l n):l.length≤n:=by
 have key:∀i,i<l.length→(i:Int)≤(rdP (0,()) l i).1:=by
  intro i
  induction i with
  |zero=>intro hi;exact(h 0 hi).1.1
  |succ i ih=>
   intro hi
   have h1:=ih (by omega)
   have h2:=(h (i+1) hi).2 (by omega)
   rw [Nat.add_sub_cancel]at h2
   omega
 cases e:l.length with
 |zero=>omega
 |succ m=>
  have h1:=key m (by omega)
  have h2:=(h m (by omega)).1.2
  omega
theorem q4w {x:qu} (h:q1y x):SzH x:=by
 obtain⟨h1,h2,h3,h4,h5,h6,h7,h8,h9,_⟩:=h
 obtain⟨p1,p2,p3,p4,p5,p6,p7,p8,p9,p10⟩:=h5
 dsimp only at p1 p3 p4 p5 p9
 exact {
  wait:=by have:=h2.1;omega
  items:=by have:=h4.2.2.1;dsimp only at this;omega
  trays:=by omega
  chutes:=by omega
  bags:=fun c hc=>by have:=(p5 c hc).2.2;have:=(p5 c hc).2.1;omega
  wants:=by omega
  told:=fun w hw=>by have:=q0mi (p9 w hw).2;omega
  lanes:=by have:=h6.2.1.2;dsimp only at this;omega
  kept:=fun l hl=>by have:=(h6.2.2.1 l hl).1;have:=h6.1;dsimp only at*;omega
  notes:=by have:=h7.1;omega
  flights:=by omega
  cases_:=by omega }
end Go.Proofs.YtpmjopbgccajgaaGreat.Eng
namespace Go.Proofs.YtpmjopbgccajgaaGreat.Eng
def q0l1 (x:qu) (b:Int):Prop:=∃y,y∈x.2.2.2.2.2.2.2.1∧y.1=b
def q0l0 (x:qu) (b:Int):Prop:=(b,())∈x.2.2.2.2.2.2.2.2.1
def q0g9 (x:qu) (b:Int):Prop:=∃c,c∈x.2.2.2.2.2.2.2.2.2.2.1∧(b,())∈c.2.2.1
def q0ln (x:qu) (b:Int):Prop:=∃l,l∈x.2.2.2.2.2.2.2.2.2.2.2.2.2.1∧∃y,y∈l.1∧y.1=b
theorem q0eq {x z:qu} {i0:Nat} {e':q45} (h:q1y x) (hi:i0<x.2.2.2.2.2.2.2.2.2.2.2.2.2.2.2.2.1.length) (hcs:z.2.2.2.2.2.2.2.2.2.2.2.2.2.2.2.2.1=x.2.2.2.2.2.2.2.2.2.2.2.2.2.2.2.2.1.set i0 e') (hnow:z.1=x.1) (hfl:z.2.2.2.2.2.2.2.2.2.2.2.2.2.2.2.1=x.2.2.2.2.2.2.2.2.2.2.2.2.2.2.2.1)
  (hw:q8j z.2.1) (hlim:(60≤z.2.2.1∧z.2.2.1≤2000)∧1≤z.2.2.2.1∧z.2.2.2.1≤40) (hbe:qae (z.2.2.2.2.1,z.2.2.2.2.2.1,z.2.2.2.2.2.2.1,z.2.2.2.2.2.2.2.1,())) (hlo:q1n (z.2.2.2.2.2.2.2.2.1,z.2.2.2.2.2.2.2.2.2.1,z.2.2.2.2.2.2.2.2.2.2.1,z.2.2.2.2.2.2.2.2.2.2.2.1,())) (hst:q1p (z.2.2.2.2.2.2.2.2.2.2.2.2.1,z.2.2.2.2.2.2.2.2.2.2.2.2.2.1,())) (hno:q5j z.2.2.2.2.2.2.2.2.2.2.2.2.2.2.1) (hch:z.2.2.2.2.2.2.2.2.2.2.1.length=x.2.2.2.2.2.2.2.2.2.2.1.length)
  (b1:∀b,q0l1 z b→b≤x.2.2.2.2.2.2.2.2.2.2.2.2.2.2.2.2.1.length) (b2:∀b,q0l0 z b→b≤x.2.2.2.2.2.2.2.2.2.2.2.2.2.2.2.2.1.length) (b3:∀b,q0g9 z b→b≤x.2.2.2.2.2.2.2.2.2.2.2.2.2.2.2.2.1.length) (b4:∀b,q0ln z b→b≤x.2.2.2.2.2.2.2.2.2.2.2.2.2.2.2.2.1.length)
  (same:∀j:Nat,j≠i0→j<x.2.2.2.2.2.2.2.2.2.2.2.2.2.2.2.2.1.length→(q0l1 z ((j:Int)+1)↔q0l1 x ((j:Int)+1))∧(q0l0 z ((j:Int)+1)↔q0l0 x ((j:Int)+1))∧(q0g9 z ((j:Int)+1)↔q0g9 x ((j:Int)+1))∧(q0ln z ((j:Int)+1)↔q0ln x ((j:Int)+1)))
  (ht:e'.1=(rdP (0,0,0,0,0,0,0,0,0,0,()) x.2.2.2.2.2.2.2.2.2.2.2.2.2.2.2.2.1 i0).1∧e'.2.1=(rdP (0,0,0,0,0,0,0,0,0,0,()) x.2.2.2.2.2.2.2.2.2.2.2.2.2.2.2.2.1 i0).2.1∧e'.2.2.1=(rdP (0,0,0,0,0,0,0,0,0,0,()) x.2.2.2.2.2.2.2.2.2.2.2.2.2.2.2.2.1 i0).2.2.1) (hc:q08o z i0 e'):q1y z:=by
 obtain⟨h1,h2,h3,h4,h5,h6,h7,h8,h9,h10,h11,h12,h13,h14,h15⟩:=h
 have hlen:z.2.2.2.2.2.2.2.2.2.2.2.2.2.2.2.2.1.length=x.2.2.2.2.2.2.2.2.2.2.2.2.2.2.2.2.1.length:=by rw [hcs];simp
 refine⟨by rw [hnow];exact h1,hw,hlim,hbe,hlo,hst,hno,by rw [hfl];exact h8,by rw [hlen];exact h9,by rw [hfl,hch];exact h10,fun i hi'=> ?_,fun y hy=>by rw [hlen];exact b1 y.1 ⟨y,hy,rfl⟩,fun y hy=>by rw [hlen];exact b2 y.1 hy,fun c hcm y hy=>by rw [hlen];exact b3 y.1 ⟨c,hcm,hy⟩,fun l hl y hy=>by rw [hlen];exact b4 y.1 ⟨l,hl,y,hy,rfl⟩⟩
 rw [hlen]at hi'
 by_cases e:i=i0
 ·subst e
  have:rdP (0,0,0,0,0,0,0,0,0,0,()) z.2.2.2.2.2.2.2.2.2.2.2.2.2.2.2.2.1 i=e':=by rw [hcs];unfold rdP;simp [hi]
  rw [this]
  exact hc
 ·have er:rdP (0,0,0,0,0,0,0,0,0,0,()) z.2.2.2.2.2.2.2.2.2.2.2.2.2.2.2.2.1 i=rdP (0,0,0,0,0,0,0,0,0,0,()) x.2.2.2.2.2.2.2.2.2.2.2.2.2.2.2.2.1 i:=by rw [hcs];exact q9l (fun q=>e q.symm)
  have tag:∀j,j<x.2.2.2.2.2.2.2.2.2.2.2.2.2.2.2.2.1.length→(rdP (0,0,0,0,0,0,0,0,0,0,()) z.2.2.2.2.2.2.2.2.2.2.2.2.2.2.2.2.1 j).1=(rdP (0,0,0,0,0,0,0,0,0,0,()) x.2.2.2.2.2.2.2.2.2.2.2.2.2.2.2.2.1 j).1∧(rdP (0,0,0,0,0,0,0,0,0,0,()) z.2.2.2.2.2.2.2.2.2.2.2.2.2.2.2.2.1 j).2.1=(rdP (0,0,0,0,0,0,0,0,0,0,()) x.2.2.2.2.2.2.2.2.2.2.2.2.2.2.2.2.1 j).2.1∧(rdP (0,0,0,0,0,0,0,0,0,0,()) z.2.2.2.2.2.2.2.2.2.2.2.2.2.2.2.2.1 j).2.2.1=(rdP (0,0,0,0,0,0,0,0,0,0,()) x.2.2.2.2.2.2.2.2.2.2.2.2.2.2.2.2.1 j).2.2.1:=by
   intro j hj
   by_cases ej:j=i0
   ·subst ej
    have:rdP (0,0,0,0,0,0,0,0,0,0,()) z.2.2.2.2.2.2.2.2.2.2.2.2.2.2.2.2.1 j=e':=by rw [hcs];unfold rdP;simp [hi]
    rw [this];exact ht
   ·have:rdP (0,0,0,0,0,0,0,0,0,0,()) z.2.2.2.2.2.2.2.2.2.2.2.2.2.2.2.2.1 j=rdP (0,0,0,0,0,0,0,0,0,0,()) x.2.2.2.2.2.2.2.2.2.2.2.2.2.2.2.2.1 j:=by rw [hcs];exact q9l (fun q=>ej q.symm)
    rw [this];exact⟨rfl,rfl,rfl⟩
  rw [er]
  obtain⟨c1,c2,c3,c4,c5,c6,c7,c8,c9,c10,c11,c12,c13,c14⟩:=h11 i hi'
  obtain⟨s1,s2,s3,s4⟩:=same i e hi'
  refine⟨c1,by rw [hfl];exact c2,c3,c4,c5,fun j hj=> ?_,by rw [hnow];exact c7,c8,c9,by rw [hfl];exact c10,s1.trans c11,s2.trans c12,s3.trans c13,s4.trans c14⟩
  obtain⟨t1,t2,t3⟩:=tag j (by omega)
  rw [t1,t2,t3]
  exact c6 j hj
end Go.Proofs.YtpmjopbgccajgaaGreat.Eng
namespace Go.Proofs.YtpmjopbgccajgaaGreat.Eng
def q00e (x:qu) (i:Nat) (e:q45):qu:=(x.1,x.2.1,x.2.2.1,x.2.2.2.1,x.2.2.2.2.1,x.2.2.2.2.2.1,x.2.2.2.2.2.2.1,x.2.2.2.2.2.2.2.1,x.2.2.2.2.2.2.2.2.1,x.2.2.2.2.2.2.2.2.2.1,x.2.2.2.2.2.2.2.2.2.2.1,x.2.2.2.2.2.2.2.2.2.2.2.1,x.2.2.2.2.2.2.2.2.2.2.2.2.1,x.2.2.2.2.2.2.2.2.2.2.2.2.2.1,x.2.2.2.2.2.2.2.2.2.2.2.2.2.2.1,x.2.2.2.2.2.2.2.2.2.2.2.2.2.2.2.1,x.2.2.2.2.2.2.2.2.2.2.2.2.2.2.2.2.1.set i e,())
def qkm (e:q45) (s:ScrT):q45:=(e.1,e.2.1,e.2.2.1,e.2.2.2.1,e.2.2.2.2.1,e.2.2.2.2.2.1,if s.2.2.1=2 then 7 else e.2.2.2.2.2.2.1,s.1,s.2.1,s.2.2.1,())
def q05a (e:q45):ScrT:=(e.2.2.2.2.2.2.2.1,e.2.2.2.2.2.2.2.2.1,e.2.2.2.2.2.2.2.2.2.1,())
noncomputable def decM (x:qu) (i:Nat) (v:Int):qu×Bool×Unit:=
 if (rdP (0,0,0,0,0,0,0,0,0,0,()) x.2.2.2.2.2.2.2.2.2.2.2.2.2.2.2.2.1 i).2.2.2.2.2.2.1=2∧(q52 x.2.1 (q05a (rdP (0,0,0,0,0,0,0,0,0,0,()) x.2.2.2.2.2.2.2.2.2.2.2.2.2.2.2.2.1 i)) x.1 v).2.1=true then(q00e x i (qkm (rdP (0,0,0,0,0,0,0,0,0,0,()) x.2.2.2.2.2.2.2.2.2.2.2.2.2.2.2.2.1 i) (q52 x.2.1 (q05a (rdP (0,0,0,0,0,0,0,0,0,0,()) x.2.2.2.2.2.2.2.2.2.2.2.2.2.2.2.2.1 i)) x.1 v).1),true,())else(x,false,())
theorem q0sf {x:qu} {i:Nat} {v:Int} (h:q1y x) (hi:i<x.2.2.2.2.2.2.2.2.2.2.2.2.2.2.2.2.1.length):q1y (decM x i v).1:=by
 unfold decM
 split
 case isFalse=>exact h
 case isTrue hh=>
  obtain⟨hp,_⟩:=hh
  have hx:=h
  obtain⟨h1,h2,h3,h4,h5,h6,h7,h8,h9,h10,h11,h12,h13,h14,h15⟩:=hx
  obtain⟨c1,c2,c3,c4,c5,c6,c7,c8,c9,c10,c11,c12,c13,c14⟩:=h11 i hi
  rw [if_neg (by omega)]at c7
  obtain⟨c7,c7'⟩:=c7
  have hd:=q0m5 (w:=x.2.1) (s:=q05a (rdP (0,0,0,0,0,0,0,0,0,0,()) x.2.2.2.2.2.2.2.2.2.2.2.2.2.2.2.2.1 i)) (now:=x.1) (v:=v) c7 c7'
  generalize (q52 x.2.1 (q05a (rdP (0,0,0,0,0,0,0,0,0,0,()) x.2.2.2.2.2.2.2.2.2.2.2.2.2.2.2.2.1 i)) x.1 v).1=s at*
  generalize he:rdP (0,0,0,0,0,0,0,0,0,0,()) x.2.2.2.2.2.2.2.2.2.2.2.2.2.2.2.2.1 i=e at*
  have hpl:(qkm e s).2.2.2.2.2.2.1=2∨((qkm e s).2.2.2.2.2.2.1=7∧s.2.2.1=2):=by
   unfold qkm;dsimp only
   split
   ·rename_i hv;exact .inr ⟨rfl,hv⟩
   ·exact .inl hp
  have hnb:∀p:Int,p≠2→p≠7→¬(qkm e s).2.2.2.2.2.2.1=p:=by intro p q1 q2 q;rcases hpl with r|⟨r,_⟩<;>omega
  refine q0eq (i0:=i) (e':=qkm e s) h hi rfl rfl rfl h2 h3 h4 h5 h6 h7 rfl (fun b ⟨y,hy,e⟩=>by subst e;exact h12 y hy) (fun b hb=>h13 _ hb) (fun b ⟨c,hc,hb⟩=>h14 c hc _ hb) (fun b ⟨l,hl,y,hy,e⟩=>by subst e;exact h15 l hl y hy) (fun j _ _=>⟨Iff.rfl,Iff.rfl,Iff.rfl,Iff.rfl⟩) (by rw [he];exact⟨rfl,rfl,rfl⟩) ?_
  refine⟨c1,c2,c3,c4,by rcases hpl with r|⟨r,_⟩<;>omega,fun j hj=> ?_,?_,?_,?_,?_,?_,?_,?_,?_⟩
  ·have:rdP (0,0,0,0,0,0,0,0,0,0,()) (x.2.2.2.2.2.2.2.2.2.2.2.2.2.2.2.2.1.set i (qkm e s)) j=rdP (0,0,0,0,0,0,0,0,0,0,()) x.2.2.2.2.2.2.2.2.2.2.2.2.2.2.2.2.1 j:=q9l (by omega)
   intro q
   refine c6 j hj ?_
   rw [←this]
   exact q
  ·rw [if_neg (hnb 1 (by omega) (by omega))];exact hd
  ·intro _;exact⟨hnb 3 (by omega) (by omega),hnb 4 (by omega) (by omega),hnb 5 (by omega) (by omega),hnb 6 (by omega) (by omega)⟩
  ·rintro ⟨q1,q2⟩
   rcases hpl with r|⟨r,r2⟩
   ·have:s.2.2.1=2:=q2
    have r3:(if s.2.2.1=2 then(7:Int)else e.2.2.2.2.2.2.1)=2:=q1
    rw [if_pos this]at r3;omega
   ·omega
  ·exact fun q=>absurd q (hnb 6 (by omega) (by omega))
  ·exact⟨fun q=>absurd (c11.1 q) (by omega),fun q=>absurd q (hnb 1 (by omega) (by omega))⟩
  ·exact⟨fun q=>absurd (c12.1 q) (by omega),fun q=>absurd q (hnb 3 (by omega) (by omega))⟩
  ·exact⟨fun q=>absurd (c13.1 q) (by omega),fun q=>absurd q (hnb 4 (by omega) (by omega))⟩
  ·exact⟨fun q=>absurd (c14.1 q) (by omega),fun q=>absurd q (hnb 5 (by omega) (by omega))⟩
theorem q6y {α:Type} {d x:α} {l:List α} {i:Nat} (h:i<l.length):rdP d (l.set i x) i=x:=by unfold rdP;simp [h]
theorem qvw {k:Nat} (hk:K0≤k) (x:qu) (b v:Int) (h:q1y x) (hb:1≤b∧b≤x.2.2.2.2.2.2.2.2.2.2.2.2.2.2.2.2.1.length):q55 k x b v=some (decM x (q6 (b-1)) v):=by
 have hs:=q4w h
 have hi:q6 (b-1)<x.2.2.2.2.2.2.2.2.2.2.2.2.2.2.2.2.1.length:=by unfold q6;omega
 have hcl:=hs.cases_
 have h1:q6w k (x.2.1,()) ((rdP (0,0,0,0,0,0,0,0,0,0,()) x.2.2.2.2.2.2.2.2.2.2.2.2.2.2.2.2.1 (q6 (b-1))).2.2.2.2.2.2.2.1,(rdP (0,0,0,0,0,0,0,0,0,0,()) x.2.2.2.2.2.2.2.2.2.2.2.2.2.2.2.2.1 (q6 (b-1))).2.2.2.2.2.2.2.2.1,(rdP (0,0,0,0,0,0,0,0,0,0,()) x.2.2.2.2.2.2.2.2.2.2.2.2.2.2.2.2.1 (q6 (b-1))).2.2.2.2.2.2.2.2.2.1,()) x.1 v=some (q52 x.2.1 (q05a (rdP (0,0,0,0,0,0,0,0,0,0,()) x.2.2.2.2.2.2.2.2.2.2.2.2.2.2.2.2.1 (q6 (b-1)))) x.1 v):=q0ae hk (x.2.1,()) (q05a (rdP (0,0,0,0,0,0,0,0,0,0,()) x.2.2.2.2.2.2.2.2.2.2.2.2.2.2.2.2.1 (q6 (b-1)))) x.1 v hs.wait
 have h2:=q48 hk x hs
 unfold q55 decM;delta W2 W3
 generalize hei:q6 (b-1)=i at*
 have hin:b-1=(i:Int):=by rw [←hei];unfold q6;omega
 by_cases hp:(rdP (0,0,0,0,0,0,0,0,0,0,()) x.2.2.2.2.2.2.2.2.2.2.2.2.2.2.2.2.1 i).2.2.2.2.2.2.1=2
 case neg=>
  rw [if_neg (fun q=>hp q.1)]
  simp (disch:=omega) only [evs,qi,hei]
 generalize hd:q52 x.2.1 (q05a (rdP (0,0,0,0,0,0,0,0,0,0,()) x.2.2.2.2.2.2.2.2.2.2.2.2.2.2.2.2.1 i)) x.1 v=d at*
 obtain⟨s,ok,_⟩:=d
 cases ok with
 |false=>
  rw [if_neg (fun q=>by cases q.2)]
  simp (disch:=omega) only [evs,qi,hei,h1,q2y]
 |true=>
  rw [if_pos ⟨hp,rfl⟩]
  by_cases hv:s.2.2.1=2
  ·simp (disch:=omega) only [evs,qi,hei,h1,h2,q2y,List.length_set,q6y,List.set_set]
   unfold q00e qkm
   rw [if_pos hv]
  ·simp (disch:=omega) only [evs,qi,hei,h1,h2,q2y,List.length_set,q6y,List.set_set]
   unfold q00e qkm
   rw [if_neg hv]
end Go.Proofs.YtpmjopbgccajgaaGreat.Eng
