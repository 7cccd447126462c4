/- Pure laws: PSend, PSend2, PSend3, PChk, PTick, PTick2. No condition. -/
import Derived.Test.YtpmjopbgccajgaaGreatPC
import Derived.Test.YtpmjopbgccajgaaGreatD1
import Derived.Test.YtpmjopbgccajgaaGreatD
set_option linter.unusedVariables false
set_option linter.unusedSimpArgs false
namespace Go.Proofs.YtpmjopbgccajgaaGreat.Eng
def qv (x:qu):q28:=(x.2.2.2.2.2.2.2.2.1,x.2.2.2.2.2.2.2.2.2.1,x.2.2.2.2.2.2.2.2.2.2.1,x.2.2.2.2.2.2.2.2.2.2.2.1,())
def q2t (x:qu):q01:=(x.2.2.2.2.2.2.2.2.2.2.2.2.1,x.2.2.2.2.2.2.2.2.2.2.2.2.2.1,())
def InC (l:q28) (b:Int):Prop:=∃c,c∈l.2.2.1∧(b,())∈c.2.2.1
def qi2 (e:q45) (p:Int):q45:=(e.1,e.2.1,e.2.2.1,e.2.2.2.1,e.2.2.2.2.1,e.2.2.2.2.2.1,p,e.2.2.2.2.2.2.2.1,e.2.2.2.2.2.2.2.2.1,e.2.2.2.2.2.2.2.2.2.1,())
def mvH (x:qu) (l:q28) (s:q01) (i:Nat) (p:Int):qu:=(x.1,x.2.1,x.2.2.1,x.2.2.2.1,x.2.2.2.2.1,x.2.2.2.2.2.1,x.2.2.2.2.2.2.1,x.2.2.2.2.2.2.2.1,l.1,l.2.1,l.2.2.1,l.2.2.2.1,s.1,s.2.1,x.2.2.2.2.2.2.2.2.2.2.2.2.2.2.1,x.2.2.2.2.2.2.2.2.2.2.2.2.2.2.2.1,x.2.2.2.2.2.2.2.2.2.2.2.2.2.2.2.2.1.set i (qi2 (rdP (0,0,0,0,0,0,0,0,0,0,()) x.2.2.2.2.2.2.2.2.2.2.2.2.2.2.2.2.1 i) p),())
theorem q0j7 {x:qu} {i:Nat} {p:Int} {l:q28} {s:q01} (h:q1y x) (hi:i<x.2.2.2.2.2.2.2.2.2.2.2.2.2.2.2.2.1.length) (hl:q1n l) (hs:q1p s) (hch:l.2.2.1.length=x.2.2.2.2.2.2.2.2.2.2.1.length) (hold:(rdP (0,0,0,0,0,0,0,0,0,0,()) x.2.2.2.2.2.2.2.2.2.2.2.2.2.2.2.2.1 i).2.2.2.2.2.2.1≠1) (hp:2≤p∧p≤7) (hcl:(rdP (0,0,0,0,0,0,0,0,0,0,()) x.2.2.2.2.2.2.2.2.2.2.2.2.2.2.2.2.1 i).2.2.2.2.2.2.2.2.2.1≠1→p=2∨p=7) (hal:¬(p=2∧(rdP (0,0,0,0,0,0,0,0,0,0,()) x.2.2.2.2.2.2.2.2.2.2.2.2.2.2.2.2.1 i).2.2.2.2.2.2.2.2.2.1=2))
  (hgo:p=6→(rdP (0,0,0,false,0,()) x.2.2.2.2.2.2.2.2.2.2.2.2.2.2.2.1 (q6 ((rdP (0,0,0,0,0,0,0,0,0,0,()) x.2.2.2.2.2.2.2.2.2.2.2.2.2.2.2.2.1 i).2.2.2.1-1))).2.2.2.1=true)
  (same:∀b:Int,b≠0→b≠(i:Int)+1→((b,())∈l.1↔(b,())∈x.2.2.2.2.2.2.2.2.1)∧(InC l b↔InC (qv x) b)∧(InS s b↔InS (q2t x) b))
  (own:(((i:Int)+1,())∈l.1↔p=3)∧(InC l ((i:Int)+1)↔p=4)∧(InS s ((i:Int)+1)↔p=5)):q1y (mvH x l s i p):=by
 have hx:=h
 obtain⟨h1,h2,h3,h4,h5,h6,h7,h8,h9,h10,h11,h12,h13,h14,h15⟩:=hx
 obtain⟨c1,c2,c3,c4,c5,c6,c7,c8,c9,c10,c11,c12,c13,c14⟩:=h11 i hi
 rw [if_neg hold]at c7
 have bnd:∀b:Int,b=0∨b=(i:Int)+1→b≤x.2.2.2.2.2.2.2.2.2.2.2.2.2.2.2.2.1.length:=by intro b hb;omega
 refine q0eq (i0:=i) (e':=qi2 (rdP (0,0,0,0,0,0,0,0,0,0,()) x.2.2.2.2.2.2.2.2.2.2.2.2.2.2.2.2.1 i) p) h hi rfl rfl rfl h2 h3 h4 hl hs h7 hch (fun b ⟨y,hy,e⟩=>by subst e;exact h12 y hy) (fun b hb=> ?_) (fun b hb=> ?_) (fun b hb=> ?_) (fun j hj hjl=> ?_) ⟨rfl,rfl,rfl⟩ ?_
 ·by_cases e:b=0∨b=(i:Int)+1
  ·exact bnd b e
  ·exact h13 _ ((same b (fun z=>e (.inl z)) (fun z=>e (.inr z))).1.1 hb)
 ·by_cases e:b=0∨b=(i:Int)+1
  ·exact bnd b e
  ·obtain⟨c,hc,hb⟩:=(same b (fun z=>e (.inl z)) (fun z=>e (.inr z))).2.1.1 hb
   exact h14 c hc _ hb
 ·by_cases e:b=0∨b=(i:Int)+1
  ·exact bnd b e
  ·obtain⟨l,hl,y,hy,e⟩:=(same b (fun z=>e (.inl z)) (fun z=>e (.inr z))).2.2.1 hb
   subst e;exact h15 l hl y hy
 ·obtain⟨s1,s2,s3⟩:=same ((j:Int)+1) (by omega) (by omega)
  exact⟨Iff.rfl,s1,s2,s3⟩
 ·generalize he:rdP (0,0,0,0,0,0,0,0,0,0,()) x.2.2.2.2.2.2.2.2.2.2.2.2.2.2.2.2.1 i=e at*
  have hp1:¬(qi2 e p).2.2.2.2.2.2.1=1:=by intro z;have z:p=1:=z;omega
  refine⟨c1,c2,c3,c4,by show 1≤p∧p≤7;omega,fun j hj=> ?_,?_,?_,hal,hgo,?_,own.1,own.2.1,own.2.2⟩
  ·have:rdP (0,0,0,0,0,0,0,0,0,0,()) (mvH x l s i p).2.2.2.2.2.2.2.2.2.2.2.2.2.2.2.2.1 j=rdP (0,0,0,0,0,0,0,0,0,0,()) x.2.2.2.2.2.2.2.2.2.2.2.2.2.2.2.2.1 j:=q9l (by omega)
   intro q
   refine c6 j hj ?_
   rw [←this]
   exact q
  ·rw [if_neg hp1];exact c7
  ·intro hv
   have:=hcl hv
   show p≠3∧p≠4∧p≠5∧p≠6
   omega
  ·exact⟨fun q=>absurd (c11.1 q) hold,fun q=>absurd q hp1⟩
noncomputable def q7h (x:qu) (i:Nat):q28×Bool×Unit:=q8l (qv x) ((i:Int)+1) [((rdP (0,0,0,false,0,()) x.2.2.2.2.2.2.2.2.2.2.2.2.2.2.2.1 (q6 ((rdP (0,0,0,0,0,0,0,0,0,0,()) x.2.2.2.2.2.2.2.2.2.2.2.2.2.2.2.2.1 i).2.2.2.1-1))).2.2.1,())]
noncomputable def qjc (x:qu) (i:Nat):q28×Bool×Unit:=if (q7h x i).2.1=true then q42 (q7h x i).1 0 ((i:Int)+1)else(q7h x i)
noncomputable def qpg (x:qu) (i:Nat):qu×Bool×Unit:=if (qjc x i).2.1=true then(mvH x (qjc x i).1 (q2t x) i 3,true,())else(x,false,())
theorem q0is {l:q28} {b:Int} {ch:List (Int×Unit)}:(q8l l b ch).1.1=l.1∧(q8l l b ch).1.2.1=l.2.1∧(q8l l b ch).1.2.2.1=l.2.2.1:=by
 unfold q8l;split<;>exact⟨rfl,rfl,rfl⟩
theorem qcw {l:q28} (h:q1n l):SzL l:=by
 obtain⟨p1,p2,p3,p4,p5,p6,p7,p8,p9,p10⟩:=h
 exact⟨by omega,by omega,fun c hc=>by have:=(p5 c hc).2.2;have:=(p5 c hc).2.1;omega,by omega,fun w hw=>by have:=q0mi (p9 w hw).2;omega⟩
theorem q091 {x:qu} {i:Nat} (h:q1n (qv x)) (ht:(qjc x i).2.1=true):q1n (qjc x i).1∧(qjc x i).1.2.2.1=x.2.2.2.2.2.2.2.2.2.2.1∧¬InC (qjc x i).1 ((i:Int)+1)∧((i:Int)+1,())∉x.2.2.2.2.2.2.2.2.1∧((i:Int)+1,())∈(qjc x i).1.1∧∀b:Int,b≠0→b≠(i:Int)+1→((b,())∈(qjc x i).1.1↔(b,())∈x.2.2.2.2.2.2.2.2.1):=by
 have hw:q1n (q7h x i).1:=qtb h
 obtain⟨w1,w2,w3⟩:(q7h x i).1.1=x.2.2.2.2.2.2.2.2.1∧(q7h x i).1.2.1=x.2.2.2.2.2.2.2.2.2.1∧(q7h x i).1.2.2.1=x.2.2.2.2.2.2.2.2.2.2.1:=q0is (l:=qv x)
 unfold qjc at ht ⊢
 generalize q7h x i=w at*
 by_cases hok:w.2.1=true
 case neg=>rw [if_neg hok]at ht;exact absurd ht hok
 rw [if_pos hok]at ht ⊢
 have hd:=q0ll (a:=0) (b:=(i:Int)+1) hw
 unfold q42 at ht hd ⊢
 split at ht
 case isFalse=>cases ht
 rename_i hio
 rw [if_pos hio]at hd ⊢
 have hio':=hio
 obtain⟨q1,q2,q3,q4,q5⟩:=hio'
 have htb:=qo0 q2 hw.2.1
 have htn:q6 (qip w.1 0)<w.1.1.length:=by unfold q6;omega
 generalize q6 (qip w.1 0)=t at*
 rw [←w1,←w3]
 refine⟨hd,rfl,fun z=>q5 (.inr z),fun z=>q5 (.inl z),?_,fun b hb0 hb1=> ?_⟩
 ·exact List.mem_set htn _
 ·constructor
  ·intro z
   rcases List.mem_or_eq_of_mem_set z with z|z
   ·exact z
   ·cases z;exact absurd rfl hb1
  ·intro z
   obtain⟨j,hj,e⟩:=List.getElem_of_mem z
   have hjt:j≠t:=by
    intro e'
    subst e'
    rw [qo hj,e]at q3
    exact hb0 q3
   have:(w.1.1.set t ((i:Int)+1,()))[j]'(by simpa using hj)=(b,()):=by rw [List.getElem_set_ne (fun q=>hjt q.symm),e]
   exact this▸List.getElem_mem _
theorem qpm {k:Nat} (hk:K0≤k) (x:qu) (i:Nat) (h:q1y x) (hi:i<x.2.2.2.2.2.2.2.2.2.2.2.2.2.2.2.2.1.length):q7z k x ((i:Int)+1)=some (qpg x i):=by
 have hs:=q4w h
 have hcl:=hs.cases_
 have hfl:=hs.flights
 obtain⟨c1,c2,_⟩:=(h.2.2.2.2.2.2.2.2.2.2.1) i hi
 have hL:q1n (qv x):=h.2.2.2.2.1
 have hfn:q6 ((rdP (0,0,0,0,0,0,0,0,0,0,()) x.2.2.2.2.2.2.2.2.2.2.2.2.2.2.2.2.1 i).2.2.2.1-1)<x.2.2.2.2.2.2.2.2.2.2.2.2.2.2.2.1.length:=by unfold q6;omega
 have h1:q4a k (x.2.2.2.2.2.2.2.2.1,x.2.2.2.2.2.2.2.2.2.1,x.2.2.2.2.2.2.2.2.2.2.1,x.2.2.2.2.2.2.2.2.2.2.2.1,()) ((i:Int)+1) [((rdP (0,0,0,false,0,()) x.2.2.2.2.2.2.2.2.2.2.2.2.2.2.2.1 (q6 ((rdP (0,0,0,0,0,0,0,0,0,0,()) x.2.2.2.2.2.2.2.2.2.2.2.2.2.2.2.2.1 i).2.2.2.1-1))).2.2.1,())]=some (q7h x i):=q04n hk (qv x) _ _ (qcw hL) (by simp)
 have h2:=q48 hk x hs
 have hw:q1n (q7h x i).1:=qtb hL
 have e1:((i:Int)+1)-1=i:=by omega
 unfold q7z qpg;delta W0 W3
 have h3:q9j k ((q7h x i).1.1,(q7h x i).1.2.1,(q7h x i).1.2.2.1,(q7h x i).1.2.2.2.1,()) 0 ((i:Int)+1)=some (q42 (q7h x i).1 0 ((i:Int)+1)):=q0aa hk (q7h x i).1 0 _ (qcw hw)
 have hoL:qjc x i=if (q7h x i).2.1=true then q42 (q7h x i).1 0 ((i:Int)+1)else(q7h x i):=rfl
 rw [hoL]
 by_cases hok:(q7h x i).2.1=true
 case neg=>
  have hok':(q7h x i).2.1=false:=by simpa using hok
  simp only [if_neg hok,if_neg hok]
  simp (disch:=omega) only [evs,qi,e1,q04,h1,hok',q2y]
 simp only [if_pos hok]
 by_cases hd:(q42 (q7h x i).1 0 ((i:Int)+1)).2.1=true
 case neg=>
  have hd':(q42 (q7h x i).1 0 ((i:Int)+1)).2.1=false:=by simpa using hd
  simp only [if_neg hd]
  simp (disch:=omega) only [evs,qi,e1,q04,h1,hok,h3,hd',q2y]
 simp only [if_pos hd]
 simp (disch:=omega) only [evs,qi,e1,q04,h1,hok,h3,hd,h2,q2y]
 rfl
end Go.Proofs.YtpmjopbgccajgaaGreat.Eng
namespace Go.Proofs.YtpmjopbgccajgaaGreat.Eng
def qnx (x:qu) (i:Nat):qad:=rdP (0,0,0,false,0,()) x.2.2.2.2.2.2.2.2.2.2.2.2.2.2.2.1 (q6 ((rdP (0,0,0,0,0,0,0,0,0,0,()) x.2.2.2.2.2.2.2.2.2.2.2.2.2.2.2.2.1 i).2.2.2.1-1))
noncomputable def q0am (x:qu) (i:Nat):qu×Bool×Unit:=
 if (rdP (0,0,0,0,0,0,0,0,0,0,()) x.2.2.2.2.2.2.2.2.2.2.2.2.2.2.2.2.1 i).2.2.2.2.2.2.1=2∧(rdP (0,0,0,0,0,0,0,0,0,0,()) x.2.2.2.2.2.2.2.2.2.2.2.2.2.2.2.2.1 i).2.2.2.2.2.2.2.2.2.1=1∧(qnx x i).2.2.2.1=false then
  if (qnx x i).1≤x.1 then qpg x i
  else if (qyp (q2t x) ((i:Int)+1) (qnx x i).1).2.2.1=true then(mvH x (qv x) (qyp (q2t x) ((i:Int)+1) (qnx x i).1).1 i 5,true,())else(x,false,())
 else(x,false,())
theorem q6l {x:qu} {i:Nat} (h:q1y x) (hi:i<x.2.2.2.2.2.2.2.2.2.2.2.2.2.2.2.2.1.length):q08o x i (rdP (0,0,0,0,0,0,0,0,0,0,()) x.2.2.2.2.2.2.2.2.2.2.2.2.2.2.2.2.1 i):=h.2.2.2.2.2.2.2.2.2.2.1 i hi
theorem q0py {x:qu} {i:Nat} (h:q1y x) (hi:i<x.2.2.2.2.2.2.2.2.2.2.2.2.2.2.2.2.1.length) (hv:(rdP (0,0,0,0,0,0,0,0,0,0,()) x.2.2.2.2.2.2.2.2.2.2.2.2.2.2.2.2.1 i).2.2.2.2.2.2.2.2.2.1=1) (hp:(rdP (0,0,0,0,0,0,0,0,0,0,()) x.2.2.2.2.2.2.2.2.2.2.2.2.2.2.2.2.1 i).2.2.2.2.2.2.1=2):q1y (qpg x i).1:=by
 unfold qpg
 split
 case isFalse=>exact h
 rename_i ht
 obtain⟨o1,o2,o3,o4,o5,o6⟩:=q091 h.2.2.2.2.1 ht
 obtain⟨c1,c2,c3,c4,c5,c6,c7,c8,c9,c10,c11,c12,c13,c14⟩:=q6l h hi
 refine q0j7 h hi o1 h.2.2.2.2.2.1 (by rw [o2]) (by omega) (by omega) (fun z=>absurd hv z) (by omega) (by omega) (fun b b0 b1=>⟨o6 b b0 b1,by unfold InC;rw [o2];exact Iff.rfl,Iff.rfl⟩) ⟨iff_of_true o5 rfl,iff_of_false o3 (by omega),iff_of_false (fun z=> ?_) (by omega)⟩
 have:=c14.1 z
 omega
theorem q0kp {s:q01} {b t:Int} (h:(qyp s b t).2.2.1=true):1≤b∧¬InS s b∧InS (qyp s b t).1 b∧∀a,a≠b→(InS (qyp s b t).1 a↔InS s a):=by
 unfold qyp at h ⊢
 split at h
 case isFalse=>cases h
 rename_i hh
 rw [if_pos hh]
 obtain⟨h1,h2,h3⟩:=hh
 obtain⟨⟨hj,_,hd⟩,_⟩:=ql9 h1
 generalize q6 (q38 s t (-1))=j at*
 have hp:=qmt hj ((b,t,()):qkz)
 refine⟨h2,h3,?_,fun a ha=> ?_⟩
 ·rw [←qct];exact hp.mem_iff.2 (List.mem_cons_self ..)
 ·rw [←qct,←qct]
  constructor
  ·intro z
   rcases List.mem_cons.1 (hp.mem_iff.1 z)with e|e
   ·cases e;exact absurd rfl ha
   ·exact e
  ·intro z;exact hp.mem_iff.2 (List.mem_cons_of_mem _ z)
theorem q0pq {x:qu} {i:Nat} (h:q1y x) (hi:i<x.2.2.2.2.2.2.2.2.2.2.2.2.2.2.2.2.1.length):q1y (q0am x i).1:=by
 unfold q0am
 split
 case isFalse=>exact h
 rename_i hh
 obtain⟨hp,hv,hd⟩:=hh
 split
 ·exact q0py h hi hv hp
 split
 case isFalse=>exact h
 rename_i ht
 obtain⟨q1,q2,q3,q4⟩:=q0kp ht
 obtain⟨c1,c2,c3,c4,c5,c6,c7,c8,c9,c10,c11,c12,c13,c14⟩:=q6l h hi
 refine q0j7 h hi h.2.2.2.2.1 (q0rm h.2.2.2.2.2.1) rfl (by omega) (by omega) (fun z=>absurd hv z) (by omega) (by omega) (fun b b0 b1=>⟨Iff.rfl,Iff.rfl,q4 b b1⟩) ⟨iff_of_false (fun z=> ?_) (by omega),iff_of_false (fun z=> ?_) (by omega),iff_of_true q3 rfl⟩
 ·have:=c12.1 z;omega
 ·have:=c13.1 z;omega
theorem q04d {k:Nat} (hk:K0≤k) (x:qu) (i:Nat) (h:q1y x) (hi:i<x.2.2.2.2.2.2.2.2.2.2.2.2.2.2.2.2.1.length):q7y k x ((i:Int)+1)=some (q0am x i):=by
 have hs:=q4w h
 have hcl:=hs.cases_
 have hfl:=hs.flights
 obtain⟨c1,c2,_⟩:=q6l h hi
 have hfn:q6 ((rdP (0,0,0,0,0,0,0,0,0,0,()) x.2.2.2.2.2.2.2.2.2.2.2.2.2.2.2.2.1 i).2.2.2.1-1)<x.2.2.2.2.2.2.2.2.2.2.2.2.2.2.2.1.length:=by unfold q6;omega
 have h1:q9h k (x.2.2.2.2.2.2.2.2.2.2.2.2.1,x.2.2.2.2.2.2.2.2.2.2.2.2.2.1,()) ((i:Int)+1) (qnx x i).1=some (qyp (q2t x) ((i:Int)+1) (qnx x i).1):=q0a5 hk (q2t x) _ _ (qgb h.2.2.2.2.2.1)
 have h2:=q48 hk x hs
 have h3:=qpm hk x i h hi
 have e1:((i:Int)+1)-1=i:=by omega
 have ef:rdP (0,0,0,false,0,()) x.2.2.2.2.2.2.2.2.2.2.2.2.2.2.2.1 (q6 ((rdP (0,0,0,0,0,0,0,0,0,0,()) x.2.2.2.2.2.2.2.2.2.2.2.2.2.2.2.2.1 i).2.2.2.1-1))=qnx x i:=rfl
 unfold q7y q0am;delta W3
 by_cases hp:(rdP (0,0,0,0,0,0,0,0,0,0,()) x.2.2.2.2.2.2.2.2.2.2.2.2.2.2.2.2.1 i).2.2.2.2.2.2.1=2
 case neg=>
  rw [if_neg (fun z=>hp z.1)]
  simp (disch:=omega) only [evs,qi,e1,q04,ef]
 by_cases hv:(rdP (0,0,0,0,0,0,0,0,0,0,()) x.2.2.2.2.2.2.2.2.2.2.2.2.2.2.2.2.1 i).2.2.2.2.2.2.2.2.2.1=1
 case neg=>
  rw [if_neg (fun z=>hv z.2.1)]
  simp (disch:=omega) only [evs,qi,e1,q04,ef]
 cases hd:(qnx x i).2.2.2.1 with
 |true=>
  rw [if_neg (fun z=>by cases z.2.2)]
  simp (disch:=omega) only [evs,qi,e1,q04,ef,hd]
 |false=>
  rw [if_pos ⟨hp,hv,rfl⟩]
  by_cases ho:(qnx x i).1≤x.1
  ·rw [if_pos ho]
   simp (disch:=omega) only [evs,qi,e1,q04,ef,hd,h3]
  ·rw [if_neg ho]
   by_cases hput:(qyp (q2t x) ((i:Int)+1) (qnx x i).1).2.2.1=true
   ·rw [if_pos hput]
    simp (disch:=omega) only [evs,qi,e1,q04,ef,hd,h1,hput,h2,q2y]
    rfl
   ·rw [if_neg hput]
    have hput':(qyp (q2t x) ((i:Int)+1) (qnx x i).1).2.2.1=false:=by simpa using hput
    simp (disch:=omega) only [evs,qi,e1,q04,ef,hd,h1,hput']
end Go.Proofs.YtpmjopbgccajgaaGreat.Eng
namespace Go.Proofs.YtpmjopbgccajgaaGreat.Eng
def hasB (b:Int) (l:List qkz×Unit):Bool:=l.1.any fun y=>decide (y.1=b)
def qmn (s:q01) (b:Int):Nat:=s.2.1.findIdx (hasB b)
noncomputable def qmw (s:q01) (b:Int):q01×List HopT×Bool×Unit:=qvq s b (qmn s b) (q0w s (qmn s b)).length s []
theorem qyr {b:Int} {l:List qkz×Unit}:hasB b l=true↔∃y,y∈l.1∧y.1=b:=by unfold hasB;simp
theorem q09p {k:Nat} (hk:K0≤k) {s:q01} {b:Int} (h:q1p s) (hb:InS s b):qmn s b<s.2.1.length∧(∃y,y∈q0w s (qmn s b)∧y.1=b)∧q0x k s b=some ((qmn s b:Int),()):=by
 have hs:=qgb h
 rcases qli hk s b hs.lanes hs.kept with⟨i,hi,h1,h2,e⟩|⟨h1,e⟩
 ·have hix:qmn s b=i:=by
   unfold qmn
   rw [List.findIdx_eq hi]
   refine⟨qyr.2 (by rw [qo hi]at h1;exact h1),fun j hj=> ?_⟩
   have:=h2 j hj
   rw [qo (Nat.lt_trans hj hi)]at this
   exact Bool.eq_false_iff.2 (fun z=>this (qyr.1 z))
  rw [hix]
  exact⟨hi,h1,e⟩
 ·obtain⟨l,hl,hy⟩:=hb
  obtain⟨j,hj,rfl⟩:=List.getElem_of_mem hl
  have:=h1 j hj
  rw [qo hj]at this
  exact absurd hy this
theorem qpq {k:Nat} (hk:K0≤k) {s:q01} {b:Int} (h:q1p s) (hb:InS s b):q33 k s b=some (qmw s b):=by
 obtain⟨a1,a2,a3⟩:=q09p hk h hb
 exact q04m hk s b _ h a1 a2 a3
theorem q0na {x:q01} {i:Nat} (hi:i<x.2.1.length) (hne:0<(q0w x i).length):(q19 x.2.1).Perm (((q0z x i).1,())::q19 (qqf x i).2.1):=by
 have b:=qmt (l:=(qqf x i).2.1) (j:=i) (by simpa [qqf]using hi) (q0z x i)
 have e:(qqf x i).2.1.set i ((rdP ([],()) (qqf x i).2.1 i).1++[q0z x i],())=x.2.1:=by
  have e1:rdP ([],()) (qqf x i).2.1 i=((q0w x i).take ((q0w x i).length-1),()):=by
   unfold qqf rdP;simp [hi]
  have tl:(q0w x i).take ((q0w x i).length-1)++[q0z x i]=q0w x i:=qqz hne
  rw [e1]
  dsimp only
  rw [tl,qqf]
  dsimp only
  rw [List.set_set]
  have e2:(q0w x i,())=x.2.1[i]:=by unfold q0w;rw [qo hi]
  rw [e2]
  exact List.set_getElem_self _
 rw [e]at b
 exact b
theorem q08s {s0:q01} {b:Int} {i:Nat}:∀(f:Nat) (x:q01) (h:List HopT),q1p x→i<x.2.1.length→(∃y,y∈q0w x i∧y.1=b)→(qvq s0 b i f x h).2.2.1=true→(q19 x.2.1).Perm ((b,())::q19 (qvq s0 b i f x h).1.2.1)
 |0,_,_,_,_,_,ht=>by cases ht
 |f+1,x,h,hx,hi,hb,ht=>by
  have hne:0<(q0w x i).length:=by obtain⟨y,hy,_⟩:=hb;exact List.length_pos_of_mem hy
  rw [qvq]at ht ⊢
  split at ht
  ·rename_i e
   rw [if_pos e]
   have:=q0na hi hne
   rw [e]at this
   exact this
  ·rename_i hn
   rw [if_neg hn]
   split at ht
   ·cases ht
   ·rename_i hm
    rw [if_neg hm]
    obtain⟨hf,ej⟩:=ql9 (s:=x) (t:=(q0z x i).2.1) (but:=i) (by omega)
    have hp:=q0hw hi hf.1 (fun z=>hf.2.1 (by rw [←z])) hne
    exact hp.symm.trans (q08s f _ _ (q0hx hx hi hf hne) (by simpa [qsd]using hi) (qsc hi hb hn) ht)
theorem q08r {s:q01} {b:Int} (h:q1p s) (hb:InS s b) (ht:(qmw s b).2.2.1=true):q1p (qmw s b).1∧¬InS (qmw s b).1 b∧∀a,a≠b→(InS (qmw s b).1 a↔InS s a):=by
 obtain⟨a1,a2,_⟩:=q09p (Nat.le_refl K0) h hb
 have hp:=q08s (s0:=s) (q0w s (qmn s b)).length s [] h a1 a2 ht
 have hn:=hp.nodup_iff.1 h.2.2.2
 refine⟨q0h0 h _ _ _ h a1 a2,fun z=>(List.nodup_cons.1 hn).1 (qct.2 z),fun a ha=> ?_⟩
 rw [←qct,←qct]
 constructor
 ·intro z;exact hp.mem_iff.2 (List.mem_cons_of_mem _ z)
 ·intro z
  rcases List.mem_cons.1 (hp.mem_iff.1 z)with e|e
  ·cases e;exact absurd rfl ha
  ·exact e
noncomputable def qvk (x:qu) (i:Nat):qu×Bool×Unit:=
 if ((rdP (0,0,0,0,0,0,0,0,0,0,()) x.2.2.2.2.2.2.2.2.2.2.2.2.2.2.2.2.1 i).2.2.2.2.2.2.1=5∧(qnx x i).2.2.2.1=false∧(qnx x i).1≤x.1)∧(qmw (q2t x) ((i:Int)+1)).2.2.1=true∧(qjc x i).2.1=true then(mvH x (qjc x i).1 (qmw (q2t x) ((i:Int)+1)).1 i 3,true,())else(x,false,())
theorem q0o5 {x:qu} {i:Nat} (h:q1y x) (hi:i<x.2.2.2.2.2.2.2.2.2.2.2.2.2.2.2.2.1.length):q1y (qvk x i).1:=by
 unfold qvk
 split
 case isFalse=>exact h
 rename_i hh
 obtain⟨⟨hp,hd,hn⟩,ht,ho⟩:=hh
 obtain⟨c1,c2,c3,c4,c5,c6,c7,c8,c9,c10,c11,c12,c13,c14⟩:=q6l h hi
 have hin:InS (q2t x) ((i:Int)+1):=c14.2 hp
 obtain⟨o1,o2,o3,o4,o5,o6⟩:=q091 h.2.2.2.2.1 ho
 obtain⟨t1,t2,t3⟩:=q08r h.2.2.2.2.2.1 hin ht
 have hv:(rdP (0,0,0,0,0,0,0,0,0,0,()) x.2.2.2.2.2.2.2.2.2.2.2.2.2.2.2.2.1 i).2.2.2.2.2.2.2.2.2.1=1:=by
  by_cases e:(rdP (0,0,0,0,0,0,0,0,0,0,()) x.2.2.2.2.2.2.2.2.2.2.2.2.2.2.2.2.1 i).2.2.2.2.2.2.2.2.2.1=1
  ·exact e
  ·exact absurd hp (c8 e).2.2.1
 exact q0j7 h hi o1 t1 (by rw [o2]) (by omega) (by omega) (fun z=>absurd hv z) (by omega) (by omega) (fun b b0 b1=>⟨o6 b b0 b1,by unfold InC;rw [o2];exact Iff.rfl,t3 b b1⟩) ⟨iff_of_true o5 rfl,iff_of_false o3 (by omega),iff_of_false t2 (by omega)⟩
theorem qzh {k:Nat} (hk:K0≤k) (x:qu) (i:Nat) (h:q1y x) (hi:i<x.2.2.2.2.2.2.2.2.2.2.2.2.2.2.2.2.1.length):q5o k x ((i:Int)+1)=some (qvk x i):=by
 have hs:=q4w h
 have hcl:=hs.cases_
 have hfl:=hs.flights
 obtain⟨c1,c2,c3,c4,c5,c6,c7,c8,c9,c10,c11,c12,c13,c14⟩:=q6l h hi
 have hfn:q6 ((rdP (0,0,0,0,0,0,0,0,0,0,()) x.2.2.2.2.2.2.2.2.2.2.2.2.2.2.2.2.1 i).2.2.2.1-1)<x.2.2.2.2.2.2.2.2.2.2.2.2.2.2.2.1.length:=by unfold q6;omega
 have h3:=qpm hk x i h hi
 have e1:((i:Int)+1)-1=i:=by omega
 have ef:rdP (0,0,0,false,0,()) x.2.2.2.2.2.2.2.2.2.2.2.2.2.2.2.1 (q6 ((rdP (0,0,0,0,0,0,0,0,0,0,()) x.2.2.2.2.2.2.2.2.2.2.2.2.2.2.2.2.1 i).2.2.2.1-1))=qnx x i:=rfl
 unfold q5o qvk;delta W3
 by_cases hp:(rdP (0,0,0,0,0,0,0,0,0,0,()) x.2.2.2.2.2.2.2.2.2.2.2.2.2.2.2.2.1 i).2.2.2.2.2.2.1=5
 case neg=>
  rw [if_neg (fun z=>hp z.1.1)]
  simp (disch:=omega) only [evs,qi,e1,q04,ef]
 have h1:q33 k (x.2.2.2.2.2.2.2.2.2.2.2.2.1,x.2.2.2.2.2.2.2.2.2.2.2.2.2.1,()) ((i:Int)+1)=some (qmw (q2t x) ((i:Int)+1)):=qpq hk h.2.2.2.2.2.1 (c14.2 hp)
 cases hd:(qnx x i).2.2.2.1 with
 |true=>
  rw [if_neg (fun z=>by cases z.1.2.1)]
  simp (disch:=omega) only [evs,qi,e1,q04,ef,hd]
 |false=>
  by_cases ho:(qnx x i).1≤x.1
  case neg=>
   rw [if_neg (fun z=>ho z.1.2.2)]
   simp (disch:=omega) only [evs,qi,e1,q04,ef,hd]
  generalize htk:qmw (q2t x) ((i:Int)+1)=tk at*
  obtain⟨s,hops,ok,_⟩:=tk
  unfold qpg at h3
  cases ok with
  |false=>
   rw [if_neg (fun z=>by cases z.2.1)]
   by_cases hon:(qjc x i).2.1=true
   ·rw [if_pos hon]at h3
    simp (disch:=omega) only [evs,qi,e1,q04,ef,hd,h1,h3]
   ·rw [if_neg hon]at h3
    simp (disch:=omega) only [evs,qi,e1,q04,ef,hd,h1,h3]
  |true=>
   by_cases hon:(qjc x i).2.1=true
   ·rw [if_pos hon]at h3
    rw [if_pos ⟨⟨hp,rfl,ho⟩,rfl,hon⟩]
    simp (disch:=omega) only [evs,qi,e1,q04,ef,hd,h1,h3]
    rfl
   ·rw [if_neg hon]at h3
    rw [if_neg (fun z=>hon z.2.2)]
    simp (disch:=omega) only [evs,qi,e1,q04,ef,hd,h1,h3]
noncomputable def retM (x:qu) (i:Nat):qu×Bool×Unit:=
 if (2≤(rdP (0,0,0,0,0,0,0,0,0,0,()) x.2.2.2.2.2.2.2.2.2.2.2.2.2.2.2.2.1 i).2.2.2.2.2.2.1∧(rdP (0,0,0,0,0,0,0,0,0,0,()) x.2.2.2.2.2.2.2.2.2.2.2.2.2.2.2.2.1 i).2.2.2.2.2.2.1≤5)∧((qnx x i).2.2.2.1=true∨((rdP (0,0,0,0,0,0,0,0,0,0,()) x.2.2.2.2.2.2.2.2.2.2.2.2.2.2.2.2.1 i).2.2.2.2.2.2.1=2∧(rdP (0,0,0,0,0,0,0,0,0,0,()) x.2.2.2.2.2.2.2.2.2.2.2.2.2.2.2.2.1 i).2.2.2.2.2.2.2.2.2.1≠1))then
  if (rdP (0,0,0,0,0,0,0,0,0,0,()) x.2.2.2.2.2.2.2.2.2.2.2.2.2.2.2.2.1 i).2.2.2.2.2.2.1=5 then
   if (qmw (q2t x) ((i:Int)+1)).2.2.1=true then(mvH x (q3s (qv x) ((i:Int)+1)) (qmw (q2t x) ((i:Int)+1)).1 i 7,true,())else(x,false,())
  else(mvH x (q3s (qv x) ((i:Int)+1)) (q2t x) i 7,true,())
 else(x,false,())
theorem q09b {l:q28} {b:Int} (hb:b≠0):(b,())∉(q3s l b).1∧¬InC (q3s l b) b∧∀a:Int,a≠0→a≠b→((a,())∈(q3s l b).1↔(a,())∈l.1)∧(InC (q3s l b) a↔InC l a):=by
 unfold q3s InC
 dsimp only
 refine⟨fun z=> ?_,fun ⟨c,hc,hm⟩=> ?_,fun a ha hab=>⟨⟨fun z=> ?_,fun z=> ?_⟩,⟨fun ⟨c,hc,hm⟩=> ?_,fun ⟨c,hc,hm⟩=> ?_⟩⟩⟩
 ·obtain⟨y,hy,e⟩:=List.mem_map.1 z
  unfold offT at e
  split at e
  ·cases e;exact hb rfl
  ·rename_i hn;subst e;exact hn rfl
 ·obtain⟨d,hd,rfl⟩:=List.mem_map.1 hc
  have:=(List.mem_filter.1 hm).2
  simp at this
 ·obtain⟨y,hy,e⟩:=List.mem_map.1 z
  unfold offT at e
  split at e
  ·cases e;exact absurd rfl ha
  ·subst e;exact hy
 ·exact List.mem_map.2 ⟨_,z,by unfold offT;exact if_neg hab⟩
 ·obtain⟨d,hd,rfl⟩:=List.mem_map.1 hc
  exact⟨d,hd,(List.mem_filter.1 hm).1⟩
 ·exact⟨_,List.mem_map.2 ⟨c,hc,rfl⟩,List.mem_filter.2 ⟨hm,by simpa using hab⟩⟩
theorem q0rg {x:qu} {i:Nat} (h:q1y x) (hi:i<x.2.2.2.2.2.2.2.2.2.2.2.2.2.2.2.2.1.length):q1y (retM x i).1:=by
 unfold retM
 split
 case isFalse=>exact h
 rename_i hh
 obtain⟨hp,hd⟩:=hh
 obtain⟨c1,c2,c3,c4,c5,c6,c7,c8,c9,c10,c11,c12,c13,c14⟩:=q6l h hi
 obtain⟨d1,d2,d3⟩:=q09b (l:=qv x) (b:=(i:Int)+1) (by omega)
 have hdo:q1n (q3s (qv x) ((i:Int)+1)):=q0m3 h.2.2.2.2.1 (by omega)
 have hch:(q3s (qv x) ((i:Int)+1)).2.2.1.length=x.2.2.2.2.2.2.2.2.2.2.1.length:=by simp [q3s,qv]
 split
 ·rename_i h5
  split
  case isFalse=>exact h
  rename_i ht
  obtain⟨t1,t2,t3⟩:=q08r h.2.2.2.2.2.1 (c14.2 h5) ht
  exact q0j7 h hi hdo t1 hch (by omega) (by omega) (fun _=> .inr rfl) (by omega) (by omega) (fun b b0 b1=>⟨(d3 b b0 b1).1,(d3 b b0 b1).2,t3 b b1⟩) ⟨iff_of_false d1 (by omega),iff_of_false d2 (by omega),iff_of_false t2 (by omega)⟩
 ·rename_i h5
  exact q0j7 h hi hdo h.2.2.2.2.2.1 hch (by omega) (by omega) (fun _=> .inr rfl) (by omega) (by omega) (fun b b0 b1=>⟨(d3 b b0 b1).1,(d3 b b0 b1).2,Iff.rfl⟩) ⟨iff_of_false d1 (by omega),iff_of_false d2 (by omega),iff_of_false (fun z=>h5 (c14.1 z)) (by omega)⟩
set_option maxHeartbeats 1000000 in
theorem qvr {k:Nat} (hk:K0≤k) (x:qu) (i:Nat) (h:q1y x) (hi:i<x.2.2.2.2.2.2.2.2.2.2.2.2.2.2.2.2.1.length):q53 k x ((i:Int)+1)=some (retM x i):=by
 have hs:=q4w h
 have hcl:=hs.cases_
 have hfl:=hs.flights
 obtain⟨c1,c2,c3,c4,c5,c6,c7,c8,c9,c10,c11,c12,c13,c14⟩:=q6l h hi
 have hfn:q6 ((rdP (0,0,0,0,0,0,0,0,0,0,()) x.2.2.2.2.2.2.2.2.2.2.2.2.2.2.2.2.1 i).2.2.2.1-1)<x.2.2.2.2.2.2.2.2.2.2.2.2.2.2.2.1.length:=by unfold q6;omega
 have h2:=q48 hk x hs
 have h3:q47 k (x.2.2.2.2.2.2.2.2.1,x.2.2.2.2.2.2.2.2.2.1,x.2.2.2.2.2.2.2.2.2.2.1,x.2.2.2.2.2.2.2.2.2.2.2.1,()) ((i:Int)+1)=some (q3s (qv x) ((i:Int)+1),()):=qpn hk (qv x) _ (qcw h.2.2.2.2.1)
 have e1:((i:Int)+1)-1=i:=by omega
 have ef:rdP (0,0,0,false,0,()) x.2.2.2.2.2.2.2.2.2.2.2.2.2.2.2.1 (q6 ((rdP (0,0,0,0,0,0,0,0,0,0,()) x.2.2.2.2.2.2.2.2.2.2.2.2.2.2.2.2.1 i).2.2.2.1-1))=qnx x i:=rfl
 have hin:=c14.2
 clear c1 c3 c4 c5 c6 c7 c8 c9 c10 c11 c12 c13 c14
 unfold q53 retM;delta W0 W3
 by_cases hp:2≤(rdP (0,0,0,0,0,0,0,0,0,0,()) x.2.2.2.2.2.2.2.2.2.2.2.2.2.2.2.2.1 i).2.2.2.2.2.2.1∧(rdP (0,0,0,0,0,0,0,0,0,0,()) x.2.2.2.2.2.2.2.2.2.2.2.2.2.2.2.2.1 i).2.2.2.2.2.2.1≤5
 case neg=>
  rw [if_neg (fun z=>hp z.1)]
  simp (disch:=omega) only [evs,qi,e1,q04,ef,ql]
 by_cases hg:(qnx x i).2.2.2.1=true∨((rdP (0,0,0,0,0,0,0,0,0,0,()) x.2.2.2.2.2.2.2.2.2.2.2.2.2.2.2.2.1 i).2.2.2.2.2.2.1=2∧(rdP (0,0,0,0,0,0,0,0,0,0,()) x.2.2.2.2.2.2.2.2.2.2.2.2.2.2.2.2.1 i).2.2.2.2.2.2.2.2.2.1≠1)
 case neg=>
  rw [if_neg (fun z=>hg z.2)]
  have hd:(qnx x i).2.2.2.1=false:=by simpa using fun z=>hg (.inl z)
  by_cases h2':(rdP (0,0,0,0,0,0,0,0,0,0,()) x.2.2.2.2.2.2.2.2.2.2.2.2.2.2.2.2.1 i).2.2.2.2.2.2.1=2
  ·have hv:(rdP (0,0,0,0,0,0,0,0,0,0,()) x.2.2.2.2.2.2.2.2.2.2.2.2.2.2.2.2.1 i).2.2.2.2.2.2.2.2.2.1=1:=by
    by_cases e:(rdP (0,0,0,0,0,0,0,0,0,0,()) x.2.2.2.2.2.2.2.2.2.2.2.2.2.2.2.2.1 i).2.2.2.2.2.2.2.2.2.1=1
    ·exact e
    ·exact absurd (.inr ⟨h2',e⟩) hg
   simp (disch:=omega) only [evs,qi,e1,q04,ef,ql,hd]
  ·simp (disch:=omega) only [evs,qi,e1,q04,ef,ql,hd]
 rw [if_pos ⟨hp,hg⟩]
 by_cases h5:(rdP (0,0,0,0,0,0,0,0,0,0,()) x.2.2.2.2.2.2.2.2.2.2.2.2.2.2.2.2.1 i).2.2.2.2.2.2.1=5
 ·rw [if_pos h5]
  have h1:q33 k (x.2.2.2.2.2.2.2.2.2.2.2.2.1,x.2.2.2.2.2.2.2.2.2.2.2.2.2.1,()) ((i:Int)+1)=some (qmw (q2t x) ((i:Int)+1)):=qpq hk h.2.2.2.2.2.1 (hin h5)
  have hd:(qnx x i).2.2.2.1=true:=by
   rcases hg with e|e
   ·exact e
   ·omega
  generalize htk:qmw (q2t x) ((i:Int)+1)=tk at*
  obtain⟨s,hops,ok,_⟩:=tk
  cases ok with
  |false=>
   rw [if_neg (by simp)]
   simp (disch:=omega) only [evs,qi,e1,q04,ef,ql,hd,h1]
  |true=>
   rw [if_pos rfl]
   simp (disch:=omega) only [evs,qi,e1,q04,ef,ql,hd,h1,h2,h3]
   rfl
 ·rw [if_neg h5]
  rcases hg with hd|⟨h2',hv⟩
  ·simp (disch:=omega) only [evs,qi,e1,q04,ef,ql,hd,h2,h3]
   rfl
  ·cases hd:(qnx x i).2.2.2.1 with
   |true=>
    simp (disch:=omega) only [evs,qi,e1,q04,ef,ql,hd,h2,h3]
    rfl
   |false=>
    simp (disch:=omega) only [evs,qi,e1,q04,ef,ql,hd,h2,h3]
    rfl
end Go.Proofs.YtpmjopbgccajgaaGreat.Eng
namespace Go.Proofs.YtpmjopbgccajgaaGreat.Eng
abbrev CmdT:=Int×Int×Int×Int×Int×Int×Int×Int×Int×Int×Int×Int×Int×Int×Unit
def newC (c:CmdT):q45:=(c.2.2.2.2.2.2.1,c.2.2.2.2.2.2.2.1,c.2.2.2.2.2.2.2.2.1,c.2.2.1,c.2.2.2.2.1,c.2.2.2.2.2.1,1,0,0,0,())
noncomputable def chkB (x:qu) (c:CmdT):qed×Bool×Unit:=qa2 (x.2.2.2.2.1,x.2.2.2.2.2.1,x.2.2.2.2.2.2.1,x.2.2.2.2.2.2.2.1,()) ((x.2.2.2.2.2.2.2.2.2.2.2.2.2.2.2.2.1.length:Int)+1) c.2.2.2.1
def q0fc (e:q45) (c:CmdT):Prop:=e.1=c.2.2.2.2.2.2.1∧e.2.1=c.2.2.2.2.2.2.2.1∧e.2.2.1=c.2.2.2.2.2.2.2.2.1
noncomputable def q0m8 (x:qu) (c:CmdT):Prop:=x.2.2.2.2.2.2.2.2.2.2.2.2.2.2.2.2.1.length<60∧TagP (c.2.2.2.2.2.2.1,c.2.2.2.2.2.2.2.1,c.2.2.2.2.2.2.2.2.1,())∧(1≤c.2.2.1∧c.2.2.1≤x.2.2.2.2.2.2.2.2.2.2.2.2.2.2.2.1.length)∧(rdP (0,0,0,false,0,()) x.2.2.2.2.2.2.2.2.2.2.2.2.2.2.2.1 (q6 (c.2.2.1-1))).2.2.2.1=false∧
 (1≤c.2.2.2.2.1∧c.2.2.2.2.1≤60)∧(0≤c.2.2.2.2.2.1∧c.2.2.2.2.2.1≤5)∧(¬ ∃j,j<x.2.2.2.2.2.2.2.2.2.2.2.2.2.2.2.2.1.length∧q0fc (rdP (0,0,0,0,0,0,0,0,0,0,()) x.2.2.2.2.2.2.2.2.2.2.2.2.2.2.2.2.1 j) c)∧(chkB x c).2.1=true
def addC (x:qu) (b:qed) (e:q45):qu:=(x.1,x.2.1,x.2.2.1,x.2.2.2.1,b.1,b.2.1,b.2.2.1,b.2.2.2.1,x.2.2.2.2.2.2.2.2.1,x.2.2.2.2.2.2.2.2.2.1,x.2.2.2.2.2.2.2.2.2.2.1,x.2.2.2.2.2.2.2.2.2.2.2.1,x.2.2.2.2.2.2.2.2.2.2.2.2.1,x.2.2.2.2.2.2.2.2.2.2.2.2.2.1,x.2.2.2.2.2.2.2.2.2.2.2.2.2.2.1,x.2.2.2.2.2.2.2.2.2.2.2.2.2.2.2.1,x.2.2.2.2.2.2.2.2.2.2.2.2.2.2.2.2.1++[e],())
noncomputable def qq6 (x:qu) (c:CmdT):qu×Bool×Unit:= @ite _ (q0m8 x c) (Classical.propDecidable _) (addC x (chkB x c).1 (newC c),true,()) (x,false,())
theorem q0gm {b:qed} {bag size:Int} (h:(qa2 b bag size).2.1=true):(qa2 b bag size).1.2.2.2.1=b.2.2.2.1++[(bag,size,size,())]:=by
 unfold qa2 at h ⊢
 split at h
 case isFalse=>cases h
 rename_i hh
 rw [if_pos hh]
theorem q0oj {x:qu} {c:CmdT} (h:q1y x):q1y (qq6 x c).1:=by
 unfold qq6
 split
 case isFalse=>exact h
 rename_i hh
 obtain⟨k1,k2,k3,k4,k5,k6,k7,k8⟩:=hh
 obtain⟨h1,h2,h3,h4,h5,h6,h7,h8,h9,h10,h11,h12,h13,h14,h15⟩:=h
 have hb:qae (chkB x c).1:=q0oa h4
 have hit:(chkB x c).1.2.2.2.1=x.2.2.2.2.2.2.2.1++[((x.2.2.2.2.2.2.2.2.2.2.2.2.2.2.2.2.1.length:Int)+1,c.2.2.2.1,c.2.2.2.1,())]:=q0gm k8
 generalize (chkB x c).1=b at*
 have hlen:(x.2.2.2.2.2.2.2.2.2.2.2.2.2.2.2.2.1++[newC c]).length=x.2.2.2.2.2.2.2.2.2.2.2.2.2.2.2.2.1.length+1:=by simp
 have hl:∀i,i<x.2.2.2.2.2.2.2.2.2.2.2.2.2.2.2.2.1.length→rdP (0,0,0,0,0,0,0,0,0,0,()) (x.2.2.2.2.2.2.2.2.2.2.2.2.2.2.2.2.1++[newC c]) i=rdP (0,0,0,0,0,0,0,0,0,0,()) x.2.2.2.2.2.2.2.2.2.2.2.2.2.2.2.2.1 i:=fun i hi=>qn5 hi
 have hr:rdP (0,0,0,0,0,0,0,0,0,0,()) (x.2.2.2.2.2.2.2.2.2.2.2.2.2.2.2.2.1++[newC c]) x.2.2.2.2.2.2.2.2.2.2.2.2.2.2.2.2.1.length=newC c:=by rw [q0ar (Nat.le_refl _),Nat.sub_self];rfl
 have hon:∀i:Int,(∃y,y∈b.2.2.2.1∧y.1=i)↔(∃y,y∈x.2.2.2.2.2.2.2.1∧y.1=i)∨i=(x.2.2.2.2.2.2.2.2.2.2.2.2.2.2.2.2.1.length:Int)+1:=by
  intro i
  rw [hit]
  constructor
  ·rintro ⟨y,hy,e⟩
   rcases List.mem_append.1 hy with hy|hy
   ·exact .inl ⟨y,hy,e⟩
   ·rw [List.mem_singleton.1 hy]at e;exact .inr e.symm
  ·rintro (⟨y,hy,e⟩|e)
   ·exact⟨y,List.mem_append_left _ hy,e⟩
   ·exact⟨_,List.mem_append_right _ (List.mem_singleton.2 rfl),e.symm⟩
 refine⟨h1,h2,h3,hb,h5,h6,h7,h8,by show (x.2.2.2.2.2.2.2.2.2.2.2.2.2.2.2.2.1++[newC c]).length≤60;omega,h10,fun i hi=> ?_,fun y hy=> ?_,fun y hy=> ?_,fun d hd y hy=> ?_,fun d hd y hy=> ?_⟩
 ·have hi:i<(x.2.2.2.2.2.2.2.2.2.2.2.2.2.2.2.2.1++[newC c]).length:=hi
  show q08o (addC x b (newC c)) i (rdP (0,0,0,0,0,0,0,0,0,0,()) (x.2.2.2.2.2.2.2.2.2.2.2.2.2.2.2.2.1++[newC c]) i)
  by_cases e:i<x.2.2.2.2.2.2.2.2.2.2.2.2.2.2.2.2.1.length
  ·rw [hl i e]
   obtain⟨c1,c2,c3,c4,c5,c6,c7,c8,c9,c10,c11,c12,c13,c14⟩:=h11 i e
   refine⟨c1,c2,c3,c4,c5,fun j hj=> ?_,c7,c8,c9,c10,?_,c12,c13,c14⟩
   ·show ¬((rdP (0,0,0,0,0,0,0,0,0,0,()) (x.2.2.2.2.2.2.2.2.2.2.2.2.2.2.2.2.1++[newC c]) j).1=_∧(rdP (0,0,0,0,0,0,0,0,0,0,()) (x.2.2.2.2.2.2.2.2.2.2.2.2.2.2.2.2.1++[newC c]) j).2.1=_∧(rdP (0,0,0,0,0,0,0,0,0,0,()) (x.2.2.2.2.2.2.2.2.2.2.2.2.2.2.2.2.1++[newC c]) j).2.2.1=_)
    rw [hl j (by omega)];exact c6 j hj
   ·refine(hon _).trans ⟨fun z=> ?_,fun z=> .inl (c11.2 z)⟩
    rcases z with z|z
    ·exact c11.1 z
    ·omega
  ·obtain rfl:i=x.2.2.2.2.2.2.2.2.2.2.2.2.2.2.2.2.1.length:=by omega
   rw [hr]
   refine⟨k2,k3,k5,k6,by show (1:Int)≤1∧(1:Int)≤7;omega,fun j hj=> ?_,?_,?_,?_,?_,?_,?_,?_,?_⟩
   ·show ¬((rdP (0,0,0,0,0,0,0,0,0,0,()) (x.2.2.2.2.2.2.2.2.2.2.2.2.2.2.2.2.1++[newC c]) j).1=_∧(rdP (0,0,0,0,0,0,0,0,0,0,()) (x.2.2.2.2.2.2.2.2.2.2.2.2.2.2.2.2.1++[newC c]) j).2.1=_∧(rdP (0,0,0,0,0,0,0,0,0,0,()) (x.2.2.2.2.2.2.2.2.2.2.2.2.2.2.2.2.1++[newC c]) j).2.2.1=_)
    rw [hl j hj];exact fun z=>k7 ⟨j,hj,z⟩
   ·rw [if_pos (show (newC c).2.2.2.2.2.2.1=1 from rfl)];exact⟨rfl,rfl,rfl⟩
   ·intro _;show (1:Int)≠3∧(1:Int)≠4∧(1:Int)≠5∧(1:Int)≠6;omega
   ·rintro ⟨z,_⟩;have z:(1:Int)=2:=z;omega
   ·intro z;have z:(1:Int)=6:=z;omega
   ·exact(hon _).trans (iff_of_true (.inr rfl) rfl)
   ·exact iff_of_false (fun z=>by have:=h13 _ z;dsimp only at this;omega) (by show ¬(1:Int)=3;omega)
   ·exact iff_of_false (fun ⟨d,hd,z⟩=>by have:=h14 d hd _ z;dsimp only at this;omega) (by show ¬(1:Int)=4;omega)
   ·exact iff_of_false (fun ⟨d,hd,y,hy,z⟩=>by have:=h15 d hd y hy;omega) (by show ¬(1:Int)=5;omega)
 ·show y.1≤((x.2.2.2.2.2.2.2.2.2.2.2.2.2.2.2.2.1++[newC c]).length:Int)
  rcases (hon y.1).1 ⟨y,hy,rfl⟩with⟨z,hz,e⟩|e
  ·have:=h12 z hz;omega
  ·omega
 ·show y.1≤((x.2.2.2.2.2.2.2.2.2.2.2.2.2.2.2.2.1++[newC c]).length:Int)
  have:=h13 y hy;omega
 ·show y.1≤((x.2.2.2.2.2.2.2.2.2.2.2.2.2.2.2.2.1++[newC c]).length:Int)
  have:=h14 d hd y hy;omega
 ·show y.1≤((x.2.2.2.2.2.2.2.2.2.2.2.2.2.2.2.2.1++[newC c]).length:Int)
  have:=h15 d hd y hy;omega
set_option maxHeartbeats 1000000 in
theorem qzl {k:Nat} (hk:K0≤k) (x:qu) (c:CmdT) (h:q1y x):q5p k x c=some (qq6 x c):=by
 have hs:=q4w h
 have hcl:=hs.cases_
 have hfl:=hs.flights
 have h1:qbx k (x.2.2.2.2.1,x.2.2.2.2.2.1,x.2.2.2.2.2.2.1,x.2.2.2.2.2.2.2.1,()) ((x.2.2.2.2.2.2.2.2.2.2.2.2.2.2.2.2.1.length:Int)+1) c.2.2.2.1=some (chkB x c):=q0de hk (x.2.2.2.2.1,x.2.2.2.2.2.1,x.2.2.2.2.2.2.1,x.2.2.2.2.2.2.2.1,()) _ _ (q0cv h.2.2.2.1)
 have h2:=q48 hk x hs
 have h3:=qv6 k (c.2.2.2.2.2.2.1,c.2.2.2.2.2.2.2.1,c.2.2.2.2.2.2.2.2.1,())
 have hf:=qny (newC c) hcl
 have hk':=hk
 unfold K0 at hk
 unfold q5p qq6;delta W0 W2 W3
 by_cases k1:x.2.2.2.2.2.2.2.2.2.2.2.2.2.2.2.2.1.length<60
 case neg=>rw [if_neg (fun z=>k1 z.1)];simp (disch:=omega) only [evs]
 by_cases k2:TagP (c.2.2.2.2.2.2.1,c.2.2.2.2.2.2.2.1,c.2.2.2.2.2.2.2.2.1,())
 case neg=>rw [if_neg (fun z=>k2 z.2.1)];rw [q13,q31,qa (by omega),h3,qj,qq,qa k2]
 rw [q13,q31,qa (by omega),h3,qj,qq,q8 k2]
 by_cases k3:1≤c.2.2.1∧c.2.2.1≤x.2.2.2.2.2.2.2.2.2.2.2.2.2.2.2.1.length
 case neg=>rw [if_neg (fun z=>k3 z.2.2.1)];simp (disch:=omega) only [evs,ql]
 have hfn:q6 (c.2.2.1-1)<x.2.2.2.2.2.2.2.2.2.2.2.2.2.2.2.1.length:=by unfold q6;omega
 cases k4:(rdP (0,0,0,false,0,()) x.2.2.2.2.2.2.2.2.2.2.2.2.2.2.2.1 (q6 (c.2.2.1-1))).2.2.2.1 with
 |true=>rw [if_neg (fun z=>by have:=z.2.2.2.1;rw [k4]at this;cases this)];simp (disch:=omega) only [evs,ql,qi,k4]
 |false=>
 by_cases k5:1≤c.2.2.2.2.1∧c.2.2.2.2.1≤60
 case neg=>rw [if_neg (fun z=>k5 z.2.2.2.2.1)];simp (disch:=omega) only [evs,ql,qi,k4]
 by_cases k6:0≤c.2.2.2.2.2.1∧c.2.2.2.2.2.1≤5
 case neg=>rw [if_neg (fun z=>k6 z.2.2.2.2.2.1)];simp (disch:=omega) only [evs,ql,qi,k4]
 have tail:∀ {R:Type} (A B:Option R),qh (fun rec7 (c6:Int×Unit)=>br (ltI c6.1 (ln x.2.2.2.2.2.2.2.2.2.2.2.2.2.2.2.2.1)) (br (inR c6.1 (ln x.2.2.2.2.2.2.2.2.2.2.2.2.2.2.2.2.1)) (q9 (rdP (0,0,0,0,0,0,0,0,0,0,()) x.2.2.2.2.2.2.2.2.2.2.2.2.2.2.2.2.1 (q6 c6.1)) fun e8=>br (qnv (eqI e8.1 c.2.2.2.2.2.2.1) (qnv (eqI e8.2.1 c.2.2.2.2.2.2.2.1) (qnv (eqI e8.2.2.1 c.2.2.2.2.2.2.2.2.1) true))) A (rec7 (qg .i64 c6.1 1,()))) none) B) k (0,())=br (dc (∃j,j<x.2.2.2.2.2.2.2.2.2.2.2.2.2.2.2.2.1.length∧q0fc (rdP (0,0,0,0,0,0,0,0,0,0,()) x.2.2.2.2.2.2.2.2.2.2.2.2.2.2.2.2.1 j) c)) A B:=by
  intro R A B
  refine qi8 (n:=x.2.2.2.2.2.2.2.2.2.2.2.2.2.2.2.2.1.length) (fun i=>((i:Int),())) (fun j=>q0fc (rdP (0,0,0,0,0,0,0,0,0,0,()) x.2.2.2.2.2.2.2.2.2.2.2.2.2.2.2.2.1 j) c) ?_ ?_ ?_ ?_
  ·simp
  ·omega
  ·intro i hi _ rec
   unfold q0fc
   simp (disch:=omega) only [evs]
   rfl
  ·intro _ rec;simp (disch:=omega) only [evs]
 rw [ql,qj,qq,q31,q8 k3,qi (by omega),q0c,q8 (by omega),qk,k4,qi1,ql,qj,qq,q8 k5,ql,qj,qq,q8 k6]
 refine(tail _ _).trans ?_
 by_cases k7:∃j,j<x.2.2.2.2.2.2.2.2.2.2.2.2.2.2.2.2.1.length∧q0fc (rdP (0,0,0,0,0,0,0,0,0,0,()) x.2.2.2.2.2.2.2.2.2.2.2.2.2.2.2.2.1 j) c
 case pos=>rw [q8 k7,if_neg (fun z=>z.2.2.2.2.2.2.1 k7)]
 rw [qa k7]
 by_cases k8:(chkB x c).2.1=true
 case neg=>
  have k8':(chkB x c).2.1=false:=by simpa using k8
  rw [if_neg (fun z=>k8 z.2.2.2.2.2.2.2)]
  simp (disch:=omega) only [evs,h1,k8']
 rw [if_pos ⟨k1,k2,k3,k4,k5,k6,k7,k8⟩]
 have hf':q4x x.2.2.2.2.2.2.2.2.2.2.2.2.2.2.2.2.1 [(c.2.2.2.2.2.2.1,c.2.2.2.2.2.2.2.1,c.2.2.2.2.2.2.2.2.1,c.2.2.1,c.2.2.2.2.1,c.2.2.2.2.2.1,1,0,0,0,())]=true:=hf
 simp (disch:=omega) only [evs,h1,k8,h2,hf']
 rfl
end Go.Proofs.YtpmjopbgccajgaaGreat.Eng
namespace Go.Proofs.YtpmjopbgccajgaaGreat.Eng
theorem qcs {l:List q8k} {b:Int}:(b,())∈q22 l↔∃c,c∈l∧(b,())∈c.2.2.1:=by unfold q22;simp [List.mem_flatMap]
theorem qml {l:q28} {b:Int}:(b,())∈q3o l↔((b,())∈l.1∧b≠0)∨InC l b:=by
 unfold q3o InC nz
 rw [List.mem_append,qcs,List.mem_filter]
 simp
theorem q0lc {tn:Int} {W:List qnr} {p:List (Int×Unit)×List q8k} {i:Nat} (h:q1n (p.1,tn,p.2,W,())) (hi:i<p.2.length):(q3o ((lpC tn W p i).1,tn,(lpC tn W p i).2,W,())).Perm (q3o (p.1,tn,p.2,W,()))∧∀b,(b,())∈q22 p.2→(b,())∈q22 (lpC tn W p i).2:=by
 unfold lpC
 split
 case isFalse=>exact⟨List.Perm.refl _,fun _ z=>z⟩
 case isTrue hg=>
  obtain⟨g1,g2,g3⟩:=hg
  obtain⟨p1,p2,p3,p4,p5,p6,p7,p8,p9,p10⟩:=h
  have hc:=p5 _ (by rw [qo hi];exact List.getElem_mem hi:rdP (0,0,[],()) p.2 i∈p.2)
  have hc1:=hc.1
  dsimp only at p1 p2 p3 p4 p5 p6 p9 hc hc1
  have ht:=qo0 (l:=(p.1,tn,p.2,W,())) (a:=(rdP (0,0,[],()) p.2 i).1) hc.1 p2
  dsimp only at ht
  have htn:lpT tn W p i<p.1.length:=by unfold lpT q6;omega
  have e1:(nz p.1).Perm ((lpB tn W p i,())::nz (p.1.set (lpT tn W p i) (0,()))):=q0l3 htn g1
  have e2:(q22 (p.2.set i ((rdP (0,0,[],()) p.2 i).1,(rdP (0,0,[],()) p.2 i).2.1,(rdP (0,0,[],()) p.2 i).2.2.1++[(lpB tn W p i,())],()))).Perm ((lpB tn W p i,())::q22 p.2):=by
   have e3:q22 p.2=q22 (p.2.take i)++((rdP (0,0,[],()) p.2 i).2.2.1++q22 (p.2.drop (i+1))):=by
    have:=congrArg q22 (qr2 hi)
    rw [this,qo hi]
    simp only [q22,List.flatMap_append,List.flatMap_cons]
   have e4:q22 (p.2.set i ((rdP (0,0,[],()) p.2 i).1,(rdP (0,0,[],()) p.2 i).2.1,(rdP (0,0,[],()) p.2 i).2.2.1++[(lpB tn W p i,())],()))=(q22 (p.2.take i)++(rdP (0,0,[],()) p.2 i).2.2.1)++(lpB tn W p i,())::q22 (p.2.drop (i+1)):=by
    rw [qoa hi]
    simp [q22]
   rw [e4,e3,←List.append_assoc]
   exact List.perm_middle
  have e5:(q3o (p.1,tn,p.2,W,())).Perm ((lpB tn W p i,())::(nz (p.1.set (lpT tn W p i) (0,()))++q22 p.2)):=e1.append_right _
  have e6:(nz (p.1.set (lpT tn W p i) (0,()))++q22 (p.2.set i ((rdP (0,0,[],()) p.2 i).1,(rdP (0,0,[],()) p.2 i).2.1,(rdP (0,0,[],()) p.2 i).2.2.1++[(lpB tn W p i,())],()))).Perm ((lpB tn W p i,())::(nz (p.1.set (lpT tn W p i) (0,()))++q22 p.2)):=(e2.append_left _).trans List.perm_middle
  exact⟨e6.trans e5.symm,fun b hb=>e2.mem_iff.2 (List.mem_cons_of_mem _ hb)⟩
theorem q0dz {tn:Int} {W:List qnr} {p:List (Int×Unit)×List q8k} (h:q1n (p.1,tn,p.2,W,())):∀i,i≤p.2.length→(q3o ((lpS tn W p i).1,tn,(lpS tn W p i).2,W,())).Perm (q3o (p.1,tn,p.2,W,()))∧∀b,(b,())∈q22 p.2→(b,())∈q22 (lpS tn W p i).2
 |0,_=>⟨List.Perm.refl _,fun _ z=>z⟩
 |i+1,hi=>by
  obtain⟨a1,a2⟩:=q0dz h i (by omega)
  obtain⟨b1,b2⟩:=q0lc (i:=i) (q0dy h i (by omega)) (by rw [(qti tn W p i).1];omega)
  exact⟨b1.trans a1,fun b hb=>b2 b (a2 b hb)⟩
theorem qsv {l:q28} (h:q1n l):(∀b:Int,((b,())∈(q21 l).1∧b≠0)∨InC (q21 l) b↔((b,())∈l.1∧b≠0)∨InC l b)∧(∀b,InC l b→InC (q21 l) b)∧(∀b:Int,InC (q21 l) b→(b,())∉(q21 l).1)∧(q21 l).2.2.1.length=l.2.2.1.length:=by
 obtain⟨h1,h2⟩:=q0dz (p:=(l.1,l.2.2.1)) (qqw h) l.2.2.1.length (Nat.le_refl _)
 have hp:(q3o (q21 l)).Perm (q3o l):=h1
 refine⟨fun b=>by rw [←qml,←qml];exact hp.mem_iff,fun b hb=>qcs.1 (h2 b (qcs.2 hb)),fun b hb hm=> ?_,(qti _ _ _ _).1⟩
 have hok:=qr0 h
 have h8:(nz (q21 l).1++q22 (q21 l).2.2.1).Nodup:=hok.2.2.2.2.2.2.2.1
 have hb1:1≤b:=hok.2.2.2.2.2.2.1 (b,()) (qml.2 (.inr hb))
 refine(List.nodup_append.1 h8).2.2 (b,()) ?_ (b,()) (qcs.2 hb) rfl
 unfold nz
 rw [List.mem_filter]
 exact⟨hm,by simp;omega⟩
def scrd (e:q45) (t:Int):q45:=(e.1,e.2.1,e.2.2.1,e.2.2.2.1,e.2.2.2.2.1,e.2.2.2.2.2.1,2,1,t,0,())
noncomputable def lvB (x:qu):qed×Int×Bool×Unit:=qgf (x.2.2.2.2.1,x.2.2.2.2.2.1,x.2.2.2.2.2.2.1,x.2.2.2.2.2.2.2.1,())
noncomputable def cs1 (x:qu):List q45:=if (lvB x).2.2.1=true then x.2.2.2.2.2.2.2.2.2.2.2.2.2.2.2.2.1.set (q6 ((lvB x).2.1-1)) (scrd (rdP (0,0,0,0,0,0,0,0,0,0,()) x.2.2.2.2.2.2.2.2.2.2.2.2.2.2.2.2.1 (q6 ((lvB x).2.1-1))) (x.1+1))else x.2.2.2.2.2.2.2.2.2.2.2.2.2.2.2.2.1
def qbq:List (Int×Unit)→List q45→List q45
 | [],cs=>cs
 |b::bs,cs=>qbq bs (cs.set (q6 (b.1-1)) (qi2 (rdP (0,0,0,0,0,0,0,0,0,0,()) cs (q6 (b.1-1))) 4))
theorem q03q:∀(a b:List (Int×Unit)) (cs:List q45),qbq (a++b) cs=qbq b (qbq a cs)
 | [],_,_=>rfl
 |x::a,b,cs=>q03q a b _
theorem qsi:∀(a:List (Int×Unit)) (cs:List q45),(qbq a cs).length=cs.length
 | [],_=>rfl
 |x::a,cs=>by rw [qbq,qsi];simp
theorem q0i1:∀(a:List (Int×Unit)) (cs:List q45) (i:Nat),i<cs.length→(∀b∈a,1≤b.1)→rdP (0,0,0,0,0,0,0,0,0,0,()) (qbq a cs) i=if ((i:Int)+1,())∈a then qi2 (rdP (0,0,0,0,0,0,0,0,0,0,()) cs i) 4 else rdP (0,0,0,0,0,0,0,0,0,0,()) cs i
 | [],cs,i,_,_=>by rw [if_neg (by simp)];rfl
 |b::a,cs,i,hi,hb=>by
  have hb1:=hb b (List.mem_cons_self ..)
  rw [qbq,q0i1 a _ i (by simpa using hi) (fun c hc=>hb c (List.mem_cons_of_mem _ hc))]
  by_cases e:q6 (b.1-1)=i
  ·have eb:b=((i:Int)+1,()):=by
    obtain⟨b,u⟩:=b
    cases u
    have:b=(i:Int)+1:=by unfold q6 at e;dsimp only at*;omega
    rw [this]
   rw [if_pos (show ((i:Int)+1,())∈b::a by rw [eb];exact List.mem_cons_self ..),e,q6y hi]
   split<;>rfl
  ·rw [q9l e]
   have ne:((i:Int)+1,())≠b:=by
    rintro rfl
    apply e
    unfold q6;dsimp only;omega
   by_cases hm:((i:Int)+1,())∈a
   ·rw [if_pos hm,if_pos (List.mem_cons_of_mem _ hm)]
   ·rw [if_neg hm,if_neg (fun z=>by rcases List.mem_cons.1 z with z|z;exact ne z;exact hm z)]
noncomputable def q04b (x:qu):qu:=(x.1+1,x.2.1,x.2.2.1,x.2.2.2.1,(q23 (lvB x).1).1,(q23 (lvB x).1).2.1,(q23 (lvB x).1).2.2.1,(q23 (lvB x).1).2.2.2.1,(q21 (qv x)).1,(q21 (qv x)).2.1,(q21 (qv x)).2.2.1,(q21 (qv x)).2.2.2.1,x.2.2.2.2.2.2.2.2.2.2.2.2.1,x.2.2.2.2.2.2.2.2.2.2.2.2.2.1,x.2.2.2.2.2.2.2.2.2.2.2.2.2.2.1,x.2.2.2.2.2.2.2.2.2.2.2.2.2.2.2.1,qbq (q22 (q21 (qv x)).2.2.1) (cs1 x),())
theorem q0d5 (g:Int):∀(l:List qnw) (m:Int),(qsw g m l).map (·.1)=l.map (·.1)
 | [],_=>rfl
 |x::xs,m=>by
  rw [qsw,List.map_cons,List.map_cons,q0d5 g xs];rfl
theorem q0l9 {l:List qnw} {b:Int}:(∃y,y∈l∧y.1=b)↔b∈l.map (·.1):=by simp [List.mem_map]
theorem quz {x:qu} (h:qae (x.2.2.2.2.1,x.2.2.2.2.2.1,x.2.2.2.2.2.2.1,x.2.2.2.2.2.2.2.1,())):qae (q23 (lvB x).1)∧(∀b:Int,(∃y,y∈(q23 (lvB x).1).2.2.2.1∧y.1=b)↔(∃y,y∈x.2.2.2.2.2.2.2.1∧y.1=b)∧¬((lvB x).2.2.1=true∧b=(lvB x).2.1))∧((lvB x).2.2.1=true→∃y,y∈x.2.2.2.2.2.2.2.1∧y.1=(lvB x).2.1):=by
 have h1:qae (lvB x).1:=q0aw h
 refine⟨q0pk h1,?_⟩
 have e:∀b:Int,(∃y,y∈(q23 (lvB x).1).2.2.2.1∧y.1=b)↔∃y,y∈(lvB x).1.2.2.2.1∧y.1=b:=by
  intro b
  rw [q0l9,q0l9]
  unfold q23
  dsimp only
  rw [q0d5]
 obtain⟨b1,b2,b3,b4⟩:=h
 unfold lvB qgf at*
 by_cases hl:q0lg (x.2.2.2.2.1,x.2.2.2.2.2.1,x.2.2.2.2.2.2.1,x.2.2.2.2.2.2.2.1,())
 ·rw [if_pos hl]at e ⊢
  obtain⟨_,_,hne,_⟩:=hl
  dsimp only at hne e b4 ⊢
  cases hit:x.2.2.2.2.2.2.2.1 with
  |nil=>exact absurd hit hne
  |cons y ys=>
   rw [hit]at b4 e
   rw [qp7]at*
   refine⟨fun b=>(e b).trans ?_,fun _=>⟨y,List.mem_cons_self ..,rfl⟩⟩
   rw [List.drop_one,List.tail_cons]
   constructor
   ·rintro ⟨z,hz,rfl⟩
    refine⟨⟨z,List.mem_cons_of_mem _ hz,rfl⟩,fun ⟨_,q⟩=> ?_⟩
    obtain⟨j,hj,rfl⟩:=List.getElem_of_mem hz
    have:=(b4 (j+1) (by simp;omega)).2.2.2.1 0 (by omega)
    dsimp only at this
    rw [qp7,qtf,qo hj]at this
    exact this q.symm
   ·rintro ⟨⟨z,hz,rfl⟩,q⟩
    rcases List.mem_cons.1 hz with rfl|hz
    ·exact absurd ⟨rfl,rfl⟩ q
    ·exact⟨z,hz,rfl⟩
 ·rw [if_neg hl]at e ⊢
  refine⟨fun b=>(e b).trans ⟨fun z=>⟨z,fun q=>(by cases q.1)⟩,fun z=>z.1⟩,fun q=>(by cases q)⟩
end Go.Proofs.YtpmjopbgccajgaaGreat.Eng
namespace Go.Proofs.YtpmjopbgccajgaaGreat.Eng
theorem q0cq (x:qu):(cs1 x).length=x.2.2.2.2.2.2.2.2.2.2.2.2.2.2.2.2.1.length:=by unfold cs1;split<;>simp
theorem q0sj {x:qu} {i:Nat} (hi:i<x.2.2.2.2.2.2.2.2.2.2.2.2.2.2.2.2.1.length) (hb:(lvB x).2.2.1=true→1≤(lvB x).2.1):rdP (0,0,0,0,0,0,0,0,0,0,()) (cs1 x) i=if (lvB x).2.2.1=true∧(i:Int)+1=(lvB x).2.1 then scrd (rdP (0,0,0,0,0,0,0,0,0,0,()) x.2.2.2.2.2.2.2.2.2.2.2.2.2.2.2.2.1 i) (x.1+1)else rdP (0,0,0,0,0,0,0,0,0,0,()) x.2.2.2.2.2.2.2.2.2.2.2.2.2.2.2.2.1 i:=by
 unfold cs1
 by_cases hl:(lvB x).2.2.1=true
 ·have:=hb hl
  rw [if_pos hl]
  by_cases e:q6 ((lvB x).2.1-1)=i
  ·rw [e,q6y hi,if_pos ⟨hl,by unfold q6 at e;omega⟩]
  ·rw [q9l e,if_neg (fun z=>e (by unfold q6;omega))]
 ·rw [if_neg hl,if_neg (fun z=>hl z.1)]
theorem q0pj {x:qu} (h:q1y x) (hn:x.1+1≤100000):q1y (q04b x):=by
 have hx:=h
 obtain⟨h1,h2,h3,h4,h5,h6,h7,h8,h9,h10,h11,h12,h13,h14,h15⟩:=hx
 obtain⟨b1,b2,b3⟩:=quz h4
 have h5':q1n (qv x):=h5
 obtain⟨s1,s2,s3,s4⟩:=qsv h5'
 have sok:=qr0 h5'
 have hbag:(lvB x).2.2.1=true→1≤(lvB x).2.1∧(lvB x).2.1≤x.2.2.2.2.2.2.2.2.2.2.2.2.2.2.2.2.1.length:=by
  intro hl
  obtain⟨y,hy,e⟩:=b3 hl
  have hu:=h12 y hy
  obtain⟨j,hj,ej⟩:=List.getElem_of_mem hy
  have:=(h4.2.2.2 j hj).1
  dsimp only at this
  rw [qo hj,ej]at this
  rw [←e];exact⟨this,hu⟩
 have hlp:∀b∈q22 (q21 (qv x)).2.2.1,1≤b.1:=fun b hb=>sok.2.2.2.2.2.2.1 b (List.mem_append_right _ hb)
 have hlen:(qbq (q22 (q21 (qv x)).2.2.1) (cs1 x)).length=x.2.2.2.2.2.2.2.2.2.2.2.2.2.2.2.2.1.length:=by rw [qsi,q0cq]
 have hpt:∀i,i<x.2.2.2.2.2.2.2.2.2.2.2.2.2.2.2.2.1.length→rdP (0,0,0,0,0,0,0,0,0,0,()) (qbq (q22 (q21 (qv x)).2.2.1) (cs1 x)) i=if ((i:Int)+1,())∈q22 (q21 (qv x)).2.2.1 then qi2 (if (lvB x).2.2.1=true∧(i:Int)+1=(lvB x).2.1 then scrd (rdP (0,0,0,0,0,0,0,0,0,0,()) x.2.2.2.2.2.2.2.2.2.2.2.2.2.2.2.2.1 i) (x.1+1)else rdP (0,0,0,0,0,0,0,0,0,0,()) x.2.2.2.2.2.2.2.2.2.2.2.2.2.2.2.2.1 i) 4 else(if (lvB x).2.2.1=true∧(i:Int)+1=(lvB x).2.1 then scrd (rdP (0,0,0,0,0,0,0,0,0,0,()) x.2.2.2.2.2.2.2.2.2.2.2.2.2.2.2.2.1 i) (x.1+1)else rdP (0,0,0,0,0,0,0,0,0,0,()) x.2.2.2.2.2.2.2.2.2.2.2.2.2.2.2.2.1 i):=by
  intro i hi
  rw [q0i1 _ _ _ (by rw [q0cq];exact hi) hlp,q0sj hi (fun z=>(hbag z).1)]
 have htag:∀i,i<x.2.2.2.2.2.2.2.2.2.2.2.2.2.2.2.2.1.length→(rdP (0,0,0,0,0,0,0,0,0,0,()) (qbq (q22 (q21 (qv x)).2.2.1) (cs1 x)) i).1=(rdP (0,0,0,0,0,0,0,0,0,0,()) x.2.2.2.2.2.2.2.2.2.2.2.2.2.2.2.2.1 i).1∧(rdP (0,0,0,0,0,0,0,0,0,0,()) (qbq (q22 (q21 (qv x)).2.2.1) (cs1 x)) i).2.1=(rdP (0,0,0,0,0,0,0,0,0,0,()) x.2.2.2.2.2.2.2.2.2.2.2.2.2.2.2.2.1 i).2.1∧(rdP (0,0,0,0,0,0,0,0,0,0,()) (qbq (q22 (q21 (qv x)).2.2.1) (cs1 x)) i).2.2.1=(rdP (0,0,0,0,0,0,0,0,0,0,()) x.2.2.2.2.2.2.2.2.2.2.2.2.2.2.2.2.1 i).2.2.1:=by
  intro i hi
  rw [hpt i hi]
  split<;>split<;>exact⟨rfl,rfl,rfl⟩
 refine⟨by show 0≤x.1+1∧x.1+1≤100000;omega,h2,h3,b1,sok,h6,h7,h8,by show (qbq _ _).length≤60;rw [hlen];exact h9,by show ∀f∈x.2.2.2.2.2.2.2.2.2.2.2.2.2.2.2.1,qfp (q21 (qv x)).2.2.1.length f;rw [s4];exact h10,fun i hi=> ?_,fun y hy=> ?_,fun y hy=> ?_,fun c hc y hy=> ?_,fun l hl y hy=> ?_⟩
 ·have hi:i<x.2.2.2.2.2.2.2.2.2.2.2.2.2.2.2.2.1.length:=by rw [←hlen];exact hi
  obtain⟨c1,c2,c3,c4,c5,c6,c7,c8,c9,c10,c11,c12,c13,c14⟩:=h11 i hi
  have c12':((i:Int)+1,())∈(qv x).1↔(rdP (0,0,0,0,0,0,0,0,0,0,()) x.2.2.2.2.2.2.2.2.2.2.2.2.2.2.2.2.1 i).2.2.2.2.2.2.1=3:=c12
  have c13':InC (qv x) ((i:Int)+1)↔(rdP (0,0,0,0,0,0,0,0,0,0,()) x.2.2.2.2.2.2.2.2.2.2.2.2.2.2.2.2.1 i).2.2.2.2.2.2.1=4:=c13
  have hs1:=s1 ((i:Int)+1)
  have hs2:=s2 ((i:Int)+1)
  have hs3:=s3 ((i:Int)+1)
  have hb2:=b2 ((i:Int)+1)
  have tags:∀j,j<i→¬((rdP (0,0,0,0,0,0,0,0,0,0,()) (qbq (q22 (q21 (qv x)).2.2.1) (cs1 x)) j).1=(rdP (0,0,0,0,0,0,0,0,0,0,()) x.2.2.2.2.2.2.2.2.2.2.2.2.2.2.2.2.1 i).1∧(rdP (0,0,0,0,0,0,0,0,0,0,()) (qbq (q22 (q21 (qv x)).2.2.1) (cs1 x)) j).2.1=(rdP (0,0,0,0,0,0,0,0,0,0,()) x.2.2.2.2.2.2.2.2.2.2.2.2.2.2.2.2.1 i).2.1∧(rdP (0,0,0,0,0,0,0,0,0,0,()) (qbq (q22 (q21 (qv x)).2.2.1) (cs1 x)) j).2.2.1=(rdP (0,0,0,0,0,0,0,0,0,0,()) x.2.2.2.2.2.2.2.2.2.2.2.2.2.2.2.2.1 i).2.2.1):=by
   intro j hj
   obtain⟨t1,t2,t3⟩:=htag j (by omega)
   rw [t1,t2,t3]
   exact c6 j hj
  show q08o (q04b x) i (rdP (0,0,0,0,0,0,0,0,0,0,()) (qbq (q22 (q21 (qv x)).2.2.1) (cs1 x)) i)
  rw [hpt i hi]
  by_cases hl:(lvB x).2.2.1=true∧(i:Int)+1=(lvB x).2.1
  ·rw [if_pos hl]
   have hp:(rdP (0,0,0,0,0,0,0,0,0,0,()) x.2.2.2.2.2.2.2.2.2.2.2.2.2.2.2.2.1 i).2.2.2.2.2.2.1=1:=by
    refine c11.1 ?_
    rw [hl.2];exact b3 hl.1
   have hno:¬InC (q21 (qv x)) ((i:Int)+1):=by
    intro z
    rcases hs1.1 (.inr z)with⟨z,_⟩|z
    ·have:=c12'.1 z;omega
    ·have:=c13'.1 z;omega
   have hnt:((i:Int)+1,())∉(q21 (qv x)).1:=by
    intro z
    rcases hs1.1 (.inl ⟨z,by omega⟩)with⟨z,_⟩|z
    ·have:=c12'.1 z;omega
    ·have:=c13'.1 z;omega
   rw [if_neg (fun z=>hno (qcs.1 z))]
   refine⟨c1,c2,c3,c4,by show (1:Int)≤2∧(2:Int)≤7;omega,tags,?_,?_,?_,?_,iff_of_false (fun z=>(hb2.1 z).2 hl) ?_,iff_of_false hnt ?_,iff_of_false hno ?_,iff_of_false (fun z=> ?_) ?_⟩
   ·rw [if_neg (show ¬(scrd (rdP (0,0,0,0,0,0,0,0,0,0,()) x.2.2.2.2.2.2.2.2.2.2.2.2.2.2.2.2.1 i) (x.1+1)).2.2.2.2.2.2.1=1 by show ¬(2:Int)=1;omega)]
    refine⟨⟨by show (1:Int)≤1∧(1:Int)≤4;omega,by show 0≤x.1+1∧x.1+1≤100000;omega,.inl rfl⟩,?_⟩
    show x.1+1≤x.1+1;omega
   ·intro _;show (2:Int)≠3∧(2:Int)≠4∧(2:Int)≠5∧(2:Int)≠6;omega
   ·rintro ⟨_,z⟩;have z:(0:Int)=2:=z;omega
   ·intro z;have z:(2:Int)=6:=z;omega
   ·show ¬(2:Int)=1;omega
   ·show ¬(2:Int)=3;omega
   ·show ¬(2:Int)=4;omega
   ·have:=c14.1 z;omega
   ·show ¬(2:Int)=5;omega
  ·rw [if_neg hl]
   have hbelt:(∃y,y∈(q23 (lvB x).1).2.2.2.1∧y.1=(i:Int)+1)↔(rdP (0,0,0,0,0,0,0,0,0,0,()) x.2.2.2.2.2.2.2.2.2.2.2.2.2.2.2.2.1 i).2.2.2.2.2.2.1=1:=by
    rw [hb2,c11]
    exact⟨fun z=>z.1,fun z=>⟨z,hl⟩⟩
   have hscr:∀p:Int,p≠1→(rdP (0,0,0,0,0,0,0,0,0,0,()) x.2.2.2.2.2.2.2.2.2.2.2.2.2.2.2.2.1 i).2.2.2.2.2.2.1≠1→q3y ((rdP (0,0,0,0,0,0,0,0,0,0,()) x.2.2.2.2.2.2.2.2.2.2.2.2.2.2.2.2.1 i).2.2.2.2.2.2.2.1,(rdP (0,0,0,0,0,0,0,0,0,0,()) x.2.2.2.2.2.2.2.2.2.2.2.2.2.2.2.2.1 i).2.2.2.2.2.2.2.2.1,(rdP (0,0,0,0,0,0,0,0,0,0,()) x.2.2.2.2.2.2.2.2.2.2.2.2.2.2.2.2.1 i).2.2.2.2.2.2.2.2.2.1,())∧(rdP (0,0,0,0,0,0,0,0,0,0,()) x.2.2.2.2.2.2.2.2.2.2.2.2.2.2.2.2.1 i).2.2.2.2.2.2.2.2.1≤x.1+1:=by
    intro p _ hp
    rw [if_neg hp]at c7
    exact⟨c7.1,by have:=c7.2;omega⟩
   by_cases hin:InC (q21 (qv x)) ((i:Int)+1)
   ·rw [if_pos (qcs.2 hin)]
    have hp:(rdP (0,0,0,0,0,0,0,0,0,0,()) x.2.2.2.2.2.2.2.2.2.2.2.2.2.2.2.2.1 i).2.2.2.2.2.2.1=3∨(rdP (0,0,0,0,0,0,0,0,0,0,()) x.2.2.2.2.2.2.2.2.2.2.2.2.2.2.2.2.1 i).2.2.2.2.2.2.1=4:=by
     rcases hs1.1 (.inr hin)with⟨z,_⟩|z
     ·exact .inl (c12'.1 z)
     ·exact .inr (c13'.1 z)
    have hv:(rdP (0,0,0,0,0,0,0,0,0,0,()) x.2.2.2.2.2.2.2.2.2.2.2.2.2.2.2.2.1 i).2.2.2.2.2.2.2.2.2.1=1:=by
     by_cases e:(rdP (0,0,0,0,0,0,0,0,0,0,()) x.2.2.2.2.2.2.2.2.2.2.2.2.2.2.2.2.1 i).2.2.2.2.2.2.2.2.2.1=1
     ·exact e
     ·have:=c8 e;omega
    refine⟨c1,c2,c3,c4,by show (1:Int)≤4∧(4:Int)≤7;omega,tags,?_,fun z=>absurd hv z,?_,?_,?_,iff_of_false (hs3 hin) ?_,iff_of_true hin rfl,iff_of_false (fun z=> ?_) ?_⟩
    ·rw [if_neg (show ¬(qi2 (rdP (0,0,0,0,0,0,0,0,0,0,()) x.2.2.2.2.2.2.2.2.2.2.2.2.2.2.2.2.1 i) 4).2.2.2.2.2.2.1=1 by show ¬(4:Int)=1;omega)]
     exact hscr 4 (by omega) (by omega)
    ·rintro ⟨z,_⟩;have z:(4:Int)=2:=z;omega
    ·intro z;have z:(4:Int)=6:=z;omega
    ·exact hbelt.trans (iff_of_false (by omega) (by show ¬(4:Int)=1;omega))
    ·show ¬(4:Int)=3;omega
    ·have:=c14.1 z;omega
    ·show ¬(4:Int)=5;omega
   ·rw [if_neg (fun z=>hin (qcs.1 z))]
    refine⟨c1,c2,c3,c4,c5,tags,?_,c8,c9,c10,hbelt,?_,?_,c14⟩
    ·by_cases hp:(rdP (0,0,0,0,0,0,0,0,0,0,()) x.2.2.2.2.2.2.2.2.2.2.2.2.2.2.2.2.1 i).2.2.2.2.2.2.1=1
     ·rw [if_pos hp]at c7 ⊢;exact c7
     ·rw [if_neg hp];exact hscr 0 (by omega) hp
    ·rw [←c12]
     constructor
     ·intro z
      rcases hs1.1 (.inl ⟨z,by omega⟩)with⟨z,_⟩|z
      ·exact z
      ·exact absurd (hs2 z) hin
     ·intro z
      rcases hs1.2 (.inl ⟨z,by omega⟩)with⟨z,_⟩|z
      ·exact z
      ·exact absurd z hin
    ·rw [←c13]
     exact⟨fun z=>absurd z hin,fun z=>absurd (hs2 z) hin⟩
 ·show y.1≤((qbq (q22 (q21 (qv x)).2.2.1) (cs1 x)).length:Int)
  rw [hlen]
  obtain⟨⟨z,hz,e⟩,_⟩:=(b2 y.1).1 ⟨y,hy,rfl⟩
  rw [←e];exact h12 z hz
 ·show y.1≤((qbq (q22 (q21 (qv x)).2.2.1) (cs1 x)).length:Int)
  rw [hlen]
  by_cases e:y.1=0
  ·omega
  ·rcases (s1 y.1).1 (.inl ⟨hy,e⟩)with⟨z,_⟩|⟨c,hc,z⟩
   ·exact h13 _ z
   ·exact h14 c hc _ z
 ·show y.1≤((qbq (q22 (q21 (qv x)).2.2.1) (cs1 x)).length:Int)
  rw [hlen]
  rcases (s1 y.1).1 (.inr ⟨c,hc,hy⟩)with⟨z,_⟩|⟨c,hc,z⟩
  ·exact h13 _ z
  ·exact h14 c hc _ z
 ·show y.1≤((qbq (q22 (q21 (qv x)).2.2.1) (cs1 x)).length:Int)
  rw [hlen]
  exact h15 l hl y hy
theorem q04c {k:Nat} (hk:K0≤k) (x:qu) (h:q1y x):q7x k x=some (q04b x,()):=by
 have hs:=q4w h
 have hx:=h
 obtain⟨h1,h2,h3,h4,h5,h6,h7,h8,h9,h10,h11,h12,h13,h14,h15⟩:=hx
 obtain⟨b1,b2,b3⟩:=quz h4
 have h5':q1n (qv x):=h5
 obtain⟨s1,s2,s3,s4⟩:=qsv h5'
 have sok:=qr0 h5'
 have hbag:(lvB x).2.2.1=true→1≤(lvB x).2.1∧(lvB x).2.1≤x.2.2.2.2.2.2.2.2.2.2.2.2.2.2.2.2.1.length:=by
  intro hl
  obtain⟨y,hy,e⟩:=b3 hl
  have hu:=h12 y hy
  obtain⟨j,hj,ej⟩:=List.getElem_of_mem hy
  have:=(h4.2.2.2 j hj).1
  dsimp only at this
  rw [qo hj,ej]at this
  rw [←e];exact⟨this,hu⟩
 have hlu:∀b:Int,(b,())∈q22 (q21 (qv x)).2.2.1→1≤b∧b≤x.2.2.2.2.2.2.2.2.2.2.2.2.2.2.2.2.1.length:=by
  intro b hb
  refine⟨sok.2.2.2.2.2.2.1 (b,()) (List.mem_append_right _ hb),?_⟩
  rcases (s1 b).1 (.inr (qcs.1 hb))with⟨z,_⟩|⟨c,hc,z⟩
  ·exact h13 _ z
  ·exact h14 c hc _ z
 have hcl:=hs.cases_
 have hsz:=qcw sok
 have e1:=q48 hk x hs
 have e2:qbw k (x.2.2.2.2.1,x.2.2.2.2.2.1,x.2.2.2.2.2.2.1,x.2.2.2.2.2.2.2.1,())=some (lvB x):=q0db hk (x.2.2.2.2.1,x.2.2.2.2.2.1,x.2.2.2.2.2.2.1,x.2.2.2.2.2.2.2.1,()) (q0cv h4)
 have e3:q84 k ((lvB x).1.1,(lvB x).1.2.1,(lvB x).1.2.2.1,(lvB x).1.2.2.2.1,())=some (q23 (lvB x).1,()):=q04j hk (lvB x).1 (q0aw h4)
 have e4:q82 k (x.2.2.2.2.2.2.2.2.1,x.2.2.2.2.2.2.2.2.2.1,x.2.2.2.2.2.2.2.2.2.2.1,x.2.2.2.2.2.2.2.2.2.2.2.1,())=some (q21 (qv x),()):=q04h hk (qv x) h5' (qcw h5')
 have hk':=hk
 unfold K0 at hk
 have hcs:=q0cq x
 unfold q7x;delta W0 W3
 rw [e1,q00]
 dsimp only
 rw [e2,q00]
 have tail:∀(J:List q45×Unit→Option (qu×Unit)),J (cs1 x,())=some (q04b x,())→(q9 J fun j4=>br (lvB x).2.2.1 (br (inR (qp .i64 (lvB x).2.1 1) (ln x.2.2.2.2.2.2.2.2.2.2.2.2.2.2.2.2.1)) (q9 (rdP (0,0,0,0,0,0,0,0,0,0,()) x.2.2.2.2.2.2.2.2.2.2.2.2.2.2.2.2.1 (q6 (qp .i64 (lvB x).2.1 1))) fun e16=>q9 (upd x.2.2.2.2.2.2.2.2.2.2.2.2.2.2.2.2.1 (q6 (qp .i64 (lvB x).2.1 1)) (e16.1,e16.2.1,e16.2.2.1,e16.2.2.2.1,e16.2.2.2.2.1,e16.2.2.2.2.2.1,2,e16.2.2.2.2.2.2.2)) fun l17=>br (inR (qp .i64 (lvB x).2.1 1) (ln l17)) (q9 (rdP (0,0,0,0,0,0,0,0,0,0,()) l17 (q6 (qp .i64 (lvB x).2.1 1))) fun e18=>q9 (upd l17 (q6 (qp .i64 (lvB x).2.1 1)) (e18.1,e18.2.1,e18.2.2.1,e18.2.2.2.1,e18.2.2.2.2.1,e18.2.2.2.2.2.1,e18.2.2.2.2.2.2.1,1,(qg .i64 x.1 1),0,e18.2.2.2.2.2.2.2.2.2.2)) fun l19=>j4 (l19,())) none) none) (j4 (x.2.2.2.2.2.2.2.2.2.2.2.2.2.2.2.2.1,())))=some (q04b x,()):=by
  intro J hJ
  rw [qk]
  cases hl:(lvB x).2.2.1 with
  |true=>
   obtain⟨g1,g2⟩:=hbag hl
   have hn:q6 ((lvB x).2.1-1)<x.2.2.2.2.2.2.2.2.2.2.2.2.2.2.2.2.1.length:=by unfold q6;omega
   rw [qec]
   simp (disch:=omega) only [evs,qi,List.length_set,q6y,List.set_set,q0h]
   rw [←hJ]
   unfold cs1
   rw [if_pos hl]
   rfl
  |false=>
   rw [qi1,←hJ]
   unfold cs1
   rw [if_neg (by rw [hl];exact Bool.noConfusion)]
 refine tail _ ?_
 dsimp only
 rw [e3,q00]
 dsimp only
 rw [e4,q00]
 generalize hLe:q21 (qv x)=L at*
 refine q08 (n:=L.2.2.1.length) (fun i=>(qbq (q22 (L.2.2.1.take i)) (cs1 x),(i:Int),())) (by simp [q22];rfl) (fun i hi rec=> ?_) (fun rec=> ?_) (by have:=hsz.chutes;omega)
 ·refine(lt_t hi _ _).trans ?_
  have hlc:=hsz.chutes
  have hbl:=hsz.bags _ (by rw [qo hi];exact List.getElem_mem hi:rdP (0,0,[],()) L.2.2.1 i∈L.2.2.1)
  refine q08 (n:=(rdP (0,0,[],()) L.2.2.1 i).2.2.1.length) (fun j=>(qbq (q22 (L.2.2.1.take i)++(rdP (0,0,[],()) L.2.2.1 i).2.2.1.take j) (cs1 x),(j:Int),())) (by simp) (fun j hj rec2=> ?_) (fun rec2=> ?_) (by omega)
  ·have hm:rdP (0,()) (rdP (0,0,[],()) L.2.2.1 i).2.2.1 j∈(rdP (0,0,[],()) L.2.2.1 i).2.2.1:=by rw [qo hj];exact List.getElem_mem hj
   have hb:=hlu (rdP (0,()) (rdP (0,0,[],()) L.2.2.1 i).2.2.1 j).1 (qcs.2 ⟨_,by rw [qo hi];exact List.getElem_mem hi,hm⟩)
   have hl4:∀a,(qbq a (cs1 x)).length=x.2.2.2.2.2.2.2.2.2.2.2.2.2.2.2.2.1.length:=fun a=>by rw [qsi,hcs]
   have hlt:=hl4 (q22 (L.2.2.1.take i)++(rdP (0,0,[],()) L.2.2.1 i).2.2.1.take j)
   rw [q7b (d:=(0,())) hj,←List.append_assoc,q03q (q22 (L.2.2.1.take i)++(rdP (0,0,[],()) L.2.2.1 i).2.2.1.take j)]
   generalize qbq (q22 (L.2.2.1.take i)++(rdP (0,0,[],()) L.2.2.1 i).2.2.1.take j) (cs1 x)=cs at*
   simp (disch:=omega) only [evs,qi]
   rfl
  ·rw [List.take_length,←qry hi]
   simp (disch:=omega) only [evs]
   rfl
 ·rw [List.take_length]
  refine(lt_e _ _).trans ?_
  unfold q04b
  rw [hLe]
  simp (disch:=omega) only [evs,q0h]
end Go.Proofs.YtpmjopbgccajgaaGreat.Eng
