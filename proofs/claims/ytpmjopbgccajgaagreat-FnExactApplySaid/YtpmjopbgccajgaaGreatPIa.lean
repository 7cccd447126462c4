/- Belts and screens: what the program's functions compute. No condition. -/
import Derived.Test.YtpmjopbgccajgaaGreatPE
import Derived.Test.YtpmjopbgccajgaaGreatD
namespace Go.Proofs.YtpmjopbgccajgaaGreat.Eng
set_option linter.unusedVariables false
set_option linter.unusedSimpArgs false
theorem qus {k:Nat} (hk:K0≤k) (b:qed):q4i k b=some (q0ci b,()):=by
 have h2:q2n k (b.1,b.2.1,b.2.2.1,b.2.2.2.1,())=q0i (qae b):=qik hk b
 unfold q4i q0ci;delta W0
 rw [h2,qj,qq]
 by_cases hP:qae b
 case neg=>rw [qa hP,if_neg hP]
 rw [q8 hP,if_pos hP]
 obtain⟨h3,h4,h5,h6⟩:=hP
 by_cases h0:b.2.2.2.1.length=0
 ·rw [if_pos h0];simp (disch:=omega) only [evs]
 ·rw [if_neg h0]
  obtain⟨a1,a2,a3,a4,a5⟩:=h6 (b.2.2.2.1.length-1) (by omega)
  have hn:q6 ((b.2.2.2.1.length:Int)-1)=b.2.2.2.1.length-1:=by unfold q6;omega
  simp (disch:=omega) only [evs,qi,hn]
theorem q0en {k:Nat} (hk:K0≤k) (b:qed) (bag size:Int) (hs:q0mn b):q9d k b bag size=some (qa2 b bag size):=by
 have h1:q2j k (b.1,b.2.1,b.2.2.1,b.2.2.2.1,())=some (b,()):=qk5 k b hs
 have h2:q2n k (b.1,b.2.1,b.2.2.1,b.2.2.2.1,())=q0i (qae b):=qik hk b
 have h3:q4i k (b.1,b.2.1,b.2.2.1,b.2.2.2.1,())=some (q0ci b,()):=qus hk b
 have hs':b.2.2.2.1.length≤1048576:=hs
 have h4:=q02z hk b.2.2.2.1 bag hs'
 have f1:=qny ((bag,size,size,()):qnw) hs'
 unfold q9d;delta W0
 rw [h1,q00,h2,qj,qq]
 by_cases hP:qae b
 case neg=>rw [qa hP,qa2,if_neg (fun z=>hP z.1)]
 rw [q8 hP,qn]
 by_cases h5:bag<1
 case pos=>rw [q8 h5,qa2,if_neg (fun z=>absurd z.2.1 (by omega))]
 rw [qa h5,h4,qj]
 by_cases h6:∃y,y∈b.2.2.2.1∧y.1=bag
 case pos=>
  rw [q8 h6,qa2,if_neg]
  intro z
  obtain⟨y,hy,e⟩:=h6
  obtain⟨j,hj,rfl⟩:=List.getElem_of_mem hy
  refine z.2.2.2.2.2 j hj ?_
  rw [qo hj];exact e
 rw [qa h6]
 by_cases h7:1≤size∧size≤60
 case neg=>
  rw [qa2,if_neg (fun z=>h7 z.2.2.1)]
  by_cases h8:size<1<;>simp (disch:=omega) only [evs]
 by_cases h8:b.2.2.2.1.length<40
 case neg=>rw [qa2,if_neg (fun z=>h8 z.2.2.2.1)];simp (disch:=omega) only [evs]
 by_cases h9:size≤q0ci b
 case neg=>rw [qa2,if_neg (fun z=>h9 z.2.2.2.2.1)];simp (disch:=omega) only [evs,h3]
 rw [qa2,if_pos ⟨hP,by omega,h7,h8,h9,fun i hi e=>h6 ⟨_,by rw [qo hi];exact List.getElem_mem hi,e⟩⟩]
 simp (disch:=omega) only [evs,h3,f1]
theorem q0ek {k:Nat} (hk:K0≤k) (b:qed) (hs:q0mn b):qc3 k b=some (qgf b):=by
 have h1:q2j k (b.1,b.2.1,b.2.2.1,b.2.2.2.1,())=some (b,()):=qk5 k b hs
 have h2:q2n k (b.1,b.2.1,b.2.2.1,b.2.2.2.1,())=q0i (qae b):=qik hk b
 have hs':b.2.2.2.1.length≤1048576:=hs
 unfold qc3;delta W0
 rw [h1,q00,h2,qj,qq]
 by_cases hP:qae b
 case neg=>rw [qa hP,qgf,if_neg (fun z=>hP z.1)]
 rw [q8 hP]
 by_cases hh:b.2.2.1=true
 case pos=>
  rw [qgf,if_neg (fun z=>absurd (z.2.1.symm.trans hh) (by simp))]
  dsimp only;rw [q0sl hh]
 have hh':b.2.2.1=false:=by cases e:b.2.2.1 with|true=>exact absurd e hh|false=>rfl
 dsimp only
 rw [q0sm hh']
 have e0:q6 0=0:=rfl
 have e1:q6 1=1:=rfl
 by_cases hl:b.2.2.2.1.length=0
 ·rw [qgf,if_neg (fun z=>z.2.2.1 (List.eq_nil_of_length_eq_zero hl))]
  simp (disch:=omega) only [evs]
 ·by_cases hf:b.1≤(rdP (0,0,0,()) b.2.2.2.1 0).2.1
  ·rw [qgf,if_pos ⟨hP,hh',fun z=>hl (by rw [z];rfl),hf⟩]
   simp (disch:=omega) only [evs,e0,e1]
  ·rw [qgf,if_neg (fun z=>hf z.2.2.2)]
   simp (disch:=omega) only [evs,e0]
theorem q079 {k:Nat} (hk:K0≤k) (b:qed) (h:qae b):∃n:Int,q88 k b=some (n,q23 b,()):=by
 have key:=q0fg h
 obtain⟨h1,h2,h3,h4⟩:=h
 unfold K0 at hk
 have hlen:(q23 b).2.2.2.1.length=b.2.2.2.1.length:=qr1 _ _ _
 unfold q88
 rw [qk,q2y]
 obtain⟨most,hm0⟩:∃most:Nat→Int,∀i,most i=if i=0 then b.1 else(rdP (0,0,0,()) (q23 b).2.2.2.1 (i-1)).2.1-(rdP (0,0,0,()) (q23 b).2.2.2.1 (i-1)).2.2.1-b.2.1:=⟨_,fun _=>rfl⟩
 show (fun r=>∃n:Int,r=some (n,q23 b,())) _
 dsimp only
 refine qcu (P:=fun r=>∃n:Int,r=some (n,q23 b,())) (n:=b.2.2.2.1.length) (fun i (c:List qnw×Int×Int×Int×Unit)=>c.1=qnu b.2.2.2.1 (q23 b).2.2.2.1 i∧0≤c.2.1∧c.2.1≤i∧c.2.2.1=most i∧c.2.2.2.1=(i:Int)) ⟨by simp [qnu],Int.le_refl _,Int.le_refl _,by rw [hm0];rfl,rfl⟩ ?_ ?_ (by omega)
 ·rintro i ⟨c,n,m,i',u⟩ rec hi ⟨q1,q2,q3,q4,q5⟩
  dsimp only at q1 q2 q3 q4 q5
  subst q1;subst q4;subst q5
  have hl:=qsg hlen i (by omega)
  have hl':=qsg hlen (i+1) (by omega)
  have ha:=q0cg (d:=(0,0,0,())) hlen hi
  have hst:=qys (d:=(0,0,0,())) hlen hi
  have hb:=q03n (d:=(0,0,0,())) hlen (i:=i+1) (j:=i) (by omega) (by omega)
  obtain⟨⟨b1,b2⟩,b3,b4,b5⟩:=key i hi
  obtain⟨a1,a2,a3,a4,a5⟩:=h4 i hi
  have hms:most (i+1)=(rdP (0,0,0,()) (q23 b).2.2.2.1 i).2.1-(rdP (0,0,0,()) (q23 b).2.2.2.1 i).2.2.1-b.2.1:=by rw [hm0,if_neg (by omega),Nat.add_sub_cancel]
  have e:rdP (0,0,0,()) (q23 b).2.2.2.1 i=qns (most i) (rdP (0,0,0,()) b.2.2.2.1 i):=by
   cases i with
   |zero=>rw [hm0,if_pos rfl];exact q09s _ _ hi
   |succ i=>rw [hm0,if_neg (by omega),Nat.add_sub_cancel];exact q09r _ _ _ i hi
  have same:∀y:qnw,y=rdP (0,0,0,()) b.2.2.2.1 i→(qnu b.2.2.2.1 (q23 b).2.2.2.1 i).set i y=qnu b.2.2.2.1 (q23 b).2.2.2.1 i:=by
   rintro y rfl
   rw [←ha,qo (by omega)]
   exact List.set_getElem_self _
  by_cases hlt:(rdP (0,0,0,()) b.2.2.2.1 i).2.1<most i
  ·have e2:rdP (0,0,0,()) (q23 b).2.2.2.1 i=((rdP (0,0,0,()) b.2.2.2.1 i).1,(rdP (0,0,0,()) b.2.2.2.1 i).2.1+1,(rdP (0,0,0,()) b.2.2.2.1 i).2.2):=by rw [e,qns,if_pos hlt]
   rw [e2]at hst hb hms
   refine⟨(qnu b.2.2.2.1 (q23 b).2.2.2.1 (i+1),n+1,most (i+1),((i+1:Nat):Int),()),⟨rfl,by dsimp only;omega,by dsimp only;omega,rfl,rfl⟩,?_⟩
   have hst':(qnu b.2.2.2.1 (q23 b).2.2.2.1 i).set i ((rdP (0,0,0,()) b.2.2.2.1 i).1,(rdP (0,0,0,()) b.2.2.2.1 i).2.1+1,(rdP (0,0,0,()) b.2.2.2.1 i).2.2)=qnu b.2.2.2.1 (q23 b).2.2.2.1 (i+1):=hst
   rw [hms]
   generalize qnu b.2.2.2.1 (q23 b).2.2.2.1 i=c at*
   generalize qnu b.2.2.2.1 (q23 b).2.2.2.1 (i+1)=c' at*
   (try dsimp only at hb)
   simp (disch:=omega) only [evs,hl,hl',ha,qi,q0h,hst',hb]
   rfl
  ·have e2:rdP (0,0,0,()) (q23 b).2.2.2.1 i=rdP (0,0,0,()) b.2.2.2.1 i:=by rw [e,qns,if_neg hlt]
   rw [e2]at hst hms hb
   have e3:qnu b.2.2.2.1 (q23 b).2.2.2.1 (i+1)=qnu b.2.2.2.1 (q23 b).2.2.2.1 i:=by rw [←hst];exact same _ rfl
   refine⟨(qnu b.2.2.2.1 (q23 b).2.2.2.1 (i+1),n,most (i+1),((i+1:Nat):Int),()),⟨rfl,by dsimp only;omega,by dsimp only;omega,rfl,rfl⟩,?_⟩
   rw [hms,e3]
   generalize qnu b.2.2.2.1 (q23 b).2.2.2.1 i=c at*
   simp (disch:=omega) only [evs,hl,ha,qi,q0h]
   rfl
 ·rintro ⟨c,n,m,i',u⟩ rec ⟨q1,q2,q3,q4,q5⟩
  dsimp only at q1 q2 q3 q4 q5
  subst q1;subst q4;subst q5
  rw [qyt hlen]
  refine⟨n,?_⟩
  simp (disch:=omega) only [evs]
  rfl
theorem q0ca {k:Nat} (hk:K0≤k) (w:List (Int×Unit)×Unit) (s:ScrT) (now:Int):qa0 k w s now=some (q1x w.1 s now,()):=by
 have h1:q2m k (w.1,())=q0i (q8j w.1):=qkc hk w
 have h2:q2l k (s.1,s.2.1,s.2.2.1,())=q0i (q3y s):=qk8 k s
 unfold K0 at hk
 unfold qa0;delta W2
 rw [h1,qj,qq]
 by_cases hP:q8j w.1
 case neg=>rw [qa hP,q1x,if_neg (fun z=>hP z.1)]
 rw [q8 hP,h2,qj,qq]
 by_cases hS:q3y s
 case neg=>rw [qa hS,q1x,if_neg (fun z=>hS z.2.1)]
 rw [q8 hS,q9s,qj,qq]
 by_cases hN:0≤now∧now≤100000
 case neg=>rw [qa hN,q1x,if_neg (fun z=>hN z.2.2.1)]
 rw [q8 hN,qk]
 by_cases hv:s.2.2.1=0
 case neg=>
  rw [q1x,if_neg (fun z=>hv z.2.2.2)]
  refine q08 (n:=0) (fun _=>(s.1,s.2.1,())) rfl (fun i hi=>absurd hi (by omega)) (fun rec=> ?_) (by omega)
  rw [q02,qa hv]
 rw [q1x,if_pos ⟨hP,hS,hN,hv⟩]
 have hl:=hP.1
 obtain⟨⟨s1,s2⟩,⟨s3,s4⟩,s5⟩:=hS
 obtain⟨c1,c2,c3⟩:=q0cm w.1 now s.1 s.2.1 s1
 refine q08 (n:=elN w.1 now s.1 s.2.1) (fun i=>(s.1+i,qpi w.1 s.1 s.2.1 i,())) (by simp [qpi]) (fun i hi rec=> ?_) (fun rec=> ?_) (by omega)
 ·obtain⟨d1,d2⟩:=c1 i hi
  obtain⟨b1,b2⟩:=quu hP (sn:=s.2.1) s1 i (by omega)
  have b3:=q0kq hP (i:=q6 (s.1+i-1)) (by unfold q6;omega)
  simp (disch:=omega) only [evs,qi,q0h]
  congr 2
  omega
 ·by_cases d1:s.1+(elN w.1 now s.1 s.2.1:Int)<4
  ·obtain⟨b1,b2⟩:=quu hP (sn:=s.2.1) s1 (elN w.1 now s.1 s.2.1) (by omega)
   have d2:¬(rdP (0,()) w.1 (q6 (s.1+(elN w.1 now s.1 s.2.1:Nat)-1))).1<now-qpi w.1 s.1 s.2.1 (elN w.1 now s.1 s.2.1):=fun z=>c2 ⟨d1,z⟩
   simp (disch:=omega) only [evs,qi]
  ·simp (disch:=omega) only [evs]
theorem q0cb {k:Nat} (hk:K0≤k) (w:List (Int×Unit)×Unit) (s:ScrT) (now v:Int):q76 k w s now v=some (q52 w.1 s now v):=by
 have h1:q2m k (w.1,())=q0i (q8j w.1):=qkc hk w
 have h2:q2l k (s.1,s.2.1,s.2.2.1,())=q0i (q3y s):=qk8 k s
 have h3:qa0 k (w.1,()) (s.1,s.2.1,s.2.2.1,()) now=some (q1x w.1 s now,()):=q0ca hk w s now
 unfold q76;delta W2
 rw [h1,qj,qq]
 by_cases hP:q8j w.1
 case neg=>rw [qa hP,q52,if_neg (fun z=>hP z.1)]
 rw [q8 hP,h2,qj,qq]
 by_cases hS:q3y s
 case neg=>rw [qa hS,q52,if_neg (fun z=>hS z.2.1)]
 rw [q8 hS,q9s,qj,qq]
 by_cases hN:0≤now∧now≤100000
 case neg=>rw [qa hN,q52,if_neg (fun z=>hN z.2.2.1)]
 rw [q8 hN]
 by_cases hV:0≤v∧v≤2
 case neg=>
  rw [q52,if_neg (fun z=>hV z.2.2.2)]
  by_cases hv:v<0<;>simp (disch:=omega) only [evs]
 rw [qn,qa (by omega),qn,qa (by omega),h3,q00,q52,if_pos ⟨hP,hS,hN,hV⟩]
 obtain⟨⟨⟨t1,t2⟩,⟨t3,t4⟩,t5⟩,_,_,_⟩:=q03x (w:=w.1) (now:=now) hS
 generalize q1x w.1 s now=t at*
 by_cases e1:t.2.2.1=0
 case neg=>simp (disch:=omega) only [evs];rw [if_pos e1]
 rw [if_neg (fun z=>z e1)]
 by_cases e2:now<t.2.1
 case pos=>simp (disch:=omega) only [evs];rw [if_pos e2]
 rw [if_neg e2]
 by_cases e3:v=1
 case pos=>rw [if_pos e3];subst e3;simp (disch:=omega) only [evs]
 rw [if_neg e3]
 by_cases e4:t.1=4
 ·rw [if_pos e4]
  by_cases e5:v=0
  ·rw [if_pos e5];simp (disch:=omega) only [evs]
  ·rw [if_neg e5]
   have:v=2:=by omega
   subst this
   simp (disch:=omega) only [evs]
 ·rw [if_neg e4]
  by_cases e5:v=0
  ·simp (disch:=omega) only [evs,q0h]
  ·simp (disch:=omega) only [evs,q0h]
end Go.Proofs.YtpmjopbgccajgaaGreat.Eng
