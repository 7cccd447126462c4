/- Pure laws: PDpt, PDpt2, PDo, PDraw9, PDraw9b. No condition. -/
import Derived.Test.YtpmjopbgccajgaaGreatPD
import Derived.Test.YtpmjopbgccajgaaGreatPLpack
import Derived.Test.YtpmjopbgccajgaaGreatD
import Derived.Test.YtpmjopbgccajgaaGreatD1
import Derived.Test.YtpmjopbgccajgaaGreatPQdraw
set_option linter.unusedVariables false
set_option linter.unusedSimpArgs false
namespace Go.Proofs.YtpmjopbgccajgaaGreat.Eng
abbrev DpS:=q28×List q45×List Pc
def pcOf (b:Int) (e:q45):Pc:=(b,e.2.2.2.2.1,e.2.2.2.2.2.1,())
def q1o (cs:List q45) (b:Int):q45:=rdP (0,0,0,0,0,0,0,0,0,0,()) cs (q6 (b-1))
noncomputable def dpC (no:List q0a) (f:Int) (s:DpS) (b:Int×Unit):DpS:=
 if (q1o s.2.1 b.1).2.2.2.1=f then
  @ite _ (flyP no b.1 f) (Classical.propDecidable _) (q3s s.1 b.1,s.2.1.set (q6 (b.1-1)) (qi2 (q1o s.2.1 b.1) 6),s.2.2++[pcOf b.1 (q1o s.2.1 b.1)]) (q3s s.1 b.1,s.2.1.set (q6 (b.1-1)) (qi2 (q1o s.2.1 b.1) 7),s.2.2)
 else s
noncomputable def dpS (no:List q0a) (f:Int) (s:DpS) (l:List (Int×Unit)):DpS:=l.foldl (dpC no f) s
def qqn (x:qu) (f:Int):qad:=rdP (0,0,0,false,0,()) x.2.2.2.2.2.2.2.2.2.2.2.2.2.2.2.1 (q6 (f-1))
def q0e (x:qu) (f:Int):List (Int×Unit):=(rdP (0,0,[],()) x.2.2.2.2.2.2.2.2.2.2.1 (q6 (qqn x f).2.2.1)).2.2.1
noncomputable def dpE (x:qu) (f:Int):DpS:=dpS x.2.2.2.2.2.2.2.2.2.2.2.2.2.2.1 f (qv x,x.2.2.2.2.2.2.2.2.2.2.2.2.2.2.2.2.1,[]) (q0e x f)
noncomputable def boxN (x:qu) (f:Int):Int:=(repM (x.2.2.1,x.2.2.2.1,()) (dpE x f).2.2).length
noncomputable def flD (x:qu) (f:Int):List qad:=x.2.2.2.2.2.2.2.2.2.2.2.2.2.2.2.1.set (q6 (f-1)) ((qqn x f).1,(qqn x f).2.1,(qqn x f).2.2.1,true,boxN x f,())
def qm8 (x:qu) (fl:List qad) (l:q28) (cs:List q45):qu:=(x.1,x.2.1,x.2.2.1,x.2.2.2.1,x.2.2.2.2.1,x.2.2.2.2.2.1,x.2.2.2.2.2.2.1,x.2.2.2.2.2.2.2.1,l.1,l.2.1,l.2.2.1,l.2.2.2.1,x.2.2.2.2.2.2.2.2.2.2.2.2.1,x.2.2.2.2.2.2.2.2.2.2.2.2.2.1,x.2.2.2.2.2.2.2.2.2.2.2.2.2.2.1,fl,cs,())
noncomputable def depM (x:qu) (f:Int):qu×Bool×Unit:= @ite _ (q040 x f) (Classical.propDecidable _) (qm8 x (flD x f) (dpE x f).1 (dpE x f).2.1,true,()) (x,false,())
theorem q0i2 {x:qu} {f:Int} (h:q1y x) (hf:1≤f∧f≤x.2.2.2.2.2.2.2.2.2.2.2.2.2.2.2.1.length):q1y (qm8 x (flD x f) (qv x) x.2.2.2.2.2.2.2.2.2.2.2.2.2.2.2.2.1)∧(rdP (0,0,0,false,0,()) (flD x f) (q6 (f-1))).2.2.2.1=true:=by
 obtain⟨h1,h2,h3,h4,h5,h6,h7,h8,h9,h10,h11,h12,h13,h14,h15⟩:=h
 have hn:q6 (f-1)<x.2.2.2.2.2.2.2.2.2.2.2.2.2.2.2.1.length:=by unfold q6;omega
 have hat:rdP (0,0,0,false,0,()) (flD x f) (q6 (f-1))=((qqn x f).1,(qqn x f).2.1,(qqn x f).2.2.1,true,boxN x f,()):=q6y hn
 have hno:∀j,j≠q6 (f-1)→rdP (0,0,0,false,0,()) (flD x f) j=rdP (0,0,0,false,0,()) x.2.2.2.2.2.2.2.2.2.2.2.2.2.2.2.1 j:=fun j hj=>q9l (fun e=>hj e.symm)
 have hlen:(flD x f).length=x.2.2.2.2.2.2.2.2.2.2.2.2.2.2.2.1.length:=by simp [flD]
 refine⟨⟨h1,h2,h3,h4,h5,h6,h7,by show (flD x f).length≤20;omega,h9,fun g hg=> ?_,fun i hi=> ?_,h12,h13,h14,h15⟩,by rw [hat]⟩
 ·rcases List.mem_or_eq_of_mem_set (show g∈flD x f from hg)with hm|hm
  ·exact h10 g hm
  ·have hfl:qfp x.2.2.2.2.2.2.2.2.2.2.1.length (qqn x f):=h10 _ (by unfold qqn;rw [qo hn];exact List.getElem_mem hn)
   obtain⟨f1,f2,f3,f4,f5⟩:=hfl
   have:=(q0r1 (x.2.2.1,x.2.2.2.1,()) (srtL (dpE x f).2.2)).1
   subst hm
   refine⟨f1,f2,f3,f4,.inr ⟨rfl,?_⟩⟩
   show 0≤boxN x f∧boxN x f≤40
   unfold boxN repM
   omega
 ·obtain⟨c1,c2,c3,c4,c5,c6,c7,c8,c9,c10,c11⟩:=h11 i hi
  refine⟨c1,by show 1≤_∧_≤((flD x f).length:Int);rw [hlen];exact c2,c3,c4,c5,c6,c7,c8,c9,fun hp=> ?_,c11⟩
  show (rdP (0,0,0,false,0,()) (flD x f) _).2.2.2.1=true
  by_cases e:q6 ((rdP (0,0,0,0,0,0,0,0,0,0,()) x.2.2.2.2.2.2.2.2.2.2.2.2.2.2.2.2.1 i).2.2.2.1-1)=q6 (f-1)
  ·show (rdP (0,0,0,false,0,()) (flD x f) (q6 ((rdP (0,0,0,0,0,0,0,0,0,0,()) x.2.2.2.2.2.2.2.2.2.2.2.2.2.2.2.2.1 i).2.2.2.1-1))).2.2.2.1=true
   rw [e,hat]
  ·show (rdP (0,0,0,false,0,()) (flD x f) (q6 ((rdP (0,0,0,0,0,0,0,0,0,0,()) x.2.2.2.2.2.2.2.2.2.2.2.2.2.2.2.2.1 i).2.2.2.1-1))).2.2.2.1=true
   rw [hno _ e];exact c10 hp
theorem q0pe {x:qu} {fl:List qad} {f:Int} {s:DpS} {b:Int} (h:q1y (qm8 x fl s.1 s.2.1)) (hd:1≤f→(rdP (0,0,0,false,0,()) fl (q6 (f-1))).2.2.2.1=true) (hb:InC s.1 b):q1y (qm8 x fl (dpC x.2.2.2.2.2.2.2.2.2.2.2.2.2.2.1 f s (b,())).1 (dpC x.2.2.2.2.2.2.2.2.2.2.2.2.2.2.1 f s (b,())).2.1)∧(dpC x.2.2.2.2.2.2.2.2.2.2.2.2.2.2.1 f s (b,())).2.1.length=s.2.1.length∧(∀a,1≤a→a≠b→InC s.1 a→InC (dpC x.2.2.2.2.2.2.2.2.2.2.2.2.2.2.1 f s (b,())).1 a)∧(1≤b∧b≤s.2.1.length)∧(dpC x.2.2.2.2.2.2.2.2.2.2.2.2.2.2.1 f s (b,())).1.2.2.1.length=s.1.2.2.1.length:=by
 have hL:q1n s.1:=h.2.2.2.2.1
 have hb1:1≤b:=hL.2.2.2.2.2.2.1 (b,()) (qml.2 (.inr hb))
 have hb2:b≤s.2.1.length:=by
  obtain⟨c,hc,z⟩:=hb
  exact h.2.2.2.2.2.2.2.2.2.2.2.2.2.1 c hc _ z
 have hi:q6 (b-1)<s.2.1.length:=by unfold q6;omega
 have hbi:((q6 (b-1):Nat):Int)+1=b:=by unfold q6;omega
 obtain⟨c1,c2,c3,c4,c5,c6,c7,c8,c9,c10,c11,c12,c13,c14⟩:=q6l h hi
 rw [hbi]at c11 c12 c13 c14
 have hp:(q1o s.2.1 b).2.2.2.2.2.2.1=4:=c13.1 hb
 have hv:(q1o s.2.1 b).2.2.2.2.2.2.2.2.2.1=1:=by
  by_cases e:(q1o s.2.1 b).2.2.2.2.2.2.2.2.2.1=1
  ·exact e
  ·exact absurd hp (c8 e).2.1
 obtain⟨d1,d2,d3⟩:=q09b (l:=s.1) (b:=b) (by omega)
 have hdo:q1n (q3s s.1 b):=q0m3 hL (by omega)
 have hch:(q3s s.1 b).2.2.1.length=s.1.2.2.1.length:=by simp [q3s]
 have hns:¬InS (q2t x) b:=fun z=>by have z:=c14.1 z;have hp:(rdP (0,0,0,0,0,0,0,0,0,0,()) s.2.1 (q6 (b-1))).2.2.2.2.2.2.1=4:=hp;have z:(rdP (0,0,0,0,0,0,0,0,0,0,()) s.2.1 (q6 (b-1))).2.2.2.2.2.2.1=5:=z;omega
 have mv:∀p:Int,p=6∨p=7→(p=6→(q1o s.2.1 b).2.2.2.1=f)→q1y (qm8 x fl (q3s s.1 b) (s.2.1.set (q6 (b-1)) (qi2 (q1o s.2.1 b) p))):=by
  intro p hp67 hg
  refine q0j7 (x:=qm8 x fl s.1 s.2.1) (i:=q6 (b-1)) (p:=p) (l:=q3s s.1 b) (s:=q2t x) h hi hdo h.2.2.2.2.2.1 hch (fun z=> ?_) (by omega) (fun z=>absurd hv z) (by omega) (fun z=> ?_) (fun a a0 a1=> ?_) ?_
  ·have z:(q1o s.2.1 b).2.2.2.2.2.2.1=1:=z;omega
  ·have e:=hg z
   have hf1:1≤f:=by rw [←e];exact c2.1
   have:(rdP (0,0,0,false,0,()) fl (q6 ((q1o s.2.1 b).2.2.2.1-1))).2.2.2.1=true:=by rw [e];exact hd hf1
   exact this
  ·rw [hbi]at a1
   exact⟨(d3 a a0 a1).1,(d3 a a0 a1).2,Iff.rfl⟩
  ·rw [hbi]
   exact⟨iff_of_false d1 (by omega),iff_of_false d2 (by omega),iff_of_false hns (by omega)⟩
 unfold dpC
 by_cases e:(q1o s.2.1 b).2.2.2.1=f
 ·rw [if_pos e]
  by_cases hf:flyP x.2.2.2.2.2.2.2.2.2.2.2.2.2.2.1 b f
  ·rw [if_pos hf]
   exact⟨mv 6 (.inl rfl) (fun _=>e),by simp,fun a a1 a2 z=>(d3 a (by omega) a2).2.2 z,⟨hb1,hb2⟩,hch⟩
  ·rw [if_neg hf]
   exact⟨mv 7 (.inr rfl) (fun z=>by omega),by simp,fun a a1 a2 z=>(d3 a (by omega) a2).2.2 z,⟨hb1,hb2⟩,hch⟩
 ·rw [if_neg e]
  exact⟨h,rfl,fun _ _ _ z=>z,⟨hb1,hb2⟩,rfl⟩
theorem q0i7 {x:qu} {fl:List qad} {f:Int} (hd:1≤f→(rdP (0,0,0,false,0,()) fl (q6 (f-1))).2.2.2.1=true):∀(l:List (Int×Unit)) (s:DpS),q1y (qm8 x fl s.1 s.2.1)→(∀b∈l,1≤b.1∧InC s.1 b.1)→l.Nodup→q1y (qm8 x fl (dpS x.2.2.2.2.2.2.2.2.2.2.2.2.2.2.1 f s l).1 (dpS x.2.2.2.2.2.2.2.2.2.2.2.2.2.2.1 f s l).2.1)∧(dpS x.2.2.2.2.2.2.2.2.2.2.2.2.2.2.1 f s l).2.1.length=s.2.1.length∧(dpS x.2.2.2.2.2.2.2.2.2.2.2.2.2.2.1 f s l).1.2.2.1.length=s.1.2.2.1.length∧∀a,1≤a→(a,())∉l→InC s.1 a→InC (dpS x.2.2.2.2.2.2.2.2.2.2.2.2.2.2.1 f s l).1 a
 | [],s,h,_,_=>⟨h,rfl,rfl,fun _ _ _ z=>z⟩
 |b::l,s,h,hb,hn=>by
  obtain⟨b,u⟩:=b
  cases u
  obtain⟨q1,q2⟩:=List.nodup_cons.1 hn
  obtain⟨a1,a2,a3,a4,a5⟩:=q0pe h hd (hb (b,()) (List.mem_cons_self ..)).2
  obtain⟨r1,r2,r3,r4⟩:=q0i7 hd l (dpC x.2.2.2.2.2.2.2.2.2.2.2.2.2.2.1 f s (b,())) a1 (fun c hc=>⟨(hb c (List.mem_cons_of_mem _ hc)).1,a3 c.1 (hb c (List.mem_cons_of_mem _ hc)).1 (fun e=>q1 (by obtain⟨c,u⟩:=c;cases u;dsimp only at e;rw [←e];exact hc)) (hb c (List.mem_cons_of_mem _ hc)).2⟩) q2
  refine⟨r1,r2.trans a2,r3.trans a5,fun a ha hm z=>r4 a ha (fun q=>hm (List.mem_cons_of_mem _ q)) (a3 a ha (fun e=>hm (by rw [e];exact List.mem_cons_self ..)) z)⟩
theorem qpc {x:qu} {f:Int} (h:q1y x) (hf:1≤f∧f≤x.2.2.2.2.2.2.2.2.2.2.2.2.2.2.2.1.length):q6 (qqn x f).2.2.1<x.2.2.2.2.2.2.2.2.2.2.1.length∧(0≤(qqn x f).2.2.1)∧(∀b∈q0e x f,1≤b.1∧InC (qv x) b.1)∧(q0e x f).Nodup∧(q0e x f).length≤40:=by
 obtain⟨h1,h2,h3,h4,h5,h6,h7,h8,h9,h10,h11,h12,h13,h14,h15⟩:=h
 have hn:q6 (f-1)<x.2.2.2.2.2.2.2.2.2.2.2.2.2.2.2.1.length:=by unfold q6;omega
 obtain⟨f1,f2,f3,f4,f5⟩:qfp x.2.2.2.2.2.2.2.2.2.2.1.length (qqn x f):=h10 _ (by unfold qqn;rw [qo hn];exact List.getElem_mem hn)
 have hj:q6 (qqn x f).2.2.1<x.2.2.2.2.2.2.2.2.2.2.1.length:=by unfold q6;omega
 have hcm:rdP (0,0,[],()) x.2.2.2.2.2.2.2.2.2.2.1 (q6 (qqn x f).2.2.1)∈x.2.2.2.2.2.2.2.2.2.2.1:=by rw [qo hj];exact List.getElem_mem hj
 obtain⟨p1,p2,p3,p4,p5,p6,p7,p8,p9,p10⟩:=h5
 have hc:=p5 _ hcm
 refine⟨hj,f4.1,fun b hb=> ?_,?_,?_⟩
 ·have:InC (qv x) b.1:=⟨_,hcm,by obtain⟨b,u⟩:=b;cases u;exact hb⟩
  exact⟨p7 (b.1,()) (qml.2 (.inr this)),this⟩
 ·have hsub:List.Sublist (q0e x f) (q22 x.2.2.2.2.2.2.2.2.2.2.1):=by
   unfold q22
   rw [List.flatMap_def]
   refine List.sublist_flatten_of_mem ?_
   exact List.mem_map.2 ⟨_,hcm,rfl⟩
  exact(hsub.trans (List.sublist_append_right _ _)).nodup p8
 ·have:=hc.2.2;have:=hc.2.1;unfold q0e;omega
theorem q0se {x:qu} {f:Int} (h:q1y x):q1y (depM x f).1:=by
 unfold depM
 by_cases hP:q040 x f
 case neg=>rw [if_neg hP];exact h
 rw [if_pos hP]
 have hf:=hP.2.1
 obtain⟨g1,g2⟩:=q0i2 h hf
 obtain⟨m1,m0,m2,m3,m4⟩:=qpc h hf
 exact(q0i7 (x:=x) (fl:=flD x f) (f:=f) (fun _=>g2) (q0e x f) (qv x,x.2.2.2.2.2.2.2.2.2.2.2.2.2.2.2.2.1,[]) g1 m2 m3).1
end Go.Proofs.YtpmjopbgccajgaaGreat.Eng
namespace Go.Proofs.YtpmjopbgccajgaaGreat.Eng
theorem q0sb {no:List q0a} {f:Int} {s:DpS} {l:List (Int×Unit)} {j:Nat} (h:j<l.length):dpS no f s (l.take (j+1))=dpC no f (dpS no f s (l.take j)) (rdP (0,()) l j):=by
 rw [q7b (d:=(0,())) h,dpS,List.foldl_append];rfl
theorem q0qm (no:List q0a) (f:Int) (s:DpS) (b:Int×Unit):(dpC no f s b).2.2.length≤s.2.2.length+1:=by
 unfold dpC
 split
 ·split<;>simp
 ·omega
theorem q0gn (no:List q0a) (f:Int):∀(l:List (Int×Unit)) (s:DpS),(dpS no f s l).2.2.length≤s.2.2.length+l.length
 | [],s=>Nat.le_refl _
 |b::l,s=>by
  have h1:=q0gn no f l (dpC no f s b)
  have h2:=q0qm no f s b
  have e:dpS no f s (b::l)=dpS no f (dpC no f s b) l:=rfl
  rw [e,List.length_cons]
  omega
set_option maxHeartbeats 1000000 in
theorem qvv {k:Nat} (hk:K0≤k) (x:qu) (f:Int) (h:q1y x):q54 k x f=some (depM x f):=by
 have hs:=q4w h
 have e1:=qwf hk x f hs
 have e2:=q48 hk x hs
 have hfl:=hs.flights
 have hcl:=hs.cases_
 have hch:=hs.chutes
 unfold q54 depM;delta W0 W3
 rw [e1,qj,qq]
 by_cases hP:q040 x f
 case neg=>rw [qa hP,if_neg hP]
 rw [q8 hP,if_pos hP,e2,q00]
 dsimp only
 have hf:=hP.2.1
 obtain⟨g1,g2⟩:=q0i2 h hf
 obtain⟨m1,m0,m2,m3,m4⟩:=qpc h hf
 have hn:q6 (f-1)<x.2.2.2.2.2.2.2.2.2.2.2.2.2.2.2.1.length:=by unfold q6;omega
 have hfa:rdP (0,0,0,false,0,()) x.2.2.2.2.2.2.2.2.2.2.2.2.2.2.2.1 (q6 (f-1))=qqn x f:=rfl
 have hba:(rdP (0,0,[],()) x.2.2.2.2.2.2.2.2.2.2.1 (q6 (qqn x f).2.2.1)).2.2.1=q0e x f:=rfl
 rw [qi (by omega),q0c,q8 (by rw [q31];omega),qk,hfa,q0c,q8 (by rw [q31];unfold q6 at m1;omega),qk]
 have hk':=hk
 unfold K0 at hk
 have hst:∀j,j≤(q0e x f).length→q1y (qm8 x (flD x f) (dpS x.2.2.2.2.2.2.2.2.2.2.2.2.2.2.1 f (qv x,x.2.2.2.2.2.2.2.2.2.2.2.2.2.2.2.2.1,[]) ((q0e x f).take j)).1 (dpS x.2.2.2.2.2.2.2.2.2.2.2.2.2.2.1 f (qv x,x.2.2.2.2.2.2.2.2.2.2.2.2.2.2.2.2.1,[]) ((q0e x f).take j)).2.1)∧(j<(q0e x f).length→InC (dpS x.2.2.2.2.2.2.2.2.2.2.2.2.2.2.1 f (qv x,x.2.2.2.2.2.2.2.2.2.2.2.2.2.2.2.2.1,[]) ((q0e x f).take j)).1 (rdP (0,()) (q0e x f) j).1)∧(dpS x.2.2.2.2.2.2.2.2.2.2.2.2.2.2.1 f (qv x,x.2.2.2.2.2.2.2.2.2.2.2.2.2.2.2.2.1,[]) ((q0e x f).take j)).2.2.length≤j:=by
  intro j hj
  obtain⟨r1,r2,r3,r4⟩:=q0i7 (x:=x) (fl:=flD x f) (f:=f) (fun _=>g2) ((q0e x f).take j) (qv x,x.2.2.2.2.2.2.2.2.2.2.2.2.2.2.2.2.1,[]) g1 (fun b hb=>m2 b (List.mem_of_mem_take hb)) (m3.sublist (List.take_sublist _ _))
  refine⟨r1,fun hjl=> ?_,?_⟩
  ·have hm:rdP (0,()) (q0e x f) j∈q0e x f:=by rw [qo hjl];exact List.getElem_mem hjl
   refine r4 _ (m2 _ hm).1 (fun z=> ?_) (m2 _ hm).2
   obtain⟨t,ht,et⟩:=List.getElem_of_mem z
   rw [List.length_take]at ht
   rw [List.getElem_take]at et
   unfold List.Nodup at m3
   rw [List.pairwise_iff_getElem]at m3
   have:=m3 t j (by omega) hjl (by omega)
   apply this
   rw [et,qo hjl]
  ·have:=q0gn x.2.2.2.2.2.2.2.2.2.2.2.2.2.2.1 f ((q0e x f).take j) (qv x,x.2.2.2.2.2.2.2.2.2.2.2.2.2.2.2.2.1,[])
   rw [List.length_take]at this
   simp only [List.length_nil]at this
   omega
 rw [hba]
 generalize hB:q0e x f=B at*
 have hE:dpE x f=dpS x.2.2.2.2.2.2.2.2.2.2.2.2.2.2.1 f (qv x,x.2.2.2.2.2.2.2.2.2.2.2.2.2.2.2.2.1,[]) B:=by unfold dpE;rw [hB]
 refine q08 (n:=B.length) (fun j=>((dpS x.2.2.2.2.2.2.2.2.2.2.2.2.2.2.1 f (qv x,x.2.2.2.2.2.2.2.2.2.2.2.2.2.2.2.2.1,[]) (B.take j)).1.1,(dpS x.2.2.2.2.2.2.2.2.2.2.2.2.2.2.1 f (qv x,x.2.2.2.2.2.2.2.2.2.2.2.2.2.2.2.2.1,[]) (B.take j)).1.2.1,(dpS x.2.2.2.2.2.2.2.2.2.2.2.2.2.2.1 f (qv x,x.2.2.2.2.2.2.2.2.2.2.2.2.2.2.2.2.1,[]) (B.take j)).1.2.2.1,(dpS x.2.2.2.2.2.2.2.2.2.2.2.2.2.2.1 f (qv x,x.2.2.2.2.2.2.2.2.2.2.2.2.2.2.2.2.1,[]) (B.take j)).1.2.2.2.1,(dpS x.2.2.2.2.2.2.2.2.2.2.2.2.2.2.1 f (qv x,x.2.2.2.2.2.2.2.2.2.2.2.2.2.2.2.2.1,[]) (B.take j)).2.1,(dpS x.2.2.2.2.2.2.2.2.2.2.2.2.2.2.1 f (qv x,x.2.2.2.2.2.2.2.2.2.2.2.2.2.2.2.2.1,[]) (B.take j)).2.2,(j:Int),())) rfl (fun j hj rec=> ?_) (fun rec=> ?_) (by omega)
 ·obtain⟨s1,s2,s3⟩:=hst j (by omega)
  have s2:=s2 hj
  rw [q0sb hj]
  have hfly:=q0a7 hk' x.2.2.2.2.2.2.2.2.2.2.2.2.2.2.1 (rdP (0,()) B j).1 f hs.notes
  generalize dpS x.2.2.2.2.2.2.2.2.2.2.2.2.2.2.1 f (qv x,x.2.2.2.2.2.2.2.2.2.2.2.2.2.2.2.2.1,[]) (B.take j)=s at*
  obtain⟨b,hbe⟩:∃b,rdP (0,()) B j=(b,()):=⟨(rdP (0,()) B j).1,rfl⟩
  rw [hbe]at s2 hfly
  rw [show dpC x.2.2.2.2.2.2.2.2.2.2.2.2.2.2.1 f s (rdP (0,()) B j)=dpC x.2.2.2.2.2.2.2.2.2.2.2.2.2.2.1 f s (b,()) by rw [hbe]]
  obtain⟨_,a2,_,⟨a4,a5⟩,_⟩:=q0pe (f:=f) s1 (fun _=>g2) s2
  have hL:q1n s.1:=s1.2.2.2.2.1
  have hdr:q47 k (s.1.1,s.1.2.1,s.1.2.2.1,s.1.2.2.2.1,()) b=some (q3s s.1 b,()):=qpn hk' s.1 b (qcw hL)
  have hsl:s.2.1.length≤60:=s1.2.2.2.2.2.2.2.2.1
  have hi:q6 (b-1)<s.2.1.length:=by unfold q6;(try dsimp only at a4 a5);omega
  have hca:rdP (0,0,0,0,0,0,0,0,0,0,()) s.2.1 (q6 (b-1))=q1o s.2.1 b:=rfl
  have hfit:=qny (pcOf b (q1o s.2.1 b)) (l:=s.2.2) (by omega)
  have hfit':q4x s.2.2 [(b,(q1o s.2.1 b).2.2.2.2.1,(q1o s.2.1 b).2.2.2.2.2.1,())]=true:=hfit
  (try dsimp only at a4 a5 hfly)
  unfold dpC
  by_cases e:(q1o s.2.1 b).2.2.2.1=f
  ·rw [if_pos e]
   by_cases hfl:flyP x.2.2.2.2.2.2.2.2.2.2.2.2.2.2.1 b f
   ·rw [if_pos hfl]
    simp (disch:=omega) only [evs,qi,hbe,hca,hdr,hfly,hfit',q78]
    rfl
   ·rw [if_neg hfl]
    simp (disch:=omega) only [evs,qi,hbe,hca,hdr,hfly]
    rfl
  ·rw [if_neg e]
   simp (disch:=omega) only [evs,qi,hbe,hca]
   rfl
 ·have hpl:=(hst B.length (Nat.le_refl _)).2.2
  rw [List.take_length]at hpl ⊢
  have hr:q9g k (x.2.2.1,x.2.2.2.1,()) (dpS x.2.2.2.2.2.2.2.2.2.2.2.2.2.2.1 f (qv x,x.2.2.2.2.2.2.2.2.2.2.2.2.2.2.2.2.1,[]) B).2.2=some (repM (x.2.2.1,x.2.2.2.1,()) (dpS x.2.2.2.2.2.2.2.2.2.2.2.2.2.2.1 f (qv x,x.2.2.2.2.2.2.2.2.2.2.2.2.2.2.2.2.1,[]) B).2.2,()):=q0a4 hk' _ _ (by omega)
  simp (disch:=omega) only [evs,hr,hfa,List.length_set,q6y,List.set_set]
  unfold flD boxN
  rw [hE]
  rfl
end Go.Proofs.YtpmjopbgccajgaaGreat.Eng
namespace Go.Proofs.YtpmjopbgccajgaaGreat.Eng
noncomputable def q1k (x:qu):Nat→qu
 |0=>x
 |n+1=>q04b (q1k x n)
theorem qyk {x:qu} (h:q1y x):∀n:Nat,x.1+n≤100000→q1y (q1k x n)∧(q1k x n).1=x.1+n
 |0,_=>⟨h,by simp [q1k]⟩
 |n+1,hn=>by
  obtain⟨h1,h2⟩:=qyk h n (by omega)
  refine⟨q0pj h1 (by omega),?_⟩
  have:(q1k x (n+1)).1=(q1k x n).1+1:=rfl
  omega
def q0dv (c:CmdT):q0a:=(c.2.2.2.2.2.2.2.2.2.1,c.2.2.2.2.2.2.2.2.2.2.1,c.2.2.2.2.2.2.2.2.2.2.2.1,c.2.2.2.2.2.2.2.2.2.2.2.2.1,c.2.2.2.2.2.2.2.2.2.2.2.2.2.1,())
def q0s8 (x:qu) (l:List q0a):qu:=(x.1,x.2.1,x.2.2.1,x.2.2.2.1,x.2.2.2.2.1,x.2.2.2.2.2.1,x.2.2.2.2.2.2.1,x.2.2.2.2.2.2.2.1,x.2.2.2.2.2.2.2.2.1,x.2.2.2.2.2.2.2.2.2.1,x.2.2.2.2.2.2.2.2.2.2.1,x.2.2.2.2.2.2.2.2.2.2.2.1,x.2.2.2.2.2.2.2.2.2.2.2.2.1,x.2.2.2.2.2.2.2.2.2.2.2.2.2.1,l,x.2.2.2.2.2.2.2.2.2.2.2.2.2.2.2.1,x.2.2.2.2.2.2.2.2.2.2.2.2.2.2.2.2.1,())
noncomputable def doM (x:qu) (c:CmdT):qu×Bool×Unit:=
 if c.1=1 then if (1≤c.2.2.2.1∧c.2.2.2.1≤100)∧x.1+c.2.2.2.1≤100000 then(q1k x (q6 c.2.2.2.1),true,())else(x,false,())
 else if c.1=2 then qq6 x c
 else if c.1=6 then if (addM x.2.2.2.2.2.2.2.2.2.2.2.2.2.2.1 (q0dv c)).2.1=true then(q0s8 x (addM x.2.2.2.2.2.2.2.2.2.2.2.2.2.2.1 (q0dv c)).1,true,())else(x,false,())
 else if c.1=7 then depM x c.2.2.1
 else if 1≤c.2.1∧c.2.1≤x.2.2.2.2.2.2.2.2.2.2.2.2.2.2.2.2.1.length then
  if c.1=3 then decM x (q6 (c.2.1-1)) c.2.2.2.1
  else if c.1=4 then q0am x (q6 (c.2.1-1))
  else if c.1=5 then qvk x (q6 (c.2.1-1))
  else if c.1=8 then retM x (q6 (c.2.1-1))
  else(x,false,())
 else(x,false,())
theorem q0nz {x:qu} {l:List q0a} (h:q1y x) (hl:q5j l):q1y (q0s8 x l):=by
 obtain⟨h1,h2,h3,h4,h5,h6,h7,h8,h9,h10,h11,h12,h13,h14,h15⟩:=h
 exact⟨h1,h2,h3,h4,h5,h6,hl,h8,h9,h10,h11,h12,h13,h14,h15⟩
theorem q0t8 {x:qu} {c:CmdT} (h:q1y x):q1y (doM x c).1:=by
 unfold doM
 split
 ·split
  ·rename_i hh
   exact(qyk h _ (by unfold q6;omega)).1
  ·exact h
 split
 ·exact q0oj h
 split
 ·split
  ·exact q0nz h (q0r0 h.2.2.2.2.2.2.1)
  ·exact h
 split
 ·exact q0se h
 split
 case isFalse=>exact h
 rename_i hb
 have hi:q6 (c.2.1-1)<x.2.2.2.2.2.2.2.2.2.2.2.2.2.2.2.2.1.length:=by unfold q6;omega
 split
 ·exact q0sf h hi
 split
 ·exact q0pq h hi
 split
 ·exact q0o5 h hi
 split
 ·exact q0rg h hi
 ·exact h
theorem q0d7 {k:Nat} (hk:K0≤k) (x:qu) (c:CmdT) (h:q1y x):qbu k x c=some (doM x c):=by
 have hs:=q4w h
 have e2:=qzl hk x c h
 have e6:q86 k x.2.2.2.2.2.2.2.2.2.2.2.2.2.2.1 (c.2.2.2.2.2.2.2.2.2.1,c.2.2.2.2.2.2.2.2.2.2.1,c.2.2.2.2.2.2.2.2.2.2.2.1,c.2.2.2.2.2.2.2.2.2.2.2.2.1,c.2.2.2.2.2.2.2.2.2.2.2.2.2.1,())=some (addM x.2.2.2.2.2.2.2.2.2.2.2.2.2.2.1 (q0dv c)):=q057 hk x.2.2.2.2.2.2.2.2.2.2.2.2.2.2.1 (q0dv c) hs.notes
 have e7:=qvv hk x c.2.2.1 h
 have hk':=hk
 unfold K0 at hk
 have hnow:=h.1
 unfold qbu doM;delta W1 W3 W5
 rw [q02]
 by_cases k1:c.1=1
 ·rw [q8 k1,if_pos k1,ql,qj,qq]
  by_cases hn:1≤c.2.2.2.1∧c.2.2.2.1≤100
  case neg=>rw [qa hn,if_neg (fun z=>hn z.1)]
  rw [q8 hn,q0h (by omega),qn]
  by_cases hm:x.1+c.2.2.2.1≤100000
  case neg=>rw [q8 (by omega),if_neg (fun z=>hm z.2)]
  rw [qa (by omega),if_pos ⟨hn,hm⟩]
  have hcn:c.2.2.2.1=(q6 c.2.2.2.1:Nat):=by unfold q6;omega
  generalize q6 c.2.2.2.1=n at*
  rw [hcn]at hn hm ⊢
  refine q08 (n:=n) (fun i=>((q1k x i).1,(q1k x i).2.1,(q1k x i).2.2.1,(q1k x i).2.2.2.1,(q1k x i).2.2.2.2.1,(q1k x i).2.2.2.2.2.1,(q1k x i).2.2.2.2.2.2.1,(q1k x i).2.2.2.2.2.2.2.1,(q1k x i).2.2.2.2.2.2.2.2.1,(q1k x i).2.2.2.2.2.2.2.2.2.1,(q1k x i).2.2.2.2.2.2.2.2.2.2.1,(q1k x i).2.2.2.2.2.2.2.2.2.2.2.1,(q1k x i).2.2.2.2.2.2.2.2.2.2.2.2.1,(q1k x i).2.2.2.2.2.2.2.2.2.2.2.2.2.1,(q1k x i).2.2.2.2.2.2.2.2.2.2.2.2.2.2.1,(q1k x i).2.2.2.2.2.2.2.2.2.2.2.2.2.2.2.1,(q1k x i).2.2.2.2.2.2.2.2.2.2.2.2.2.2.2.2.1,(i:Int),())) rfl (fun i hi rec=> ?_) (fun rec=> ?_) (by omega)
  ·have ht:=q04c hk' (q1k x i) (qyk h i (by omega)).1
   dsimp only
   rw [qn,q8 (by omega),q0h (by omega)]
   refine Eq.trans (b:=bnd (q7x k (q1k x i)) _) rfl ?_
   rw [ht,q00]
   rfl
  ·dsimp only
   rw [qn,qa (by omega)]
 rw [qa k1,if_neg k1,q02]
 by_cases k2:c.1=2
 ·rw [q8 k2,if_pos k2]
  refine Eq.trans (b:=bnd (q5p k x c) _) rfl ?_
  rw [e2,q00]
 rw [qa k2,if_neg k2,q02]
 by_cases k6:c.1=6
 ·rw [q8 k6,if_pos k6,e6,q00]
  cases ha:(addM x.2.2.2.2.2.2.2.2.2.2.2.2.2.2.1 (q0dv c)).2.1 with
  |true=>rw [if_pos rfl];rfl
  |false=>rw [if_neg (by exact Bool.noConfusion)];rfl
 rw [qa k6,if_neg k6,q02]
 by_cases k7:c.1=7
 ·rw [q8 k7,if_pos k7]
  refine Eq.trans (b:=bnd (q54 k x c.2.2.1) _) rfl ?_
  rw [e7,q00]
 rw [qa k7,if_neg k7,ql,qj,qq,q31]
 by_cases hb:1≤c.2.1∧c.2.1≤x.2.2.2.2.2.2.2.2.2.2.2.2.2.2.2.2.1.length
 case neg=>rw [qa hb,if_neg hb]
 rw [q8 hb,if_pos hb,q02]
 have hi:q6 (c.2.1-1)<x.2.2.2.2.2.2.2.2.2.2.2.2.2.2.2.2.1.length:=by unfold q6;omega
 have hci:((q6 (c.2.1-1):Nat):Int)+1=c.2.1:=by unfold q6;omega
 have e3:=qvw hk' x c.2.1 c.2.2.2.1 h hb
 have e4:=q04d hk' x (q6 (c.2.1-1)) h hi
 have e5:=qzh hk' x (q6 (c.2.1-1)) h hi
 have e8:=qvr hk' x (q6 (c.2.1-1)) h hi
 rw [hci]at e4 e5 e8
 by_cases k3:c.1=3
 ·rw [q8 k3,if_pos k3]
  refine Eq.trans (b:=bnd (q55 k x c.2.1 c.2.2.2.1) _) rfl ?_
  rw [e3,q00]
 rw [qa k3,if_neg k3,q02]
 by_cases k4:c.1=4
 ·rw [q8 k4,if_pos k4]
  refine Eq.trans (b:=bnd (q7y k x c.2.1) _) rfl ?_
  rw [e4,q00]
 rw [qa k4,if_neg k4,q02]
 by_cases k5:c.1=5
 ·rw [q8 k5,if_pos k5]
  refine Eq.trans (b:=bnd (q5o k x c.2.1) _) rfl ?_
  rw [e5,q00]
 rw [qa k5,if_neg k5,q02]
 by_cases k8:c.1=8
 ·rw [q8 k8,if_pos k8]
  refine Eq.trans (b:=bnd (q53 k x c.2.1) _) rfl ?_
  rw [e8,q00]
 rw [qa k8,if_neg k8]
end Go.Proofs.YtpmjopbgccajgaaGreat.Eng
namespace Go.Proofs.YtpmjopbgccajgaaGreat.Eng
end Go.Proofs.YtpmjopbgccajgaaGreat.Eng
namespace Go.Proofs.YtpmjopbgccajgaaGreat.Eng
end Go.Proofs.YtpmjopbgccajgaaGreat.Eng
