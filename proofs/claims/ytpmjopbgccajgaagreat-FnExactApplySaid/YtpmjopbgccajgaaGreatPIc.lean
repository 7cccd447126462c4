/- The store of lanes: what the program's functions compute. No condition. -/
import Derived.Test.YtpmjopbgccajgaaGreatPIb
import Derived.Test.YtpmjopbgccajgaaGreatD
namespace Go.Proofs.YtpmjopbgccajgaaGreat.Eng
set_option linter.unusedVariables false
set_option linter.unusedSimpArgs false
def q0e1 (l:List qkz):Nat→Int
 |0=>100000
 |i+1=>minI (q0e1 l i) (rdP (0,0,()) l i).2.1
theorem q0hm {l:List qkz} (h:∀y∈l,y.2.1≤100000):∀i,i<l.length→q0e1 l (i+1)=q0hl l (i+1)
 |0,hi=>by
  have:=h _ (by rw [qo hi];exact List.getElem_mem hi:rdP (0,0,()) l 0∈l)
  show minI 100000 (rdP (0,0,()) l 0).2.1=minI 100001 (rdP (0,0,()) l 0).2.1
  unfold minI
  rw [if_pos (show (rdP (0,0,()) l 0).2.1<100001 by omega)]
  split<;>omega
 |i+1,hi=>by
  have ih:=q0hm h i (by omega)
  rw [q0e1,ih];rfl
theorem qno {k:Nat} (hk:K0≤k) (l:List qkz) (hl:l.length≤1048576):q20 k l=some (q0e1 l l.length,()):=by
 unfold K0 at hk
 unfold q20
 refine q08 (n:=l.length) (fun i=>(q0e1 l i,(i:Int),())) rfl (fun i hi rec=> ?_) (fun rec=>by simp (disch:=omega) only [evs]) (by omega)
 simp (disch:=omega) only [evs]
 rfl
theorem qxz {k:Nat} (hk:K0≤k) (l:List qkz) (hl:l.length≤1048576) (h:∀y∈l,y.2.1≤100000) (hne:0<l.length):q20 k l=some (qh0 l,()):=by
 rw [qno hk l hl]
 obtain⟨n,hn⟩:∃n,l.length=n+1:=⟨l.length-1,by omega⟩
 rw [qh0,hn,q0hm h n (by omega)]
def laC (s:q01) (time but:Int) (c:Int×Int×Int) (i:Nat):Int×Int×Int:=
 if s.1≤((rdP ([],()) s.2.1 i).1.length:Int)then c else if (i:Int)=but then c else if (rdP ([],()) s.2.1 i).1.length=0 then(if c.2.1<0 then(c.1,(i:Int),c.2.2)else c)else
  if time≤qh0 (rdP ([],()) s.2.1 i).1 then(if c.1<0 then((i:Int),c.2)else if qh0 (rdP ([],()) s.2.1 i).1<qh0 (rdP ([],()) s.2.1 (q6 c.1)).1 then((i:Int),c.2)else c)
  else(if c.2.2<0 then(c.1,c.2.1,(i:Int))else if qh0 (rdP ([],()) s.2.1 (q6 c.2.2)).1<qh0 (rdP ([],()) s.2.1 i).1 then(c.1,c.2.1,(i:Int))else c)
def laS (s:q01) (time but:Int):Nat→Int×Int×Int
 |0=>(-1,-1,-1)
 |i+1=>laC s time but (laS s time but i) i
def lnF (s:q01) (x:Int):Prop:=x= -1∨∃j:Nat,x=j∧j<s.2.1.length∧0<(rdP ([],()) s.2.1 j).1.length
theorem q0pb (s:q01) (time but:Int):∀i,i≤s.2.1.length→lnF s (laS s time but i).1∧lnF s (laS s time but i).2.2
 |0,_=>⟨.inl rfl,.inl rfl⟩
 |i+1,h=>by
  obtain⟨h1,h2⟩:=q0pb s time but i (by omega)
  rw [laS]
  generalize laS s time but i=c at*
  unfold laC
  by_cases e1:s.1≤((rdP ([],()) s.2.1 i).1.length:Int)
  ·rw [if_pos e1];exact⟨h1,h2⟩
  rw [if_neg e1]
  by_cases e2:(i:Int)=but
  ·rw [if_pos e2];exact⟨h1,h2⟩
  rw [if_neg e2]
  by_cases e3:(rdP ([],()) s.2.1 i).1.length=0
  ·rw [if_pos e3];split<;>exact⟨h1,h2⟩
  rw [if_neg e3]
  have hn:lnF s (i:Int):= .inr ⟨i,rfl,by omega,by omega⟩
  repeat' split
  all_goals first|exact⟨h1,h2⟩|exact⟨hn,h2⟩|exact⟨h1,hn⟩
theorem q0s0 (s:q01) (time but:Int):∀i,i≤s.2.1.length→(laS s time but i).1=(lnS s time but i).1∧(laS s time but i).2.1=(lnS s time but i).2.1∧((lnS s time but i).1<0→(laS s time but i).2.2=(lnS s time but i).2.2)
 |0,_=>⟨rfl,rfl,fun _=>rfl⟩
 |i+1,h=>by
  obtain⟨h1,h2,h3⟩:=q0s0 s time but i (by omega)
  rw [laS,lnS]
  generalize laS s time but i=c at*
  generalize lnS s time but i=d at*
  obtain⟨c1,c2,c3⟩:=c
  obtain⟨d1,d2,d3⟩:=d
  dsimp only at h1 h2 h3
  subst h1;subst h2
  unfold laC lnC
  by_cases e2:(i:Int)=but
  ·rw [if_pos e2,if_pos e2];split<;>exact⟨rfl,rfl,h3⟩
  rw [if_neg e2,if_neg e2]
  by_cases e1:s.1≤((rdP ([],()) s.2.1 i).1.length:Int)
  ·rw [if_pos e1,if_pos e1];exact⟨rfl,rfl,h3⟩
  rw [if_neg e1,if_neg e1]
  by_cases e3:(rdP ([],()) s.2.1 i).1.length=0
  ·rw [if_pos e3,if_pos e3];dsimp only;split<;>exact⟨rfl,rfl,h3⟩
  rw [if_neg e3,if_neg e3]
  generalize qh0 (rdP ([],()) s.2.1 i).1=L
  dsimp only
  by_cases e4:time≤L
  ·rw [if_pos e4,if_pos e4]
   by_cases e5:c1<0
   ·rw [if_pos e5,if_pos e5];exact⟨rfl,rfl,fun z=>by omega⟩
   ·rw [if_neg e5,if_neg e5]
    split
    ·exact⟨rfl,rfl,fun z=>by omega⟩
    ·exact⟨rfl,rfl,fun z=>absurd z e5⟩
  ·rw [if_neg e4,if_neg e4]
   by_cases e5:c1<0
   ·have:=h3 e5
    subst this
    repeat' split
    all_goals exact⟨rfl,rfl,fun _=>rfl⟩
   ·repeat' split
    all_goals exact⟨rfl,rfl,fun z=>absurd z e5⟩
def lnE (d:Int×Int×Int):Int:=if 0≤d.1 then d.1 else if 0≤d.2.1 then d.2.1 else d.2.2
theorem q0s1 (s:q01) (time but:Int):lnE (laS s time but s.2.1.length)=lnE (lnS s time but s.2.1.length):=by
 obtain⟨h1,h2,h3⟩:=q0s0 s time but _ (Nat.le_refl _)
 unfold lnE
 rw [h1,h2]
 split
 ·rfl
 ·split
  ·rfl
  ·exact h3 (by omega)
set_option maxHeartbeats 4000000 in
theorem q07e {k:Nat} (hk:K0≤k) (s:q01) (time but:Int) (h:q1p s):q39 k s time but=some (lnE (lnS s time but s.2.1.length),()):=by
 have hk':=hk
 unfold K0 at hk
 unfold q39;delta W2
 obtain⟨hd,hl,hx,_⟩:=h
 have hle:∀j,j<s.2.1.length→0<(rdP ([],()) s.2.1 j).1.length→q20 k (rdP ([],()) s.2.1 j).1=some (qh0 (rdP ([],()) s.2.1 j).1,()):=fun j hj hne=>by
  have hm:=hx _ (by rw [qo hj];exact List.getElem_mem hj:rdP ([],()) s.2.1 j∈s.2.1)
  exact qxz hk' _ (by have:=hm.1;omega) (fun y hy=>(hm.2 y hy).2.2) hne
 rw [←q0s1]
 refine q08 (n:=s.2.1.length) (fun i=>((laS s time but i).1,(laS s time but i).2.1,(laS s time but i).2.2,(i:Int),())) rfl (fun i hi rec=> ?_) (fun rec=> ?_) (by omega)
 ·obtain⟨g1,g3⟩:=q0pb s time but i (by omega)
  have e:laS s time but (i+1)=laC s time but (laS s time but i) i:=rfl
  rw [e]
  clear e
  generalize laS s time but i=c at*
  obtain⟨a,b,g⟩:=c
  dsimp only at g1 g3 ⊢
  have hm:=hx _ (by rw [qo hi];exact List.getElem_mem hi:rdP ([],()) s.2.1 i∈s.2.1)
  have hm1:=hm.1
  have hlt:=qno hk' (rdP ([],()) s.2.1 i).1 (by omega)
  by_cases e2:s.1≤((rdP ([],()) s.2.1 i).1.length:Int)
  ·have e2':((rdP ([],()) s.2.1 i).1.length:Int)=s.1:=by omega
   simp (disch:=omega) only [evs,laC,if_pos,hlt];rfl
  by_cases e1:(i:Int)=but
  ·simp (disch:=omega) only [evs,laC,if_pos,if_neg,hlt];rfl
  by_cases e3:(rdP ([],()) s.2.1 i).1.length=0
  ·by_cases e4:b<0
   ·simp (disch:=omega) only [evs,laC,if_pos,if_neg,hlt];rfl
   ·simp (disch:=omega) only [evs,laC,if_pos,if_neg,hlt];rfl
  have hli:=hle i hi (by omega)
  generalize hL:qh0 (rdP ([],()) s.2.1 i).1=L at*
  by_cases t1:time≤L
  ·rcases g1 with rfl|⟨ja,rfl,fa,fb⟩
   ·simp (disch:=omega) only [evs,laC,if_pos,if_neg,hli,hL];rfl
   ·have ha:=hle ja fa fb
    by_cases t2:L<qh0 (rdP ([],()) s.2.1 ja).1<;>(simp (disch:=omega) only [evs,laC,if_pos,if_neg,hli,ha,hL];rfl)
  ·rcases g3 with rfl|⟨jg,rfl,fa,fb⟩
   ·simp (disch:=omega) only [evs,laC,if_pos,if_neg,hli,hL];rfl
   ·have hg:=hle jg fa fb
    by_cases t3:qh0 (rdP ([],()) s.2.1 jg).1<L<;>(simp (disch:=omega) only [evs,laC,if_pos,if_neg,hli,hg,hL];rfl)
 ·generalize laS s time but s.2.1.length=c
  unfold lnE
  by_cases e1:0≤c.1
  ·simp (disch:=omega) only [evs,if_pos]
  by_cases e2:0≤c.2.1
  ·simp (disch:=omega) only [evs,if_pos,if_neg]
  ·simp (disch:=omega) only [evs,if_neg]
theorem qpz {k:Nat} (hk:K0≤k) (s:q01) (time but:Int) (h:q1p s) (ht:0≤time∧time≤100000):q39 k s time but=some (q38 s time but,()):=by
 rw [q07e hk s time but h,q38,if_pos ⟨h,ht⟩];rfl
theorem qz7 {s:q01} (h:q1p s):(q19 s.2.1).length≤20:=by
 obtain⟨p1,p2,p3,p4⟩:=h
 have h1:(q19 s.2.1).length≤5*s.2.1.length:=q0gh (f:=fun l:List qkz×Unit=>q6q l.1) (fun c hc=>by simp only [q6q,List.length_map];have:=(p3 c hc).1;omega)
 omega
theorem q087 {k:Nat} (hk:K0≤k) (s:q01) (time but:Int) (h:q1p s):q8e k s time but=some (q38 s time but,()):=by
 have h1:q3b k (s.1,s.2.1,())=q0i (q1p s):=qm3 hk s (by have:=qz7 h;omega)
 unfold q8e
 rw [h1,qj,qq,q8 h,q9s,qj,qq]
 by_cases ht:0≤time∧time≤100000
 ·have h2:q39 k (s.1,s.2.1,()) time but=some (q38 s time but,()):=qpz hk s time but h ht
  rw [q8 ht,h2,q00]
 ·rw [qa ht,q38,if_neg (fun z=>ht z.2)]
theorem q0c0 {k:Nat} (hk:K0≤k) (s:q01) (b t:Int) (h:q1p s):q73 k s b t=some (qyp s b t):=by
 have hs:=qgb h
 have hbs:=qz7 h
 have h1:q0t k (s.1,s.2.1,())=some (s,()):=qhp hk s hs.lanes hs.kept
 have h2:q8e k (s.1,s.2.1,()) t (-1)=some (q38 s t (-1),()):=q087 hk s t (-1) h
 have h3:q2k k (s.1,s.2.1,())=some (q19 s.2.1,()):=qnb hk s hs.lanes (by omega)
 have h4:=q36 hk (q19 s.2.1) b (by omega)
 unfold q73
 rw [h1,q00,h2,q00]
 by_cases e1:q38 s t (-1)<0
 case pos=>rw [qn,q8 e1,qyp,if_neg (fun z=>absurd z.1 (by omega))]
 rw [qn,qa e1]
 by_cases e2:b<1
 case pos=>rw [qn,q8 e2,qyp,if_neg (fun z=>absurd z.2.1 (by omega))]
 rw [qn,qa e2,h3,q00,h4,qj]
 by_cases e3:(b,())∈q19 s.2.1
 case pos=>rw [q8 e3,qyp,if_neg (fun z=>z.2.2 (qct.1 e3))]
 rw [qa e3,qyp,if_pos ⟨by omega,by omega,fun z=>e3 (qct.2 z)⟩]
 obtain⟨⟨hj,_,hd⟩,ej⟩:=ql9 (s:=s) (t:=t) (but:= -1) (by omega)
 generalize q6 (q38 s t (-1))=j at*
 have hfit:=qny ((b,t,()):qkz) (l:=(rdP ([],()) s.2.1 j).1) (hs.kept _ (by rw [qo hj];exact List.getElem_mem hj))
 rw [ej]
 simp (disch:=omega) only [evs,hfit]
 rfl
theorem q0bp {k:Nat} (hk:K0≤k) (s:q01) (b:Int) (hs:SzS s):(∃i,i<s.2.1.length∧(∃y,y∈q0w s i∧y.1=b)∧(∀j,j<i→¬ ∃y,y∈q0w s j∧y.1=b)∧q5g k s b=some ((i:Int),()))∨((∀j,j<s.2.1.length→¬ ∃y,y∈q0w s j∧y.1=b)∧q5g k s b=some (-1,())):=by
 have hll:=hs.lanes
 unfold K0 at hk
 unfold q5g
 refine qcv (n:=s.2.1.length) (fun i=>((i:Int),())) (fun i=>∃y,y∈q0w s i∧y.1=b) (fun i=>some ((i:Int),())) rfl (by omega) (fun i hi _ rec=> ?_) (fun _ rec=>by simp (disch:=omega) only [evs])
 have hkl:=hs.kept _ (by rw [qo hi];exact List.getElem_mem hi:rdP ([],()) s.2.1 i∈s.2.1)
 have hl:(q0w s i).length≤1048576:=hkl
 have e:rdP ([],()) s.2.1 i=(q0w s i,()):=rfl
 rw [qn,q31,q8 (by omega),qk,q0c,q8 (by omega),qk,q04,e,qkr (by omega)]
 refine(qi8 (n:=(q0w s i).length) (r:=some ((i:Int),())) (e:=rec ((i:Int)+1,())) (fun j=>((j:Int),())) (fun j=>(rdP (0,0,()) (q0w s i) j).1=b) ?_ ?_ ?_ ?_).trans ?_
 ·rfl
 ·omega
 ·intro j hj _ rec2
  simp (disch:=omega) only [evs]
  rfl
 ·intro _ rec2
  simp (disch:=omega) only [evs]
 ·exact q8m (q0gk (P:=fun y:qkz=>y.1=b)) _ _
theorem q0bo {k:Nat} (hk:K0≤k) {s:q01} {b:Int} (h:q1p s) (hb:InS s b):q5g k s b=some ((qmn s b:Int),()):=by
 have hs:=qgb h
 rcases q0bp hk s b hs with⟨i,hi,h1,h2,e⟩|⟨h1,e⟩
 ·have hix:qmn s b=i:=by
   unfold qmn
   rw [List.findIdx_eq hi]
   refine⟨qyr.2 (by unfold q0w at h1;rw [qo hi]at h1;exact h1),fun j hj=> ?_⟩
   have:=h2 j hj
   unfold q0w at this
   rw [qo (Nat.lt_trans hj hi)]at this
   exact Bool.eq_false_iff.2 (fun z=>this (qyr.1 z))
  rw [hix];exact e
 ·obtain⟨l,hl,hy⟩:=hb
  obtain⟨j,hj,rfl⟩:=List.getElem_of_mem hl
  have:=h1 j hj
  unfold q0w at this
  rw [qo hj]at this
  exact absurd hy this
theorem q0je (k:Nat) (s:q01) (i:Nat) (hi:i<s.2.1.length) (hne:0<(q0w s i).length) (hl:(q0w s i).length≤1048576):q3w k s i=some (((q0z s i).1,(q0z s i).2.1,()),qqf s i,()):=by
 have hlk:(rdP ([],()) s.2.1 i).1=q0w s i:=rfl
 have hn:q6 (((q0w s i).length:Int)-1)=(q0w s i).length-1:=by unfold q6;omega
 have hla:rdP (0,0,()) (q0w s i) ((q0w s i).length-1)=q0z s i:=rfl
 unfold q3w
 simp (disch:=omega) only [evs,hlk,hn,hla,qi]
 rfl
theorem q0nb {x:q01} {i j:Nat} (hij:i≠j):(qqf x i).2.1.set j ((rdP ([],()) (qqf x i).2.1 j).1++[q0z x i],())=(qsd x i j).2.1:=by
 have e:rdP ([],()) (qqf x i).2.1 j=rdP ([],()) x.2.1 j:=q9l hij
 rw [e]
 unfold qqf qsd
 dsimp only
 rw [List.set_comm _ _ hij]
 rfl
theorem q0li {x:q01} {i:Nat} (h:q1p x) (hi:i<x.2.1.length) (hne:0<(q0w x i).length):0≤(q0z x i).2.1∧(q0z x i).2.1≤100000:=
 ((h.2.2.1 _ (by rw [qo hi];exact List.getElem_mem hi:rdP ([],()) x.2.1 i∈x.2.1)).2 _ (q0ns hne)).2
set_option maxHeartbeats 1000000 in
theorem qq2 {k:Nat} (hk:K0≤k) {s:q01} {b:Int} (h:q1p s) (hb:InS s b):q1v k s b=some (qmw s b):=by
 have hs:=qgb h
 have h1:q0t k (s.1,s.2.1,())=some (s,()):=qhp hk s hs.lanes hs.kept
 have h2:q3b k (s.1,s.2.1,())=q0i (q1p s):=qm3 hk s (by have:=qz7 h;omega)
 have h3:q5g k (s.1,s.2.1,()) b=some ((qmn s b:Int),()):=q0bo hk h hb
 obtain⟨hi,hb',_⟩:=q09p hk h hb
 unfold qmw
 generalize qmn s b=i at*
 have hk':=hk
 unfold K0 at hk
 have hll:=(h.2.2.1 _ (by rw [qo hi];exact List.getElem_mem hi:rdP ([],()) s.2.1 i∈s.2.1)).1
 have hd:=h.1
 unfold q1v
 rw [h3,q00,h2,qj,qq,q8 h,qn,qa (by dsimp only;omega),h1,q00]
 refine q0av (fun f c r=>∃(x:q01) (hp:List HopT),c=(x.1,x.2.1,hp,())∧q1p x∧i<x.2.1.length∧(∃y,y∈q0w x i∧y.1=b)∧(q0w x i).length=f∧hp.length+f≤5∧r=some (qvq s b i f x hp)) ?_ (q0w s i).length k _ _ (by unfold q0w;omega) ⟨s,[],rfl,h,hi,hb',rfl,by unfold q0w;simp;omega,rfl⟩
 rintro f c r ⟨x,hp,rfl,hx,hxi,hxb,hxl,hpl,rfl⟩
 have hne:0<(q0w x i).length:=by obtain⟨y,hy,_⟩:=hxb;exact List.length_pos_of_mem hy
 obtain⟨f,rfl⟩:∃g,f=g+1:=⟨f-1,by omega⟩
 have hlk:(rdP ([],()) x.2.1 i).1=q0w x i:=rfl
 have hn:q6 (((q0w x i).length:Int)-1)=(q0w x i).length-1:=by unfold q6;omega
 have hla:rdP (0,0,()) (q0w x i) ((q0w x i).length-1)=q0z x i:=rfl
 have hlf:q39 k (x.1,x.2.1,()) (q0z x i).2.1 i=some (q38 x (q0z x i).2.1 i,()):=qpz hk' x _ _ hx (q0li hx hxi hne)
 have hpop:q3w k (x.1,x.2.1,()) i=some (((q0z x i).1,(q0z x i).2.1,()),qqf x i,()):=q0je k x i hxi hne (by omega)
 rw [qvq]
 by_cases e1:(q0z x i).1=b
 ·left;intro rec
  rw [if_pos e1]
  simp (disch:=omega) only [evs,hlk,hn,hla,qi,hpop]
 rw [if_neg e1]
 by_cases e2:q38 x (q0z x i).2.1 i<0
 ·left;intro rec
  rw [if_pos e2]
  simp (disch:=omega) only [evs,hlk,hn,hla,qi,hlf,h1]
 rw [if_neg e2]
 obtain⟨hfr,ej⟩:=ql9 (s:=x) (t:=(q0z x i).2.1) (but:=i) (by omega)
 have hij:i≠q6 (q38 x (q0z x i).2.1 i):=fun z=>hfr.2.1 (by rw [←z])
 have hfit:=qny (((q0z x i).1,(i:Int),q38 x (q0z x i).2.1 i,()):HopT) (l:=hp) (by omega)
 have hop:=q0nb (x:=x) hij
 have hol:(qqf x i).2.1.length=x.2.1.length:=by simp [qqf]
 have hjn:=hfr.1
 have hsx:=qgb hx
 right
 refine⟨f,((qsd x i (q6 (q38 x (q0z x i).2.1 i))).1,(qsd x i (q6 (q38 x (q0z x i).2.1 i))).2.1,hp++[((q0z x i).1,(i:Int),q38 x (q0z x i).2.1 i,())],()),rfl,⟨_,_,rfl,q0hx hx hxi hfr hne,by simpa [qsd]using hxi,qsc hxi hxb e1,?_,by simp;omega,rfl⟩,fun rec=> ?_⟩
 ·rw [q0cf hxi,List.length_take];omega
 ·have hbj:(rdP ([],()) (qqf x i).2.1 (q6 (q38 x (q0z x i).2.1 i))).1.length≤1048576:=by
   have e:rdP ([],()) (qqf x i).2.1 (q6 (q38 x (q0z x i).2.1 i))=rdP ([],()) x.2.1 (q6 (q38 x (q0z x i).2.1 i)):=q9l hij
   rw [e]
   exact hsx.kept _ (by rw [qo hjn];exact List.getElem_mem hjn)
  have hfit2:=qny (((q0z x i).1,(q0z x i).2.1,()):qkz) hbj
  have hop':(qqf x i).2.1.set (q6 (q38 x (q0z x i).2.1 i)) ((rdP ([],()) (qqf x i).2.1 (q6 (q38 x (q0z x i).2.1 i))).1++[((q0z x i).1,(q0z x i).2.1,())],())=(qsd x i (q6 (q38 x (q0z x i).2.1 i))).2.1:=hop
  generalize hjj:q6 (q38 x (q0z x i).2.1 i)=j at*
  rw [ej]at hlf hfit ⊢
  simp (disch:=omega) only [evs,hlk,hn,hla,qi,hlf,hpop,hfit,hfit2,hol,hop']
  rfl
end Go.Proofs.YtpmjopbgccajgaaGreat.Eng
