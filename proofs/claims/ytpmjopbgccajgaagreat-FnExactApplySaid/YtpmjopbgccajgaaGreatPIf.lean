/- A flight departs: the program's function is the reference's. No condition. -/
import Derived.Test.YtpmjopbgccajgaaGreatPIe
import Derived.Test.YtpmjopbgccajgaaGreatD
namespace Go.Proofs.YtpmjopbgccajgaaGreat.Eng
set_option linter.unusedVariables false
set_option linter.unusedSimpArgs false
theorem q0sc {no:List q0a} {f:Int} {s:DpS} {b:Int×Unit} (hb:1≤b.1∧b.1≤s.2.1.length):(dpC no f s b).2.1.length=s.2.1.length∧∀i,i<s.2.1.length→(rdP (0,0,0,0,0,0,0,0,0,0,()) (dpC no f s b).2.1 i).2.2.2.1=(rdP (0,0,0,0,0,0,0,0,0,0,()) s.2.1 i).2.2.2.1:=by
 have hn:q6 (b.1-1)<s.2.1.length:=by unfold q6;omega
 have hk:∀p:Int,∀i,i<s.2.1.length→(rdP (0,0,0,0,0,0,0,0,0,0,()) (s.2.1.set (q6 (b.1-1)) (qi2 (q1o s.2.1 b.1) p)) i).2.2.2.1=(rdP (0,0,0,0,0,0,0,0,0,0,()) s.2.1 i).2.2.2.1:=by
  intro p i hi
  by_cases e:q6 (b.1-1)=i
  ·rw [e,q6y hi,←e];rfl
  ·rw [q9l e]
 unfold dpC
 split
 ·split
  ·exact⟨by simp,hk 6⟩
  ·exact⟨by simp,hk 7⟩
 ·exact⟨rfl,fun _ _=>rfl⟩
def qz8 (cs:List q45) (f:Int) (b:Int×Unit):Bool:=decide ((q1o cs b.1).2.2.2.1≠f)
def q0j8 (x:qu) (j:Nat) (l:List (Int×Unit)):q28:=(x.2.2.2.2.2.2.2.2.1,x.2.2.2.2.2.2.2.2.2.1,x.2.2.2.2.2.2.2.2.2.2.1.set j ((rdP (0,0,[],()) x.2.2.2.2.2.2.2.2.2.2.1 j).1,(rdP (0,0,[],()) x.2.2.2.2.2.2.2.2.2.2.1 j).2.1,l,()),x.2.2.2.2.2.2.2.2.2.2.2.1,())
theorem q0od {x:qu} {f:Int} (h:q1y x) (hf:1≤f∧f≤x.2.2.2.2.2.2.2.2.2.2.2.2.2.2.2.1.length):∀m,m≤(q0e x f).length→
  (dpS x.2.2.2.2.2.2.2.2.2.2.2.2.2.2.1 f (qv x,x.2.2.2.2.2.2.2.2.2.2.2.2.2.2.2.2.1,[]) ((q0e x f).take m)).1=q0j8 x (q6 (qqn x f).2.2.1) (((q0e x f).take m).filter (qz8 x.2.2.2.2.2.2.2.2.2.2.2.2.2.2.2.2.1 f)++(q0e x f).drop m)∧
  (dpS x.2.2.2.2.2.2.2.2.2.2.2.2.2.2.1 f (qv x,x.2.2.2.2.2.2.2.2.2.2.2.2.2.2.2.2.1,[]) ((q0e x f).take m)).2.1.length=x.2.2.2.2.2.2.2.2.2.2.2.2.2.2.2.2.1.length∧∀i,i<x.2.2.2.2.2.2.2.2.2.2.2.2.2.2.2.2.1.length→(rdP (0,0,0,0,0,0,0,0,0,0,()) (dpS x.2.2.2.2.2.2.2.2.2.2.2.2.2.2.1 f (qv x,x.2.2.2.2.2.2.2.2.2.2.2.2.2.2.2.2.1,[]) ((q0e x f).take m)).2.1 i).2.2.2.1=(rdP (0,0,0,0,0,0,0,0,0,0,()) x.2.2.2.2.2.2.2.2.2.2.2.2.2.2.2.2.1 i).2.2.2.1:=by
 obtain⟨g1,g2⟩:=q0i2 h hf
 obtain⟨m1,m0,m2,m3,m4⟩:=qpc h hf
 intro m
 induction m with
 |zero=>
  intro _
  refine⟨?_,rfl,fun _ _=>rfl⟩
  show qv x=_
  unfold q0j8 qv
  rw [List.take_zero,List.filter_nil,List.nil_append,List.drop_zero]
  have:x.2.2.2.2.2.2.2.2.2.2.1.set (q6 (qqn x f).2.2.1) ((rdP (0,0,[],()) x.2.2.2.2.2.2.2.2.2.2.1 (q6 (qqn x f).2.2.1)).1,(rdP (0,0,[],()) x.2.2.2.2.2.2.2.2.2.2.1 (q6 (qqn x f).2.2.1)).2.1,q0e x f,())=x.2.2.2.2.2.2.2.2.2.2.1:=by
   unfold q0e
   rw [qo m1]
   exact List.set_getElem_self _
  rw [this]
 |succ m ih=>
  intro hm
  obtain⟨i1,i2,i3⟩:=ih (by omega)
  have hml:m<(q0e x f).length:=by omega
  have hmem:rdP (0,()) (q0e x f) m∈q0e x f:=by rw [qo hml];exact List.getElem_mem hml
  obtain⟨b1,b2⟩:=m2 _ hmem
  have hst:=q0i7 (x:=x) (fl:=flD x f) (f:=f) (fun _=>g2) ((q0e x f).take m) (qv x,x.2.2.2.2.2.2.2.2.2.2.2.2.2.2.2.2.1,[]) g1 (fun b hb=>m2 b (List.mem_of_mem_take hb)) (m3.sublist (List.take_sublist _ _))
  have hL:q1n (dpS x.2.2.2.2.2.2.2.2.2.2.2.2.2.2.1 f (qv x,x.2.2.2.2.2.2.2.2.2.2.2.2.2.2.2.2.1,[]) ((q0e x f).take m)).1:=hst.1.2.2.2.2.1
  have hbl:(rdP (0,()) (q0e x f) m).1≤x.2.2.2.2.2.2.2.2.2.2.2.2.2.2.2.2.1.length:=by
   obtain⟨c,hc,hz⟩:=b2
   exact h.2.2.2.2.2.2.2.2.2.2.2.2.2.1 c hc _ hz
  rw [q0sb hml]
  obtain⟨f1,f2⟩:=q0sc (no:=x.2.2.2.2.2.2.2.2.2.2.2.2.2.2.1) (f:=f) (s:=dpS x.2.2.2.2.2.2.2.2.2.2.2.2.2.2.1 f (qv x,x.2.2.2.2.2.2.2.2.2.2.2.2.2.2.2.2.1,[]) ((q0e x f).take m)) (b:=rdP (0,()) (q0e x f) m) ⟨b1,by rw [i2];exact hbl⟩
  refine⟨?_,f1.trans i2,fun i hi=>(f2 i (by rw [i2];exact hi)).trans (i3 i hi)⟩
  have hn:q6 ((rdP (0,()) (q0e x f) m).1-1)<x.2.2.2.2.2.2.2.2.2.2.2.2.2.2.2.2.1.length:=by unfold q6;omega
  have hfl:(q1o (dpS x.2.2.2.2.2.2.2.2.2.2.2.2.2.2.1 f (qv x,x.2.2.2.2.2.2.2.2.2.2.2.2.2.2.2.2.1,[]) ((q0e x f).take m)).2.1 (rdP (0,()) (q0e x f) m).1).2.2.2.1=(q1o x.2.2.2.2.2.2.2.2.2.2.2.2.2.2.2.2.1 (rdP (0,()) (q0e x f) m).1).2.2.2.1:=i3 _ hn
  have hdrop:(q0e x f).drop m=rdP (0,()) (q0e x f) m::(q0e x f).drop (m+1):=qvm hml
  have htake:(q0e x f).take (m+1)=(q0e x f).take m++[rdP (0,()) (q0e x f) m]:=q7b hml
  generalize hs:dpS x.2.2.2.2.2.2.2.2.2.2.2.2.2.2.1 f (qv x,x.2.2.2.2.2.2.2.2.2.2.2.2.2.2.2.2.1,[]) ((q0e x f).take m)=s at*
  generalize hb:rdP (0,()) (q0e x f) m=b at*
  have e1:(dpC x.2.2.2.2.2.2.2.2.2.2.2.2.2.2.1 f s b).1=if (q1o s.2.1 b.1).2.2.2.1=f then q3s s.1 b.1 else s.1:=by
   unfold dpC
   split
   ·split<;>rfl
   ·rfl
  rw [e1,hfl,htake,List.filter_append]
  by_cases e:(q1o x.2.2.2.2.2.2.2.2.2.2.2.2.2.2.2.2.1 b.1).2.2.2.1=f
  ·rw [if_pos e]
   have eq0:qz8 x.2.2.2.2.2.2.2.2.2.2.2.2.2.2.2.2.1 f b=false:=by unfold qz8;simp [e]
   rw [List.filter_cons_of_neg (by rw [eq0];simp),List.filter_nil,List.append_nil]
   rw [i1]at hL ⊢
   have hj':q6 (qqn x f).2.2.1<(q0j8 x (q6 (qqn x f).2.2.1) (((q0e x f).take m).filter (qz8 x.2.2.2.2.2.2.2.2.2.2.2.2.2.2.2.2.1 f)++(q0e x f).drop m)).2.2.1.length:=by show _<(x.2.2.2.2.2.2.2.2.2.2.1.set _ _).length;rw [List.length_set];exact m1
   have hat:rdP (0,0,[],()) (q0j8 x (q6 (qqn x f).2.2.1) (((q0e x f).take m).filter (qz8 x.2.2.2.2.2.2.2.2.2.2.2.2.2.2.2.2.1 f)++(q0e x f).drop m)).2.2.1 (q6 (qqn x f).2.2.1)=((rdP (0,0,[],()) x.2.2.2.2.2.2.2.2.2.2.1 (q6 (qqn x f).2.2.1)).1,(rdP (0,0,[],()) x.2.2.2.2.2.2.2.2.2.2.1 (q6 (qqn x f).2.2.1)).2.1,((q0e x f).take m).filter (qz8 x.2.2.2.2.2.2.2.2.2.2.2.2.2.2.2.2.1 f)++(q0e x f).drop m,()):=q6y m1
   have hbu:(b.1,())=b:=by obtain⟨b,u⟩:=b;cases u;rfl
   rw [q0ez hL hj' b1 (by rw [hat];dsimp only;rw [hdrop,hbu];exact List.mem_append_right _ (List.mem_cons_self ..)),hat]
   have hnb:∀y∈(q0e x f).take m,y.1≠b.1:=by
    intro y hy ey
    have hnd:=m3
    rw [←List.take_append_drop m (q0e x f),hdrop]at hnd
    refine(List.nodup_append.1 hnd).2.2 y hy b (List.mem_cons_self ..) ?_
    obtain⟨y,u⟩:=y;obtain⟨b,v⟩:=b;cases u;cases v
    dsimp only at ey;rw [ey]
   have hnb2:∀y∈(q0e x f).drop (m+1),y.1≠b.1:=by
    intro y hy ey
    have hnd:=m3
    rw [←List.take_append_drop m (q0e x f),hdrop]at hnd
    have:=(List.nodup_cons.1 (List.nodup_append.1 hnd).2.1).1
    apply this
    have:y=b:=by
     obtain⟨y,u⟩:=y;obtain⟨b,v⟩:=b;cases u;cases v
     dsimp only at ey;rw [ey]
    rw [←this];exact hy
   have ef:(((q0e x f).take m).filter (qz8 x.2.2.2.2.2.2.2.2.2.2.2.2.2.2.2.2.1 f)++(q0e x f).drop m).filter (fun y=>decide (y.1≠b.1))=((q0e x f).take m).filter (qz8 x.2.2.2.2.2.2.2.2.2.2.2.2.2.2.2.2.1 f)++(q0e x f).drop (m+1):=by
    rw [hdrop,List.filter_append,List.filter_cons_of_neg (by simp)]
    congr 1
    ·rw [List.filter_eq_self]
     intro y hy
     have:=hnb y (List.mem_filter.1 hy).1
     simpa using this
    ·rw [List.filter_eq_self]
     intro y hy
     have:=hnb2 y hy
     simpa using this
   dsimp only
   rw [ef]
   unfold q0j8
   dsimp only
   rw [List.set_set]
  ·rw [if_neg e]
   have eq0:qz8 x.2.2.2.2.2.2.2.2.2.2.2.2.2.2.2.2.1 f b=true:=by unfold qz8;simp [e]
   rw [List.filter_cons_of_pos (by rw [eq0]),List.filter_nil,i1,hdrop,List.append_assoc]
   rfl
set_option maxHeartbeats 1000000 in
theorem q0bu {k:Nat} (hk:K0≤k) (x:qu) (f:Int) (h:q1y x):q9u k x f=some ((depM x f).2.1,(depM x f).1,()):=by
 have hs:=q4w h
 have e1:q1u k x f=q0i (1≤f∧f≤x.2.2.2.2.2.2.2.2.2.2.2.2.2.2.2.1.length):=qk1 k x f
 have hG:=q0ge hk x.2.2.2.2.2.2.2.2.2.2.2.2.2.2.1 hs.notes
 have hfl:=hs.flights
 have hcl:=hs.cases_
 have hch:=hs.chutes
 unfold q9u depM;delta W3
 refine Eq.trans (b:=bnd (q1u k x f) _) rfl ?_
 rw [e1,qj,qq]
 by_cases hf:1≤f∧f≤x.2.2.2.2.2.2.2.2.2.2.2.2.2.2.2.1.length
 case neg=>rw [qa hf,if_neg (fun z=>hf z.2.1)]
 rw [q8 hf]
 have hn:q6 (f-1)<x.2.2.2.2.2.2.2.2.2.2.2.2.2.2.2.1.length:=by unfold q6;omega
 have hfa:rdP (0,0,0,false,0,()) x.2.2.2.2.2.2.2.2.2.2.2.2.2.2.2.1 (q6 (f-1))=qqn x f:=rfl
 rw [qi (by omega),q0c,q8 (by rw [q31];omega),qk,hfa]
 cases hd:(qqn x f).2.2.2.1 with
 |true=>rw [qec,if_neg (fun z=>by have:=z.2.2.1;rw [hfa,hd]at this;cases this)]
 |false=>
 rw [qi1,qk,qn]
 by_cases hn2:(qqn x f).2.1≤x.1
 case neg=>rw [q8 (by omega),if_neg (fun z=>hn2 z.2.2.2.1)]
 rw [qa (by omega),hG,q00,q02,q0o]
 by_cases hg:q0o1 x.2.2.2.2.2.2.2.2.2.2.2.2.2.2.1=0
 case neg=>rw [q8 (by exact hg),if_neg (fun z=>hg z.2.2.2.2)]
 rw [qa (fun z=>z hg),if_pos ⟨h,hf,hd,hn2,hg⟩,qk]
 obtain⟨g1,g2⟩:=q0i2 h hf
 obtain⟨m1,m0,m2,m3,m4⟩:=qpc h hf
 have hba:(rdP (0,0,[],()) x.2.2.2.2.2.2.2.2.2.2.1 (q6 (qqn x f).2.2.1)).2.2.1=q0e x f:=rfl
 rw [q0c,q8 (by rw [q31];unfold q6 at m1;omega),qk]
 have hk':=hk
 unfold K0 at hk
 have hbl:∀b∈q0e x f,1≤b.1∧b.1≤x.2.2.2.2.2.2.2.2.2.2.2.2.2.2.2.2.1.length:=fun b hb=>by
  obtain⟨b1,c,hc,hz⟩:=m2 b hb
  exact⟨b1,h.2.2.2.2.2.2.2.2.2.2.2.2.2.1 c hc _ hz⟩
 have hle:=q0od h hf
 have hlend:=(hle _ (Nat.le_refl _)).1
 rw [List.take_length,List.drop_length,List.append_nil]at hlend
 have hdq:=q0s9 x.2.2.2.2.2.2.2.2.2.2.2.2.2.2.1 f
 have hlq:=q0co x.2.2.2.2.2.2.2.2.2.2.2.2.2.2.1 f
 rw [hba]
 have hE:dpE x f=dpS x.2.2.2.2.2.2.2.2.2.2.2.2.2.2.1 f (qv x,x.2.2.2.2.2.2.2.2.2.2.2.2.2.2.2.2.1,[]) (q0e x f):=rfl
 rw [hE,hlend]
 have hpcs:=q0gn x.2.2.2.2.2.2.2.2.2.2.2.2.2.2.1 f
 clear hle hlend
 generalize hB:q0e x f=B at*
 refine q08 (n:=B.length) (fun j=>((dqS x.2.2.2.2.2.2.2.2.2.2.2.2.2.2.1 f (x.2.2.2.2.2.2.2.2.2.2.2.2.2.2.2.2.1,[],[]) (B.take j)).1,(dqS x.2.2.2.2.2.2.2.2.2.2.2.2.2.2.1 f (x.2.2.2.2.2.2.2.2.2.2.2.2.2.2.2.2.1,[],[]) (B.take j)).2.1,(dqS x.2.2.2.2.2.2.2.2.2.2.2.2.2.2.1 f (x.2.2.2.2.2.2.2.2.2.2.2.2.2.2.2.2.1,[],[]) (B.take j)).2.2,(j:Int),())) rfl (fun j hj rec=> ?_) (fun rec=> ?_) (by omega)
 ·obtain⟨l1,l2,l3⟩:=hlq (B.take j) (x.2.2.2.2.2.2.2.2.2.2.2.2.2.2.2.2.1,[],[]) x.2.2.2.2.2.2.2.2.2.2.2.2.2.2.2.2.1 rfl (fun _ _=>rfl) (fun b hb=>hbl b (List.mem_of_mem_take hb))
  have hp:=hpcs (B.take j) (qv x,x.2.2.2.2.2.2.2.2.2.2.2.2.2.2.2.2.1,[])
  have hpe:=(hdq (B.take j) (x.2.2.2.2.2.2.2.2.2.2.2.2.2.2.2.2.1,[],[]) (qv x,x.2.2.2.2.2.2.2.2.2.2.2.2.2.2.2.2.1,[]) rfl rfl).2
  rw [←hpe]at hp
  rw [List.length_take]at hp l3
  simp only [List.length_nil]at hp l3
  have hm:rdP (0,()) B j∈B:=by rw [qo hj];exact List.getElem_mem hj
  obtain⟨b1,b2⟩:=hbl _ hm
  rw [q0t7 hj]
  have hfly:=q0c2 hk' x.2.2.2.2.2.2.2.2.2.2.2.2.2.2.1 (rdP (0,()) B j).1 f hs.notes
  generalize dqS x.2.2.2.2.2.2.2.2.2.2.2.2.2.2.1 f (x.2.2.2.2.2.2.2.2.2.2.2.2.2.2.2.2.1,[],[]) (B.take j)=s at*
  obtain⟨b,hbe⟩:∃b,rdP (0,()) B j=(b,()):=⟨(rdP (0,()) B j).1,rfl⟩
  rw [show dqC x.2.2.2.2.2.2.2.2.2.2.2.2.2.2.1 f s (rdP (0,()) B j)=dqC x.2.2.2.2.2.2.2.2.2.2.2.2.2.2.1 f s (b,()) by rw [hbe]]
  rw [hbe]at hfly b1 b2
  have hi:q6 (b-1)<s.1.length:=by unfold q6;(try dsimp only at b1 b2);omega
  have hca:rdP (0,0,0,0,0,0,0,0,0,0,()) s.1 (q6 (b-1))=q1o s.1 b:=rfl
  have hfit:=qny (pcOf b (q1o s.1 b)) (l:=s.2.1) (by omega)
  have hfit':q4x s.2.1 [(b,(q1o s.1 b).2.2.2.2.1,(q1o s.1 b).2.2.2.2.2.1,())]=true:=hfit
  have hfit2:=qny ((b,()):Int×Unit) (l:=s.2.2) (by omega)
  have hset:∀p:q45,rdP (0,0,0,0,0,0,0,0,0,0,()) (s.1.set (q6 (b-1)) p) (q6 (b-1))=p:=fun p=>q6y hi
  (try dsimp only at b1 b2 hfly)
  unfold dqC
  by_cases e:(q1o s.1 b).2.2.2.1=f
  ·rw [if_pos e]
   by_cases hfl:flyP x.2.2.2.2.2.2.2.2.2.2.2.2.2.2.1 b f
   ·rw [if_pos hfl]
    simp (disch:=omega) only [evs,qi,hbe,hca,hfly,hfit',q78,hset]
    rfl
   ·rw [if_neg hfl]
    simp (disch:=omega) only [evs,qi,hbe,hca,hfly]
    rfl
  ·rw [if_neg e]
   simp (disch:=omega) only [evs,qi,hbe,hca,hfit2]
   rfl
 ·obtain⟨l1,l2,l3⟩:=hlq B (x.2.2.2.2.2.2.2.2.2.2.2.2.2.2.2.2.1,[],[]) x.2.2.2.2.2.2.2.2.2.2.2.2.2.2.2.2.1 rfl (fun _ _=>rfl) hbl
  obtain⟨q1,q2⟩:=hdq B (x.2.2.2.2.2.2.2.2.2.2.2.2.2.2.2.2.1,[],[]) (qv x,x.2.2.2.2.2.2.2.2.2.2.2.2.2.2.2.2.1,[]) rfl rfl
  have hp:=hpcs B (qv x,x.2.2.2.2.2.2.2.2.2.2.2.2.2.2.2.2.1,[])
  rw [List.take_length]
  have hr:q9x k (x.2.2.1,x.2.2.2.1,()) (dqS x.2.2.2.2.2.2.2.2.2.2.2.2.2.2.1 f (x.2.2.2.2.2.2.2.2.2.2.2.2.2.2.2.2.1,[],[]) B).2.1=some (repM (x.2.2.1,x.2.2.2.1,()) (dqS x.2.2.2.2.2.2.2.2.2.2.2.2.2.2.1 f (x.2.2.2.2.2.2.2.2.2.2.2.2.2.2.2.2.1,[],[]) B).2.1,()):=q0bz hk' _ _ (by rw [q2];simp only [List.length_nil]at hp;omega)
  have hl2:(dqS x.2.2.2.2.2.2.2.2.2.2.2.2.2.2.1 f (x.2.2.2.2.2.2.2.2.2.2.2.2.2.2.2.2.1,[],[]) B).2.2=B.filter (qz8 x.2.2.2.2.2.2.2.2.2.2.2.2.2.2.2.2.1 f):=l2
  rw [hl2,q2]
  rw [q2]at hr
  simp (disch:=omega) only [evs,hr,hfa,List.length_set,q6y,List.set_set]
  rw [q1]
  unfold flD boxN qm8 q0j8
  rw [hE]
end Go.Proofs.YtpmjopbgccajgaaGreat.Eng
