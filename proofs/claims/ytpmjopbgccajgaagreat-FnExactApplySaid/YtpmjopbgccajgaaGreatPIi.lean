/- Giving a bag back, a tick, a command, a run: what the program's functions compute. No condition. -/
import Derived.Test.YtpmjopbgccajgaaGreatPIh
import Derived.Test.YtpmjopbgccajgaaGreatD
namespace Go.Proofs.YtpmjopbgccajgaaGreat.Eng
set_option linter.unusedVariables false
set_option linter.unusedSimpArgs false
theorem q0qn {α R:Type} {P:Option R→Prop} {d:α} {k:Nat} (hk:K0≤k) (l:List α) (hl:l.length≤1048576) (q:α→Prop) {F1:(Int×Unit→Option R)→Int×Unit→Option R} {F2:(List α×Int×Int×Unit→Option R)→List α×Int×Int×Unit→Option R}
  (hF1:∀(i:Nat) rec,i<l.length→F1 rec ((i:Int),())=br (dc (q (rdP d l i))) (qh F2 k (l,(i:Int),((i+1:Nat):Int),())) (rec (((i+1:Nat):Int),()))) (hE1:keep q l=l→∀rec,P (F1 rec ((l.length:Int),())))
  (hF2:∀(c:List α) (i j:Nat) rec,c.length=l.length→i≤j→j<l.length→F2 rec (c,(i:Int),(j:Int),())=br (dc (q (rdP d c j))) (rec (c,(i:Int),((j+1:Nat):Int),())) (rec (c.set i (rdP d c j),((i+1:Nat):Int),((j+1:Nat):Int),())))
  (hE2:∀(c:List α) (i:Nat) rec,c.length=l.length→i=(keep q l).length→c.take i=keep q l→P (F2 rec (c,(i:Int),(l.length:Int),()))):P (qh F1 k (0,())):=by
 unfold K0 at hk
 refine ql6 (P:=P) (fun f c=>∃i:Nat,c=((i:Int),())∧i+f=l.length∧∀j,j<i→¬q (rdP d l j)) (fun f c rec h=> ?_) (f:=l.length) ⟨0,rfl,by omega,fun j hj=>by omega⟩ (by omega)
 obtain⟨i,rfl,hif,hb⟩:=h
 rcases f with _|f
 ·obtain rfl:i=l.length:=by omega
  exact .inl (hE1 (q0hr ((q5i (d:=d)).1 hb)) rec)
 have hi:i<l.length:=by omega
 rw [hF1 i rec hi]
 by_cases hq:q (rdP d l i)
 case neg=>
  rw [qa hq]
  refine .inr ⟨f,_,by omega,⟨i+1,rfl,by omega,fun j hj=> ?_⟩,rfl⟩
  by_cases e:j=i
  ·rw [e];exact hq
  ·exact hb j (by omega)
 rw [q8 hq]
 left
 ·have hpre:keep q (l.take i)=l.take i:=q0hr fun x hx=>by
   obtain⟨j,hj,rfl⟩:=List.getElem_of_mem hx
   rw [List.length_take]at hj
   have:=hb j (by omega)
   rw [qo (by omega)]at this
   simpa using this
  have hi1:(keep q (l.take (i+1))).length=i:=by rw [(q0lk (d:=d) hi).1 hq,hpre,List.length_take];omega
  refine qcu (P:=P) (n:=l.length-(i+1)) (fun t c=>∃c',c=(c',((keep q (l.take (i+1+t))).length:Int),((i+1+t:Nat):Int),())∧c'.length=l.length∧(keep q (l.take (i+1+t))).length<i+1+t∧c'.take (keep q (l.take (i+1+t))).length=keep q (l.take (i+1+t))∧∀s,i+1+t≤s→rdP d c' s=rdP d l s) ⟨l,by rw [Nat.add_zero,hi1],rfl,by rw [Nat.add_zero,hi1];omega,by rw [Nat.add_zero,hi1,(q0lk (d:=d) hi).1 hq,hpre],fun s _=>rfl⟩ ?_ ?_ (by omega)
  ·rintro t c rec ht ⟨c',rfl,h1,h2,h3,h4⟩
   have hj:i+1+t<l.length:=by omega
   rw [hF2 c' _ _ rec h1 (by omega) hj,h4 _ (Nat.le_refl _)]
   obtain⟨s1,s2⟩:=q0lk (d:=d) (q:=q) hj
   by_cases hq':q (rdP d l (i+1+t))
   ·rw [q8 hq']
    have s1:=s1 hq'
    refine⟨_,⟨c',rfl,h1,?_,?_,fun s hs=>h4 s (by omega)⟩,?_⟩
    ·rw [←Nat.add_assoc,s1];omega
    ·rw [←Nat.add_assoc,s1];exact h3
    ·rw [←Nat.add_assoc,s1]
   ·rw [qa hq']
    have s2:=s2 hq'
    have hlen:(keep q (l.take (i+1+(t+1)))).length=(keep q (l.take (i+1+t))).length+1:=by rw [←Nat.add_assoc,s2];simp
    refine⟨_,⟨c'.set (keep q (l.take (i+1+t))).length (rdP d l (i+1+t)),rfl,by simpa using h1,by omega,?_,fun s hs=> ?_⟩,?_⟩
    ·rw [hlen,←Nat.add_assoc,s2]
     rw [List.take_succ_eq_append_getElem (by simp;omega),List.take_set_of_le (Nat.le_refl _),h3]
     simp
    ·have:rdP d (c'.set (keep q (l.take (i+1+t))).length (rdP d l (i+1+t))) s=rdP d c' s:=by unfold rdP;simp [show (keep q (l.take (i+1+t))).length≠s by omega]
     rw [this];exact h4 s (by omega)
    ·rw [hlen];rfl
  ·rintro c rec ⟨c',rfl,h1,h2,h3,h4⟩
   have e:i+1+(l.length-(i+1))=l.length:=by omega
   rw [e]at h2 h3 ⊢
   rw [List.take_length]at h2 h3 ⊢
   exact hE2 c' _ rec h1 rfl h3
theorem q0cp {k:Nat} (hk:K0≤k) (l:List (Int×Unit)) (b:Int) (hl:l.length≤1048576):∃r,q0f k (l,(b,()),())=some (((keep (fun y:Int×Unit=>y.1=b) l).length:Int),r,(b,()),())∧r.length=l.length∧r.take (keep (fun y:Int×Unit=>y.1=b) l).length=keep (fun y:Int×Unit=>y.1=b) l:=by
 have hk':=hk
 unfold K0 at hk
 unfold q0f
 let P:Option (Int×List (Int×Unit)×(Int×Unit)×Unit)→Prop:=fun q=>∃r,q=some (((keep (fun y:Int×Unit=>y.1=b) l).length:Int),r,(b,()),())∧r.length=l.length∧r.take (keep (fun y:Int×Unit=>y.1=b) l).length=keep (fun y:Int×Unit=>y.1=b) l
 refine q0qn (P:=P) (d:=(0,())) hk' l hl (fun y:Int×Unit=>y.1=b) (F2:= ?F2) ?hF1 ?hE1 ?hF2 ?hE2
 case hF1=>
  intro i rec hi
  dsimp only
  rw [lt_t hi,q0c,q8 (by rw [q31];omega),qk,q04,q02,qkr (by omega),q02,qa (show ¬(i:Int)= -1 by omega)]
  rfl
 case hE1=>
  intro he rec
  dsimp only
  rw [lt_e,q02,q8 rfl]
  exact⟨l,by rw [he];rfl,rfl,by rw [he,List.take_length]⟩
 case hF2=>
  intro c i j rec hc hij hj
  dsimp only
  rw [qn,q8 (by rw [q31];omega),qk,q0c,q8 (by rw [q31];omega),qk,q04,q02,qq,qkr (by omega)]
  by_cases h:(rdP (0,()) c j).1=b
  ·rw [q8 h,q8 h]
   rfl
  ·rw [qa h,qa h,q0c,q8 (by rw [q31];omega),qk,qk,q04,qkr (by omega)]
   rfl
 case hE2=>
  intro c i rec hc hi ht
  have hkl:=q0hq (fun y:Int×Unit=>y.1=b) l
  dsimp only
  rw [qn,qa (by rw [q31];omega),q3p,q8 (by rw [q31];omega),q3p,q04]
  have hlen:(app (tk c i) (qmb (dp c i).length ((0,()):Int×Unit))).length=l.length:=by
   rw [q6o,qp3,qq5,q4b];simp;omega
  rw [q8 (by rw [q31,hlen];omega)]
  refine⟨_,by rw [hi];rfl,hlen,?_⟩
  rw [←hi,q6o,qp3,List.take_append_of_le_length (by simp;omega),List.take_take,Nat.min_self]
  exact ht
theorem q0k0 {y:Int×Unit} {b:Int} (h:y.1=b):y=(b,()):=by
 obtain⟨y,u⟩:=y
 cases u
 subst h
 rfl
theorem q0nu (b:Int) (l:List (Int×Unit)):keep (fun y:Int×Unit=>y.1=b) l=l.filter (fun y=>decide (y.1≠b)):=by
 unfold keep
 refine List.filter_congr (fun x _=> ?_)
 by_cases h:x.1=b
 ·rw [dc_F (fun z=>z h)];simp [h]
 ·rw [dc_T h];simp [h]
theorem q0mv {l:List (Int×Unit)} {b:Int} (h:(b,())∉l):l.map (offT b)=l:=by
 conv=>rhs;rw [←List.map_id l]
 refine List.map_congr_left (fun y hy=> ?_)
 unfold offT
 rw [if_neg]
 ·rfl
 ·intro e
  apply h
  obtain⟨y,u⟩:=y
  cases u
  dsimp only at e
  rw [←e];exact hy
theorem q0f1 {l:List q8k} {b:Int} (h:¬ ∃c,c∈l∧(b,())∈c.2.2.1):l.map (offC b)=l:=by
 conv=>rhs;rw [←List.map_id l]
 refine List.map_congr_left (fun c hc=> ?_)
 have:offB b c.2.2.1=c.2.2.1:=by
  unfold offB
  rw [List.filter_eq_self]
  intro y hy
  obtain⟨y,u⟩:=y
  cases u
  simp only [ne_eq,decide_not,Bool.not_eq_eq_eq_not,Bool.not_true,decide_eq_false_iff_not]
  intro e;subst e;exact h ⟨c,hc,hy⟩
 unfold offC
 rw [this]
 rfl
theorem q0k1 {l:List (Int×Unit)} {b:Int} {j:Nat} (hn:(nz l).Nodup) (hb:b≠0) (hj:j<l.length) (e:(rdP (0,()) l j).1=b):l.map (offT b)=l.set j (0,()):=by
 have hoth:∀i,i<l.length→i≠j→(rdP (0,()) l i).1≠b:=by
  have key:∀i j:Nat,i<j→j<l.length→(rdP (0,()) l i).1=b→(rdP (0,()) l j).1=b→False:=by
   intro i j hij hj h1 h2
   have hs:nz l=nz (l.take j)++nz (l.drop j):=by
    conv=>lhs;rw [←List.take_append_drop j l]
    unfold nz
    rw [List.filter_append]
   rw [hs]at hn
   refine(List.nodup_append.1 hn).2.2 (b,()) ?_ (b,()) ?_ rfl
   ·unfold nz
    rw [List.mem_filter]
    refine⟨List.mem_take_iff_getElem.2 ⟨i,by omega,?_⟩,by simpa using hb⟩
    rw [qo (by omega)]at h1
    exact q0k0 h1
   ·unfold nz
    rw [List.mem_filter]
    refine⟨?_,by simpa using hb⟩
    rw [qo hj]at h2
    rw [List.drop_eq_getElem_cons hj,←q0k0 h2]
    exact List.mem_cons_self ..
  intro i hi hij z
  rcases Nat.lt_or_gt_of_ne hij with q|q
  ·exact key i j q hj z e
  ·exact key j i q hi e z
 apply List.ext_getElem?
 intro i
 rw [List.getElem?_map]
 by_cases q:j=i
 ·subst q
  rw [List.getElem?_set_self hj,List.getElem?_eq_getElem hj]
  rw [qo hj]at e
  show some (offT b l[j])=_
  unfold offT
  rw [if_pos e]
 ·rw [List.getElem?_set_ne q]
  by_cases hi:i<l.length
  ·rw [List.getElem?_eq_getElem hi]
   have:=hoth i hi (fun z=>q z.symm)
   rw [qo hi]at this
   show some (offT b l[i])=_
   unfold offT
   rw [if_neg this]
  ·rw [List.getElem?_eq_none (by omega)];rfl
theorem q07q {k:Nat} (hk:K0≤k) (x:qu) (b:Int) (hs:SzH x) (h:∃c,c∈x.2.2.2.2.2.2.2.2.2.2.1∧(b,())∈c.2.2.1):∃j,j<x.2.2.2.2.2.2.2.2.2.2.1.length∧(b,())∈(rdP (0,0,[],()) x.2.2.2.2.2.2.2.2.2.2.1 j).2.2.1∧q5l k x b=some ((j:Int),()):=by
 have hk':=hk
 unfold K0 at hk
 have hcl:=hs.chutes
 unfold q5l
 have:=qcv (k:=k) (n:=x.2.2.2.2.2.2.2.2.2.2.1.length) (e:=some ((-1:Int),())) (c0:=((0:Int),())) (F:=fun rec2 (c1:Int×Unit)=>(br (ltI c1.1 (ln x.2.2.2.2.2.2.2.2.2.2.1)) (br (inR c1.1 (ln x.2.2.2.2.2.2.2.2.2.2.1)) (q9 (rdP (0,0,[],()) x.2.2.2.2.2.2.2.2.2.2.1 (q6 c1.1)) fun e3=>(bnd (q06 k e3.2.2.1 b) fun y4=>(br y4.1 (some (c1.1,())) (rec2 ((qg .i64 c1.1 1),()))))) none) (some ((-1),())))) (fun i=>((i:Int),())) (fun i=>(b,())∈(rdP (0,0,[],()) x.2.2.2.2.2.2.2.2.2.2.1 i).2.2.1) (fun i=>some ((i:Int),())) rfl (by omega) (fun i hi _ rec=>by
  have hbl:=hs.bags _ (by rw [qo hi];exact List.getElem_mem hi:rdP (0,0,[],()) x.2.2.2.2.2.2.2.2.2.2.1 i∈x.2.2.2.2.2.2.2.2.2.2.1)
  dsimp only
  rw [lt_t hi,q0c,q8 (by rw [q31];omega),qk,q04,q36 hk' _ _ hbl,qj,qkr (by omega)]
  rfl) (fun _ rec=>by
  dsimp only
  rw [lt_e])
 rcases this with⟨j,hj,h1,_,e⟩|⟨h1,_⟩
 ·exact⟨j,hj,h1,e⟩
 ·obtain⟨c,hc,hm⟩:=h
  obtain⟨j,hj,rfl⟩:=List.getElem_of_mem hc
  exact absurd (by rw [qo hj];exact hm) (h1 j hj)
theorem q0hk {α β:Type} {x:α} {f:α→Option β} {r:Option β} (h:∀y,y=x→f y=r):q9 x f=r:=h x rfl
theorem q031 {k:Nat} (hk:K0≤k) (x:qu) (i:Nat) (h:q1y x) (hi:i<x.2.2.2.2.2.2.2.2.2.2.2.2.2.2.2.2.1.length):q6c k x ((i:Int)+1)=some ((retM x i).2.1,(retM x i).1,()):=by
 have hs:=q4w h
 have hcl:=hs.cases_
 have hfl:=hs.flights
 have htl:=hs.trays
 have hnd:(nz x.2.2.2.2.2.2.2.2.1++q22 x.2.2.2.2.2.2.2.2.2.2.1).Nodup:=h.2.2.2.2.1.2.2.2.2.2.2.2.1
 obtain⟨c1,c2,c3,c4,c5,c6,c7,c8,c9,c10,c11,c12,c13,c14⟩:=q6l h hi
 have hfn:q6 ((rdP (0,0,0,0,0,0,0,0,0,0,()) x.2.2.2.2.2.2.2.2.2.2.2.2.2.2.2.2.1 i).2.2.2.1-1)<x.2.2.2.2.2.2.2.2.2.2.2.2.2.2.2.1.length:=by unfold q6;omega
 have e1:((i:Int)+1)-1=i:=by omega
 have ef:rdP (0,0,0,false,0,()) x.2.2.2.2.2.2.2.2.2.2.2.2.2.2.2.1 (q6 ((rdP (0,0,0,0,0,0,0,0,0,0,()) x.2.2.2.2.2.2.2.2.2.2.2.2.2.2.2.2.1 i).2.2.2.1-1))=qnx x i:=rfl
 have dno:(rdP (0,0,0,0,0,0,0,0,0,0,()) x.2.2.2.2.2.2.2.2.2.2.2.2.2.2.2.2.1 i).2.2.2.2.2.2.1≠3→(rdP (0,0,0,0,0,0,0,0,0,0,()) x.2.2.2.2.2.2.2.2.2.2.2.2.2.2.2.2.1 i).2.2.2.2.2.2.1≠4→q3s (qv x) ((i:Int)+1)=qv x:=fun z3 z4=>by
  unfold q3s qv
  dsimp only
  rw [q0mv (fun z=>z3 (c12.1 z)),q0f1 (fun z=>z4 (c13.1 z))]
 unfold q6c retM;delta W3
 rw [qi (by omega),e1,q0c,q8 (by rw [q31];omega),qk,q04,qi (by omega),q0c,q8 (by rw [q31];omega),qk,ef]
 refine q0hk (fun J hJ=> ?_)
 rw [qk,q02]
 by_cases p2:(rdP (0,0,0,0,0,0,0,0,0,0,()) x.2.2.2.2.2.2.2.2.2.2.2.2.2.2.2.2.1 i).2.2.2.2.2.2.1=2
 ·rw [q8 p2]
  have hd:=dno (by omega) (by omega)
  cases hdn:(qnx x i).2.2.2.1 with
  |true=>
   rw [qec,if_pos ⟨by omega,.inl rfl⟩,if_neg (by omega),hJ,hd]
   rfl
  |false=>
   rw [qi1,qk,q02,qq]
   by_cases hv:(rdP (0,0,0,0,0,0,0,0,0,0,()) x.2.2.2.2.2.2.2.2.2.2.2.2.2.2.2.2.1 i).2.2.2.2.2.2.2.2.2.1=1
   ·rw [q8 hv,q2i,qec,if_neg (fun z=>by rcases z.2 with z|z;cases z;exact z.2 hv)]
   ·rw [qa hv,if_pos ⟨by omega,.inr ⟨p2,hv⟩⟩,if_neg (by omega),hJ,hd]
    rfl
 rw [qa p2]
 cases hdn:(qnx x i).2.2.2.1 with
 |false=>
  rw [q2i,qec,if_neg (fun z=>by rcases z.2 with z|z;cases z;exact p2 z.1)]
 |true=>
  rw [q2r,qi1,qk,q02]
  by_cases p3:(rdP (0,0,0,0,0,0,0,0,0,0,()) x.2.2.2.2.2.2.2.2.2.2.2.2.2.2.2.2.1 i).2.2.2.2.2.2.1=3
  ·rw [q8 p3,if_pos ⟨by omega,.inl rfl⟩,if_neg (by omega)]
   rcases qef hk x.2.2.2.2.2.2.2.2.1 ((i:Int)+1) htl with⟨j,hj,hb,_,e⟩|⟨hno,_⟩
   ·rw [e,q00,q0c,q8 (by rw [q31];dsimp only;omega),qk,qk,q04,hJ]
    have ht:x.2.2.2.2.2.2.2.2.1.map (offT ((i:Int)+1))=x.2.2.2.2.2.2.2.2.1.set j (0,()):=q0k1 (List.nodup_append.1 hnd).1 (by omega) hj hb
    unfold mvH q3s qv
    dsimp only
    rw [ht,q0f1 (fun z=>absurd (c13.1 z) (by omega))]
    rfl
   ·have hm:=c12.2 p3
    obtain⟨j,hj,e⟩:=List.getElem_of_mem hm
    exact absurd (by rw [qo hj,e]) (hno j hj)
  rw [qa p3,qk,q02]
  by_cases p4:(rdP (0,0,0,0,0,0,0,0,0,0,()) x.2.2.2.2.2.2.2.2.2.2.2.2.2.2.2.2.1 i).2.2.2.2.2.2.1=4
  ·rw [q8 p4,if_pos ⟨by omega,.inl rfl⟩,if_neg (by omega)]
   obtain⟨j,hj,hm,ec⟩:=q07q hk x ((i:Int)+1) hs (c13.2 p4)
   refine Eq.trans (b:=bnd (q5l k x ((i:Int)+1)) _) rfl ?_
   have hbl:=hs.bags _ (by rw [qo hj];exact List.getElem_mem hj:rdP (0,0,[],()) x.2.2.2.2.2.2.2.2.2.2.1 j∈x.2.2.2.2.2.2.2.2.2.2.1)
   obtain⟨r,er,hrl,hrt⟩:=q0cp hk (rdP (0,0,[],()) x.2.2.2.2.2.2.2.2.2.2.1 j).2.2.1 ((i:Int)+1) hbl
   rw [ec,q00,q0c,q8 (by rw [q31];dsimp only;omega),qk,q04,er,q00]
   dsimp only
   have hkl:=q0hq (fun y:Int×Unit=>y.1=(i:Int)+1) (rdP (0,0,[],()) x.2.2.2.2.2.2.2.2.2.2.1 j).2.2.1
   rw [q6p,q6y hj,q3p,q8 (by rw [q31];dsimp only;omega),qk,q4d,q8 rfl,qk,q6p,List.set_set,qp3,q04,hrt,q0nu,hJ,q0ez (l:=qv x) h.2.2.2.2.1 hj (by omega) hm]
   rfl
  rw [qa p4,qk,q02]
  by_cases p5:(rdP (0,0,0,0,0,0,0,0,0,0,()) x.2.2.2.2.2.2.2.2.2.2.2.2.2.2.2.2.1 i).2.2.2.2.2.2.1=5
  ·have h1:q1v k (x.2.2.2.2.2.2.2.2.2.2.2.2.1,x.2.2.2.2.2.2.2.2.2.2.2.2.2.1,()) ((i:Int)+1)=some (qmw (q2t x) ((i:Int)+1)):=qq2 hk h.2.2.2.2.2.1 (c14.2 p5)
   rw [q8 p5,if_pos ⟨by omega,.inl rfl⟩,if_pos p5,qk,q2y,h1,q00]
   dsimp only
   rw [qq]
   cases ht:(qmw (q2t x) ((i:Int)+1)).2.2.1 with
   |true=>
    rw [qec,if_pos rfl,hJ,dno p3 p4]
    rfl
   |false=>
    rw [qi1,if_neg (by exact Bool.noConfusion)]
  ·rw [qa p5,if_neg (fun z=>by omega)]
end Go.Proofs.YtpmjopbgccajgaaGreat.Eng
