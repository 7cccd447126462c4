/- A tick, a command, a run: what the program's functions compute. No condition. -/
import Derived.Test.YtpmjopbgccajgaaGreatPIi
import Derived.Test.YtpmjopbgccajgaaGreatPQnote
import Derived.Test.YtpmjopbgccajgaaGreatD
namespace Go.Proofs.YtpmjopbgccajgaaGreat.Eng
set_option linter.unusedVariables false
set_option linter.unusedSimpArgs false
theorem q0t2 {x:qu} (h:(lvB x).2.2.1=false):(lvB x).1=(x.2.2.2.2.1,x.2.2.2.2.2.1,x.2.2.2.2.2.2.1,x.2.2.2.2.2.2.2.1,()):=by
 unfold lvB qgf at h ⊢
 split at h
 ·cases h
 ·rename_i hn
  rw [if_neg hn]
theorem q0gc {k:Nat} (hk:K0≤k) (x:qu) (h:q1y x):qff k x=some (q04b x,()):=by
 have hs:=q4w h
 have hx:=h
 obtain⟨h1,h2,h3,h4,h5,h6,h7,h8,h9,h10,h11,h12,h13,h14,h15⟩:=hx
 obtain⟨b1,b2,b3⟩:=quz h4
 have h5':q1n (qv x):=h5
 obtain⟨s1,s2,s3,s4⟩:=qsv h5'
 have sok:=qr0 h5'
 have hbag:(lvB x).2.2.1=true→1≤(lvB x).2.1∧(lvB x).2.1≤x.2.2.2.2.2.2.2.2.2.2.2.2.2.2.2.2.1.length:=by
  intro hl
  obtain⟨y,hy,e⟩:=b3 hl
  have hu:=h12 y hy
  obtain⟨j,hj,ej⟩:=List.getElem_of_mem hy
  have:=(h4.2.2.2 j hj).1
  dsimp only at this
  rw [qo hj,ej]at this
  rw [←e];exact⟨this,hu⟩
 have hlu:∀b:Int,(b,())∈q22 (q21 (qv x)).2.2.1→1≤b∧b≤x.2.2.2.2.2.2.2.2.2.2.2.2.2.2.2.2.1.length:=by
  intro b hb
  refine⟨sok.2.2.2.2.2.2.1 (b,()) (List.mem_append_right _ hb),?_⟩
  rcases (s1 b).1 (.inr (qcs.1 hb))with⟨z,_⟩|⟨c,hc,z⟩
  ·exact h13 _ z
  ·exact h14 c hc _ z
 have hcl:=hs.cases_
 have hsz:=qcw sok
 have e2:qc3 k (x.2.2.2.2.1,x.2.2.2.2.2.1,x.2.2.2.2.2.2.1,x.2.2.2.2.2.2.2.1,())=some (lvB x):=q0ek hk (x.2.2.2.2.1,x.2.2.2.2.2.1,x.2.2.2.2.2.2.1,x.2.2.2.2.2.2.2.1,()) (q0cv h4)
 obtain⟨sn,e3'⟩:=q079 hk (lvB x).1 (q0aw h4)
 have e3:q88 k ((lvB x).1.1,(lvB x).1.2.1,(lvB x).1.2.2.1,(lvB x).1.2.2.2.1,())=some (sn,q23 (lvB x).1,()):=e3'
 have e4:qfe k (x.2.2.2.2.2.2.2.2.1,x.2.2.2.2.2.2.2.2.2.1,x.2.2.2.2.2.2.2.2.2.2.1,x.2.2.2.2.2.2.2.2.2.2.2.1,())=some (q21 (qv x),()):=q0gb hk (qv x) h5'
 have hk':=hk
 unfold K0 at hk
 have hcs:=q0cq x
 unfold qff;delta W0
 refine q0hk (fun J hJ=> ?_)
 rw [e2,q00]
 have main:J ((lvB x).1.1,(lvB x).1.2.1,(lvB x).1.2.2.1,(lvB x).1.2.2.2.1,cs1 x,())=some (q04b x,()):=by
  rw [hJ]
  dsimp only
  rw [e3,q00]
  dsimp only
  rw [e4,q00]
  generalize hLe:q21 (qv x)=L at*
  refine q08 (n:=L.2.2.1.length) (fun i=>(qbq (q22 (L.2.2.1.take i)) (cs1 x),(i:Int),())) (by simp [q22];rfl) (fun i hi rec=> ?_) (fun rec=> ?_) (by have:=hsz.chutes;omega)
  ·refine(lt_t hi _ _).trans ?_
   have hlc:=hsz.chutes
   have hbl:=hsz.bags _ (by rw [qo hi];exact List.getElem_mem hi:rdP (0,0,[],()) L.2.2.1 i∈L.2.2.1)
   rw [q0c,q8 (by rw [q31];dsimp only;omega),qk]
   refine q08 (n:=(rdP (0,0,[],()) L.2.2.1 i).2.2.1.length) (fun j=>(qbq (q22 (L.2.2.1.take i)++(rdP (0,0,[],()) L.2.2.1 i).2.2.1.take j) (cs1 x),(j:Int),())) (by simp) (fun j hj rec2=> ?_) (fun rec2=> ?_) (by omega)
   ·have hm:rdP (0,()) (rdP (0,0,[],()) L.2.2.1 i).2.2.1 j∈(rdP (0,0,[],()) L.2.2.1 i).2.2.1:=by rw [qo hj];exact List.getElem_mem hj
    have hb:=hlu (rdP (0,()) (rdP (0,0,[],()) L.2.2.1 i).2.2.1 j).1 (qcs.2 ⟨_,by rw [qo hi];exact List.getElem_mem hi,hm⟩)
    have hl4:∀a,(qbq a (cs1 x)).length=x.2.2.2.2.2.2.2.2.2.2.2.2.2.2.2.2.1.length:=fun a=>by rw [qsi,hcs]
    have hlt:=hl4 (q22 (L.2.2.1.take i)++(rdP (0,0,[],()) L.2.2.1 i).2.2.1.take j)
    rw [q7b (d:=(0,())) hj,←List.append_assoc,q03q (q22 (L.2.2.1.take i)++(rdP (0,0,[],()) L.2.2.1 i).2.2.1.take j)]
    generalize qbq (q22 (L.2.2.1.take i)++(rdP (0,0,[],()) L.2.2.1 i).2.2.1.take j) (cs1 x)=cs at*
    simp (disch:=omega) only [evs,qi]
    rfl
   ·rw [List.take_length,←qry hi]
    simp (disch:=omega) only [evs]
    rfl
  ·rw [List.take_length]
   refine(lt_e _ _).trans ?_
   unfold q04b
   rw [hLe]
   simp (disch:=omega) only [evs,q0h]
   rfl
 cases hl:(lvB x).2.2.1 with
 |true=>
  obtain⟨g1,g2⟩:=hbag hl
  have hn:q6 ((lvB x).2.1-1)<x.2.2.2.2.2.2.2.2.2.2.2.2.2.2.2.2.1.length:=by unfold q6;omega
  rw [qec,qi (by omega),q0c,q8 (by rw [q31];omega),qk,qk,q6p,q0c,q8 (by rw [q31,List.length_set];omega),q6y hn,qk,qk,q6p,List.set_set,q0h (by omega),←main]
  unfold cs1
  rw [if_pos hl]
  rfl
 |false=>
  rw [qi1,←main,q0t2 hl]
  unfold cs1
  rw [if_neg (by rw [hl];exact Bool.noConfusion)]
theorem q07l {k:Nat} (hk:K0≤k) (x:qu) (c:CmdT) (h:q1y x):ExR (q8b k x c) (doM x c):=by
 have hs:=q4w h
 have e2:=q0ej hk x c h
 have e6:q8f k x.2.2.2.2.2.2.2.2.2.2.2.2.2.2.1 (c.2.2.2.2.2.2.2.2.2.1,c.2.2.2.2.2.2.2.2.2.2.1,c.2.2.2.2.2.2.2.2.2.2.2.1,c.2.2.2.2.2.2.2.2.2.2.2.2.1,c.2.2.2.2.2.2.2.2.2.2.2.2.2.1,())=some (addM x.2.2.2.2.2.2.2.2.2.2.2.2.2.2.1 (q0dv c)):=q08h hk x.2.2.2.2.2.2.2.2.2.2.2.2.2.2.1 (q0dv c) hs.notes
 have e7:=q0bu hk x c.2.2.1 h
 have hk':=hk
 unfold K0 at hk
 have hnow:=h.1
 unfold q8b doM;delta W1 W3 W5
 rw [q02]
 by_cases k1:c.1=1
 ·rw [q8 k1,if_pos k1,q8a,qj,qq]
  by_cases hn:1≤c.2.2.2.1∧c.2.2.2.1≤100
  case neg=>rw [qa hn,if_neg (fun z=>hn z.1)];exact .of rfl
  rw [q8 hn,q0h (by omega),qn]
  by_cases hm:x.1+c.2.2.2.1≤100000
  case neg=>rw [q8 (by omega),if_neg (fun z=>hm z.2)];exact .of rfl
  rw [qa (by omega),if_pos ⟨hn,hm⟩]
  refine .of ?_
  have hcn:c.2.2.2.1=(q6 c.2.2.2.1:Nat):=by unfold q6;omega
  generalize q6 c.2.2.2.1=n at*
  rw [hcn]at hn hm ⊢
  refine q08 (n:=n) (fun i=>((q1k x i).1,(q1k x i).2.1,(q1k x i).2.2.1,(q1k x i).2.2.2.1,(q1k x i).2.2.2.2.1,(q1k x i).2.2.2.2.2.1,(q1k x i).2.2.2.2.2.2.1,(q1k x i).2.2.2.2.2.2.2.1,(q1k x i).2.2.2.2.2.2.2.2.1,(q1k x i).2.2.2.2.2.2.2.2.2.1,(q1k x i).2.2.2.2.2.2.2.2.2.2.1,(q1k x i).2.2.2.2.2.2.2.2.2.2.2.1,(q1k x i).2.2.2.2.2.2.2.2.2.2.2.2.1,(q1k x i).2.2.2.2.2.2.2.2.2.2.2.2.2.1,(q1k x i).2.2.2.2.2.2.2.2.2.2.2.2.2.2.1,(q1k x i).2.2.2.2.2.2.2.2.2.2.2.2.2.2.2.1,(q1k x i).2.2.2.2.2.2.2.2.2.2.2.2.2.2.2.2.1,((n:Int)-(i:Int)),())) (by rw [show ((n:Int)-((0:Nat):Int))=n by omega];rfl) (fun i hi rec=> ?_) (fun rec=> ?_) (by omega)
  ·have ht:=q0gc hk' (q1k x i) (qyk h i (by omega)).1
   dsimp only
   rw [qn,q8 (by omega),qi (by omega)]
   refine Eq.trans (b:=bnd (qff k (q1k x i)) _) rfl ?_
   rw [ht,q00,show ((n:Int)-((i+1:Nat):Int))=(n:Int)-i-1 by omega]
   rfl
  ·dsimp only
   rw [qn,qa (by omega)]
 rw [qa k1,if_neg k1,q02]
 by_cases k2:c.1=2
 ·rw [q8 k2,if_pos k2]
  refine .of (Eq.trans (b:=bnd (qc1 k x c) _) rfl ?_)
  rw [e2,q00]
 rw [qa k2,if_neg k2,q02]
 by_cases k6:c.1=6
 ·rw [q8 k6,if_pos k6,e6,q00]
  cases ha:(addM x.2.2.2.2.2.2.2.2.2.2.2.2.2.2.1 (q0dv c)).2.1 with
  |true=>rw [if_pos rfl];exact .of rfl
  |false=>rw [if_neg (by exact Bool.noConfusion)];exact⟨_,rfl,fun z=>by cases z⟩
 rw [qa k6,if_neg k6,q02]
 by_cases k7:c.1=7
 ·rw [q8 k7,if_pos k7]
  refine .of (Eq.trans (b:=bnd (q9u k x c.2.2.1) _) rfl ?_)
  rw [e7,q00]
 rw [qa k7,if_neg k7,q8a,qj,qq,q31]
 by_cases hb:1≤c.2.1∧c.2.1≤x.2.2.2.2.2.2.2.2.2.2.2.2.2.2.2.2.1.length
 case neg=>rw [qa hb,if_neg hb];exact .of rfl
 rw [q8 hb,if_pos hb,q02]
 have hi:q6 (c.2.1-1)<x.2.2.2.2.2.2.2.2.2.2.2.2.2.2.2.2.1.length:=by unfold q6;omega
 have hci:((q6 (c.2.1-1):Nat):Int)+1=c.2.1:=by unfold q6;omega
 have e3:=q0bv hk' x (q6 (c.2.1-1)) c.2.2.2.1 h hi
 have e4:=q0gd hk' x (q6 (c.2.1-1)) h hi
 have e5:=q0ei hk' x (q6 (c.2.1-1)) h hi
 have e8:=q031 hk' x (q6 (c.2.1-1)) h hi
 rw [hci]at e3 e4 e5 e8
 by_cases k3:c.1=3
 ·rw [q8 k3,if_pos k3]
  refine .of (Eq.trans (b:=bnd (q9v k x c.2.1 c.2.2.2.1) _) rfl ?_)
  rw [e3,q00]
 rw [qa k3,if_neg k3,q02]
 by_cases k4:c.1=4
 ·rw [q8 k4,if_pos k4]
  refine .of (Eq.trans (b:=bnd (qfg k x c.2.1) _) rfl ?_)
  rw [e4,q00]
 rw [qa k4,if_neg k4,q02]
 by_cases k5:c.1=5
 ·rw [q8 k5,if_pos k5]
  obtain⟨y,ey,hy⟩:=e5
  refine⟨y,(Eq.trans (b:=bnd (qc0 k x c.2.1) _) rfl ?_),hy⟩
  rw [ey,q00]
 rw [qa k5,if_neg k5,q02]
 by_cases k8:c.1=8
 ·rw [q8 k8,if_pos k8]
  refine .of (Eq.trans (b:=bnd (q6c k x c.2.1) _) rfl ?_)
  rw [e8,q00]
 rw [qa k8,if_neg k8]
 exact .of rfl
def NoR (x:qu) (m:qu×Bool×Unit):Prop:=m.2.1=false→m.1=x
theorem NoR.yes {x a:qu}:NoR x (a,true,()):=fun z=>by cases z
theorem NoR.no {x:qu}:NoR x (x,false,()):=fun _=>rfl
theorem NoR.ite {x:qu} {p:Prop} {i:Decidable p} {m m':qu×Bool×Unit} (h:NoR x m) (h':NoR x m'):NoR x (@ite _ p i m m'):=by
 split
 ·exact h
 ·exact h'
theorem q0sd (x:qu) (c:CmdT):NoR x (doM x c):=by
 unfold doM qq6 decM q0am qvk retM depM qpg
 repeat (first|exact .yes|exact .no|refine .ite ?_ ?_)
end Go.Proofs.YtpmjopbgccajgaaGreat.Eng
