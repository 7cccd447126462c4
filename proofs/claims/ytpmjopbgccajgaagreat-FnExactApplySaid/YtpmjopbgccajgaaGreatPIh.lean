/- Checking in, deciding, sending, fetching: what the program's functions compute. No condition. -/
import Derived.Test.YtpmjopbgccajgaaGreatPIg
import Derived.Test.YtpmjopbgccajgaaGreatD
namespace Go.Proofs.YtpmjopbgccajgaaGreat.Eng
set_option linter.unusedVariables false
set_option linter.unusedSimpArgs false
theorem q0ej {k:Nat} (hk:K0≤k) (x:qu) (c:CmdT) (h:q1y x):qc1 k x c=some ((qq6 x c).2.1,(qq6 x c).1,()):=by
 have hs:=q4w h
 have hcl:=hs.cases_
 have hfl:=hs.flights
 have h1:q9d k (x.2.2.2.2.1,x.2.2.2.2.2.1,x.2.2.2.2.2.2.1,x.2.2.2.2.2.2.2.1,()) ((x.2.2.2.2.2.2.2.2.2.2.2.2.2.2.2.2.1.length:Int)+1) c.2.2.2.1=some (chkB x c):=q0en hk (x.2.2.2.2.1,x.2.2.2.2.2.1,x.2.2.2.2.2.2.1,x.2.2.2.2.2.2.2.1,()) _ _ (q0cv h.2.2.2.1)
 have h3:=qvj k (c.2.2.2.2.2.2.1,c.2.2.2.2.2.2.2.1,c.2.2.2.2.2.2.2.2.1,())
 have h4:=qs1 hk x.2.2.2.2.2.2.2.2.2.2.2.2.2.2.2.2.1 (c.2.2.2.2.2.2.1,c.2.2.2.2.2.2.2.1,c.2.2.2.2.2.2.2.2.1,()) hcl
 have h5:=qk1 k x c.2.2.1
 have hf:=qny (newC c) hcl
 have no:¬q0m8 x c→qq6 x c=(x,false,()):=fun z=>if_neg z
 unfold qc1;delta W0 W2 W3
 by_cases k1:x.2.2.2.2.2.2.2.2.2.2.2.2.2.2.2.2.1.length<60
 case neg=>rw [no (fun z=>k1 z.1),q13,q31,q8 (by omega)]
 rw [q13,q31,qa (by omega),h3,qj,qq]
 by_cases k2:TagP (c.2.2.2.2.2.2.1,c.2.2.2.2.2.2.2.1,c.2.2.2.2.2.2.2.2.1,())
 case neg=>rw [qa k2,no (fun z=>k2 z.2.1)]
 rw [q8 k2,h4,qj]
 have e7:(∃y,y∈x.2.2.2.2.2.2.2.2.2.2.2.2.2.2.2.2.1∧(y.1=c.2.2.2.2.2.2.1∧y.2.1=c.2.2.2.2.2.2.2.1∧y.2.2.1=c.2.2.2.2.2.2.2.2.1))↔∃j,j<x.2.2.2.2.2.2.2.2.2.2.2.2.2.2.2.2.1.length∧q0fc (rdP (0,0,0,0,0,0,0,0,0,0,()) x.2.2.2.2.2.2.2.2.2.2.2.2.2.2.2.2.1 j) c:=(q0gk (d:=(0,0,0,0,0,0,0,0,0,0,())) (l:=x.2.2.2.2.2.2.2.2.2.2.2.2.2.2.2.2.1) (P:=fun y:q45=>q0fc y c)).symm
 by_cases k7:∃y,y∈x.2.2.2.2.2.2.2.2.2.2.2.2.2.2.2.2.1∧(y.1=c.2.2.2.2.2.2.1∧y.2.1=c.2.2.2.2.2.2.2.1∧y.2.2.1=c.2.2.2.2.2.2.2.2.1)
 case pos=>rw [q8 k7,no (fun z=>z.2.2.2.2.2.2.1 (e7.1 k7))]
 rw [qa k7]
 refine Eq.trans (b:=bnd (q1u k x c.2.2.1) _) rfl ?_
 rw [h5,qj,qq]
 by_cases k3:1≤c.2.2.1∧c.2.2.1≤x.2.2.2.2.2.2.2.2.2.2.2.2.2.2.2.1.length
 case neg=>rw [qa k3,no (fun z=>k3 z.2.2.1)]
 have hfn:q6 (c.2.2.1-1)<x.2.2.2.2.2.2.2.2.2.2.2.2.2.2.2.1.length:=by unfold q6;omega
 rw [q8 k3,qi (by omega),q0c,q8 (by rw [q31];omega),qk]
 cases k4:(rdP (0,0,0,false,0,()) x.2.2.2.2.2.2.2.2.2.2.2.2.2.2.2.1 (q6 (c.2.2.1-1))).2.2.2.1 with
 |true=>rw [qec,no (fun z=>by have:=z.2.2.2.1;rw [k4]at this;cases this)]
 |false=>
 rw [qi1,q8a,qj,qq]
 by_cases k5:1≤c.2.2.2.2.1∧c.2.2.2.2.1≤60
 case neg=>rw [qa k5,no (fun z=>k5 z.2.2.2.2.1)]
 rw [q8 k5]
 by_cases k6:0≤c.2.2.2.2.2.1∧c.2.2.2.2.2.1≤5
 case neg=>
  rw [no (fun z=>k6 z.2.2.2.2.2.1)]
  by_cases k0:c.2.2.2.2.2.1<0
  ·rw [qn,q8 k0]
  ·rw [qn,qa k0,qn,q8 (by omega)]
 rw [qn,qa (by omega),qn,qa (by omega),qk,q2y,q0h (by omega),h1,q00]
 dsimp only
 by_cases k8:(chkB x c).2.1=true
 case neg=>
  have k8':(chkB x c).2.1=false:=by simpa using k8
  rw [no (fun z=>k8 z.2.2.2.2.2.2.2),k8',q2i,qec]
 have yes:qq6 x c=(addC x (chkB x c).1 (newC c),true,()):=if_pos ⟨k1,k2,k3,k4,k5,k6,fun z=>k7 (e7.2 z),k8⟩
 have hf':q4x x.2.2.2.2.2.2.2.2.2.2.2.2.2.2.2.2.1 [(c.2.2.2.2.2.2.1,c.2.2.2.2.2.2.2.1,c.2.2.2.2.2.2.2.2.1,c.2.2.1,c.2.2.2.2.1,c.2.2.2.2.2.1,1,0,0,0,())]=true:=hf
 rw [yes,k8,q2r,qi1,hf',qec,qk]
 rfl
theorem q02x {k:Nat} (hk:K0≤k) (x:qu) (i:Nat) (hL:q1n (qv x)) (hi:i<x.2.2.2.2.2.2.2.2.2.2.2.2.2.2.2.2.1.length) (hcl:x.2.2.2.2.2.2.2.2.2.2.2.2.2.2.2.2.1.length≤1048576) (hfl:x.2.2.2.2.2.2.2.2.2.2.2.2.2.2.2.1.length≤1048576) (c2:1≤(rdP (0,0,0,0,0,0,0,0,0,0,()) x.2.2.2.2.2.2.2.2.2.2.2.2.2.2.2.2.1 i).2.2.2.1∧(rdP (0,0,0,0,0,0,0,0,0,0,()) x.2.2.2.2.2.2.2.2.2.2.2.2.2.2.2.2.1 i).2.2.2.1≤x.2.2.2.2.2.2.2.2.2.2.2.2.2.2.2.1.length):q71 k x ((i:Int)+1)=some ((qpg x i).2.1,(qpg x i).1,()):=by
 have hfn:q6 ((rdP (0,0,0,0,0,0,0,0,0,0,()) x.2.2.2.2.2.2.2.2.2.2.2.2.2.2.2.2.1 i).2.2.2.1-1)<x.2.2.2.2.2.2.2.2.2.2.2.2.2.2.2.1.length:=by unfold q6;omega
 have h1:q4c k (x.2.2.2.2.2.2.2.2.1,x.2.2.2.2.2.2.2.2.2.1,x.2.2.2.2.2.2.2.2.2.2.1,x.2.2.2.2.2.2.2.2.2.2.2.1,()) ((i:Int)+1) [((rdP (0,0,0,false,0,()) x.2.2.2.2.2.2.2.2.2.2.2.2.2.2.2.1 (q6 ((rdP (0,0,0,0,0,0,0,0,0,0,()) x.2.2.2.2.2.2.2.2.2.2.2.2.2.2.2.2.1 i).2.2.2.1-1))).2.2.1,())]=some (q7h x i):=q07v hk (qv x) _ _ hL (by simp)
 have hw:q1n (q7h x i).1:=qtb hL
 have e1:((i:Int)+1)-1=i:=by omega
 unfold q71 qpg;delta W0 W3
 have h3:q9z k ((q7h x i).1.1,(q7h x i).1.2.1,(q7h x i).1.2.2.1,(q7h x i).1.2.2.2.1,()) 0 ((i:Int)+1)=some (q42 (q7h x i).1 0 ((i:Int)+1)):=q0c5 hk (q7h x i).1 0 _ hw
 have hoL:qjc x i=if (q7h x i).2.1=true then q42 (q7h x i).1 0 ((i:Int)+1)else(q7h x i):=rfl
 rw [hoL,qi (by omega),e1,q0c,q8 (by rw [q31];omega),qk,qk,q04,qi (by omega),q0c,q8 (by rw [q31];omega),qk,q2y,q2y,h1,q00]
 dsimp only
 by_cases hok:(q7h x i).2.1=true
 case neg=>
  have hok':(q7h x i).2.1=false:=by simpa using hok
  simp only [if_neg hok]
  rw [hok',q2i,qec]
 simp only [if_pos hok]
 rw [hok,q2r,qi1,h3,q00]
 by_cases hd:(q42 (q7h x i).1 0 ((i:Int)+1)).2.1=true
 case neg=>
  have hd':(q42 (q7h x i).1 0 ((i:Int)+1)).2.1=false:=by simpa using hd
  simp only [if_neg hd]
  rw [hd',q2i,qec]
 simp only [if_pos hd]
 rw [hd,q2r,qi1,qk,qk]
 rfl
theorem q0bv {k:Nat} (hk:K0≤k) (x:qu) (i:Nat) (v:Int) (h:q1y x) (hi:i<x.2.2.2.2.2.2.2.2.2.2.2.2.2.2.2.2.1.length):q9v k x ((i:Int)+1) v=some ((decM x i v).2.1,(decM x i v).1,()):=by
 have hs:=q4w h
 have hcl:=hs.cases_
 have h1:q76 k (x.2.1,()) ((rdP (0,0,0,0,0,0,0,0,0,0,()) x.2.2.2.2.2.2.2.2.2.2.2.2.2.2.2.2.1 i).2.2.2.2.2.2.2.1,(rdP (0,0,0,0,0,0,0,0,0,0,()) x.2.2.2.2.2.2.2.2.2.2.2.2.2.2.2.2.1 i).2.2.2.2.2.2.2.2.1,(rdP (0,0,0,0,0,0,0,0,0,0,()) x.2.2.2.2.2.2.2.2.2.2.2.2.2.2.2.2.1 i).2.2.2.2.2.2.2.2.2.1,()) x.1 v=some (q52 x.2.1 (q05a (rdP (0,0,0,0,0,0,0,0,0,0,()) x.2.2.2.2.2.2.2.2.2.2.2.2.2.2.2.2.1 i)) x.1 v):=q0cb hk (x.2.1,()) (q05a (rdP (0,0,0,0,0,0,0,0,0,0,()) x.2.2.2.2.2.2.2.2.2.2.2.2.2.2.2.2.1 i)) x.1 v
 have e1:((i:Int)+1)-1=i:=by omega
 unfold q9v decM;delta W2 W3
 rw [qi (by omega),e1,q0c,q8 (by rw [q31];omega),qk,q04,q02,q0o]
 by_cases hp:(rdP (0,0,0,0,0,0,0,0,0,0,()) x.2.2.2.2.2.2.2.2.2.2.2.2.2.2.2.2.1 i).2.2.2.2.2.2.1=2
 case neg=>
  rw [q8 hp,if_neg (fun q=>hp q.1)]
 rw [qa (fun z=>z hp),qk,qk,q2y,h1,q00]
 generalize hd:q52 x.2.1 (q05a (rdP (0,0,0,0,0,0,0,0,0,0,()) x.2.2.2.2.2.2.2.2.2.2.2.2.2.2.2.2.1 i)) x.1 v=d at*
 obtain⟨s,ok,_⟩:=d
 cases ok with
 |false=>
  rw [if_neg (fun q=>by cases q.2)]
  dsimp only
  rw [q2i,qec]
 |true=>
  rw [if_pos ⟨hp,rfl⟩]
  dsimp only
  rw [q2r,qi1,qk,qk,qk,q02]
  by_cases hv:s.2.2.1=2
  ·rw [q8 hv,qk,qk,q6p,q6p,q6y hi,List.set_set]
   unfold q00e qkm
   rw [if_pos hv]
  ·rw [qa hv,q6p]
   unfold q00e qkm
   rw [if_neg hv]
theorem q0gd {k:Nat} (hk:K0≤k) (x:qu) (i:Nat) (h:q1y x) (hi:i<x.2.2.2.2.2.2.2.2.2.2.2.2.2.2.2.2.1.length):qfg k x ((i:Int)+1)=some ((q0am x i).2.1,(q0am x i).1,()):=by
 have hs:=q4w h
 have hcl:=hs.cases_
 have hfl:=hs.flights
 obtain⟨c1,c2,_⟩:=q6l h hi
 have hfn:q6 ((rdP (0,0,0,0,0,0,0,0,0,0,()) x.2.2.2.2.2.2.2.2.2.2.2.2.2.2.2.2.1 i).2.2.2.1-1)<x.2.2.2.2.2.2.2.2.2.2.2.2.2.2.2.1.length:=by unfold q6;omega
 have h1:q73 k (x.2.2.2.2.2.2.2.2.2.2.2.2.1,x.2.2.2.2.2.2.2.2.2.2.2.2.2.1,()) ((i:Int)+1) (qnx x i).1=some (qyp (q2t x) ((i:Int)+1) (qnx x i).1):=q0c0 hk (q2t x) _ _ h.2.2.2.2.2.1
 have h3:=q02x hk x i h.2.2.2.2.1 hi hcl hfl c2
 have e1:((i:Int)+1)-1=i:=by omega
 have ef:rdP (0,0,0,false,0,()) x.2.2.2.2.2.2.2.2.2.2.2.2.2.2.2.1 (q6 ((rdP (0,0,0,0,0,0,0,0,0,0,()) x.2.2.2.2.2.2.2.2.2.2.2.2.2.2.2.2.1 i).2.2.2.1-1))=qnx x i:=rfl
 unfold qfg q0am;delta W3
 rw [qi (by omega),e1,q0c,q8 (by rw [q31];omega),qk,q04,qi (by omega),q0c,q8 (by rw [q31];omega),qk,ef]
 cases hd:(qnx x i).2.2.2.1 with
 |true=>rw [qec,if_neg (fun z=>by cases z.2.2)]
 |false=>
  rw [qi1,qk,q02,q0o]
  by_cases hp:(rdP (0,0,0,0,0,0,0,0,0,0,()) x.2.2.2.2.2.2.2.2.2.2.2.2.2.2.2.2.1 i).2.2.2.2.2.2.1=2
  case neg=>rw [q8 hp,if_neg (fun z=>hp z.1)]
  rw [qa (fun z=>z hp),qk,q02,q0o]
  by_cases hv:(rdP (0,0,0,0,0,0,0,0,0,0,()) x.2.2.2.2.2.2.2.2.2.2.2.2.2.2.2.2.1 i).2.2.2.2.2.2.2.2.2.1=1
  case neg=>rw [q8 hv,if_neg (fun z=>hv z.2.1)]
  rw [qa (fun z=>z hv),if_pos ⟨hp,hv,rfl⟩,q13]
  by_cases ho:(qnx x i).1≤x.1
  ·rw [if_pos ho,q8 ho]
   refine Eq.trans (b:=bnd (q71 k x ((i:Int)+1)) _) rfl ?_
   rw [h3,q00]
  ·rw [if_neg ho,qa ho,qk,q2y,h1,q00]
   dsimp only
   by_cases hput:(qyp (q2t x) ((i:Int)+1) (qnx x i).1).2.2.1=true
   ·rw [if_pos hput,hput,q2r,qi1,qk,qk]
    rfl
   ·rw [if_neg hput]
    have hput':(qyp (q2t x) ((i:Int)+1) (qnx x i).1).2.2.1=false:=by simpa using hput
    rw [hput',q2i,qec]
def ExR (r:Option (Bool×qu×Unit)) (m:qu×Bool×Unit):Prop:=∃y,r=some (m.2.1,y,())∧(m.2.1=true→y=m.1)
theorem ExR.of {r:Option (Bool×qu×Unit)} {m:qu×Bool×Unit} (h:r=some (m.2.1,m.1,())):ExR r m:=⟨_,h,fun _=>rfl⟩
def qsf (x:qu) (s:q01):qu:=(x.1,x.2.1,x.2.2.1,x.2.2.2.1,x.2.2.2.2.1,x.2.2.2.2.2.1,x.2.2.2.2.2.2.1,x.2.2.2.2.2.2.2.1,x.2.2.2.2.2.2.2.2.1,x.2.2.2.2.2.2.2.2.2.1,x.2.2.2.2.2.2.2.2.2.2.1,x.2.2.2.2.2.2.2.2.2.2.2.1,s.1,s.2.1,x.2.2.2.2.2.2.2.2.2.2.2.2.2.2.1,x.2.2.2.2.2.2.2.2.2.2.2.2.2.2.2.1,x.2.2.2.2.2.2.2.2.2.2.2.2.2.2.2.2.1,())
theorem q0ei {k:Nat} (hk:K0≤k) (x:qu) (i:Nat) (h:q1y x) (hi:i<x.2.2.2.2.2.2.2.2.2.2.2.2.2.2.2.2.1.length):ExR (qc0 k x ((i:Int)+1)) (qvk x i):=by
 have hs:=q4w h
 have hcl:=hs.cases_
 have hfl:=hs.flights
 obtain⟨c1,c2,c3,c4,c5,c6,c7,c8,c9,c10,c11,c12,c13,c14⟩:=q6l h hi
 have hfn:q6 ((rdP (0,0,0,0,0,0,0,0,0,0,()) x.2.2.2.2.2.2.2.2.2.2.2.2.2.2.2.2.1 i).2.2.2.1-1)<x.2.2.2.2.2.2.2.2.2.2.2.2.2.2.2.1.length:=by unfold q6;omega
 have e1:((i:Int)+1)-1=i:=by omega
 have ef:rdP (0,0,0,false,0,()) x.2.2.2.2.2.2.2.2.2.2.2.2.2.2.2.1 (q6 ((rdP (0,0,0,0,0,0,0,0,0,0,()) x.2.2.2.2.2.2.2.2.2.2.2.2.2.2.2.2.1 i).2.2.2.1-1))=qnx x i:=rfl
 unfold qc0 qvk;delta W3
 rw [qi (by omega),e1,q0c,q8 (by rw [q31];omega),qk,q04,qi (by omega),q0c,q8 (by rw [q31];omega),qk,ef]
 cases hd:(qnx x i).2.2.2.1 with
 |true=>rw [qec,if_neg (fun z=>by cases z.1.2.1)];exact .of rfl
 |false=>
  rw [qi1,q02,q0o]
  by_cases hp:(rdP (0,0,0,0,0,0,0,0,0,0,()) x.2.2.2.2.2.2.2.2.2.2.2.2.2.2.2.2.1 i).2.2.2.2.2.2.1=5
  case neg=>rw [q8 hp,if_neg (fun z=>hp z.1.1)];exact .of rfl
  have h1:q1v k (x.2.2.2.2.2.2.2.2.2.2.2.2.1,x.2.2.2.2.2.2.2.2.2.2.2.2.2.1,()) ((i:Int)+1)=some (qmw (q2t x) ((i:Int)+1)):=qq2 hk h.2.2.2.2.2.1 (c14.2 hp)
  rw [qa (fun z=>z hp),qn]
  by_cases ho:(qnx x i).1≤x.1
  case neg=>rw [q8 (by omega),if_neg (fun z=>ho z.1.2.2)];exact .of rfl
  rw [qa (by omega),h1,q00]
  generalize qmw (q2t x) ((i:Int)+1)=tk at*
  obtain⟨s,hops,ok,_⟩:=tk
  dsimp only
  cases ok with
  |false=>rw [q2i,qec,if_neg (fun z=>by cases z.2.1)];exact .of rfl
  |true=>
   have h3:=q02x hk (qsf x s) i h.2.2.2.2.1 hi hcl hfl c2
   rw [q2r,qi1]
   have eo:∀(f:Bool×qu×Unit→Option (Bool×qu×Unit)),bnd (q71 k (qsf x s) ((i:Int)+1)) f=f ((qpg (qsf x s) i).2.1,(qpg (qsf x s) i).1,()):=fun f=>by rw [h3,q00]
   refine⟨(qpg (qsf x s) i).1,(Eq.trans (b:=bnd (q71 k (qsf x s) ((i:Int)+1)) _) rfl ((eo _).trans ?_)),?_⟩
   ·have:(qpg (qsf x s) i).2.1=(if ((rdP (0,0,0,0,0,0,0,0,0,0,()) x.2.2.2.2.2.2.2.2.2.2.2.2.2.2.2.2.1 i).2.2.2.2.2.2.1=5∧false=false∧(qnx x i).1≤x.1)∧true=true∧(qjc x i).2.1=true then(mvH x (qjc x i).1 s i 3,true,())else(x,false,()):qu×Bool×Unit).2.1:=by
     have eL:qjc (qsf x s) i=qjc x i:=rfl
     unfold qpg
     rw [eL]
     by_cases hon:(qjc x i).2.1=true
     ·rw [if_pos hon,if_pos ⟨⟨hp,rfl,ho⟩,rfl,hon⟩]
     ·rw [if_neg hon,if_neg (fun z=>hon z.2.2)]
    rw [←this]
   ·intro hz
    have eL:qjc (qsf x s) i=qjc x i:=rfl
    unfold qpg
    rw [eL]
    by_cases hon:(qjc x i).2.1=true
    ·rw [if_pos hon,if_pos ⟨⟨hp,rfl,ho⟩,rfl,hon⟩];rfl
    ·rw [if_neg (fun z=>hon z.2.2)]at hz;cases hz
end Go.Proofs.YtpmjopbgccajgaaGreat.Eng
