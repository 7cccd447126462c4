/- Pieces in boxes, first fit. No condition. -/
import Derived.Test.YtpmjopbgccajgaaGreatPS
import Derived.Test.YtpmjopbgccajgaaGreatD
namespace Go.Proofs.YtpmjopbgccajgaaGreat.Eng
set_option linter.unusedVariables false
set_option linter.unusedSimpArgs false
abbrev Bx:=Int×Int×List (Int×Unit)×Unit
abbrev rB (l:List Bx) (i:Nat):Bx:=rdP (0,0,[],()) l i
abbrev LimT:=Int×Int×Unit
def PcP (p:Pc):Prop:=1≤p.1∧(1≤p.2.1∧p.2.1≤60)∧0≤p.2.2.1∧p.2.2.1≤5
def qks (l:List Pc):Prop:=l.length≤40∧(∀p∈l,PcP p)∧(l.map (·.1)).Nodup
def LimP (m:LimT):Prop:=(60≤m.1∧m.1≤2000)∧1≤m.2.1∧m.2.1≤40
theorem qoe {l z:List Pc} (h:z.Perm l):qks z↔qks l:=by
 unfold qks
 rw [h.length_eq,(h.map (·.1)).nodup_iff]
 exact⟨fun ⟨a,b,c⟩=>⟨a,fun p hp=>b p (h.mem_iff.2 hp),c⟩,fun ⟨a,b,c⟩=>⟨a,fun p hp=>b p (h.mem_iff.1 hp),c⟩⟩
theorem qo5 {k:Nat} (hk:K0≤k) (l:List Pc):q5u k l=q0i (qks l):=by
 unfold K0 at hk
 unfold q5u
 simp only [ql,qj,qq,q6m,q78,qn,q31]
 by_cases h0:l.length≤40
 case neg=>rw [q8 (by omega)];exact qc ⟨fun z=>z.elim,fun z=>h0 z.1⟩
 rw [qa (by omega),q3r (n:=l.length) (Q:=True) (fun i=>((i:Int),())) (fun i=>PcP (rP l i)∧∀j,j<i→(rP l j).1≠(rP l i).1) ?h0 ?hk ?hs ?he]
 case h0=>rfl
 case hk=>omega
 case he=>intro _ rec;exact qa (by simp) _ _
 case hs=>
  intro i hi hp rec
  simp only [qk,q02,q0c,q04,g1]
  rw [q8 (by omega),q8 (by omega)]
  rw [q1b (n:=i) (r:=q0i False) (e:=rec (((i+1:Nat):Int),())) (fun j=>((j:Int),())) (fun j=>(rP l j).1≠(rP l i).1) ?h01 ?hs1 ?he1 ?hk1]
  case h01=>rfl
  case hk1=>omega
  case hs1=>intro j hj _ rec;simp only [];rw [q8 (by omega),q8 (by omega),q8 (by omega),qkr (by omega)];rfl
  case he1=>intro _ rec2;simp only [];rw [qa (by omega),qkr (by omega)];rfl
  simp only [q8 (show (0:Int)≤(i:Int)∧(i:Int)<(l.length:Int) by omega)]
  simp only [g2]
  refine qko ?_ (fun _=>rfl)
  unfold PcP
  grind
 refine qc ⟨fun z=>⟨h0,(q5i (d:=(0,0,0,()))).1 fun i hi=>(z.1 i hi).1,(q9n (d:=(0,0,0,()))).2 fun i hi j hj=>(z.1 i hi).2 j hj⟩,fun z=>⟨fun i hi=>⟨(q5i (d:=(0,0,0,()))).2 z.2.1 i hi,fun j hj=>(q9n (d:=(0,0,0,()))).1 z.2.2 i hi j hj⟩,trivial⟩⟩
theorem q0j3 (l:List Pc):(l.map fun p=>(p.1,())).Nodup↔(l.map (·.1)).Nodup:=by
 have e:(l.map fun p=>(p.1,()))=(l.map (·.1)).map fun x=>(x,()):=by rw [List.map_map];rfl
 rw [e]
 unfold List.Nodup
 rw [List.pairwise_map]
 simp
theorem q03d {k:Nat} (hk:K0≤k) (l:List Pc) (hl:l.length≤1048576):q9a k l=q0i (qks l):=by
 have hk':=hk
 unfold K0 at hk
 unfold q9a
 simp only [qj,qq,q6m,q78,qn,q13,q31,qk,q0c,q6o]
 rw [q3r (n:=l.length) (Q:=l.length≤40∧(l.map fun p=>(p.1,())).Nodup) (fun i=>((l.take i).map (fun p=>(p.1,())),(i:Int),())) (fun i=>PcP (rP l i)) ?h0 ?hk ?hs ?he]
 case h0=>simp
 case hk=>omega
 case he=>
  intro _ rec
  simp only [List.take_length]
  rw [qa (by omega),q4q hk' _ (by simp;omega),qj,q3n,q0g]
  exact qc (and_congr (by omega) Iff.rfl)
 case hs=>
  intro i hi hp rec
  have ht:(l.take (i+1)).map (fun p=>(p.1,()))=(l.take i).map (fun p=>(p.1,()))++[((rP l i).1,())]:=by rw [q7b (d:=(0,0,0,())) hi,List.map_append];rfl
  have hf:=qny ((rP l i).1,()) (l:=(l.take i).map (fun p=>(p.1,()))) (by simp;omega)
  simp only [q04,g1]
  rw [q8 (by omega),q8 (by omega),hf,qec,qkr (by omega),←ht]
  simp only [g2]
  refine qko ?_ (fun _=>rfl)
  unfold PcP
  grind
 rw [q0j3]
 exact qc ⟨fun z=>⟨z.2.1,(q5i (d:=(0,0,0,()))).1 z.1,z.2.2⟩,fun z=>⟨(q5i (d:=(0,0,0,()))).2 z.2.1,z.1,z.2.2⟩⟩
def q08k (m:LimT) (p:Pc) (x:Bx):Prop:=x.1=p.2.2.1∧(x.2.2.1.length:Int)<m.2.1∧qg .i64 x.2.1 p.2.1≤m.1
def addB (x:Bx) (p:Pc):Bx:=(p.2.2.1,qg .i64 x.2.1 p.2.1,x.2.2.1++[(p.1,())],())
noncomputable def putF (m:LimT) (p:Pc):List Bx→List Bx
 | []=>[addB (0,0,[],()) p]
 |x::xs=> @ite _ (q08k m p x) (Classical.propDecidable _) (addB x p::xs) (x::putF m p xs)
theorem q00u {m:LimT} {p:Pc}:∀ {a b:List Bx},(∀x∈a,¬q08k m p x)→putF m p (a++b)=a++putF m p b
 | [],_,_=>rfl
 |x::xs,b,h=>by
  rw [List.cons_append,putF,if_neg (h x (by simp)),q00u fun y hy=>h y (by simp [hy])];rfl
theorem q0ha {m:LimT} {p:Pc} {l:List Bx} {i:Nat} (hi:i<l.length) (h1:∀j,j<i→¬q08k m p (rB l j)) (h2:q08k m p (rB l i)):putF m p l=l.set i (addB (rB l i) p):=by
 have e:l=l.take i++rB l i::l.drop (i+1):=by
  conv=>lhs;rw [←List.take_append_drop i l,qvm (d:=(0,0,[],())) hi]
 have hm:∀x∈l.take i,¬q08k m p x:=fun x hx=>by
  obtain⟨j,hj,rfl⟩:=List.getElem_of_mem hx
  rw [List.length_take]at hj
  have:=h1 j (by omega)
  unfold rB at this
  rw [qo (by omega)]at this
  simpa using this
 have hs:l.set i (addB (rB l i) p)=l.take i++addB (rB l i) p::l.drop (i+1):=List.set_eq_take_append_cons_drop.trans (if_pos hi)
 rw [hs]
 conv=>lhs;rw [e]
 rw [q00u hm,putF,if_pos h2]
theorem q0dn {m:LimT} {p:Pc} {l:List Bx} (h1:∀j,j<l.length→¬q08k m p (rB l j)):putF m p l=l++[addB (0,0,[],()) p]:=by
 have:=q00u (m:=m) (p:=p) (a:=l) (b:=[]) ((q5i (d:=(0,0,[],()))).1 h1)
 rwa [List.append_nil]at this
noncomputable def ffR (m:LimT) (l:List Pc):Nat→List Bx
 |0=>[]
 |i+1=>putF m (rP l i) (ffR m l i)
noncomputable def FFm (m:LimT) (l:List Pc):List Bx:= @ite _ (LimP m∧qks l) (Classical.propDecidable _) (ffR m l l.length) []
theorem q0gj (m:LimT) (l:List Pc):∀i,(ffR m l i).length≤i∧∀x∈ffR m l i,x.2.2.1.length≤i
 |0=>by simp [ffR]
 |i+1=>by
  obtain⟨h1,h2⟩:=q0gj m l i
  have key:∀(p:Pc) (out:List Bx),(∀x∈out,x.2.2.1.length≤i)→(putF m p out).length≤out.length+1∧∀x∈putF m p out,x.2.2.1.length≤i+1:=by
   intro p out
   induction out with
   |nil=>intro _;simp [putF,addB]
   |cons x xs ih=>
    intro h
    obtain⟨i1,i2⟩:=ih fun y hy=>h y (by simp [hy])
    rw [putF]
    split
    ·refine⟨by simp,fun y hy=> ?_⟩
     rcases List.mem_cons.1 hy with e|e
     ·have:=h x (by simp);rw [e];simp [addB];omega
     ·have:=h y (by simp [e]);omega
    ·refine⟨by simp;omega,fun y hy=> ?_⟩
     rcases List.mem_cons.1 hy with e|e
     ·have:=h x (by simp);rw [e];omega
     ·exact i2 y e
  obtain⟨k1,k2⟩:=key (rP l i) (ffR m l i) h2
  exact⟨by rw [ffR];omega,k2⟩
theorem q0r1 (m:LimT) (l:List Pc):(FFm m l).length≤40∧∀x∈FFm m l,x.2.2.1.length≤40:=by
 unfold FFm
 split
 ·rename_i h
  obtain⟨h1,h2⟩:=q0gj m l l.length
  have:=h.2.1
  exact⟨by omega,fun x hx=>by have:=h2 x hx;omega⟩
 ·exact⟨by simp,fun x hx=>by cases hx⟩
theorem q0jc (k:Nat) (m:LimT) (x:Bx) (p:Pc):q5q k m x p=q0i (q08k m p x):=by
 unfold q5q
 simp only [q02,qn,q13,q31,q6m,q3n,q0g]
 exact qc Iff.rfl
theorem q0e3 (k:Nat) (x:Bx) (p:Pc) (h:x.2.2.1.length≤1048575):q49 k x p=some (addB x p,()):=by
 unfold q49 addB
 have h1:=qyv (l:=x.2.2.1) (by omega)
 have h2:=qny (p.1,()) (l:=x.2.2.1) (by omega)
 simp (disch:=omega) only [evs,h1,h2,q2y,List.nil_append]
theorem q0pd {m:LimT} {l:List Pc} {i:Nat} (hi:i≤40):(ffR m l i).length≤1048575∧∀j,(rB (ffR m l i) j).2.2.1.length≤1048574:=by
 obtain⟨h1,h2⟩:=q0gj m l i
 refine⟨by omega,fun j=> ?_⟩
 by_cases hj:j<(ffR m l i).length
 ·have:=h2 (rB (ffR m l i) j) (by unfold rB;rw [qo hj];exact List.getElem_mem hj);omega
 ·unfold rB rdP
  rw [List.getD_eq_getElem?_getD,List.getElem?_eq_none (by omega)]
  simp
theorem qo6 (k:Nat) (x:LimT):q1r k x=q0i (LimP x):=qo7 k x
theorem q03h (k:Nat) (x:LimT):q3l k x=q0i (LimP x):=qor k x
theorem q0kn (l:List Bx) (x:Bx):rB (l++[x]) l.length=x:=qa7 l [] x rfl
theorem q0h4 (l:List Bx) (x y:Bx):(l++[x]).set l.length y=l++[y]:=q0fq l [] x y
theorem q0rl {l:List Bx} {i:Nat} {x:Bx} (h:i<l.length):rB (l.set i x) i=x:=by unfold rB rdP;simp [h]
theorem q009 {k:Nat} (hk:K0≤k) (m:LimT) (l:List Pc):q5y k m l=some (FFm m l,()):=by
 have h1:q1r k (m.1,m.2.1,())=q0i (LimP m):=qo6 k m
 have h2:=qo5 hk l
 unfold q5y FFm;delta W2
 rw [h1,qj,qq]
 by_cases hm:LimP m
 case neg=>rw [qa hm,if_neg (fun z=>hm z.1)]
 rw [q8 hm,h2,qj,qq]
 by_cases hl:qks l
 case neg=>rw [qa hl,if_neg (fun z=>hl z.2)]
 rw [q8 hl,if_pos ⟨hm,hl⟩]
 have h40:=hl.1
 have hk':=hk
 unfold K0 at hk
 refine qcu (P:=fun r=>r=some (ffR m l l.length,())) (n:=l.length) (fun i c=>c=(ffR m l i,(i:Int),())) rfl ?_ ?_ (by omega)
 ·rintro i c rec hi rfl
  obtain⟨b1,b2⟩:=q0pd (m:=m) (l:=l) (i:=i) (by omega)
  have hst:ffR m l (i+1)=putF m (rP l i) (ffR m l i):=rfl
  rw [hst]
  generalize ffR m l i=out at*
  simp only [qk]
  rw [qn,q31,q8 (by omega)]
  refine q0gi (P:=fun r=>∃c',c'=(putF m (rP l i) out,((i+1:Nat):Int),())∧r=rec c') (n:=out.length) (J:= ?J) (E:= ?E) (fun j=>q08k m (rP l i) (rB out j)) ?hF ?hE (by omega) ?hP ?hQ
  case hF=>
   intro j rec2 hj
   have ht:q5q k (m.1,m.2.1,()) (rdP (0,0,[],()) out j) (rdP (0,0,0,()) l i)=q0i (q08k m (rP l i) (rB out j)):=q0jc k m (rB out j) (rP l i)
   rw [qn,q31,q8 (by omega),q0c,q8 (by omega),q04,q0c,q31,q8 (by omega),q04,qcr]
   rw [show ((rdP (0,0,[],()) out j).1,(rdP (0,0,[],()) out j).2.1,(rdP (0,0,[],()) out j).2.2.1,())=rdP (0,0,[],()) out j from rfl,ht,qj,qq,q0n (i:=j) (by omega)]
  case hE=>intro rec2;rw [qn,q31,qa (by omega)]
  case hP=>
   intro j hj g1 g2
   refine⟨_,rfl,?_⟩
   have hw:q49 k (rdP (0,0,[],()) out j) (rdP (0,0,0,()) l i)=some (addB (rB out j) (rP l i),()):=q0e3 k _ _ (by have:=b2 j;unfold rB at this;omega)
   have hw':q49 k ((rdP (0,0,[],()) out j).1,(rdP (0,0,[],()) out j).2.1,(rdP (0,0,[],()) out j).2.2.1,()) (rdP (0,0,0,()) l i)=some (addB (rB out j) (rP l i),()):=hw
   simp (disch:=omega) only [qk,q00,qj,qq,qec,qi1,qqt,qqu,not_true_eq_false,not_false_eq_true,q78,q6m,q3n,q02,qn,q13,q4d,q0o,q1c,q4e,q4s,q2r,q2i,q0c,q3p,q31,q6o,qp3,qq5,q6p,q4b,q04,q8,qa,q0n,q1a,q2c,q1g,q2o,List.length_set,List.length_append,List.length_cons,List.length_nil,qcr,hw']
   rw [q0ha hj g1 g2]
  case hQ=>
   intro g
   refine⟨_,rfl,?_⟩
   have hf:=qny (0,0,[],()) (l:=out) (by omega)
   have hw:q49 k (0,0,[],()) (rdP (0,0,0,()) l i)=some (addB (0,0,[],()) (rP l i),()):=q0e3 k (0,0,[],()) (rP l i) (by simp)
   have hr:rdP (0,0,[],()) (out++[(0,0,[],())]) out.length=(0,0,[],()):=q0kn out _
   simp (disch:=omega) only [qk,q00,qj,qq,qec,qi1,qqt,qqu,not_true_eq_false,not_false_eq_true,q78,q6m,q3n,q02,qn,q13,q4d,q0o,q1c,q4e,q4s,q2r,q2i,q0c,q3p,q31,q6o,qp3,qq5,q6p,q4b,q04,q8,qa,q0n,q1a,q2c,q1g,q2o,List.length_set,List.length_append,List.length_cons,List.length_nil,qcr,hf,hr,hw,q0h4]
   rw [q0dn g]
 ·rintro c rec rfl
  simp (disch:=omega) only [evs]
theorem q03k {k:Nat} (hk:K0≤k) (m:LimT) (l:List Pc) (hl0:l.length≤1048576):q9c k m l=some (FFm m l,()):=by
 have h1:q3l k (m.1,m.2.1,())=q0i (LimP m):=q03h k m
 have h2:=q03d hk l hl0
 unfold q9c FFm
 rw [h1,qj,qq]
 by_cases hm:LimP m
 case neg=>rw [qa hm,if_neg (fun z=>hm z.1)]
 rw [q8 hm,h2,qj,qq]
 by_cases hl:qks l
 case neg=>rw [qa hl,if_neg (fun z=>hl z.2)]
 rw [q8 hl,if_pos ⟨hm,hl⟩]
 have h40:=hl.1
 unfold K0 at hk
 refine qcu (P:=fun r=>r=some (ffR m l l.length,())) (n:=l.length) (fun i c=>c=(ffR m l i,(i:Int),())) rfl ?_ ?_ (by omega)
 ·rintro i c rec hi rfl
  obtain⟨b1,b2⟩:=q0pd (m:=m) (l:=l) (i:=i) (by omega)
  have hst:ffR m l (i+1)=putF m (rP l i) (ffR m l i):=rfl
  rw [hst]
  generalize ffR m l i=out at*
  simp only [qk]
  rw [qn,q31,q8 (by omega),q0c,q31,q8 (by omega),q04]
  refine q0gi (P:=fun r=>∃c',c'=(putF m (rP l i) out,((i+1:Nat):Int),())∧r=rec c') (n:=out.length) (J:= ?J) (E:= ?E) (fun j=>q08k m (rP l i) (rB out j)) ?hF ?hE (by omega) ?hP ?hQ
  case hF=>
   intro j rec2 hj
   rw [qn,q31,q8 (by omega),q0c,q8 (by omega),q04,q0n (i:=j) (by omega)]
   simp only [q02,qn,q13,q31,g2]
   exact rfl
  case hE=>intro rec2;rw [qn,q31,qa (by omega)]
  case hP=>
   intro j hj q1 q2
   refine⟨_,rfl,?_⟩
   have hb:=b2 j
   have hf:=qny ((rP l i).1,()) (l:=(rB out j).2.2.1) (by omega)
   have hc:(rB out j).1=(rP l i).2.2.1:=q2.1
   have hr:∀x:Bx,rdP (0,0,[],()) (out.set j x) j=x:=fun x=>q0rl hj
   simp (disch:=omega) only [qk,q00,qj,qq,qec,qi1,qqt,qqu,not_true_eq_false,not_false_eq_true,q78,q6m,q3n,q02,qn,q13,q4d,q0o,q1c,q4e,q4s,q2r,q2i,q0c,q3p,q31,q6o,qp3,qq5,q6p,q4b,q04,q8,qa,q0n,q1a,q2c,q1g,q2o,List.length_set,List.length_append,List.length_cons,List.length_nil,hr,hf,List.set_set]
   rw [q0ha hj q1 q2]
   unfold addB
   rw [←hc]
  case hQ=>
   intro g
   refine⟨_,rfl,?_⟩
   have hf:=qny ((rP l i).2.2.1,0,[],()) (l:=out) (by omega)
   have hf2:=qny ((rP l i).1,()) (l:=([]:List (Int×Unit))) (by simp)
   have hr:∀x:Bx,rdP (0,0,[],()) (out++[x]) out.length=x:=fun x=>q0kn out x
   simp (disch:=omega) only [qk,q00,qj,qq,qec,qi1,qqt,qqu,not_true_eq_false,not_false_eq_true,q78,q6m,q3n,q02,qn,q13,q4d,q0o,q1c,q4e,q4s,q2r,q2i,q0c,q3p,q31,q6o,qp3,qq5,q6p,q4b,q04,q8,qa,q0n,q1a,q2c,q1g,q2o,List.length_set,List.length_append,List.length_cons,List.length_nil,hr,hf,hf2,q0h4]
   rw [q0dn g]
   rfl
 ·rintro c rec rfl
  simp (disch:=omega) only [evs]
end Go.Proofs.YtpmjopbgccajgaaGreat.Eng
