/- The loop of trays: what the program's functions compute. No condition. -/
import Derived.Test.YtpmjopbgccajgaaGreatPIa
import Derived.Test.YtpmjopbgccajgaaGreatD
namespace Go.Proofs.YtpmjopbgccajgaaGreat.Eng
set_option linter.unusedVariables false
set_option linter.unusedSimpArgs false
theorem q0gh {α β:Type} {f:α→List β} {m:Nat}:∀ {l:List α},(∀c∈l,(f c).length≤m)→(l.flatMap f).length≤m*l.length
 | [],_=>by simp
 |a::l,h=>by
  have h1:=q0gh (l:=l) (fun c hc=>h c (List.mem_cons_of_mem _ hc))
  have h2:=h a (List.mem_cons_self ..)
  rw [List.flatMap_cons,List.length_append,List.length_cons,Nat.mul_add,Nat.mul_one]
  omega
theorem q0hj {l:q28} (h:q1n l):(q22 l.2.2.1).length≤320∧(q3o l).length≤380:=by
 obtain⟨p1,p2,p3,p4,p5,p6,p7,p8,p9,p10⟩:=h
 have h1:(q22 l.2.2.1).length≤40*l.2.2.1.length:=q0gh (f:=fun c:q8k=>c.2.2.1) (fun c hc=>by have:=(p5 c hc).2.2;have:=(p5 c hc).2.1;omega)
 have h2:=qrf l.1
 refine⟨by omega,?_⟩
 unfold q3o
 rw [List.length_append]
 omega
theorem qon {k:Nat} (hk:K0≤k) (l:q28) (h:SzL l):q15 k l=some (l,()):=qoo hk l h.trays h.chutes h.bags h.wants h.told
theorem qnc {k:Nat} (hk:K0≤k) (l:q28) (W:List qnr) (h:q1n l) (hw:∀w∈W,w.2.1.length≤1048576):q1j k (l.1,l.2.1,l.2.2.1,W,())=q0i (q1n (l.1,l.2.1,l.2.2.1,W,())):=by
 obtain⟨c1,c2⟩:=q0hj h
 have hs:=qcw h
 exact qs9 hk (l.1,l.2.1,l.2.2.1,W,()) hs.trays hs.chutes (by dsimp only;omega) hw (by show (q3o l).length≤1048576;omega)
theorem qrz {k:Nat} (hk:K0≤k) (l:q28) (b:Int) (hw:l.2.2.2.1.length≤1048576):(∃i,i<l.2.2.2.1.length∧(rdP (0,[],()) l.2.2.2.1 i).1=b∧(∀j,j<i→(rdP (0,[],()) l.2.2.2.1 j).1≠b)∧q43 k l b=some ((i:Int),()))∨((∀j,j<l.2.2.2.1.length→(rdP (0,[],()) l.2.2.2.1 j).1≠b)∧q43 k l b=some (-1,())):=by
 unfold K0 at hk
 unfold q43
 refine qcv (n:=l.2.2.2.1.length) (fun i=>((i:Int),())) (fun i=>(rdP (0,[],()) l.2.2.2.1 i).1=b) (fun i=>some ((i:Int),())) rfl (by omega) (fun i hi _ rec=> ?_) (fun _ rec=>by simp (disch:=omega) only [evs])
 simp (disch:=omega) only [evs]
 rfl
theorem qef {k:Nat} (hk:K0≤k) (l:List (Int×Unit)) (b:Int) (hl:l.length≤1048576):(∃i,i<l.length∧(rdP (0,()) l i).1=b∧(∀j,j<i→(rdP (0,()) l j).1≠b)∧q0r k l b=some ((i:Int),()))∨((∀j,j<l.length→(rdP (0,()) l j).1≠b)∧q0r k l b=some (-1,())):=by
 unfold K0 at hk
 unfold q0r
 refine qcv (n:=l.length) (fun i=>((i:Int),())) (fun i=>(rdP (0,()) l i).1=b) (fun i=>some ((i:Int),())) rfl (by omega) (fun i hi _ rec=> ?_) (fun _ rec=>by simp (disch:=omega) only [evs])
 rw [qn,q31,q8 (by omega),q0c,q8 (by omega),qk,q02,q04,qkr (by omega)]
 exact q8m ⟨fun z=>z.symm,fun z=>z.symm⟩ _ _
theorem q36 {k:Nat} (hk:K0≤k) (l:List (Int×Unit)) (b:Int) (hl:l.length≤1048576):q06 k l b=q0i ((b,())∈l):=by
 unfold q06
 rcases qef hk l b hl with⟨i,hi,h1,_,e⟩|⟨h1,e⟩
 ·rw [e,q00,q13]
  refine qc ⟨fun _=> ?_,fun _=>by dsimp only;omega⟩
  have:rdP (0,()) l i∈l:=by rw [qo hi];exact List.getElem_mem hi
  exact q0gz.1 ⟨_,this,h1⟩
 ·rw [e,q00,q13]
  refine qc ⟨fun z=>by dsimp only at z;omega,fun z=> ?_⟩
  obtain⟨j,hj,ej⟩:=List.getElem_of_mem z
  exact absurd (by rw [qo hj,ej]) (h1 j hj)
theorem q0pp {W:List qnr} {b:Int} {ch:List (Int×Unit)} {i:Nat} (hn:(W.map (·.1)).Nodup) (hi:i<W.length) (hb:(rdP (0,[],()) W i).1=b):W.set i (b,ch,())=W.map (qle b ch):=by
 apply List.ext_getElem?
 intro j
 rw [List.getElem?_map]
 by_cases e:i=j
 ·subst e
  rw [List.getElem?_set_self hi,List.getElem?_eq_getElem hi]
  rw [qo hi]at hb
  simp [qle,hb]
 ·rw [List.getElem?_set_ne e]
  by_cases hj:j<W.length
  ·rw [List.getElem?_eq_getElem hj]
   have hne:W[j].1≠b:=by
    have h1:=q9n (d:=(0,[],())) (l:=W) (f:=fun w:qnr=>w.1)
    have h2:=h1.1 hn
    rw [←qo (d:=(0,[],())) hj]
    rcases Nat.lt_or_gt_of_ne e with h|h
    ·intro z;exact h2 j hj i h (hb.trans z.symm)
    ·intro z;exact h2 i hi j h (z.trans hb.symm)
   simp [qle,hne]
  ·rw [List.getElem?_eq_none (by omega)];rfl
theorem q07v {k:Nat} (hk:K0≤k) (l:q28) (b:Int) (ch:List (Int×Unit)) (h:q1n l) (hc:ch.length≤1048576):q4c k l b ch=some (q8l l b ch):=by
 have hs:=qcw h
 have h1:q15 k (l.1,l.2.1,l.2.2.1,l.2.2.2.1,())=some (l,()):=qon hk l hs
 have h2:q1j k (l.1,l.2.1,l.2.2.1,l.2.2.2.1,())=q0i (q1n l):=qnc hk l l.2.2.2.1 h hs.told
 have h3:=qnc hk l (setW l.2.2.2.1 b ch) h (q0dh hs.told hc)
 have h4:(∃i,i<l.2.2.2.1.length∧(rdP (0,[],()) l.2.2.2.1 i).1=b∧(∀j,j<i→(rdP (0,[],()) l.2.2.2.1 j).1≠b)∧q43 k (l.1,l.2.1,l.2.2.1,l.2.2.2.1,()) b=some ((i:Int),()))∨((∀j,j<l.2.2.2.1.length→(rdP (0,[],()) l.2.2.2.1 j).1≠b)∧q43 k (l.1,l.2.1,l.2.2.1,l.2.2.2.1,()) b=some (-1,())):=qrz hk l b hs.wants
 have fin:∀c:List qnr×Unit,c.1=setW l.2.2.2.1 b ch→(bnd (q1j k (l.1,l.2.1,l.2.2.1,l.2.2.2.1,())) fun y5=>(br (qm y5.1) (bnd (some (l,())) fun y6=>(some ((y6.1.1,y6.1.2.1,y6.1.2.2.1,y6.1.2.2.2.1,()),false,()))) (bnd (q1j k (l.1,l.2.1,l.2.2.1,c.1,())) fun y7=>(br (qm y7.1) (bnd (some (l,())) fun y8=>(some ((y8.1.1,y8.1.2.1,y8.1.2.2.1,y8.1.2.2.2.1,()),false,()))) (some ((l.1,l.2.1,l.2.2.1,c.1,()),true,()))))))=some (q8l l b ch):=by
  intro c hc
  rw [hc,h2,h3,qj,qq,q8 h,qj,qq,q8l]
  by_cases hx:q1n (l.1,l.2.1,l.2.2.1,setW l.2.2.2.1 b ch,())
  ·rw [q8 hx,if_pos ⟨h,hx⟩]
  ·rw [qa hx,if_neg (fun z=>hx z.2)];rfl
 unfold q4c;delta W0
 rw [h1,q00,q0s k hc,q00,qk]
 rcases h4 with⟨i,hi,e1,e2,e⟩|⟨e1,e⟩
 ·have hsw:setW l.2.2.2.1 b ch=l.2.2.2.1.set i (b,ch,()):=by
   rw [q0pp h.2.2.2.2.2.2.2.2.2 hi e1,setW,if_pos ⟨i,hi,e1⟩,List.append_nil]
  rw [e,q00]
  dsimp only
  rw [q13,q8 (by omega),q0c,q8 (by rw [q31];omega),qk,qk]
  exact fin (l.2.2.2.1.set i (b,ch,()),()) hsw.symm
 ·have hsw:setW l.2.2.2.1 b ch=l.2.2.2.1++[(b,ch,())]:=by
   have hno:¬ ∃j,j<l.2.2.2.1.length∧(rdP (0,[],()) l.2.2.2.1 j).1=b:=fun ⟨j,hj,z⟩=>e1 j hj z
   have hmap:l.2.2.2.1.map (qle b ch)=l.2.2.2.1:=by
    conv=>rhs;rw [←List.map_id l.2.2.2.1]
    refine List.map_congr_left (fun w hw=> ?_)
    obtain⟨j,hj,rfl⟩:=List.getElem_of_mem hw
    have:=e1 j hj
    rw [qo hj]at this
    unfold qle
    rw [if_neg this];rfl
   rw [setW,if_neg hno,hmap]
  have f1:=qny ((b,ch,()):qnr) (l:=l.2.2.2.1) hs.wants
  rw [e,q00]
  dsimp only
  rw [q13,qa (by omega),f1,qec,qk]
  exact fin (l.2.2.2.1++[(b,ch,())],()) hsw.symm
theorem qs0 (k:Nat) (l:q28) (a:Int) (h0:l.1.length≠0) (hl:l.1.length≤1048576) (h1: -1048576≤a∧a≤1048576) (h2: -1048576≤l.2.1∧l.2.1≤1048576):q70 k l a=some (qip l a,()):=by
 unfold q70
 simp (disch:=omega) only [evs,qi,q0h]
 rfl
theorem q0c5 {k:Nat} (hk:K0≤k) (l:q28) (a b:Int) (h:q1n l):q9z k l a b=some (q42 l a b):=by
 have hs:=qcw h
 obtain⟨c1,c2⟩:=q0hj h
 have h1:q15 k (l.1,l.2.1,l.2.2.1,l.2.2.2.1,())=some (l,()):=qon hk l hs
 have h2:q1j k (l.1,l.2.1,l.2.2.1,l.2.2.2.1,())=q0i (q1n l):=qnc hk l l.2.2.2.1 h hs.told
 have h3:q72 k (l.1,l.2.1,l.2.2.1,l.2.2.2.1,())=some (q3o l,()):=qs2 hk l hs.trays hs.chutes (by omega)
 have h4:=q36 hk (q3o l) b (by omega)
 have hlen:=h.1
 have htu:=h.2.1
 have hT:qe4 k (l.1,l.2.1,l.2.2.1,l.2.2.2.1,()) a=some (if 0≤a∧a<l.1.length then qip l a else-1,()):=by
  unfold qe4;delta W0
  rw [h2,qj,qq,q8 h]
  by_cases ha:0≤a∧a<l.1.length
  ·have h5:q70 k (l.1,l.2.1,l.2.2.1,l.2.2.2.1,()) a=some (qip l a,()):=qs0 k l a (by omega) (by omega) (by omega) (by omega)
   rw [if_pos ha,h5]
   simp (disch:=omega) only [evs]
  ·rw [if_neg ha]
   by_cases h0:a<0<;>simp (disch:=omega) only [evs]
 unfold q9z;delta W0
 rw [h1,q00,hT,q00]
 by_cases ha:0≤a∧a<l.1.length
 case neg=>
  rw [show q42 l a b=(l,false,())from if_neg (fun z=>ha z.2.1)]
  simp only [if_neg ha];rw [qn,q8 (by omega)]
 have htb:=qo0 ha htu
 have htn:q6 (qip l a)<l.1.length:=by unfold q6;omega
 simp only [if_pos ha]
 by_cases e1:(rdP (0,()) l.1 (q6 (qip l a))).1=0
 case neg=>rw [q42,if_neg (fun z=>e1 z.2.2.1)];simp (disch:=omega) only [evs]
 by_cases e2:b<1
 case pos=>rw [q42,if_neg (fun z=>absurd z.2.2.2.1 (by omega))];simp (disch:=omega) only [evs]
 have hm:(b,())∈q3o l↔((b,())∈l.1∨∃c,c∈l.2.2.1∧(b,())∈c.2.2.1):=by
  rw [qml]
  exact⟨fun z=>z.elim (fun y=> .inl y.1) .inr,fun z=>z.elim (fun y=> .inl ⟨y,by omega⟩) .inr⟩
 by_cases e3:(b,())∈q3o l
 ·rw [q42,if_neg (fun z=>z.2.2.2.2 (hm.1 e3))]
  simp (disch:=omega) only [evs,h3,h4]
 ·rw [q42,if_pos ⟨h,ha,e1,by omega,fun z=>e3 (hm.2 z)⟩]
  simp (disch:=omega) only [evs,h3,h4]
set_option maxHeartbeats 1000000 in
theorem q0gb {k:Nat} (hk:K0≤k) (l:q28) (h:q1n l):qfe k l=some (q21 l,()):=by
 have hs:=qcw h
 have hk':=hk
 unfold K0 at hk
 unfold qfe
 have hlen:=h.1
 have htu:=h.2.1
 have hch:=h.2.2.1
 have hwa:=h.2.2.2.1
 have htn:remI (qg .i64 l.2.1 1) (ln l.1)=tnM l:=by rw [q0h (by omega)];rfl
 simp only [htn]
 rw [q02,q0o,q31,q8 (by omega)]
 have hok:=q0dy (p:=(l.1,l.2.2.1)) (qqw h)
 have hls:=qti (tnM l) l.2.2.2.1 (l.1,l.2.2.1)
 have htb:=q0pi h
 refine q08 (n:=l.2.2.1.length) (fun i=>((lpS (tnM l) l.2.2.2.1 (l.1,l.2.2.1) i).1,(lpS (tnM l) l.2.2.2.1 (l.1,l.2.2.1) i).2,(i:Int),())) rfl (fun i hi rec=> ?_) (fun rec=> ?_) (by omega)
 ·have hL:=hok i (by (try dsimp only);omega)
  have hln:=hls i
  have e:lpS (tnM l) l.2.2.2.1 (l.1,l.2.2.1) (i+1)=lpC (tnM l) l.2.2.2.1 (lpS (tnM l) l.2.2.2.1 (l.1,l.2.2.1) i) i:=rfl
  rw [e]
  clear e hok hls
  generalize lpS (tnM l) l.2.2.2.1 (l.1,l.2.2.1) i=p at*
  generalize tnM l=tn at*
  (try dsimp only at hln)
  have hi':i<p.2.length:=by omega
  have hc:=hL.2.2.2.2.1 _ (by (try dsimp only);rw [qo hi'];exact List.getElem_mem hi':rdP (0,0,[],()) p.2 i∈p.2)
  have hc1:=hc.1
  have hc3:=hc.2.2
  dsimp only at hc1 hc3
  have ht:=qo0 (l:=(p.1,tn,p.2,l.2.2.2.1,())) (a:=(rdP (0,0,[],()) p.2 i).1) hc.1 (by (try dsimp only);omega)
  dsimp only at ht
  have hT:=qs0 k (p.1,tn,p.2,l.2.2.2.1,()) (rdP (0,0,[],()) p.2 i).1 (by (try dsimp only);omega) (by (try dsimp only);omega) (by omega) (by (try dsimp only);omega)
  have hnt:q6 (qip (p.1,tn,p.2,l.2.2.2.1,()) (rdP (0,0,[],()) p.2 i).1)=lpT tn l.2.2.2.1 p i:=rfl
  have hbt:(rdP (0,()) p.1 (lpT tn l.2.2.2.1 p i)).1=lpB tn l.2.2.2.1 p i:=rfl
  have hW:=qrz hk' (p.1,tn,p.2,l.2.2.2.1,()) (lpB tn l.2.2.2.1 p i) hs.wants
  dsimp only at hW
  have hfit:=qny ((lpB tn l.2.2.2.1 p i,()):Int×Unit) (l:=(rdP (0,0,[],()) p.2 i).2.2.1) (by have:=hc.2.1;omega)
  have hnd:=h.2.2.2.2.2.2.2.2.2
  have hwp:∀j,j<l.2.2.2.1.length→(rdP (0,[],()) l.2.2.2.1 j).1=lpB tn l.2.2.2.1 p i→(q0jq l.2.2.2.1 (lpB tn l.2.2.2.1 p i) i↔((i:Int),())∈(rdP (0,[],()) l.2.2.2.1 j).2.1):=by
   intro j hj ej
   constructor
   ·rintro ⟨w,hw,e1,e2⟩
    obtain⟨m,hm,rfl⟩:=List.getElem_of_mem hw
    have:m=j:=by
     have h2:=(q9n (d:=(0,[],())) (l:=l.2.2.2.1) (f:=fun w:qnr=>w.1)).1 hnd
     rcases Nat.lt_trichotomy m j with q|q|q
     ·exact absurd (by rw [qo hm,e1,ej]) (h2 j hj m q)
     ·exact q
     ·exact absurd (by rw [ej,qo hm,e1]) (h2 m hm j q)
    subst this
    rw [qo hm];exact e2
   ·intro z
    exact⟨_,by rw [qo hj];exact List.getElem_mem hj,ej,z⟩
  generalize qip (p.1,tn,p.2,l.2.2.2.1,()) (rdP (0,0,[],()) p.2 i).1=tt at*
  have hcont:∀j,j<l.2.2.2.1.length→q06 k (rdP (0,[],()) l.2.2.2.1 j).2.1 i=q0i (((i:Int),())∈(rdP (0,[],()) l.2.2.2.1 j).2.1):=fun j hj=>q36 hk' _ _ (hs.told _ (by rw [qo hj];exact List.getElem_mem hj))
  rcases hW with⟨w,hw,ew,_,eW⟩|⟨hno,eW⟩
  ·have hwp:=hwp w hw ew
   have hcont:=hcont w hw
   by_cases b0:lpB tn l.2.2.2.1 p i=0
   ·have e:lpC tn l.2.2.2.1 p i=p:=if_neg (fun z=>z.1 b0)
    rw [e]
    simp (disch:=omega) only [evs,hT,hnt,hbt,eW]
    rfl
   by_cases b2:((rdP (0,0,[],()) p.2 i).2.2.1.length:Int)<(rdP (0,0,[],()) p.2 i).2.1
   case neg=>
    have e:lpC tn l.2.2.2.1 p i=p:=if_neg (fun z=>b2 z.2.2)
    rw [e]
    simp (disch:=omega) only [evs,hT,hnt,hbt,eW]
    rfl
   by_cases b1:q0jq l.2.2.2.1 (lpB tn l.2.2.2.1 p i) i
   ·have e:lpC tn l.2.2.2.1 p i=_:=if_pos ⟨b0,b1,b2⟩
    have b1':=hwp.1 b1
    rw [e]
    simp (disch:=omega) only [evs,hT,hnt,hbt,eW,hcont,hfit]
    rfl
   ·have e:lpC tn l.2.2.2.1 p i=p:=if_neg (fun z=>b1 z.2.1)
    have b1':¬_:=fun z=>b1 (hwp.2 z)
    rw [e]
    simp (disch:=omega) only [evs,hT,hnt,hbt,eW,hcont]
    rfl
  ·have b1:¬q0jq l.2.2.2.1 (lpB tn l.2.2.2.1 p i) i:=by
    rintro ⟨w,hw,e1,e2⟩
    obtain⟨m,hm,rfl⟩:=List.getElem_of_mem hw
    exact hno m hm (by rw [qo hm];exact e1)
   have e:lpC tn l.2.2.2.1 p i=p:=if_neg (fun z=>b1 z.2.1)
   rw [e]
   by_cases b0:lpB tn l.2.2.2.1 p i=0
   ·simp (disch:=omega) only [evs,hT,hnt,hbt,eW]
    rfl
   ·simp (disch:=omega) only [evs,hT,hnt,hbt,eW]
    rfl
 ·have hln:=hls l.2.2.1.length
  dsimp only at hln
  simp (disch:=omega) only [evs,hln]
  rfl
end Go.Proofs.YtpmjopbgccajgaaGreat.Eng
