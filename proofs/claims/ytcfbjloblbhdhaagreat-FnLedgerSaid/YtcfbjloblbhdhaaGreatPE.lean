/- Pure laws: PDpt, PDpt2, PDo, PDraw9, PDraw9b. No condition. -/
import Derived.Test.YtcfbjloblbhdhaaGreatPD
import Derived.Test.YtcfbjloblbhdhaaGreatPLpack
import Derived.Test.YtcfbjloblbhdhaaGreatD
import Derived.Test.YtcfbjloblbhdhaaGreatPQdraw
set_option linter.unusedVariables false
set_option linter.unusedSimpArgs false
namespace Go.Proofs.YtcfbjloblbhdhaaGreat.Eng
abbrev DpS:=LoopT×List CaseT×List Pc
def pcOf (b:Int) (e:CaseT):Pc:=(b,e.2.2.2.2.1,e.2.2.2.2.2.1,())
def caseAt (cs:List CaseT) (b:Int):CaseT:=rdP (0,0,0,0,0,0,0,0,0,0,()) cs (natI (b-1))
noncomputable def dpC (no:List NoteT) (f:Int) (s:DpS) (b:Int×Unit):DpS:=
 if (caseAt s.2.1 b.1).2.2.2.1=f then
  @ite _ (flyP no b.1 f) (Classical.propDecidable _) (dropLp s.1 b.1,s.2.1.set (natI (b.1-1)) (placed (caseAt s.2.1 b.1) 6),s.2.2++[pcOf b.1 (caseAt s.2.1 b.1)]) (dropLp s.1 b.1,s.2.1.set (natI (b.1-1)) (placed (caseAt s.2.1 b.1) 7),s.2.2)
 else s
noncomputable def dpS (no:List NoteT) (f:Int) (s:DpS) (l:List (Int×Unit)):DpS:=l.foldl (dpC no f) s
def flAt (x:HallT) (f:Int):FlightT:=rdP (0,0,0,false,0,()) x.2.2.2.2.2.2.2.2.2.2.2.2.2.2.2.1 (natI (f-1))
def bagsAt (x:HallT) (f:Int):List (Int×Unit):=(rdP (0,0,[],()) x.2.2.2.2.2.2.2.2.2.2.1 (natI (flAt x f).2.2.1)).2.2.1
noncomputable def dpE (x:HallT) (f:Int):DpS:=dpS x.2.2.2.2.2.2.2.2.2.2.2.2.2.2.1 f (loopOf x,x.2.2.2.2.2.2.2.2.2.2.2.2.2.2.2.2.1,[]) (bagsAt x f)
noncomputable def boxN (x:HallT) (f:Int):Int:=(repM (x.2.2.1,x.2.2.2.1,()) (dpE x f).2.2).length
noncomputable def flD (x:HallT) (f:Int):List FlightT:=x.2.2.2.2.2.2.2.2.2.2.2.2.2.2.2.1.set (natI (f-1)) ((flAt x f).1,(flAt x f).2.1,(flAt x f).2.2.1,true,boxN x f,())
def hallFLC (x:HallT) (fl:List FlightT) (l:LoopT) (cs:List CaseT):HallT:=(x.1,x.2.1,x.2.2.1,x.2.2.2.1,x.2.2.2.2.1,x.2.2.2.2.2.1,x.2.2.2.2.2.2.1,x.2.2.2.2.2.2.2.1,l.1,l.2.1,l.2.2.1,l.2.2.2.1,x.2.2.2.2.2.2.2.2.2.2.2.2.1,x.2.2.2.2.2.2.2.2.2.2.2.2.2.1,x.2.2.2.2.2.2.2.2.2.2.2.2.2.2.1,fl,cs,())
noncomputable def depM (x:HallT) (f:Int):HallT×Bool×Unit:= @ite _ (departP x f) (Classical.propDecidable _) (hallFLC x (flD x f) (dpE x f).1 (dpE x f).2.1,true,()) (x,false,())
theorem flD_ok {x:HallT} {f:Int} (h:HallP x) (hf:1≤f∧f≤x.2.2.2.2.2.2.2.2.2.2.2.2.2.2.2.1.length):HallP (hallFLC x (flD x f) (loopOf x) x.2.2.2.2.2.2.2.2.2.2.2.2.2.2.2.2.1)∧(rdP (0,0,0,false,0,()) (flD x f) (natI (f-1))).2.2.2.1=true:=by
 obtain⟨h1,h2,h3,h4,h5,h6,h7,h8,h9,h10,h11,h12,h13,h14,h15⟩:=h
 have hn:natI (f-1)<x.2.2.2.2.2.2.2.2.2.2.2.2.2.2.2.1.length:=by unfold natI;omega
 have hat:rdP (0,0,0,false,0,()) (flD x f) (natI (f-1))=((flAt x f).1,(flAt x f).2.1,(flAt x f).2.2.1,true,boxN x f,()):=rd_set_i hn
 have hno:∀j,j≠natI (f-1)→rdP (0,0,0,false,0,()) (flD x f) j=rdP (0,0,0,false,0,()) x.2.2.2.2.2.2.2.2.2.2.2.2.2.2.2.1 j:=fun j hj=>rd_set_o (fun e=>hj e.symm)
 have hlen:(flD x f).length=x.2.2.2.2.2.2.2.2.2.2.2.2.2.2.2.1.length:=by simp [flD]
 refine⟨⟨h1,h2,h3,h4,h5,h6,h7,by show (flD x f).length≤20;omega,h9,fun g hg=> ?_,fun i hi=> ?_,h12,h13,h14,h15⟩,by rw [hat]⟩
 ·rcases List.mem_or_eq_of_mem_set (show g∈flD x f from hg)with hm|hm
  ·exact h10 g hm
  ·have hfl:FlightP x.2.2.2.2.2.2.2.2.2.2.1.length (flAt x f):=h10 _ (by unfold flAt;rw [rd_lt hn];exact List.getElem_mem hn)
   obtain⟨f1,f2,f3,f4,f5⟩:=hfl
   have:=(FFm_len (x.2.2.1,x.2.2.2.1,()) (srtL (dpE x f).2.2)).1
   subst hm
   refine⟨f1,f2,f3,f4,.inr ⟨rfl,?_⟩⟩
   show 0≤boxN x f∧boxN x f≤40
   unfold boxN repM
   omega
 ·obtain⟨c1,c2,c3,c4,c5,c6,c7,c8,c9,c10,c11⟩:=h11 i hi
  refine⟨c1,by show 1≤_∧_≤((flD x f).length:Int);rw [hlen];exact c2,c3,c4,c5,c6,c7,c8,c9,fun hp=> ?_,c11⟩
  show (rdP (0,0,0,false,0,()) (flD x f) _).2.2.2.1=true
  by_cases e:natI ((rdP (0,0,0,0,0,0,0,0,0,0,()) x.2.2.2.2.2.2.2.2.2.2.2.2.2.2.2.2.1 i).2.2.2.1-1)=natI (f-1)
  ·show (rdP (0,0,0,false,0,()) (flD x f) (natI ((rdP (0,0,0,0,0,0,0,0,0,0,()) x.2.2.2.2.2.2.2.2.2.2.2.2.2.2.2.2.1 i).2.2.2.1-1))).2.2.2.1=true
   rw [e,hat]
  ·show (rdP (0,0,0,false,0,()) (flD x f) (natI ((rdP (0,0,0,0,0,0,0,0,0,0,()) x.2.2.2.2.2.2.2.2.2.2.2.2.2.2.2.2.1 i).2.2.2.1-1))).2.2.2.1=true
   rw [hno _ e];exact c10 hp
theorem dpC_ok {x:HallT} {fl:List FlightT} {f:Int} {s:DpS} {b:Int} (h:HallP (hallFLC x fl s.1 s.2.1)) (hd:1≤f→(rdP (0,0,0,false,0,()) fl (natI (f-1))).2.2.2.1=true) (hb:InC s.1 b):HallP (hallFLC x fl (dpC x.2.2.2.2.2.2.2.2.2.2.2.2.2.2.1 f s (b,())).1 (dpC x.2.2.2.2.2.2.2.2.2.2.2.2.2.2.1 f s (b,())).2.1)∧(dpC x.2.2.2.2.2.2.2.2.2.2.2.2.2.2.1 f s (b,())).2.1.length=s.2.1.length∧(∀a,1≤a→a≠b→InC s.1 a→InC (dpC x.2.2.2.2.2.2.2.2.2.2.2.2.2.2.1 f s (b,())).1 a)∧(1≤b∧b≤s.2.1.length)∧(dpC x.2.2.2.2.2.2.2.2.2.2.2.2.2.2.1 f s (b,())).1.2.2.1.length=s.1.2.2.1.length:=by
 have hL:LoopP s.1:=h.2.2.2.2.1
 have hb1:1≤b:=hL.2.2.2.2.2.2.1 (b,()) (mem_bagsL.2 (.inr hb))
 have hb2:b≤s.2.1.length:=by
  obtain⟨c,hc,z⟩:=hb
  exact h.2.2.2.2.2.2.2.2.2.2.2.2.2.1 c hc _ z
 have hi:natI (b-1)<s.2.1.length:=by unfold natI;omega
 have hbi:((natI (b-1):Nat):Int)+1=b:=by unfold natI;omega
 obtain⟨c1,c2,c3,c4,c5,c6,c7,c8,c9,c10,c11,c12,c13,c14⟩:=hallP_case h hi
 rw [hbi]at c11 c12 c13 c14
 have hp:(caseAt s.2.1 b).2.2.2.2.2.2.1=4:=c13.1 hb
 have hv:(caseAt s.2.1 b).2.2.2.2.2.2.2.2.2.1=1:=by
  by_cases e:(caseAt s.2.1 b).2.2.2.2.2.2.2.2.2.1=1
  ·exact e
  ·exact absurd hp (c8 e).2.1
 obtain⟨d1,d2,d3⟩:=drop_facts (l:=s.1) (b:=b) (by omega)
 have hdo:LoopP (dropLp s.1 b):=drop_ok hL (by omega)
 have hch:(dropLp s.1 b).2.2.1.length=s.1.2.2.1.length:=by simp [dropLp]
 have hns:¬InS (storeOf x) b:=fun z=>by have z:=c14.1 z;have hp:(rdP (0,0,0,0,0,0,0,0,0,0,()) s.2.1 (natI (b-1))).2.2.2.2.2.2.1=4:=hp;have z:(rdP (0,0,0,0,0,0,0,0,0,0,()) s.2.1 (natI (b-1))).2.2.2.2.2.2.1=5:=z;omega
 have mv:∀p:Int,p=6∨p=7→(p=6→(caseAt s.2.1 b).2.2.2.1=f)→HallP (hallFLC x fl (dropLp s.1 b) (s.2.1.set (natI (b-1)) (placed (caseAt s.2.1 b) p))):=by
  intro p hp67 hg
  refine mv_ok (x:=hallFLC x fl s.1 s.2.1) (i:=natI (b-1)) (p:=p) (l:=dropLp s.1 b) (s:=storeOf x) h hi hdo h.2.2.2.2.2.1 hch (fun z=> ?_) (by omega) (fun z=>absurd hv z) (by omega) (fun z=> ?_) (fun a a0 a1=> ?_) ?_
  ·have z:(caseAt s.2.1 b).2.2.2.2.2.2.1=1:=z;omega
  ·have e:=hg z
   have hf1:1≤f:=by rw [←e];exact c2.1
   have:(rdP (0,0,0,false,0,()) fl (natI ((caseAt s.2.1 b).2.2.2.1-1))).2.2.2.1=true:=by rw [e];exact hd hf1
   exact this
  ·rw [hbi]at a1
   exact⟨(d3 a a0 a1).1,(d3 a a0 a1).2,Iff.rfl⟩
  ·rw [hbi]
   exact⟨iff_of_false d1 (by omega),iff_of_false d2 (by omega),iff_of_false hns (by omega)⟩
 unfold dpC
 by_cases e:(caseAt s.2.1 b).2.2.2.1=f
 ·rw [if_pos e]
  by_cases hf:flyP x.2.2.2.2.2.2.2.2.2.2.2.2.2.2.1 b f
  ·rw [if_pos hf]
   exact⟨mv 6 (.inl rfl) (fun _=>e),by simp,fun a a1 a2 z=>(d3 a (by omega) a2).2.2 z,⟨hb1,hb2⟩,hch⟩
  ·rw [if_neg hf]
   exact⟨mv 7 (.inr rfl) (fun z=>by omega),by simp,fun a a1 a2 z=>(d3 a (by omega) a2).2.2 z,⟨hb1,hb2⟩,hch⟩
 ·rw [if_neg e]
  exact⟨h,rfl,fun _ _ _ z=>z,⟨hb1,hb2⟩,rfl⟩
theorem dpS_ok {x:HallT} {fl:List FlightT} {f:Int} (hd:1≤f→(rdP (0,0,0,false,0,()) fl (natI (f-1))).2.2.2.1=true):∀(l:List (Int×Unit)) (s:DpS),HallP (hallFLC x fl s.1 s.2.1)→(∀b∈l,1≤b.1∧InC s.1 b.1)→l.Nodup→HallP (hallFLC x fl (dpS x.2.2.2.2.2.2.2.2.2.2.2.2.2.2.1 f s l).1 (dpS x.2.2.2.2.2.2.2.2.2.2.2.2.2.2.1 f s l).2.1)∧(dpS x.2.2.2.2.2.2.2.2.2.2.2.2.2.2.1 f s l).2.1.length=s.2.1.length∧(dpS x.2.2.2.2.2.2.2.2.2.2.2.2.2.2.1 f s l).1.2.2.1.length=s.1.2.2.1.length∧∀a,1≤a→(a,())∉l→InC s.1 a→InC (dpS x.2.2.2.2.2.2.2.2.2.2.2.2.2.2.1 f s l).1 a
 | [],s,h,_,_=>⟨h,rfl,rfl,fun _ _ _ z=>z⟩
 |b::l,s,h,hb,hn=>by
  obtain⟨b,u⟩:=b
  cases u
  obtain⟨q1,q2⟩:=List.nodup_cons.1 hn
  obtain⟨a1,a2,a3,a4,a5⟩:=dpC_ok h hd (hb (b,()) (List.mem_cons_self ..)).2
  obtain⟨r1,r2,r3,r4⟩:=dpS_ok hd l (dpC x.2.2.2.2.2.2.2.2.2.2.2.2.2.2.1 f s (b,())) a1 (fun c hc=>⟨(hb c (List.mem_cons_of_mem _ hc)).1,a3 c.1 (hb c (List.mem_cons_of_mem _ hc)).1 (fun e=>q1 (by obtain⟨c,u⟩:=c;cases u;dsimp only at e;rw [←e];exact hc)) (hb c (List.mem_cons_of_mem _ hc)).2⟩) q2
  refine⟨r1,r2.trans a2,r3.trans a5,fun a ha hm z=>r4 a ha (fun q=>hm (List.mem_cons_of_mem _ q)) (a3 a ha (fun e=>hm (by rw [e];exact List.mem_cons_self ..)) z)⟩
theorem bagsAt_mem {x:HallT} {f:Int} (h:HallP x) (hf:1≤f∧f≤x.2.2.2.2.2.2.2.2.2.2.2.2.2.2.2.1.length):natI (flAt x f).2.2.1<x.2.2.2.2.2.2.2.2.2.2.1.length∧(0≤(flAt x f).2.2.1)∧(∀b∈bagsAt x f,1≤b.1∧InC (loopOf x) b.1)∧(bagsAt x f).Nodup∧(bagsAt x f).length≤40:=by
 obtain⟨h1,h2,h3,h4,h5,h6,h7,h8,h9,h10,h11,h12,h13,h14,h15⟩:=h
 have hn:natI (f-1)<x.2.2.2.2.2.2.2.2.2.2.2.2.2.2.2.1.length:=by unfold natI;omega
 obtain⟨f1,f2,f3,f4,f5⟩:FlightP x.2.2.2.2.2.2.2.2.2.2.1.length (flAt x f):=h10 _ (by unfold flAt;rw [rd_lt hn];exact List.getElem_mem hn)
 have hj:natI (flAt x f).2.2.1<x.2.2.2.2.2.2.2.2.2.2.1.length:=by unfold natI;omega
 have hcm:rdP (0,0,[],()) x.2.2.2.2.2.2.2.2.2.2.1 (natI (flAt x f).2.2.1)∈x.2.2.2.2.2.2.2.2.2.2.1:=by rw [rd_lt hj];exact List.getElem_mem hj
 obtain⟨p1,p2,p3,p4,p5,p6,p7,p8,p9,p10⟩:=h5
 have hc:=p5 _ hcm
 refine⟨hj,f4.1,fun b hb=> ?_,?_,?_⟩
 ·have:InC (loopOf x) b.1:=⟨_,hcm,by obtain⟨b,u⟩:=b;cases u;exact hb⟩
  exact⟨p7 (b.1,()) (mem_bagsL.2 (.inr this)),this⟩
 ·have hsub:List.Sublist (bagsAt x f) (inCh x.2.2.2.2.2.2.2.2.2.2.1):=by
   unfold inCh
   rw [List.flatMap_def]
   refine List.sublist_flatten_of_mem ?_
   exact List.mem_map.2 ⟨_,hcm,rfl⟩
  exact(hsub.trans (List.sublist_append_right _ _)).nodup p8
 ·have:=hc.2.2;have:=hc.2.1;unfold bagsAt;omega
theorem dep_ok {x:HallT} {f:Int} (h:HallP x):HallP (depM x f).1:=by
 unfold depM
 by_cases hP:departP x f
 case neg=>rw [if_neg hP];exact h
 rw [if_pos hP]
 have hf:=hP.2.1
 obtain⟨g1,g2⟩:=flD_ok h hf
 obtain⟨m1,m0,m2,m3,m4⟩:=bagsAt_mem h hf
 exact(dpS_ok (x:=x) (fl:=flD x f) (f:=f) (fun _=>g2) (bagsAt x f) (loopOf x,x.2.2.2.2.2.2.2.2.2.2.2.2.2.2.2.2.1,[]) g1 m2 m3).1
end Go.Proofs.YtcfbjloblbhdhaaGreat.Eng
namespace Go.Proofs.YtcfbjloblbhdhaaGreat.Eng
theorem dpS_s {no:List NoteT} {f:Int} {s:DpS} {l:List (Int×Unit)} {j:Nat} (h:j<l.length):dpS no f s (l.take (j+1))=dpC no f (dpS no f s (l.take j)) (rdP (0,()) l j):=by
 rw [take_s (d:=(0,())) h,dpS,List.foldl_append];rfl
theorem dpC_pcs (no:List NoteT) (f:Int) (s:DpS) (b:Int×Unit):(dpC no f s b).2.2.length≤s.2.2.length+1:=by
 unfold dpC
 split
 ·split<;>simp
 ·omega
theorem dpS_pcs (no:List NoteT) (f:Int):∀(l:List (Int×Unit)) (s:DpS),(dpS no f s l).2.2.length≤s.2.2.length+l.length
 | [],s=>Nat.le_refl _
 |b::l,s=>by
  have h1:=dpS_pcs no f l (dpC no f s b)
  have h2:=dpC_pcs no f s b
  have e:dpS no f s (b::l)=dpS no f (dpC no f s b) l:=rfl
  rw [e,List.length_cons]
  omega
set_option maxHeartbeats 1000000 in
theorem spec_l09Depart_f {k:Nat} (hk:K0≤k) (x:HallT) (f:Int) (h:HallP x):spec_l09Depart.f k x f=some (depM x f):=by
 have hs:=hallP_sz h
 have e1:=spec_CanDepart_f hk x f hs
 have e2:=spec_l09Copy_f hk x hs
 have hfl:=hs.flights
 have hcl:=hs.cases_
 have hch:=hs.chutes
 unfold spec_l09Depart.f depM
 rw [e1,bnd_chk,br_not]
 by_cases hP:departP x f
 case neg=>rw [br_neg hP,if_neg hP]
 rw [br_pos hP,if_pos hP,e2,bnd_s]
 dsimp only
 have hf:=hP.2.1
 obtain⟨g1,g2⟩:=flD_ok h hf
 obtain⟨m1,m0,m2,m3,m4⟩:=bagsAt_mem h hf
 have hn:natI (f-1)<x.2.2.2.2.2.2.2.2.2.2.2.2.2.2.2.1.length:=by unfold natI;omega
 have hfa:rdP (0,0,0,false,0,()) x.2.2.2.2.2.2.2.2.2.2.2.2.2.2.2.1 (natI (f-1))=flAt x f:=rfl
 have hba:(rdP (0,0,[],()) x.2.2.2.2.2.2.2.2.2.2.1 (natI (flAt x f).2.2.1)).2.2.1=bagsAt x f:=rfl
 rw [subI_id (by omega),inR_dc,br_pos (by rw [ln_e];omega),lett_e,hfa,inR_dc,br_pos (by rw [ln_e];unfold natI at m1;omega),lett_e]
 have hk':=hk
 unfold K0 at hk
 have hst:∀j,j≤(bagsAt x f).length→HallP (hallFLC x (flD x f) (dpS x.2.2.2.2.2.2.2.2.2.2.2.2.2.2.1 f (loopOf x,x.2.2.2.2.2.2.2.2.2.2.2.2.2.2.2.2.1,[]) ((bagsAt x f).take j)).1 (dpS x.2.2.2.2.2.2.2.2.2.2.2.2.2.2.1 f (loopOf x,x.2.2.2.2.2.2.2.2.2.2.2.2.2.2.2.2.1,[]) ((bagsAt x f).take j)).2.1)∧(j<(bagsAt x f).length→InC (dpS x.2.2.2.2.2.2.2.2.2.2.2.2.2.2.1 f (loopOf x,x.2.2.2.2.2.2.2.2.2.2.2.2.2.2.2.2.1,[]) ((bagsAt x f).take j)).1 (rdP (0,()) (bagsAt x f) j).1)∧(dpS x.2.2.2.2.2.2.2.2.2.2.2.2.2.2.1 f (loopOf x,x.2.2.2.2.2.2.2.2.2.2.2.2.2.2.2.2.1,[]) ((bagsAt x f).take j)).2.2.length≤j:=by
  intro j hj
  obtain⟨r1,r2,r3,r4⟩:=dpS_ok (x:=x) (fl:=flD x f) (f:=f) (fun _=>g2) ((bagsAt x f).take j) (loopOf x,x.2.2.2.2.2.2.2.2.2.2.2.2.2.2.2.2.1,[]) g1 (fun b hb=>m2 b (List.mem_of_mem_take hb)) (m3.sublist (List.take_sublist _ _))
  refine⟨r1,fun hjl=> ?_,?_⟩
  ·have hm:rdP (0,()) (bagsAt x f) j∈bagsAt x f:=by rw [rd_lt hjl];exact List.getElem_mem hjl
   refine r4 _ (m2 _ hm).1 (fun z=> ?_) (m2 _ hm).2
   obtain⟨t,ht,et⟩:=List.getElem_of_mem z
   rw [List.length_take]at ht
   rw [List.getElem_take]at et
   unfold List.Nodup at m3
   rw [List.pairwise_iff_getElem]at m3
   have:=m3 t j (by omega) hjl (by omega)
   apply this
   rw [et,rd_lt hjl]
  ·have:=dpS_pcs x.2.2.2.2.2.2.2.2.2.2.2.2.2.2.1 f ((bagsAt x f).take j) (loopOf x,x.2.2.2.2.2.2.2.2.2.2.2.2.2.2.2.2.1,[])
   rw [List.length_take]at this
   simp only [List.length_nil]at this
   omega
 rw [hba]
 generalize hB:bagsAt x f=B at*
 have hE:dpE x f=dpS x.2.2.2.2.2.2.2.2.2.2.2.2.2.2.1 f (loopOf x,x.2.2.2.2.2.2.2.2.2.2.2.2.2.2.2.2.1,[]) B:=by unfold dpE;rw [hB]
 refine loop_run (n:=B.length) (fun j=>((dpS x.2.2.2.2.2.2.2.2.2.2.2.2.2.2.1 f (loopOf x,x.2.2.2.2.2.2.2.2.2.2.2.2.2.2.2.2.1,[]) (B.take j)).1.1,(dpS x.2.2.2.2.2.2.2.2.2.2.2.2.2.2.1 f (loopOf x,x.2.2.2.2.2.2.2.2.2.2.2.2.2.2.2.2.1,[]) (B.take j)).1.2.1,(dpS x.2.2.2.2.2.2.2.2.2.2.2.2.2.2.1 f (loopOf x,x.2.2.2.2.2.2.2.2.2.2.2.2.2.2.2.2.1,[]) (B.take j)).1.2.2.1,(dpS x.2.2.2.2.2.2.2.2.2.2.2.2.2.2.1 f (loopOf x,x.2.2.2.2.2.2.2.2.2.2.2.2.2.2.2.2.1,[]) (B.take j)).1.2.2.2.1,(dpS x.2.2.2.2.2.2.2.2.2.2.2.2.2.2.1 f (loopOf x,x.2.2.2.2.2.2.2.2.2.2.2.2.2.2.2.2.1,[]) (B.take j)).2.1,(dpS x.2.2.2.2.2.2.2.2.2.2.2.2.2.2.1 f (loopOf x,x.2.2.2.2.2.2.2.2.2.2.2.2.2.2.2.2.1,[]) (B.take j)).2.2,(j:Int),())) rfl (fun j hj rec=> ?_) (fun rec=> ?_) (by omega)
 ·obtain⟨s1,s2,s3⟩:=hst j (by omega)
  have s2:=s2 hj
  rw [dpS_s hj]
  have hfly:=spec_MayFly_f hk' x.2.2.2.2.2.2.2.2.2.2.2.2.2.2.1 (rdP (0,()) B j).1 f hs.notes
  generalize dpS x.2.2.2.2.2.2.2.2.2.2.2.2.2.2.1 f (loopOf x,x.2.2.2.2.2.2.2.2.2.2.2.2.2.2.2.2.1,[]) (B.take j)=s at*
  obtain⟨b,hbe⟩:∃b,rdP (0,()) B j=(b,()):=⟨(rdP (0,()) B j).1,rfl⟩
  rw [hbe]at s2 hfly
  rw [show dpC x.2.2.2.2.2.2.2.2.2.2.2.2.2.2.1 f s (rdP (0,()) B j)=dpC x.2.2.2.2.2.2.2.2.2.2.2.2.2.2.1 f s (b,()) by rw [hbe]]
  obtain⟨_,a2,_,⟨a4,a5⟩,_⟩:=dpC_ok (f:=f) s1 (fun _=>g2) s2
  have hL:LoopP s.1:=s1.2.2.2.2.1
  have hdr:spec_l09Drop.f k (s.1.1,s.1.2.1,s.1.2.2.1,s.1.2.2.2.1,()) b=some (dropLp s.1 b,()):=spec_l09Drop_f hk' s.1 b (loopP_sz hL)
  have hsl:s.2.1.length≤60:=s1.2.2.2.2.2.2.2.2.1
  have hi:natI (b-1)<s.2.1.length:=by unfold natI;(try dsimp only at a4 a5);omega
  have hca:rdP (0,0,0,0,0,0,0,0,0,0,()) s.2.1 (natI (b-1))=caseAt s.2.1 b:=rfl
  have hfit:=fit1 (pcOf b (caseAt s.2.1 b)) (l:=s.2.2) (by omega)
  have hfit':fitL s.2.2 [(b,(caseAt s.2.1 b).2.2.2.2.1,(caseAt s.2.1 b).2.2.2.2.2.1,())]=true:=hfit
  (try dsimp only at a4 a5 hfly)
  unfold dpC
  by_cases e:(caseAt s.2.1 b).2.2.2.1=f
  ·rw [if_pos e]
   by_cases hfl:flyP x.2.2.2.2.2.2.2.2.2.2.2.2.2.2.1 b f
   ·rw [if_pos hfl]
    simp (disch:=omega) only [lett_e,bnd_s,bnd_chk,br_not,br_t,br_f,br_T,br_F,not_true_eq_false,not_false_eq_true,chk_T,chk_F,chk_eq,eqI_dc,ltI_dc,leI_dc,eqN_dc,notB_dc,andB_dc,andB_t,eqB_dc,notB_t,notB_f,inR_dc,upR_dc,ln_e,app_e,tk_e,dp_e,upd_e,repl_e,natI_n,br_pos,br_neg,addI_n,fitN_T,subI_id,hbe,hca,hdr,hfly,hfit',chk_T]
    rfl
   ·rw [if_neg hfl]
    simp (disch:=omega) only [lett_e,bnd_s,bnd_chk,br_not,br_t,br_f,br_T,br_F,not_true_eq_false,not_false_eq_true,chk_T,chk_F,chk_eq,eqI_dc,ltI_dc,leI_dc,eqN_dc,notB_dc,andB_dc,andB_t,eqB_dc,notB_t,notB_f,inR_dc,upR_dc,ln_e,app_e,tk_e,dp_e,upd_e,repl_e,natI_n,br_pos,br_neg,addI_n,fitN_T,subI_id,hbe,hca,hdr,hfly]
    rfl
  ·rw [if_neg e]
   simp (disch:=omega) only [lett_e,bnd_s,bnd_chk,br_not,br_t,br_f,br_T,br_F,not_true_eq_false,not_false_eq_true,chk_T,chk_F,chk_eq,eqI_dc,ltI_dc,leI_dc,eqN_dc,notB_dc,andB_dc,andB_t,eqB_dc,notB_t,notB_f,inR_dc,upR_dc,ln_e,app_e,tk_e,dp_e,upd_e,repl_e,natI_n,br_pos,br_neg,addI_n,fitN_T,subI_id,hbe,hca]
   rfl
 ·have hpl:=(hst B.length (Nat.le_refl _)).2.2
  rw [List.take_length]at hpl ⊢
  have hr:spec_Repack.f k (x.2.2.1,x.2.2.2.1,()) (dpS x.2.2.2.2.2.2.2.2.2.2.2.2.2.2.1 f (loopOf x,x.2.2.2.2.2.2.2.2.2.2.2.2.2.2.2.2.1,[]) B).2.2=some (repM (x.2.2.1,x.2.2.2.1,()) (dpS x.2.2.2.2.2.2.2.2.2.2.2.2.2.2.1 f (loopOf x,x.2.2.2.2.2.2.2.2.2.2.2.2.2.2.2.2.1,[]) B).2.2,()):=spec_Repack_f hk' _ _ (by omega)
  simp (disch:=omega) only [lett_e,bnd_s,bnd_chk,br_not,br_t,br_f,br_T,br_F,not_true_eq_false,not_false_eq_true,chk_T,chk_F,chk_eq,eqI_dc,ltI_dc,leI_dc,eqN_dc,notB_dc,andB_dc,andB_t,eqB_dc,notB_t,notB_f,inR_dc,upR_dc,ln_e,app_e,tk_e,dp_e,upd_e,repl_e,natI_n,br_pos,br_neg,addI_n,fitN_T,hr,hfa,List.length_set,rd_set_i,List.set_set]
  unfold flD boxN
  rw [hE]
  rfl
end Go.Proofs.YtcfbjloblbhdhaaGreat.Eng
namespace Go.Proofs.YtcfbjloblbhdhaaGreat.Eng
noncomputable def ticksM (x:HallT):Nat→HallT
 |0=>x
 |n+1=>tickM (ticksM x n)
theorem ticks_ok {x:HallT} (h:HallP x):∀n:Nat,x.1+n≤100000→HallP (ticksM x n)∧(ticksM x n).1=x.1+n
 |0,_=>⟨h,by simp [ticksM]⟩
 |n+1,hn=>by
  obtain⟨h1,h2⟩:=ticks_ok h n (by omega)
  refine⟨tick_ok h1 (by omega),?_⟩
  have:(ticksM x (n+1)).1=(ticksM x n).1+1:=rfl
  omega
def noteC (c:CmdT):NoteT:=(c.2.2.2.2.2.2.2.2.2.1,c.2.2.2.2.2.2.2.2.2.2.1,c.2.2.2.2.2.2.2.2.2.2.2.1,c.2.2.2.2.2.2.2.2.2.2.2.2.1,c.2.2.2.2.2.2.2.2.2.2.2.2.2.1,())
def hallN (x:HallT) (l:List NoteT):HallT:=(x.1,x.2.1,x.2.2.1,x.2.2.2.1,x.2.2.2.2.1,x.2.2.2.2.2.1,x.2.2.2.2.2.2.1,x.2.2.2.2.2.2.2.1,x.2.2.2.2.2.2.2.2.1,x.2.2.2.2.2.2.2.2.2.1,x.2.2.2.2.2.2.2.2.2.2.1,x.2.2.2.2.2.2.2.2.2.2.2.1,x.2.2.2.2.2.2.2.2.2.2.2.2.1,x.2.2.2.2.2.2.2.2.2.2.2.2.2.1,l,x.2.2.2.2.2.2.2.2.2.2.2.2.2.2.2.1,x.2.2.2.2.2.2.2.2.2.2.2.2.2.2.2.2.1,())
noncomputable def doM (x:HallT) (c:CmdT):HallT×Bool×Unit:=
 if c.1=1 then if (1≤c.2.2.2.1∧c.2.2.2.1≤100)∧x.1+c.2.2.2.1≤100000 then(ticksM x (natI c.2.2.2.1),true,())else(x,false,())
 else if c.1=2 then checkM x c
 else if c.1=6 then if (addM x.2.2.2.2.2.2.2.2.2.2.2.2.2.2.1 (noteC c)).2.1=true then(hallN x (addM x.2.2.2.2.2.2.2.2.2.2.2.2.2.2.1 (noteC c)).1,true,())else(x,false,())
 else if c.1=7 then depM x c.2.2.1
 else if 1≤c.2.1∧c.2.1≤x.2.2.2.2.2.2.2.2.2.2.2.2.2.2.2.2.1.length then
  if c.1=3 then decM x (natI (c.2.1-1)) c.2.2.2.1
  else if c.1=4 then sendM x (natI (c.2.1-1))
  else if c.1=5 then fetchM x (natI (c.2.1-1))
  else if c.1=8 then retM x (natI (c.2.1-1))
  else(x,false,())
 else(x,false,())
theorem hallN_ok {x:HallT} {l:List NoteT} (h:HallP x) (hl:NotesP l):HallP (hallN x l):=by
 obtain⟨h1,h2,h3,h4,h5,h6,h7,h8,h9,h10,h11,h12,h13,h14,h15⟩:=h
 exact⟨h1,h2,h3,h4,h5,h6,hl,h8,h9,h10,h11,h12,h13,h14,h15⟩
theorem do_ok {x:HallT} {c:CmdT} (h:HallP x):HallP (doM x c).1:=by
 unfold doM
 split
 ·split
  ·rename_i hh
   exact(ticks_ok h _ (by unfold natI;omega)).1
  ·exact h
 split
 ·exact check_ok h
 split
 ·split
  ·exact hallN_ok h (addM_ok h.2.2.2.2.2.2.1)
  ·exact h
 split
 ·exact dep_ok h
 split
 case isFalse=>exact h
 rename_i hb
 have hi:natI (c.2.1-1)<x.2.2.2.2.2.2.2.2.2.2.2.2.2.2.2.2.1.length:=by unfold natI;omega
 split
 ·exact dec_ok h hi
 split
 ·exact send_ok h hi
 split
 ·exact fetch_ok h hi
 split
 ·exact ret_ok h hi
 ·exact h
theorem spec_l09Do_f {k:Nat} (hk:K0≤k) (x:HallT) (c:CmdT) (h:HallP x):spec_l09Do.f k x c=some (doM x c):=by
 have hs:=hallP_sz h
 have e2:=spec_l09Check_f hk x c h
 have e6:spec_AddNote.f k x.2.2.2.2.2.2.2.2.2.2.2.2.2.2.1 (c.2.2.2.2.2.2.2.2.2.1,c.2.2.2.2.2.2.2.2.2.2.1,c.2.2.2.2.2.2.2.2.2.2.2.1,c.2.2.2.2.2.2.2.2.2.2.2.2.1,c.2.2.2.2.2.2.2.2.2.2.2.2.2.1,())=some (addM x.2.2.2.2.2.2.2.2.2.2.2.2.2.2.1 (noteC c)):=spec_AddNote_f hk x.2.2.2.2.2.2.2.2.2.2.2.2.2.2.1 (noteC c) hs.notes
 have e7:=spec_l09Depart_f hk x c.2.2.1 h
 have hk':=hk
 unfold K0 at hk
 have hnow:=h.1
 unfold spec_l09Do.f doM
 rw [eqI_dc]
 by_cases k1:c.1=1
 ·rw [br_pos k1,if_pos k1,spec_l01In_f,bnd_chk,br_not]
  by_cases hn:1≤c.2.2.2.1∧c.2.2.2.1≤100
  case neg=>rw [br_neg hn,if_neg (fun z=>hn z.1)]
  rw [br_pos hn,addI_id (by omega),ltI_dc]
  by_cases hm:x.1+c.2.2.2.1≤100000
  case neg=>rw [br_pos (by omega),if_neg (fun z=>hm z.2)]
  rw [br_neg (by omega),if_pos ⟨hn,hm⟩]
  have hcn:c.2.2.2.1=(natI c.2.2.2.1:Nat):=by unfold natI;omega
  generalize natI c.2.2.2.1=n at*
  rw [hcn]at hn hm ⊢
  refine loop_run (n:=n) (fun i=>((ticksM x i).1,(ticksM x i).2.1,(ticksM x i).2.2.1,(ticksM x i).2.2.2.1,(ticksM x i).2.2.2.2.1,(ticksM x i).2.2.2.2.2.1,(ticksM x i).2.2.2.2.2.2.1,(ticksM x i).2.2.2.2.2.2.2.1,(ticksM x i).2.2.2.2.2.2.2.2.1,(ticksM x i).2.2.2.2.2.2.2.2.2.1,(ticksM x i).2.2.2.2.2.2.2.2.2.2.1,(ticksM x i).2.2.2.2.2.2.2.2.2.2.2.1,(ticksM x i).2.2.2.2.2.2.2.2.2.2.2.2.1,(ticksM x i).2.2.2.2.2.2.2.2.2.2.2.2.2.1,(ticksM x i).2.2.2.2.2.2.2.2.2.2.2.2.2.2.1,(ticksM x i).2.2.2.2.2.2.2.2.2.2.2.2.2.2.2.1,(ticksM x i).2.2.2.2.2.2.2.2.2.2.2.2.2.2.2.2.1,(i:Int),())) rfl (fun i hi rec=> ?_) (fun rec=> ?_) (by omega)
  ·have ht:=spec_l09Tick_f hk' (ticksM x i) (ticks_ok h i (by omega)).1
   dsimp only
   rw [ltI_dc,br_pos (by omega),addI_id (by omega)]
   refine Eq.trans (b:=bnd (spec_l09Tick.f k (ticksM x i)) _) rfl ?_
   rw [ht,bnd_s]
   rfl
  ·dsimp only
   rw [ltI_dc,br_neg (by omega)]
 rw [br_neg k1,if_neg k1,eqI_dc]
 by_cases k2:c.1=2
 ·rw [br_pos k2,if_pos k2]
  refine Eq.trans (b:=bnd (spec_l09Check.f k x c) _) rfl ?_
  rw [e2,bnd_s]
 rw [br_neg k2,if_neg k2,eqI_dc]
 by_cases k6:c.1=6
 ·rw [br_pos k6,if_pos k6,e6,bnd_s]
  cases ha:(addM x.2.2.2.2.2.2.2.2.2.2.2.2.2.2.1 (noteC c)).2.1 with
  |true=>rw [if_pos rfl];rfl
  |false=>rw [if_neg (by exact Bool.noConfusion)];rfl
 rw [br_neg k6,if_neg k6,eqI_dc]
 by_cases k7:c.1=7
 ·rw [br_pos k7,if_pos k7]
  refine Eq.trans (b:=bnd (spec_l09Depart.f k x c.2.2.1) _) rfl ?_
  rw [e7,bnd_s]
 rw [br_neg k7,if_neg k7,spec_l01In_f,bnd_chk,br_not,ln_e]
 by_cases hb:1≤c.2.1∧c.2.1≤x.2.2.2.2.2.2.2.2.2.2.2.2.2.2.2.2.1.length
 case neg=>rw [br_neg hb,if_neg hb]
 rw [br_pos hb,if_pos hb,eqI_dc]
 have hi:natI (c.2.1-1)<x.2.2.2.2.2.2.2.2.2.2.2.2.2.2.2.2.1.length:=by unfold natI;omega
 have hci:((natI (c.2.1-1):Nat):Int)+1=c.2.1:=by unfold natI;omega
 have e3:=spec_l09Decide_f hk' x c.2.1 c.2.2.2.1 h hb
 have e4:=spec_l09Send_f hk' x (natI (c.2.1-1)) h hi
 have e5:=spec_l09Fetch_f hk' x (natI (c.2.1-1)) h hi
 have e8:=spec_l09Return_f hk' x (natI (c.2.1-1)) h hi
 rw [hci]at e4 e5 e8
 by_cases k3:c.1=3
 ·rw [br_pos k3,if_pos k3]
  refine Eq.trans (b:=bnd (spec_l09Decide.f k x c.2.1 c.2.2.2.1) _) rfl ?_
  rw [e3,bnd_s]
 rw [br_neg k3,if_neg k3,eqI_dc]
 by_cases k4:c.1=4
 ·rw [br_pos k4,if_pos k4]
  refine Eq.trans (b:=bnd (spec_l09Send.f k x c.2.1) _) rfl ?_
  rw [e4,bnd_s]
 rw [br_neg k4,if_neg k4,eqI_dc]
 by_cases k5:c.1=5
 ·rw [br_pos k5,if_pos k5]
  refine Eq.trans (b:=bnd (spec_l09Fetch.f k x c.2.1) _) rfl ?_
  rw [e5,bnd_s]
 rw [br_neg k5,if_neg k5,eqI_dc]
 by_cases k8:c.1=8
 ·rw [br_pos k8,if_pos k8]
  refine Eq.trans (b:=bnd (spec_l09Return.f k x c.2.1) _) rfl ?_
  rw [e8,bnd_s]
 rw [br_neg k8,if_neg k8]
end Go.Proofs.YtcfbjloblbhdhaaGreat.Eng
namespace Go.Proofs.YtcfbjloblbhdhaaGreat.Eng
theorem d_limits (k:Nat) {c:Cur} (hc:Cok c):∃m c',spec_l07Limits.f k c=some (m,c',())∧((60≤m.1∧m.1≤2000)∧1≤m.2.1∧m.2.1≤40)∧Cok c':=by
 obtain⟨x1,c1,e1,a1,h1⟩:=d_pick k [(60,()),(61,()),(75,()),(90,()),(200,())] (by simp) hc
 obtain⟨x2,c2,e2,a2,b2,_,h2⟩:=d_below k 5 h1
 have b2:=b2 (by omega)
 have e1':spec_l01PickInt.f k (c.1,c.2.1,c.2.2.1,()) [(60,()),(61,()),(75,()),(90,()),(200,())]=some (x1,c1,()):=e1
 have e2':spec_l01Below.f k (c1.1,c1.2.1,c1.2.2.1,()) 5=some (x2,c2,()):=e2
 have hx:x1=60∨x1=61∨x1=75∨x1=90∨x1=200:=by simp at a1;omega
 unfold spec_l07Limits.f
 exact⟨(x1,1+x2,()),c2,by simp (disch:=omega) only [lett_e,bnd_s,bnd_chk,br_not,br_t,br_f,br_T,br_F,not_true_eq_false,not_false_eq_true,chk_T,chk_F,chk_eq,eqI_dc,ltI_dc,leI_dc,eqN_dc,notB_dc,andB_dc,andB_t,eqB_dc,notB_t,notB_f,inR_dc,upR_dc,ln_e,app_e,tk_e,dp_e,upd_e,repl_e,natI_n,br_pos,br_neg,addI_n,fitN_T,e1',e2',addI_id]<;>rfl,by dsimp only;omega,h2⟩
def drawnCh (n:Nat) (l:List Chute):Prop:=(1≤l.length+n∧l.length+n≤2)∧(∀c∈l,(n:Int)<c.1∧c.1≤2∧(1≤c.2.1∧c.2.1≤4)∧c.2.2.1=[])∧(l.map (·.1)).Nodup
def drawnFl (m:Nat) (l:List FlightT):Prop:=∀f∈l,FlightP m f
theorem nz_repl (n:Nat):nz (List.replicate n ((0:Int),()))=[]:=by simp [nz]
theorem inCh_nil {l:List Chute} (h:∀c∈l,c.2.2.1=[]):inCh l=[]:=by
 unfold inCh
 rw [List.flatMap_eq_nil_iff]
 exact h
def NewP (x:HallT):Prop:=HallP x∧x.2.2.2.2.2.2.2.2.2.2.2.2.2.2.2.2.1=[]∧1≤x.2.2.2.2.2.2.2.2.2.2.2.2.2.2.2.1.length∧x.2.2.2.2.2.2.2.1=[]∧x.2.2.2.2.2.2.2.2.2.2.2.2.2.1=[([],()),([],())]∧(∀c∈x.2.2.2.2.2.2.2.2.2.2.1,c.2.2.1=[])∧x.2.2.2.2.2.2.2.2.2.2.2.1=[]
theorem d_new9 {k:Nat} (hk:K0≤k) {c:Cur} (hc:Cok c):∃x c',spec_l09New.f k c=some (x,c',())∧NewP x∧Cok c':=by
 obtain⟨x1,c1,e1,a1,b1,_,h1⟩:=d_below k 4 hc
 obtain⟨x2,c2,e2,a2,b2,_,h2⟩:=d_below k 6 h1
 obtain⟨x3,c3,e3,a3,b3,_,h3⟩:=d_below k 9 h2
 obtain⟨m4,c4,e4,a4,h4⟩:=d_limits k h3
 obtain⟨x5,c5,e5,a5,b5,_,h5⟩:=d_below k 6 h4
 obtain⟨x6,c6,e6,a6,b6,_,h6⟩:=d_below k 2 h5
 obtain⟨x7,c7,e7,a7,b7,_,h7⟩:=d_below k 5 h6
 have b1:=b1 (by omega);have b2:=b2 (by omega);have b3:=b3 (by omega);have b5:=b5 (by omega);have b6:=b6 (by omega);have b7:=b7 (by omega)
 obtain⟨x8,c8,e8,a8,b8,_,h8⟩:=d_below k (3+x7) h7
 have b8:=b8 (by omega)
 obtain⟨x9,c9,e9,a9,b9,_,h9⟩:=d_below k 2 h8
 have b9:=b9 (by omega)
 have e1':spec_l01Below.f k (c.1,c.2.1,c.2.2.1,()) 4=some (x1,c1,()):=e1
 have e2':spec_l01Below.f k (c1.1,c1.2.1,c1.2.2.1,()) 6=some (x2,c2,()):=e2
 have e3':spec_l01Below.f k (c2.1,c2.2.1,c2.2.2.1,()) 9=some (x3,c3,()):=e3
 have e4':spec_l07Limits.f k (c3.1,c3.2.1,c3.2.2.1,())=some (m4,c4,()):=e4
 have e5':spec_l01Below.f k (c4.1,c4.2.1,c4.2.2.1,()) 6=some (x5,c5,()):=e5
 have e6':spec_l01Below.f k (c5.1,c5.2.1,c5.2.2.1,()) 2=some (x6,c6,()):=e6
 have e7':spec_l01Below.f k (c6.1,c6.2.1,c6.2.2.1,()) 5=some (x7,c7,()):=e7
 have e8':spec_l01Below.f k (c7.1,c7.2.1,c7.2.2.1,()) (3+x7)=some (x8,c8,()):=e8
 have e9':spec_l01Below.f k (c8.1,c8.2.1,c8.2.2.1,()) 2=some (x9,c9,()):=e9
 obtain⟨n,hn,hn3⟩:∃n:Nat,3+x7=(n:Int)∧3≤n∧n≤7:=⟨natI (3+x7),by unfold natI;omega,by unfold natI;omega,by unfold natI;omega⟩
 rw [hn]at e8' b8
 have hfN:fitN (n:Int)=true:=fitN_T (by omega)
 have hadd:addI .i64 3 x7=(n:Int):=(addI_id (by omega)).trans hn
 unfold spec_l09New.f
 rw [e1',bnd_s,e2',bnd_s,e3',bnd_s,e4',bnd_s,e5',bnd_s,e6',bnd_s,e7',bnd_s]
 simp only [lett_e]
 have heq:eqI (n:Int) (n:Int)=true:=by rw [eqI_dc,dc_T rfl]
 simp only [hadd,hfN,heq,br_t,e8',bnd_s,both_same]
 rw [e9',bnd_s,addI_id (show-9223372036854775808≤1+x9∧1+x9<9223372036854775808 by omega)]
 obtain⟨n9,rfl⟩:=Int.eq_ofNat_of_zero_le a9
 have hk':=hk
 unfold K0 at hk'
 have en9:(1:Int)+(n9:Nat)=((1+n9:Nat):Int):=by omega
 rw [en9]
 refine loop_msr (P:=fun r=>∃(x:HallT) (c':Cur),r=some (x,c',())∧NewP x∧Cok c') (fun f s=>∃(c:Cur) (l:List Chute),s=(c.1,c.2.1,c.2.2.1,l,(f:Int),())∧Cok c∧drawnCh f l) ?_ (f:=1+n9) ⟨c9,[],rfl,h9,⟨by simp;omega,by simp,by simp⟩⟩ (by omega)
 rintro f s rec ⟨c,l,rfl,hc,hl⟩
 obtain⟨l1,l2,l3⟩:=hl
 cases f with
 |succ f=>
  obtain⟨y,c2,q2,r1,r2,_,r4⟩:=d_below k 4 hc
  have r2:=r2 (by omega)
  have q2':spec_l01Below.f k (c.1,c.2.1,c.2.2.1,()) 4=some (y,c2,()):=q2
  have hs:subI .i64 ((f+1:Nat):Int) 1=(f:Int):=subI_nat (by omega)
  have hfit:=fit1 ((((f+1:Nat):Int),1+y,[],()):Chute) (l:=l) (by omega)
  refine .inr ⟨f,_,by omega,⟨c2,l++[(((f+1:Nat):Int),1+y,[],())],rfl,r4,⟨by simp;omega,fun d hd=> ?_,?_⟩⟩,by simp (disch:=omega) only [lett_e,bnd_s,bnd_chk,br_not,br_t,br_f,br_T,br_F,not_true_eq_false,not_false_eq_true,chk_T,chk_F,chk_eq,eqI_dc,ltI_dc,leI_dc,eqN_dc,notB_dc,andB_dc,andB_t,eqB_dc,notB_t,notB_f,inR_dc,upR_dc,ln_e,app_e,tk_e,dp_e,upd_e,repl_e,natI_n,br_pos,br_neg,addI_n,fitN_T,q2',hs,hfit,addI_id]<;>rfl⟩
  ·rcases List.mem_append.1 hd with hd|hd
   ·have:=l2 d hd;exact⟨by omega,by omega,this.2.2.1,this.2.2.2⟩
   ·rw [List.mem_singleton.1 hd];refine⟨?_,?_,?_,rfl⟩<;>(try dsimp only)<;>omega
  ·rw [List.map_append,List.nodup_append]
   refine⟨l3,by simp,fun a ha b hb=> ?_⟩
   obtain⟨d,hd,rfl⟩:=List.mem_map.1 ha
   have:=l2 d hd
   simp at hb
   omega
 |zero=>
  obtain⟨x15,c15,e15,a15,b15,_,h15⟩:=d_below k 3 hc
  obtain⟨x16,c16,e16,a16,b16,_,h16⟩:=d_below k 3 h15
  have b15:=b15 (by omega);have b16:=b16 (by omega)
  have e15':spec_l01Below.f k (c.1,c.2.1,c.2.2.1,()) 3=some (x15,c15,()):=e15
  have e16':spec_l01Below.f k (c15.1,c15.2.1,c15.2.2.1,()) 3=some (x16,c16,()):=e16
  left
  dsimp only
  rw [ltI_dc,br_neg (by omega),e15',bnd_s,e16',bnd_s,addI_id (show-9223372036854775808≤1+x16∧1+x16<9223372036854775808 by omega)]
  obtain⟨n16,rfl⟩:=Int.eq_ofNat_of_zero_le a16
  have en:(1:Int)+(n16:Nat)=((1+n16:Nat):Int):=by omega
  rw [en]
  refine loop_msr (P:=fun r=>∃(x:HallT) (c':Cur),r=some (x,c',())∧NewP x∧Cok c') (fun f s=>∃(c:Cur) (fl:List FlightT),s=(c.1,c.2.1,c.2.2.1,fl,(f:Int),())∧Cok c∧(1≤fl.length+f∧fl.length+f≤3)∧drawnFl l.length fl) ?_ (f:=1+n16) ⟨c16,[],rfl,h16,by simp;omega,fun d hd=>by cases hd⟩ (by omega)
  rintro f s rec ⟨c,fl,rfl,hc,hlen,hfl⟩
  cases f with
  |succ f=>
   obtain⟨y1,d1,q1,r1,t1,_,u1⟩:=d_below k 16 hc
   obtain⟨y2,d2,q2,r2,t2,_,u2⟩:=d_below k 16 u1
   obtain⟨y3,d3,q3,r3,t3,_,u3⟩:=d_below k (l.length:Int) u2
   have t1:=t1 (by omega);have t2:=t2 (by omega);have t3:=t3 (by omega)
   have q1':spec_l01Below.f k (c.1,c.2.1,c.2.2.1,()) 16=some (y1,d1,()):=q1
   have q2':spec_l01Below.f k (d1.1,d1.2.1,d1.2.2.1,()) 16=some (y2,d2,()):=q2
   have q3':spec_l01Below.f k (d2.1,d2.2.1,d2.2.2.1,()) (l.length:Int)=some (y3,d3,()):=q3
   have hs:subI .i64 ((f+1:Nat):Int) 1=(f:Int):=subI_nat (by omega)
   have hfit:=fit1 ((y1,y1+4+y2,y3,false,0,()):FlightT) (l:=fl) (by omega)
   refine .inr ⟨f,_,by omega,⟨d3,fl++[(y1,y1+4+y2,y3,false,0,())],rfl,u3,by simp;omega,fun d hd=> ?_⟩,by simp (disch:=omega) only [lett_e,bnd_s,bnd_chk,br_not,br_t,br_f,br_T,br_F,not_true_eq_false,not_false_eq_true,chk_T,chk_F,chk_eq,eqI_dc,ltI_dc,leI_dc,eqN_dc,notB_dc,andB_dc,andB_t,eqB_dc,notB_t,notB_f,inR_dc,upR_dc,ln_e,app_e,tk_e,dp_e,upd_e,repl_e,natI_n,br_pos,br_neg,addI_n,fitN_T,q1',q2',q3',hs,hfit,addI_id]<;>rfl⟩
   rcases List.mem_append.1 hd with hd|hd
   ·exact hfl d hd
   ·rw [List.mem_singleton.1 hd]
    refine⟨r1,?_,?_,⟨r3,t3⟩,.inl rfl⟩<;>(try dsimp only)<;>omega
  |zero=>
   left
   have hch0:∀d∈l,d.2.2.1=[]:=fun d hd=>(l2 d hd).2.2.2
   refine⟨(0,[(1+x1,()),(2+x2,()),(3+x3,())],m4.1,m4.2.1,4+x5,x6,false,[],List.replicate n (0,()),x8,l,[],1+x15,[([],()),([],())],[],fl,[],()),c,by simp (disch:=omega) only [lett_e,bnd_s,bnd_chk,br_not,br_t,br_f,br_T,br_F,not_true_eq_false,not_false_eq_true,chk_T,chk_F,chk_eq,eqI_dc,ltI_dc,leI_dc,eqN_dc,notB_dc,andB_dc,andB_t,eqB_dc,notB_t,notB_f,inR_dc,upR_dc,ln_e,app_e,tk_e,dp_e,upd_e,repl_e,natI_n,br_pos,br_neg,addI_n,fitN_T,addI_id]<;>rfl,⟨?_,rfl,by dsimp only;omega,rfl,rfl,hch0,rfl⟩,hc⟩
   refine⟨by dsimp only;omega,⟨rfl,fun y hy=> ?_⟩,a4,⟨by dsimp only;omega,by dsimp only;omega,by simp,fun i hi=>absurd hi (by simp)⟩,?_,?_,⟨by simp,fun y hy=>(by cases hy),fun i _ hi=>absurd hi (by simp)⟩,by dsimp only;omega,by simp,hfl,fun i hi=>absurd hi (by simp),fun y hy=>(by cases hy),fun y hy=> ?_,fun d hd y hy=> ?_,fun d hd y hy=> ?_⟩
   ·simp only [List.mem_cons,List.mem_nil_iff,or_false]at hy
    rcases hy with rfl|rfl|rfl<;>(try dsimp only)<;>omega
   ·have hb0:bagsL (List.replicate n ((0:Int),()),x8,l,([]:List Want),())=[]:=by
     unfold bagsL
     dsimp only
     rw [nz_repl,inCh_nil hch0];rfl
    refine⟨by simp;omega,by simp;omega,by dsimp only;omega,by simp,fun d hd=> ?_,l3,fun y hy=> ?_,?_,fun w hw=>(by cases hw),by simp⟩
    ·obtain⟨g1,g2,g3,g4⟩:=l2 d hd
     refine⟨by simp;omega,by omega,by rw [g4];simp;omega⟩
    ·rw [hb0]at hy;cases hy
    ·rw [hb0];exact List.nodup_nil
   ·refine⟨by dsimp only;omega,by simp,fun d hd=> ?_,by simp [bagsS,bagsK]⟩
    simp only [List.mem_cons,List.mem_nil_iff,or_false]at hd
    rcases hd with rfl|rfl<;>exact⟨by simp;omega,fun y hy=>(by cases hy)⟩
   ·obtain⟨_,rfl⟩:=List.mem_replicate.1 hy
    simp
   ·rw [hch0 d hd]at hy;cases hy
   ·simp only [List.mem_cons,List.mem_nil_iff,or_false]at hd
    rcases hd with rfl|rfl<;>cases hy
end Go.Proofs.YtcfbjloblbhdhaaGreat.Eng
namespace Go.Proofs.YtcfbjloblbhdhaaGreat.Eng
theorem d_notice (k:Nat) {c:Cur} (hc:Cok c) (x:HallT) (hx:x.2.2.2.2.2.2.2.2.2.2.2.2.2.2.2.2.1.length≤1048576) (hn:x.2.2.2.2.2.2.2.2.2.2.2.2.2.2.1.length≤1048576):∃n c',spec_l09Notice.f k c x=some (n,c',())∧Cok c':=by
 obtain⟨x1,c1,e1,a1,h1⟩:=d_pick k [(1,()),(1,()),(2,()),(2,()),(2,()),(3,()),(4,())] (by simp) hc
 obtain⟨x2,c2,e2,a2,b2,_,h2⟩:=d_below k (x.2.2.2.2.2.2.2.2.2.2.2.2.2.2.2.1.length:Int) h1
 obtain⟨o3,c3,e3,h3⟩:=d_once k 12 h2
 obtain⟨x4,c4,e4,a4,b4,_,h4⟩:=d_below k ((x.2.2.2.2.2.2.2.2.2.2.2.2.2.2.2.2.1.length:Int)+1) h3
 obtain⟨o5,c5,e5,h5⟩:=d_once k 6 h4
 have b4:=b4 (by omega)
 have e1':spec_l01PickInt.f k (c.1,c.2.1,c.2.2.1,()) [(1,()),(1,()),(2,()),(2,()),(2,()),(3,()),(4,())]=some (x1,c1,()):=e1
 have e2':spec_l01Below.f k (c1.1,c1.2.1,c1.2.2.1,()) (x.2.2.2.2.2.2.2.2.2.2.2.2.2.2.2.1.length:Int)=some (x2,c2,()):=e2
 have e3':spec_l01Once.f k (c2.1,c2.2.1,c2.2.2.1,()) 12=some (o3,c3,()):=e3
 have e4':spec_l01Below.f k (c3.1,c3.2.1,c3.2.2.1,()) ((x.2.2.2.2.2.2.2.2.2.2.2.2.2.2.2.2.1.length:Int)+1)=some (x4,c4,()):=e4
 have e5':spec_l01Once.f k (c4.1,c4.2.1,c4.2.2.1,()) 6=some (o5,c5,()):=e5
 have hx4:addI .i64 1 x4=1+x4:=addI_id (by omega)
 unfold spec_l09Notice.f
 simp only [ln_e]
 simp only [e1',e2',bnd_s,both_same,lett_e]
 have fin:∀ {R:Type} (a b:Option R),(br (notB (eqI 2 0)) a b)=a:=fun a b=>rfl
 cases o3<;>by_cases hb:1+x4≤x.2.2.2.2.2.2.2.2.2.2.2.2.2.2.2.2.1.length
 all_goals first
  |cases o5<;>by_cases h4':x1=4<;>by_cases h1':x1=1<;>first
   |omega
   |exact⟨_,c5,by simp (disch:=omega) only [lett_e,bnd_s,bnd_chk,br_not,br_t,br_f,br_T,br_F,not_true_eq_false,not_false_eq_true,chk_T,chk_F,chk_eq,eqI_dc,ltI_dc,leI_dc,eqN_dc,notB_dc,andB_dc,andB_t,eqB_dc,notB_t,notB_f,inR_dc,upR_dc,ln_e,app_e,tk_e,dp_e,upd_e,repl_e,natI_n,br_pos,br_neg,addI_n,fitN_T,e3',e4',e5',hx4,fin,subI_id]<;>rfl,h5⟩
  |by_cases h4':x1=4<;>by_cases h1':x1=1<;>first
   |omega
   |exact⟨_,c4,by simp (disch:=omega) only [lett_e,bnd_s,bnd_chk,br_not,br_t,br_f,br_T,br_F,not_true_eq_false,not_false_eq_true,chk_T,chk_F,chk_eq,eqI_dc,ltI_dc,leI_dc,eqN_dc,notB_dc,andB_dc,andB_t,eqB_dc,notB_t,notB_f,inR_dc,upR_dc,ln_e,app_e,tk_e,dp_e,upd_e,repl_e,natI_n,br_pos,br_neg,addI_n,fitN_T,e3',e4',hx4,fin,subI_id]<;>rfl,h4⟩
theorem d_forbag (k:Nat) {c:Cur} (hc:Cok c) (x:HallT) (b:Int) (hx:x.2.2.2.2.2.2.2.2.2.2.2.2.2.2.2.2.1.length≤1048576) (hb:1≤b∧b≤x.2.2.2.2.2.2.2.2.2.2.2.2.2.2.2.2.1.length):∃o c',spec_l09ForBag.f k c x b=some (o,c',())∧Cok c':=by
 have pk:∀(l:List (Int×Unit)),0<l.length→∃y c',spec_l01PickInt.f k (c.1,c.2.1,c.2.2.1,()) l=some (y,c',())∧Cok c':=fun l hl=>by
  obtain⟨y,c',e,_,h⟩:=d_pick k l hl hc
  exact⟨y,c',e,h⟩
 obtain⟨y1,d1,g1,k1⟩:=pk [(4,()),(4,()),(4,()),(8,())] (by simp)
 obtain⟨y2,d2,g2,k2⟩:=pk [(3,()),(3,()),(3,()),(8,()),(4,())] (by simp)
 obtain⟨y3,d3,g3,_,k3⟩:=d_pick k [(1,()),(1,()),(1,()),(1,()),(2,()),(0,())] (by simp) k2
 have g3':spec_l01PickInt.f k (d2.1,d2.2.1,d2.2.2.1,()) [(1,()),(1,()),(1,()),(1,()),(2,()),(0,())]=some (y3,d3,()):=g3
 obtain⟨y4,d4,g4,k4⟩:=pk [(5,()),(5,()),(8,())] (by simp)
 obtain⟨y5,d5,g5,k5⟩:=pk [(8,()),(1,())] (by simp)
 obtain⟨y6,d6,g6,_,_,_,k6⟩:=d_below k 5 k5
 have g6':spec_l01Below.f k (d5.1,d5.2.1,d5.2.2.1,()) 5=some (y6,d6,()):=g6
 obtain⟨y7,d7,g7,_,_,_,k7⟩:=d_below k 8 hc
 have g7':spec_l01Below.f k (c.1,c.2.1,c.2.2.1,()) 8=some (y7,d7,()):=g7
 have hn:natI (b-1)<x.2.2.2.2.2.2.2.2.2.2.2.2.2.2.2.2.1.length:=by unfold natI;omega
 unfold spec_l09ForBag.f
 rw [subI_id (by omega),inR_dc,ln_e,br_pos (by omega),lett_e,lett_e]
 generalize rdP (0,0,0,0,0,0,0,0,0,0,()) x.2.2.2.2.2.2.2.2.2.2.2.2.2.2.2.2.1 (natI (b-1))=e
 by_cases p2:e.2.2.2.2.2.2.1=2
 ·by_cases v1:e.2.2.2.2.2.2.2.2.2.1=1
  ·exact⟨_,d1,by simp (disch:=omega) only [lett_e,bnd_s,bnd_chk,br_not,br_t,br_f,br_T,br_F,not_true_eq_false,not_false_eq_true,chk_T,chk_F,chk_eq,eqI_dc,ltI_dc,leI_dc,eqN_dc,notB_dc,andB_dc,andB_t,eqB_dc,notB_t,notB_f,inR_dc,upR_dc,ln_e,app_e,tk_e,dp_e,upd_e,repl_e,natI_n,br_pos,br_neg,addI_n,fitN_T,g1]<;>rfl,k1⟩
  ·exact⟨_,d3,by simp (disch:=omega) only [lett_e,bnd_s,bnd_chk,br_not,br_t,br_f,br_T,br_F,not_true_eq_false,not_false_eq_true,chk_T,chk_F,chk_eq,eqI_dc,ltI_dc,leI_dc,eqN_dc,notB_dc,andB_dc,andB_t,eqB_dc,notB_t,notB_f,inR_dc,upR_dc,ln_e,app_e,tk_e,dp_e,upd_e,repl_e,natI_n,br_pos,br_neg,addI_n,fitN_T,g2,g3']<;>rfl,k3⟩
 by_cases p5:e.2.2.2.2.2.2.1=5
 ·exact⟨_,d4,by simp (disch:=omega) only [lett_e,bnd_s,bnd_chk,br_not,br_t,br_f,br_T,br_F,not_true_eq_false,not_false_eq_true,chk_T,chk_F,chk_eq,eqI_dc,ltI_dc,leI_dc,eqN_dc,notB_dc,andB_dc,andB_t,eqB_dc,notB_t,notB_f,inR_dc,upR_dc,ln_e,app_e,tk_e,dp_e,upd_e,repl_e,natI_n,br_pos,br_neg,addI_n,fitN_T,g4]<;>rfl,k4⟩
 by_cases p4:e.2.2.2.2.2.2.1=4
 ·exact⟨_,c,by simp (disch:=omega) only [lett_e,bnd_s,bnd_chk,br_not,br_t,br_f,br_T,br_F,not_true_eq_false,not_false_eq_true,chk_T,chk_F,chk_eq,eqI_dc,ltI_dc,leI_dc,eqN_dc,notB_dc,andB_dc,andB_t,eqB_dc,notB_t,notB_f,inR_dc,upR_dc,ln_e,app_e,tk_e,dp_e,upd_e,repl_e,natI_n,br_pos,br_neg,addI_n,fitN_T]<;>rfl,hc⟩
 by_cases p3:e.2.2.2.2.2.2.1=3
 ·exact⟨_,d6,by simp (disch:=omega) only [lett_e,bnd_s,bnd_chk,br_not,br_t,br_f,br_T,br_F,not_true_eq_false,not_false_eq_true,chk_T,chk_F,chk_eq,eqI_dc,ltI_dc,leI_dc,eqN_dc,notB_dc,andB_dc,andB_t,eqB_dc,notB_t,notB_f,inR_dc,upR_dc,ln_e,app_e,tk_e,dp_e,upd_e,repl_e,natI_n,br_pos,br_neg,addI_n,fitN_T,g5,g6']<;>rfl,k6⟩
 ·exact⟨_,d7,by simp (disch:=omega) only [lett_e,bnd_s,bnd_chk,br_not,br_t,br_f,br_T,br_F,not_true_eq_false,not_false_eq_true,chk_T,chk_F,chk_eq,eqI_dc,ltI_dc,leI_dc,eqN_dc,notB_dc,andB_dc,andB_t,eqB_dc,notB_t,notB_f,inR_dc,upR_dc,ln_e,app_e,tk_e,dp_e,upd_e,repl_e,natI_n,br_pos,br_neg,addI_n,fitN_T,g7']<;>rfl,k7⟩
theorem d_command (k:Nat) {c:Cur} (hc:Cok c) (x:HallT) (hx:x.2.2.2.2.2.2.2.2.2.2.2.2.2.2.2.2.1.length≤1048576) (hn:x.2.2.2.2.2.2.2.2.2.2.2.2.2.2.1.length≤1048576) (hfl:x.2.2.2.2.2.2.2.2.2.2.2.2.2.2.2.1.length≤1048576):∃o c',spec_l09Command.f k c x=some (o,c',())∧Cok c':=by
 obtain⟨x1,c1,e1,a1,b1,_,h1⟩:=d_below k 12 hc
 have e1':spec_l01Below.f k (c.1,c.2.1,c.2.2.1,()) 12=some (x1,c1,()):=e1
 obtain⟨y4,d4,g4,_,_,_,k4⟩:=d_below k 6 h1
 have g4':spec_l01Below.f k (c1.1,c1.2.1,c1.2.2.1,()) 6=some (y4,d4,()):=g4
 obtain⟨y7,d7,g7,_,_,_,k7⟩:=d_below k 9 h1
 have g7':spec_l01Below.f k (c1.1,c1.2.1,c1.2.2.1,()) 9=some (y7,d7,()):=g7
 obtain⟨y8,d8,g8,_,_,_,k8⟩:=d_below k 200 k7
 have g8':spec_l01Below.f k (d7.1,d7.2.1,d7.2.2.1,()) 200=some (y8,d8,()):=g8
 obtain⟨y9,d9,g9,_,_,_,k9⟩:=d_below k (x.2.2.2.2.2.2.2.2.2.2.2.2.2.2.2.1.length:Int) k8
 have g9':spec_l01Below.f k (d8.1,d8.2.1,d8.2.2.1,()) (x.2.2.2.2.2.2.2.2.2.2.2.2.2.2.2.1.length:Int)=some (y9,d9,()):=g9
 obtain⟨y10,d10,g10,_,_,_,k10⟩:=d_below k 3 k9
 have g10':spec_l01Below.f k (d9.1,d9.2.1,d9.2.2.1,()) 3=some (y10,d10,()):=g10
 obtain⟨y11,d11,g11,_,k11⟩:=d_pick k [(5,()),(20,()),(31,()),(60,())] (by simp) k10
 have g11':spec_l01PickInt.f k (d10.1,d10.2.1,d10.2.2.1,()) [(5,()),(20,()),(31,()),(60,())]=some (y11,d11,()):=g11
 obtain⟨y12,d12,g12,_,_,_,k12⟩:=d_below k 3 k11
 have g12':spec_l01Below.f k (d11.1,d11.2.1,d11.2.2.1,()) 3=some (y12,d12,()):=g12
 obtain⟨y22,d22,g22,k22⟩:=d_notice k h1 x hx hn
 have g22':spec_l09Notice.f k (c1.1,c1.2.1,c1.2.2.1,()) (x.1,x.2.1,x.2.2.1,x.2.2.2.1,x.2.2.2.2.1,x.2.2.2.2.2.1,x.2.2.2.2.2.2.1,x.2.2.2.2.2.2.2.1,x.2.2.2.2.2.2.2.2.1,x.2.2.2.2.2.2.2.2.2.1,x.2.2.2.2.2.2.2.2.2.2.1,x.2.2.2.2.2.2.2.2.2.2.2.1,x.2.2.2.2.2.2.2.2.2.2.2.2.1,x.2.2.2.2.2.2.2.2.2.2.2.2.2.1,x.2.2.2.2.2.2.2.2.2.2.2.2.2.2.1,x.2.2.2.2.2.2.2.2.2.2.2.2.2.2.2.1,x.2.2.2.2.2.2.2.2.2.2.2.2.2.2.2.2.1,())=some (y22,d22,()):=g22
 obtain⟨o23,d23,g23,k23⟩:=d_once k 3 h1
 have g23':spec_l01Once.f k (c1.1,c1.2.1,c1.2.2.1,()) 3=some (o23,d23,()):=g23
 obtain⟨y24,d24,g24,_,_,_,k24⟩:=d_below k ((x.2.2.2.2.2.2.2.2.2.2.2.2.2.2.2.1.length:Int)+2) k23
 have g24':spec_l01Below.f k (d23.1,d23.2.1,d23.2.2.1,()) ((x.2.2.2.2.2.2.2.2.2.2.2.2.2.2.2.1.length:Int)+2)=some (y24,d24,()):=g24
 obtain⟨y25,d25,g25,_,_,_,k25⟩:=d_below k 10 k23
 have g25':spec_l01Below.f k (d23.1,d23.2.1,d23.2.2.1,()) 10=some (y25,d25,()):=g25
 obtain⟨y26,d26,g26,_,_,_,k26⟩:=d_below k 6 k25
 have g26':spec_l01Below.f k (d25.1,d25.2.1,d25.2.2.1,()) 6=some (y26,d26,()):=g26
 obtain⟨y27,d27,g27,_,k27⟩:=d_pick k [(0,()),(1,()),(2,()),(100,()),(101,()),(-1,())] (by simp) k26
 have g27':spec_l01PickInt.f k (d26.1,d26.2.1,d26.2.2.1,()) [(0,()),(1,()),(2,()),(100,()),(101,()),(-1,())]=some (y27,d27,()):=g27
 obtain⟨y28,d28,g28,_,_,_,k28⟩:=d_below k 4 k27
 have g28':spec_l01Below.f k (d27.1,d27.2.1,d27.2.2.1,()) 4=some (y28,d28,()):=g28
 obtain⟨y29,d29,g29,_,_,_,k29⟩:=d_below k 70 k28
 have g29':spec_l01Below.f k (d28.1,d28.2.1,d28.2.2.1,()) 70=some (y29,d29,()):=g29
 obtain⟨y30,d30,g30,_,_,_,k30⟩:=d_below k 8 k29
 have g30':spec_l01Below.f k (d29.1,d29.2.1,d29.2.2.1,()) 8=some (y30,d30,()):=g30
 obtain⟨y31,d31,g31,a31,b31,_,k31⟩:=d_below k (x.2.2.2.2.2.2.2.2.2.2.2.2.2.2.2.2.1.length:Int) h1
 have g31':spec_l01Below.f k (c1.1,c1.2.1,c1.2.2.1,()) (x.2.2.2.2.2.2.2.2.2.2.2.2.2.2.2.2.1.length:Int)=some (y31,d31,()):=g31
 have hadd:addI .i64 (x.2.2.2.2.2.2.2.2.2.2.2.2.2.2.2.1.length:Int) 2=(x.2.2.2.2.2.2.2.2.2.2.2.2.2.2.2.1.length:Int)+2:=addI_id (by omega)
 unfold spec_l09Command.f
 rw [e1',bnd_s]
 simp only [lett_e]
 by_cases q0:x1=0
 ·exact⟨_,d4,by simp (disch:=omega) only [lett_e,bnd_s,bnd_chk,br_not,br_t,br_f,br_T,br_F,not_true_eq_false,not_false_eq_true,chk_T,chk_F,chk_eq,eqI_dc,ltI_dc,leI_dc,eqN_dc,notB_dc,andB_dc,andB_t,eqB_dc,notB_t,notB_f,inR_dc,upR_dc,ln_e,app_e,tk_e,dp_e,upd_e,repl_e,natI_n,br_pos,br_neg,addI_n,fitN_T,g4']<;>rfl,k4⟩
 by_cases q1:x1=1
 ·exact⟨_,d4,by simp (disch:=omega) only [lett_e,bnd_s,bnd_chk,br_not,br_t,br_f,br_T,br_F,not_true_eq_false,not_false_eq_true,chk_T,chk_F,chk_eq,eqI_dc,ltI_dc,leI_dc,eqN_dc,notB_dc,andB_dc,andB_t,eqB_dc,notB_t,notB_f,inR_dc,upR_dc,ln_e,app_e,tk_e,dp_e,upd_e,repl_e,natI_n,br_pos,br_neg,addI_n,fitN_T,g4']<;>rfl,k4⟩
 by_cases q2:x1=2
 ·exact⟨_,d12,by simp (disch:=omega) only [lett_e,bnd_s,bnd_chk,br_not,br_t,br_f,br_T,br_F,not_true_eq_false,not_false_eq_true,chk_T,chk_F,chk_eq,eqI_dc,ltI_dc,leI_dc,eqN_dc,notB_dc,andB_dc,andB_t,eqB_dc,notB_t,notB_f,inR_dc,upR_dc,ln_e,app_e,tk_e,dp_e,upd_e,repl_e,natI_n,br_pos,br_neg,addI_n,fitN_T,g7',g8',g9',g10',g11',g12',both_same]<;>rfl,k12⟩
 by_cases q3:x1=3
 ·exact⟨_,d12,by simp (disch:=omega) only [lett_e,bnd_s,bnd_chk,br_not,br_t,br_f,br_T,br_F,not_true_eq_false,not_false_eq_true,chk_T,chk_F,chk_eq,eqI_dc,ltI_dc,leI_dc,eqN_dc,notB_dc,andB_dc,andB_t,eqB_dc,notB_t,notB_f,inR_dc,upR_dc,ln_e,app_e,tk_e,dp_e,upd_e,repl_e,natI_n,br_pos,br_neg,addI_n,fitN_T,g7',g8',g9',g10',g11',g12',both_same]<;>rfl,k12⟩
 by_cases q4:x1=4
 ·exact⟨_,d22,by simp (disch:=omega) only [lett_e,bnd_s,bnd_chk,br_not,br_t,br_f,br_T,br_F,not_true_eq_false,not_false_eq_true,chk_T,chk_F,chk_eq,eqI_dc,ltI_dc,leI_dc,eqN_dc,notB_dc,andB_dc,andB_t,eqB_dc,notB_t,notB_f,inR_dc,upR_dc,ln_e,app_e,tk_e,dp_e,upd_e,repl_e,natI_n,br_pos,br_neg,addI_n,fitN_T,g22']<;>rfl,k22⟩
 by_cases q5:x1=5
 ·exact⟨_,d22,by simp (disch:=omega) only [lett_e,bnd_s,bnd_chk,br_not,br_t,br_f,br_T,br_F,not_true_eq_false,not_false_eq_true,chk_T,chk_F,chk_eq,eqI_dc,ltI_dc,leI_dc,eqN_dc,notB_dc,andB_dc,andB_t,eqB_dc,notB_t,notB_f,inR_dc,upR_dc,ln_e,app_e,tk_e,dp_e,upd_e,repl_e,natI_n,br_pos,br_neg,addI_n,fitN_T,g22']<;>rfl,k22⟩
 by_cases q6:x1=6
 ·cases o23 with
  |true=>exact⟨_,d24,by simp (disch:=omega) only [lett_e,bnd_s,bnd_chk,br_not,br_t,br_f,br_T,br_F,not_true_eq_false,not_false_eq_true,chk_T,chk_F,chk_eq,eqI_dc,ltI_dc,leI_dc,eqN_dc,notB_dc,andB_dc,andB_t,eqB_dc,notB_t,notB_f,inR_dc,upR_dc,ln_e,app_e,tk_e,dp_e,upd_e,repl_e,natI_n,br_pos,br_neg,addI_n,fitN_T,g23',hadd,g24']<;>rfl,k24⟩
  |false=>exact⟨_,d30,by simp (disch:=omega) only [lett_e,bnd_s,bnd_chk,br_not,br_t,br_f,br_T,br_F,not_true_eq_false,not_false_eq_true,chk_T,chk_F,chk_eq,eqI_dc,ltI_dc,leI_dc,eqN_dc,notB_dc,andB_dc,andB_t,eqB_dc,notB_t,notB_f,inR_dc,upR_dc,ln_e,app_e,tk_e,dp_e,upd_e,repl_e,natI_n,br_pos,br_neg,addI_n,fitN_T,g23',g25',g26',g27',g28',g29',g30']<;>rfl,k30⟩
 by_cases hl:x.2.2.2.2.2.2.2.2.2.2.2.2.2.2.2.2.1.length=0
 ·exact⟨_,c1,by simp (disch:=omega) only [lett_e,bnd_s,bnd_chk,br_not,br_t,br_f,br_T,br_F,not_true_eq_false,not_false_eq_true,chk_T,chk_F,chk_eq,eqI_dc,ltI_dc,leI_dc,eqN_dc,notB_dc,andB_dc,andB_t,eqB_dc,notB_t,notB_f,inR_dc,upR_dc,ln_e,app_e,tk_e,dp_e,upd_e,repl_e,natI_n,br_pos,br_neg,addI_n,fitN_T]<;>rfl,h1⟩
 have b31:=b31 (by omega)
 obtain⟨o32,d32,g32,k32⟩:=d_forbag k k31 x (1+y31) hx (by omega)
 have g32':spec_l09ForBag.f k (d31.1,d31.2.1,d31.2.2.1,()) (x.1,x.2.1,x.2.2.1,x.2.2.2.1,x.2.2.2.2.1,x.2.2.2.2.2.1,x.2.2.2.2.2.2.1,x.2.2.2.2.2.2.2.1,x.2.2.2.2.2.2.2.2.1,x.2.2.2.2.2.2.2.2.2.1,x.2.2.2.2.2.2.2.2.2.2.1,x.2.2.2.2.2.2.2.2.2.2.2.1,x.2.2.2.2.2.2.2.2.2.2.2.2.1,x.2.2.2.2.2.2.2.2.2.2.2.2.2.1,x.2.2.2.2.2.2.2.2.2.2.2.2.2.2.1,x.2.2.2.2.2.2.2.2.2.2.2.2.2.2.2.1,x.2.2.2.2.2.2.2.2.2.2.2.2.2.2.2.2.1,()) (1+y31)=some (o32,d32,()):=g32
 exact⟨_,d32,by simp (disch:=omega) only [lett_e,bnd_s,bnd_chk,br_not,br_t,br_f,br_T,br_F,not_true_eq_false,not_false_eq_true,chk_T,chk_F,chk_eq,eqI_dc,ltI_dc,leI_dc,eqN_dc,notB_dc,andB_dc,andB_t,eqB_dc,notB_t,notB_f,inR_dc,upR_dc,ln_e,app_e,tk_e,dp_e,upd_e,repl_e,natI_n,br_pos,br_neg,addI_n,fitN_T,g31',addI_id,g32']<;>rfl,k32⟩
theorem d_hall9 {k:Nat} (hk:K0≤k) {c:Cur} (hc:Cok c):∃x c',spec_l09Hall.f k c=some (x,c',())∧HallP x∧Cok c':=by
 obtain⟨x0,c1,e1,⟨p1,_⟩,h1⟩:=d_new9 hk hc
 obtain⟨n,c2,e2,a2,h2⟩:=d_pick k [(0,()),(5,()),(20,()),(30,()),(40,())] (by simp) h1
 have e1':spec_l09New.f k (c.1,c.2.1,c.2.2.1,())=some (x0,c1,()):=e1
 have e2':spec_l01PickInt.f k (c1.1,c1.2.1,c1.2.2.1,()) [(0,()),(5,()),(20,()),(30,()),(40,())]=some (n,c2,()):=e2
 have hn:n=0∨n=5∨n=20∨n=30∨n=40:=by simp at a2;omega
 obtain⟨m,rfl⟩:=Int.eq_ofNat_of_zero_le (a:=n) (by omega)
 have hk':=hk
 unfold K0 at hk'
 unfold spec_l09Hall.f
 rw [e1',bnd_s,e2',bnd_s]
 refine loop_msr (P:=fun r=>∃(x:HallT) (c':Cur),r=some (x,c',())∧HallP x∧Cok c') (fun f s=>∃(c:Cur) (x:HallT),s=(c.1,c.2.1,c.2.2.1,x.1,x.2.1,x.2.2.1,x.2.2.2.1,x.2.2.2.2.1,x.2.2.2.2.2.1,x.2.2.2.2.2.2.1,x.2.2.2.2.2.2.2.1,x.2.2.2.2.2.2.2.2.1,x.2.2.2.2.2.2.2.2.2.1,x.2.2.2.2.2.2.2.2.2.2.1,x.2.2.2.2.2.2.2.2.2.2.2.1,x.2.2.2.2.2.2.2.2.2.2.2.2.1,x.2.2.2.2.2.2.2.2.2.2.2.2.2.1,x.2.2.2.2.2.2.2.2.2.2.2.2.2.2.1,x.2.2.2.2.2.2.2.2.2.2.2.2.2.2.2.1,x.2.2.2.2.2.2.2.2.2.2.2.2.2.2.2.2.1,(f:Int),())∧Cok c∧HallP x∧f≤40) ?_ (f:=m) ⟨c2,x0,rfl,h2,p1,by omega⟩ (by omega)
 rintro f s rec ⟨c,x,rfl,hc,hx,hf⟩
 cases f with
 |zero=>exact .inl ⟨x,c,by simp (disch:=omega) only [lett_e,bnd_s,bnd_chk,br_not,br_t,br_f,br_T,br_F,not_true_eq_false,not_false_eq_true,chk_T,chk_F,chk_eq,eqI_dc,ltI_dc,leI_dc,eqN_dc,notB_dc,andB_dc,andB_t,eqB_dc,notB_t,notB_f,inR_dc,upR_dc,ln_e,app_e,tk_e,dp_e,upd_e,repl_e,natI_n,br_pos,br_neg,addI_n,fitN_T]<;>rfl,hx,hc⟩
 |succ f=>
  have hs:=hallP_sz hx
  obtain⟨o,c',e3,h3⟩:=d_command k hc x hs.cases_ hs.notes hs.flights
  have e3':spec_l09Command.f k (c.1,c.2.1,c.2.2.1,()) (x.1,x.2.1,x.2.2.1,x.2.2.2.1,x.2.2.2.2.1,x.2.2.2.2.2.1,x.2.2.2.2.2.2.1,x.2.2.2.2.2.2.2.1,x.2.2.2.2.2.2.2.2.1,x.2.2.2.2.2.2.2.2.2.1,x.2.2.2.2.2.2.2.2.2.2.1,x.2.2.2.2.2.2.2.2.2.2.2.1,x.2.2.2.2.2.2.2.2.2.2.2.2.1,x.2.2.2.2.2.2.2.2.2.2.2.2.2.1,x.2.2.2.2.2.2.2.2.2.2.2.2.2.2.1,x.2.2.2.2.2.2.2.2.2.2.2.2.2.2.2.1,x.2.2.2.2.2.2.2.2.2.2.2.2.2.2.2.2.1,())=some (o,c',()):=e3
  have e4:spec_l09Do.f k (x.1,x.2.1,x.2.2.1,x.2.2.2.1,x.2.2.2.2.1,x.2.2.2.2.2.1,x.2.2.2.2.2.2.1,x.2.2.2.2.2.2.2.1,x.2.2.2.2.2.2.2.2.1,x.2.2.2.2.2.2.2.2.2.1,x.2.2.2.2.2.2.2.2.2.2.1,x.2.2.2.2.2.2.2.2.2.2.2.1,x.2.2.2.2.2.2.2.2.2.2.2.2.1,x.2.2.2.2.2.2.2.2.2.2.2.2.2.1,x.2.2.2.2.2.2.2.2.2.2.2.2.2.2.1,x.2.2.2.2.2.2.2.2.2.2.2.2.2.2.2.1,x.2.2.2.2.2.2.2.2.2.2.2.2.2.2.2.2.1,()) (o.1,o.2.1,o.2.2.1,o.2.2.2.1,o.2.2.2.2.1,o.2.2.2.2.2.1,o.2.2.2.2.2.2.1,o.2.2.2.2.2.2.2.1,o.2.2.2.2.2.2.2.2.1,o.2.2.2.2.2.2.2.2.2.1,o.2.2.2.2.2.2.2.2.2.2.1,o.2.2.2.2.2.2.2.2.2.2.2.1,o.2.2.2.2.2.2.2.2.2.2.2.2.1,o.2.2.2.2.2.2.2.2.2.2.2.2.2.1,())=some (doM x o):=spec_l09Do_f hk x o hx
  have hsub:subI .i64 ((f+1:Nat):Int) 1=(f:Int):=subI_nat (by omega)
  refine .inr ⟨f,_,by omega,⟨c',(doM x o).1,rfl,h3,do_ok hx,by omega⟩,by simp (disch:=omega) only [lett_e,bnd_s,bnd_chk,br_not,br_t,br_f,br_T,br_F,not_true_eq_false,not_false_eq_true,chk_T,chk_F,chk_eq,eqI_dc,ltI_dc,leI_dc,eqN_dc,notB_dc,andB_dc,andB_t,eqB_dc,notB_t,notB_f,inR_dc,upR_dc,ln_e,app_e,tk_e,dp_e,upd_e,repl_e,natI_n,br_pos,br_neg,addI_n,fitN_T,e3',e4,hsub,both_same]<;>rfl⟩
theorem d_DrawHall {k:Nat} (hk:K0≤k) (b:List (Int×Unit)) (hb:b.length≤1048576):∃x,spec_DrawHall.f k b=some (x,())∧HallP x:=by
 obtain⟨c,e1,h1⟩:=d_new hk b hb
 obtain⟨x,c',e2,h2,_⟩:=d_hall9 hk h1
 have e2':spec_l09Hall.f k (c.1,c.2.1,c.2.2.1,())=some (x,c',()):=e2
 unfold spec_DrawHall.f
 exact⟨x,by simp (disch:=omega) only [lett_e,bnd_s,bnd_chk,br_not,br_t,br_f,br_T,br_F,not_true_eq_false,not_false_eq_true,chk_T,chk_F,chk_eq,eqI_dc,ltI_dc,leI_dc,eqN_dc,notB_dc,andB_dc,andB_t,eqB_dc,notB_t,notB_f,inR_dc,upR_dc,ln_e,app_e,tk_e,dp_e,upd_e,repl_e,natI_n,br_pos,br_neg,addI_n,fitN_T,e1,e2']<;>rfl,h2⟩
end Go.Proofs.YtcfbjloblbhdhaaGreat.Eng
