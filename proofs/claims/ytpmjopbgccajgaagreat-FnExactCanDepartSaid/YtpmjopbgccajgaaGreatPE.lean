/- Pure laws: PDpt, PDpt2, PDo, PDraw9, PDraw9b. No condition. -/
import Derived.Test.YtpmjopbgccajgaaGreatPD
import Derived.Test.YtpmjopbgccajgaaGreatPLpack
import Derived.Test.YtpmjopbgccajgaaGreatPQdraw
set_option linter.unusedVariables false
set_option linter.unusedSimpArgs false
namespace Go.Proofs.YtpmjopbgccajgaaGreat.Eng
abbrev DpS:=LoopT×List CaseT×List Pc
def pcOf (b:Int) (e:CaseT):Pc:=(b,e.2.2.2.2.1,e.2.2.2.2.2.1,())
def caseAt (cs:List CaseT) (b:Int):CaseT:=rdP (0,0,0,0,0,0,0,0,0,0,()) cs (natI (b-1))
noncomputable def dpC (no:List NoteT) (f:Int) (s:DpS) (b:Int×Unit):DpS:=
 if (caseAt s.2.1 b.1).2.2.2.1=f then
  @ite _ (flyP no b.1 f) (Classical.propDecidable _) (dropLp s.1 b.1,s.2.1.set (natI (b.1-1)) (placed (caseAt s.2.1 b.1) 6),s.2.2++[pcOf b.1 (caseAt s.2.1 b.1)]) (dropLp s.1 b.1,s.2.1.set (natI (b.1-1)) (placed (caseAt s.2.1 b.1) 7),s.2.2)
 else s
noncomputable def dpS (no:List NoteT) (f:Int) (s:DpS) (l:List (Int×Unit)):DpS:=l.foldl (dpC no f) s
def flAt (x:HallT) (f:Int):FlightT:=rdP (0,0,0,false,0,()) x.2.2.2.2.2.2.2.2.2.2.2.2.2.2.2.1 (natI (f-1))
def bagsAt (x:HallT) (f:Int):List (Int×Unit):=(rdP (0,0,[],()) x.2.2.2.2.2.2.2.2.2.2.1 (natI (flAt x f).2.2.1)).2.2.1
noncomputable def dpE (x:HallT) (f:Int):DpS:=dpS x.2.2.2.2.2.2.2.2.2.2.2.2.2.2.1 f (loopOf x,x.2.2.2.2.2.2.2.2.2.2.2.2.2.2.2.2.1,[]) (bagsAt x f)
noncomputable def boxN (x:HallT) (f:Int):Int:=(repM (x.2.2.1,x.2.2.2.1,()) (dpE x f).2.2).length
noncomputable def flD (x:HallT) (f:Int):List FlightT:=x.2.2.2.2.2.2.2.2.2.2.2.2.2.2.2.1.set (natI (f-1)) ((flAt x f).1,(flAt x f).2.1,(flAt x f).2.2.1,true,boxN x f,())
def hallFLC (x:HallT) (fl:List FlightT) (l:LoopT) (cs:List CaseT):HallT:=(x.1,x.2.1,x.2.2.1,x.2.2.2.1,x.2.2.2.2.1,x.2.2.2.2.2.1,x.2.2.2.2.2.2.1,x.2.2.2.2.2.2.2.1,l.1,l.2.1,l.2.2.1,l.2.2.2.1,x.2.2.2.2.2.2.2.2.2.2.2.2.1,x.2.2.2.2.2.2.2.2.2.2.2.2.2.1,x.2.2.2.2.2.2.2.2.2.2.2.2.2.2.1,fl,cs,())
noncomputable def depM (x:HallT) (f:Int):HallT×Bool×Unit:= @ite _ (departP x f) (Classical.propDecidable _) (hallFLC x (flD x f) (dpE x f).1 (dpE x f).2.1,true,()) (x,false,())
theorem flD_ok {x:HallT} {f:Int} (h:HallP x) (hf:1≤f∧f≤x.2.2.2.2.2.2.2.2.2.2.2.2.2.2.2.1.length):HallP (hallFLC x (flD x f) (loopOf x) x.2.2.2.2.2.2.2.2.2.2.2.2.2.2.2.2.1)∧(rdP (0,0,0,false,0,()) (flD x f) (natI (f-1))).2.2.2.1=true:=by
 obtain⟨h1,h2,h3,h4,h5,h6,h7,h8,h9,h10,h11,h12,h13,h14,h15⟩:=h
 have hn:natI (f-1)<x.2.2.2.2.2.2.2.2.2.2.2.2.2.2.2.1.length:=by unfold natI;omega
 have hat:rdP (0,0,0,false,0,()) (flD x f) (natI (f-1))=((flAt x f).1,(flAt x f).2.1,(flAt x f).2.2.1,true,boxN x f,()):=rd_set_i hn
 have hno:∀j,j≠natI (f-1)→rdP (0,0,0,false,0,()) (flD x f) j=rdP (0,0,0,false,0,()) x.2.2.2.2.2.2.2.2.2.2.2.2.2.2.2.1 j:=fun j hj=>rd_set_o (fun e=>hj e.symm)
 have hlen:(flD x f).length=x.2.2.2.2.2.2.2.2.2.2.2.2.2.2.2.1.length:=by simp [flD]
 refine⟨⟨h1,h2,h3,h4,h5,h6,h7,by show (flD x f).length≤20;omega,h9,fun g hg=> ?_,fun i hi=> ?_,h12,h13,h14,h15⟩,by rw [hat]⟩
 ·rcases List.mem_or_eq_of_mem_set (show g∈flD x f from hg)with hm|hm
  ·exact h10 g hm
  ·have hfl:FlightP x.2.2.2.2.2.2.2.2.2.2.1.length (flAt x f):=h10 _ (by unfold flAt;rw [rd_lt hn];exact List.getElem_mem hn)
   obtain⟨f1,f2,f3,f4,f5⟩:=hfl
   have:=(FFm_len (x.2.2.1,x.2.2.2.1,()) (srtL (dpE x f).2.2)).1
   subst hm
   refine⟨f1,f2,f3,f4,.inr ⟨rfl,?_⟩⟩
   show 0≤boxN x f∧boxN x f≤40
   unfold boxN repM
   omega
 ·obtain⟨c1,c2,c3,c4,c5,c6,c7,c8,c9,c10,c11⟩:=h11 i hi
  refine⟨c1,by show 1≤_∧_≤((flD x f).length:Int);rw [hlen];exact c2,c3,c4,c5,c6,c7,c8,c9,fun hp=> ?_,c11⟩
  show (rdP (0,0,0,false,0,()) (flD x f) _).2.2.2.1=true
  by_cases e:natI ((rdP (0,0,0,0,0,0,0,0,0,0,()) x.2.2.2.2.2.2.2.2.2.2.2.2.2.2.2.2.1 i).2.2.2.1-1)=natI (f-1)
  ·show (rdP (0,0,0,false,0,()) (flD x f) (natI ((rdP (0,0,0,0,0,0,0,0,0,0,()) x.2.2.2.2.2.2.2.2.2.2.2.2.2.2.2.2.1 i).2.2.2.1-1))).2.2.2.1=true
   rw [e,hat]
  ·show (rdP (0,0,0,false,0,()) (flD x f) (natI ((rdP (0,0,0,0,0,0,0,0,0,0,()) x.2.2.2.2.2.2.2.2.2.2.2.2.2.2.2.2.1 i).2.2.2.1-1))).2.2.2.1=true
   rw [hno _ e];exact c10 hp
theorem dpC_ok {x:HallT} {fl:List FlightT} {f:Int} {s:DpS} {b:Int} (h:HallP (hallFLC x fl s.1 s.2.1)) (hd:1≤f→(rdP (0,0,0,false,0,()) fl (natI (f-1))).2.2.2.1=true) (hb:InC s.1 b):HallP (hallFLC x fl (dpC x.2.2.2.2.2.2.2.2.2.2.2.2.2.2.1 f s (b,())).1 (dpC x.2.2.2.2.2.2.2.2.2.2.2.2.2.2.1 f s (b,())).2.1)∧(dpC x.2.2.2.2.2.2.2.2.2.2.2.2.2.2.1 f s (b,())).2.1.length=s.2.1.length∧(∀a,1≤a→a≠b→InC s.1 a→InC (dpC x.2.2.2.2.2.2.2.2.2.2.2.2.2.2.1 f s (b,())).1 a)∧(1≤b∧b≤s.2.1.length)∧(dpC x.2.2.2.2.2.2.2.2.2.2.2.2.2.2.1 f s (b,())).1.2.2.1.length=s.1.2.2.1.length:=by
 have hL:LoopP s.1:=h.2.2.2.2.1
 have hb1:1≤b:=hL.2.2.2.2.2.2.1 (b,()) (mem_bagsL.2 (.inr hb))
 have hb2:b≤s.2.1.length:=by
  obtain⟨c,hc,z⟩:=hb
  exact h.2.2.2.2.2.2.2.2.2.2.2.2.2.1 c hc _ z
 have hi:natI (b-1)<s.2.1.length:=by unfold natI;omega
 have hbi:((natI (b-1):Nat):Int)+1=b:=by unfold natI;omega
 obtain⟨c1,c2,c3,c4,c5,c6,c7,c8,c9,c10,c11,c12,c13,c14⟩:=hallP_case h hi
 rw [hbi]at c11 c12 c13 c14
 have hp:(caseAt s.2.1 b).2.2.2.2.2.2.1=4:=c13.1 hb
 have hv:(caseAt s.2.1 b).2.2.2.2.2.2.2.2.2.1=1:=by
  by_cases e:(caseAt s.2.1 b).2.2.2.2.2.2.2.2.2.1=1
  ·exact e
  ·exact absurd hp (c8 e).2.1
 obtain⟨d1,d2,d3⟩:=drop_facts (l:=s.1) (b:=b) (by omega)
 have hdo:LoopP (dropLp s.1 b):=drop_ok hL (by omega)
 have hch:(dropLp s.1 b).2.2.1.length=s.1.2.2.1.length:=by simp [dropLp]
 have hns:¬InS (storeOf x) b:=fun z=>by have z:=c14.1 z;have hp:(rdP (0,0,0,0,0,0,0,0,0,0,()) s.2.1 (natI (b-1))).2.2.2.2.2.2.1=4:=hp;have z:(rdP (0,0,0,0,0,0,0,0,0,0,()) s.2.1 (natI (b-1))).2.2.2.2.2.2.1=5:=z;omega
 have mv:∀p:Int,p=6∨p=7→(p=6→(caseAt s.2.1 b).2.2.2.1=f)→HallP (hallFLC x fl (dropLp s.1 b) (s.2.1.set (natI (b-1)) (placed (caseAt s.2.1 b) p))):=by
  intro p hp67 hg
  refine mv_ok (x:=hallFLC x fl s.1 s.2.1) (i:=natI (b-1)) (p:=p) (l:=dropLp s.1 b) (s:=storeOf x) h hi hdo h.2.2.2.2.2.1 hch (fun z=> ?_) (by omega) (fun z=>absurd hv z) (by omega) (fun z=> ?_) (fun a a0 a1=> ?_) ?_
  ·have z:(caseAt s.2.1 b).2.2.2.2.2.2.1=1:=z;omega
  ·have e:=hg z
   have hf1:1≤f:=by rw [←e];exact c2.1
   have:(rdP (0,0,0,false,0,()) fl (natI ((caseAt s.2.1 b).2.2.2.1-1))).2.2.2.1=true:=by rw [e];exact hd hf1
   exact this
  ·rw [hbi]at a1
   exact⟨(d3 a a0 a1).1,(d3 a a0 a1).2,Iff.rfl⟩
  ·rw [hbi]
   exact⟨iff_of_false d1 (by omega),iff_of_false d2 (by omega),iff_of_false hns (by omega)⟩
 unfold dpC
 by_cases e:(caseAt s.2.1 b).2.2.2.1=f
 ·rw [if_pos e]
  by_cases hf:flyP x.2.2.2.2.2.2.2.2.2.2.2.2.2.2.1 b f
  ·rw [if_pos hf]
   exact⟨mv 6 (.inl rfl) (fun _=>e),by simp,fun a a1 a2 z=>(d3 a (by omega) a2).2.2 z,⟨hb1,hb2⟩,hch⟩
  ·rw [if_neg hf]
   exact⟨mv 7 (.inr rfl) (fun z=>by omega),by simp,fun a a1 a2 z=>(d3 a (by omega) a2).2.2 z,⟨hb1,hb2⟩,hch⟩
 ·rw [if_neg e]
  exact⟨h,rfl,fun _ _ _ z=>z,⟨hb1,hb2⟩,rfl⟩
theorem dpS_ok {x:HallT} {fl:List FlightT} {f:Int} (hd:1≤f→(rdP (0,0,0,false,0,()) fl (natI (f-1))).2.2.2.1=true):∀(l:List (Int×Unit)) (s:DpS),HallP (hallFLC x fl s.1 s.2.1)→(∀b∈l,1≤b.1∧InC s.1 b.1)→l.Nodup→HallP (hallFLC x fl (dpS x.2.2.2.2.2.2.2.2.2.2.2.2.2.2.1 f s l).1 (dpS x.2.2.2.2.2.2.2.2.2.2.2.2.2.2.1 f s l).2.1)∧(dpS x.2.2.2.2.2.2.2.2.2.2.2.2.2.2.1 f s l).2.1.length=s.2.1.length∧(dpS x.2.2.2.2.2.2.2.2.2.2.2.2.2.2.1 f s l).1.2.2.1.length=s.1.2.2.1.length∧∀a,1≤a→(a,())∉l→InC s.1 a→InC (dpS x.2.2.2.2.2.2.2.2.2.2.2.2.2.2.1 f s l).1 a
 | [],s,h,_,_=>⟨h,rfl,rfl,fun _ _ _ z=>z⟩
 |b::l,s,h,hb,hn=>by
  obtain⟨b,u⟩:=b
  cases u
  obtain⟨q1,q2⟩:=List.nodup_cons.1 hn
  obtain⟨a1,a2,a3,a4,a5⟩:=dpC_ok h hd (hb (b,()) (List.mem_cons_self ..)).2
  obtain⟨r1,r2,r3,r4⟩:=dpS_ok hd l (dpC x.2.2.2.2.2.2.2.2.2.2.2.2.2.2.1 f s (b,())) a1 (fun c hc=>⟨(hb c (List.mem_cons_of_mem _ hc)).1,a3 c.1 (hb c (List.mem_cons_of_mem _ hc)).1 (fun e=>q1 (by obtain⟨c,u⟩:=c;cases u;dsimp only at e;rw [←e];exact hc)) (hb c (List.mem_cons_of_mem _ hc)).2⟩) q2
  refine⟨r1,r2.trans a2,r3.trans a5,fun a ha hm z=>r4 a ha (fun q=>hm (List.mem_cons_of_mem _ q)) (a3 a ha (fun e=>hm (by rw [e];exact List.mem_cons_self ..)) z)⟩
theorem bagsAt_mem {x:HallT} {f:Int} (h:HallP x) (hf:1≤f∧f≤x.2.2.2.2.2.2.2.2.2.2.2.2.2.2.2.1.length):natI (flAt x f).2.2.1<x.2.2.2.2.2.2.2.2.2.2.1.length∧(0≤(flAt x f).2.2.1)∧(∀b∈bagsAt x f,1≤b.1∧InC (loopOf x) b.1)∧(bagsAt x f).Nodup∧(bagsAt x f).length≤40:=by
 obtain⟨h1,h2,h3,h4,h5,h6,h7,h8,h9,h10,h11,h12,h13,h14,h15⟩:=h
 have hn:natI (f-1)<x.2.2.2.2.2.2.2.2.2.2.2.2.2.2.2.1.length:=by unfold natI;omega
 obtain⟨f1,f2,f3,f4,f5⟩:FlightP x.2.2.2.2.2.2.2.2.2.2.1.length (flAt x f):=h10 _ (by unfold flAt;rw [rd_lt hn];exact List.getElem_mem hn)
 have hj:natI (flAt x f).2.2.1<x.2.2.2.2.2.2.2.2.2.2.1.length:=by unfold natI;omega
 have hcm:rdP (0,0,[],()) x.2.2.2.2.2.2.2.2.2.2.1 (natI (flAt x f).2.2.1)∈x.2.2.2.2.2.2.2.2.2.2.1:=by rw [rd_lt hj];exact List.getElem_mem hj
 obtain⟨p1,p2,p3,p4,p5,p6,p7,p8,p9,p10⟩:=h5
 have hc:=p5 _ hcm
 refine⟨hj,f4.1,fun b hb=> ?_,?_,?_⟩
 ·have:InC (loopOf x) b.1:=⟨_,hcm,by obtain⟨b,u⟩:=b;cases u;exact hb⟩
  exact⟨p7 (b.1,()) (mem_bagsL.2 (.inr this)),this⟩
 ·have hsub:List.Sublist (bagsAt x f) (inCh x.2.2.2.2.2.2.2.2.2.2.1):=by
   unfold inCh
   rw [List.flatMap_def]
   refine List.sublist_flatten_of_mem ?_
   exact List.mem_map.2 ⟨_,hcm,rfl⟩
  exact(hsub.trans (List.sublist_append_right _ _)).nodup p8
 ·have:=hc.2.2;have:=hc.2.1;unfold bagsAt;omega
end Go.Proofs.YtpmjopbgccajgaaGreat.Eng
namespace Go.Proofs.YtpmjopbgccajgaaGreat.Eng
theorem dpS_s {no:List NoteT} {f:Int} {s:DpS} {l:List (Int×Unit)} {j:Nat} (h:j<l.length):dpS no f s (l.take (j+1))=dpC no f (dpS no f s (l.take j)) (rdP (0,()) l j):=by
 rw [take_s (d:=(0,())) h,dpS,List.foldl_append];rfl
theorem dpC_pcs (no:List NoteT) (f:Int) (s:DpS) (b:Int×Unit):(dpC no f s b).2.2.length≤s.2.2.length+1:=by
 unfold dpC
 split
 ·split<;>simp
 ·omega
theorem dpS_pcs (no:List NoteT) (f:Int):∀(l:List (Int×Unit)) (s:DpS),(dpS no f s l).2.2.length≤s.2.2.length+l.length
 | [],s=>Nat.le_refl _
 |b::l,s=>by
  have h1:=dpS_pcs no f l (dpC no f s b)
  have h2:=dpC_pcs no f s b
  have e:dpS no f s (b::l)=dpS no f (dpC no f s b) l:=rfl
  rw [e,List.length_cons]
  omega
end Go.Proofs.YtpmjopbgccajgaaGreat.Eng
namespace Go.Proofs.YtpmjopbgccajgaaGreat.Eng
end Go.Proofs.YtpmjopbgccajgaaGreat.Eng
namespace Go.Proofs.YtpmjopbgccajgaaGreat.Eng
end Go.Proofs.YtpmjopbgccajgaaGreat.Eng
namespace Go.Proofs.YtpmjopbgccajgaaGreat.Eng
end Go.Proofs.YtpmjopbgccajgaaGreat.Eng
