/- A flight departs: the program's function is the reference's. No condition. -/
import Derived.Test.YtpmjopbgccajgaaGreatPIe
import Derived.Test.YtpmjopbgccajgaaGreatD
namespace Go.Proofs.YtpmjopbgccajgaaGreat.Eng
set_option linter.unusedVariables false
set_option linter.unusedSimpArgs false
theorem dpC_fl {no:List NoteT} {f:Int} {s:DpS} {b:Int×Unit} (hb:1≤b.1∧b.1≤s.2.1.length):(dpC no f s b).2.1.length=s.2.1.length∧∀i,i<s.2.1.length→(rdP (0,0,0,0,0,0,0,0,0,0,()) (dpC no f s b).2.1 i).2.2.2.1=(rdP (0,0,0,0,0,0,0,0,0,0,()) s.2.1 i).2.2.2.1:=by
 have hn:natI (b.1-1)<s.2.1.length:=by unfold natI;omega
 have hk:∀p:Int,∀i,i<s.2.1.length→(rdP (0,0,0,0,0,0,0,0,0,0,()) (s.2.1.set (natI (b.1-1)) (placed (caseAt s.2.1 b.1) p)) i).2.2.2.1=(rdP (0,0,0,0,0,0,0,0,0,0,()) s.2.1 i).2.2.2.1:=by
  intro p i hi
  by_cases e:natI (b.1-1)=i
  ·rw [e,rd_set_i hi,←e];rfl
  ·rw [rd_set_o e]
 unfold dpC
 split
 ·split
  ·exact⟨by simp,hk 6⟩
  ·exact⟨by simp,hk 7⟩
 ·exact⟨rfl,fun _ _=>rfl⟩
def stayQ (cs:List CaseT) (f:Int) (b:Int×Unit):Bool:=decide ((caseAt cs b.1).2.2.2.1≠f)
def loopD (x:HallT) (j:Nat) (l:List (Int×Unit)):LoopT:=(x.2.2.2.2.2.2.2.2.1,x.2.2.2.2.2.2.2.2.2.1,x.2.2.2.2.2.2.2.2.2.2.1.set j ((rdP (0,0,[],()) x.2.2.2.2.2.2.2.2.2.2.1 j).1,(rdP (0,0,[],()) x.2.2.2.2.2.2.2.2.2.2.1 j).2.1,l,()),x.2.2.2.2.2.2.2.2.2.2.2.1,())
theorem dep_loop {x:HallT} {f:Int} (h:HallP x) (hf:1≤f∧f≤x.2.2.2.2.2.2.2.2.2.2.2.2.2.2.2.1.length):∀m,m≤(bagsAt x f).length→
  (dpS x.2.2.2.2.2.2.2.2.2.2.2.2.2.2.1 f (loopOf x,x.2.2.2.2.2.2.2.2.2.2.2.2.2.2.2.2.1,[]) ((bagsAt x f).take m)).1=loopD x (natI (flAt x f).2.2.1) (((bagsAt x f).take m).filter (stayQ x.2.2.2.2.2.2.2.2.2.2.2.2.2.2.2.2.1 f)++(bagsAt x f).drop m)∧
  (dpS x.2.2.2.2.2.2.2.2.2.2.2.2.2.2.1 f (loopOf x,x.2.2.2.2.2.2.2.2.2.2.2.2.2.2.2.2.1,[]) ((bagsAt x f).take m)).2.1.length=x.2.2.2.2.2.2.2.2.2.2.2.2.2.2.2.2.1.length∧∀i,i<x.2.2.2.2.2.2.2.2.2.2.2.2.2.2.2.2.1.length→(rdP (0,0,0,0,0,0,0,0,0,0,()) (dpS x.2.2.2.2.2.2.2.2.2.2.2.2.2.2.1 f (loopOf x,x.2.2.2.2.2.2.2.2.2.2.2.2.2.2.2.2.1,[]) ((bagsAt x f).take m)).2.1 i).2.2.2.1=(rdP (0,0,0,0,0,0,0,0,0,0,()) x.2.2.2.2.2.2.2.2.2.2.2.2.2.2.2.2.1 i).2.2.2.1:=by
 obtain⟨g1,g2⟩:=flD_ok h hf
 obtain⟨m1,m0,m2,m3,m4⟩:=bagsAt_mem h hf
 intro m
 induction m with
 |zero=>
  intro _
  refine⟨?_,rfl,fun _ _=>rfl⟩
  show loopOf x=_
  unfold loopD loopOf
  rw [List.take_zero,List.filter_nil,List.nil_append,List.drop_zero]
  have:x.2.2.2.2.2.2.2.2.2.2.1.set (natI (flAt x f).2.2.1) ((rdP (0,0,[],()) x.2.2.2.2.2.2.2.2.2.2.1 (natI (flAt x f).2.2.1)).1,(rdP (0,0,[],()) x.2.2.2.2.2.2.2.2.2.2.1 (natI (flAt x f).2.2.1)).2.1,bagsAt x f,())=x.2.2.2.2.2.2.2.2.2.2.1:=by
   unfold bagsAt
   rw [rd_lt m1]
   exact List.set_getElem_self _
  rw [this]
 |succ m ih=>
  intro hm
  obtain⟨i1,i2,i3⟩:=ih (by omega)
  have hml:m<(bagsAt x f).length:=by omega
  have hmem:rdP (0,()) (bagsAt x f) m∈bagsAt x f:=by rw [rd_lt hml];exact List.getElem_mem hml
  obtain⟨b1,b2⟩:=m2 _ hmem
  have hst:=dpS_ok (x:=x) (fl:=flD x f) (f:=f) (fun _=>g2) ((bagsAt x f).take m) (loopOf x,x.2.2.2.2.2.2.2.2.2.2.2.2.2.2.2.2.1,[]) g1 (fun b hb=>m2 b (List.mem_of_mem_take hb)) (m3.sublist (List.take_sublist _ _))
  have hL:LoopP (dpS x.2.2.2.2.2.2.2.2.2.2.2.2.2.2.1 f (loopOf x,x.2.2.2.2.2.2.2.2.2.2.2.2.2.2.2.2.1,[]) ((bagsAt x f).take m)).1:=hst.1.2.2.2.2.1
  have hbl:(rdP (0,()) (bagsAt x f) m).1≤x.2.2.2.2.2.2.2.2.2.2.2.2.2.2.2.2.1.length:=by
   obtain⟨c,hc,hz⟩:=b2
   exact h.2.2.2.2.2.2.2.2.2.2.2.2.2.1 c hc _ hz
  rw [dpS_s hml]
  obtain⟨f1,f2⟩:=dpC_fl (no:=x.2.2.2.2.2.2.2.2.2.2.2.2.2.2.1) (f:=f) (s:=dpS x.2.2.2.2.2.2.2.2.2.2.2.2.2.2.1 f (loopOf x,x.2.2.2.2.2.2.2.2.2.2.2.2.2.2.2.2.1,[]) ((bagsAt x f).take m)) (b:=rdP (0,()) (bagsAt x f) m) ⟨b1,by rw [i2];exact hbl⟩
  refine⟨?_,f1.trans i2,fun i hi=>(f2 i (by rw [i2];exact hi)).trans (i3 i hi)⟩
  have hn:natI ((rdP (0,()) (bagsAt x f) m).1-1)<x.2.2.2.2.2.2.2.2.2.2.2.2.2.2.2.2.1.length:=by unfold natI;omega
  have hfl:(caseAt (dpS x.2.2.2.2.2.2.2.2.2.2.2.2.2.2.1 f (loopOf x,x.2.2.2.2.2.2.2.2.2.2.2.2.2.2.2.2.1,[]) ((bagsAt x f).take m)).2.1 (rdP (0,()) (bagsAt x f) m).1).2.2.2.1=(caseAt x.2.2.2.2.2.2.2.2.2.2.2.2.2.2.2.2.1 (rdP (0,()) (bagsAt x f) m).1).2.2.2.1:=i3 _ hn
  have hdrop:(bagsAt x f).drop m=rdP (0,()) (bagsAt x f) m::(bagsAt x f).drop (m+1):=drop_s hml
  have htake:(bagsAt x f).take (m+1)=(bagsAt x f).take m++[rdP (0,()) (bagsAt x f) m]:=take_s hml
  generalize hs:dpS x.2.2.2.2.2.2.2.2.2.2.2.2.2.2.1 f (loopOf x,x.2.2.2.2.2.2.2.2.2.2.2.2.2.2.2.2.1,[]) ((bagsAt x f).take m)=s at*
  generalize hb:rdP (0,()) (bagsAt x f) m=b at*
  have e1:(dpC x.2.2.2.2.2.2.2.2.2.2.2.2.2.2.1 f s b).1=if (caseAt s.2.1 b.1).2.2.2.1=f then dropLp s.1 b.1 else s.1:=by
   unfold dpC
   split
   ·split<;>rfl
   ·rfl
  rw [e1,hfl,htake,List.filter_append]
  by_cases e:(caseAt x.2.2.2.2.2.2.2.2.2.2.2.2.2.2.2.2.1 b.1).2.2.2.1=f
  ·rw [if_pos e]
   have eq0:stayQ x.2.2.2.2.2.2.2.2.2.2.2.2.2.2.2.2.1 f b=false:=by unfold stayQ;simp [e]
   rw [List.filter_cons_of_neg (by rw [eq0];simp),List.filter_nil,List.append_nil]
   rw [i1]at hL ⊢
   have hj':natI (flAt x f).2.2.1<(loopD x (natI (flAt x f).2.2.1) (((bagsAt x f).take m).filter (stayQ x.2.2.2.2.2.2.2.2.2.2.2.2.2.2.2.2.1 f)++(bagsAt x f).drop m)).2.2.1.length:=by show _<(x.2.2.2.2.2.2.2.2.2.2.1.set _ _).length;rw [List.length_set];exact m1
   have hat:rdP (0,0,[],()) (loopD x (natI (flAt x f).2.2.1) (((bagsAt x f).take m).filter (stayQ x.2.2.2.2.2.2.2.2.2.2.2.2.2.2.2.2.1 f)++(bagsAt x f).drop m)).2.2.1 (natI (flAt x f).2.2.1)=((rdP (0,0,[],()) x.2.2.2.2.2.2.2.2.2.2.1 (natI (flAt x f).2.2.1)).1,(rdP (0,0,[],()) x.2.2.2.2.2.2.2.2.2.2.1 (natI (flAt x f).2.2.1)).2.1,((bagsAt x f).take m).filter (stayQ x.2.2.2.2.2.2.2.2.2.2.2.2.2.2.2.2.1 f)++(bagsAt x f).drop m,()):=rd_set_i m1
   have hbu:(b.1,())=b:=by obtain⟨b,u⟩:=b;cases u;rfl
   rw [dropLp_in hL hj' b1 (by rw [hat];dsimp only;rw [hdrop,hbu];exact List.mem_append_right _ (List.mem_cons_self ..)),hat]
   have hnb:∀y∈(bagsAt x f).take m,y.1≠b.1:=by
    intro y hy ey
    have hnd:=m3
    rw [←List.take_append_drop m (bagsAt x f),hdrop]at hnd
    refine(List.nodup_append.1 hnd).2.2 y hy b (List.mem_cons_self ..) ?_
    obtain⟨y,u⟩:=y;obtain⟨b,v⟩:=b;cases u;cases v
    dsimp only at ey;rw [ey]
   have hnb2:∀y∈(bagsAt x f).drop (m+1),y.1≠b.1:=by
    intro y hy ey
    have hnd:=m3
    rw [←List.take_append_drop m (bagsAt x f),hdrop]at hnd
    have:=(List.nodup_cons.1 (List.nodup_append.1 hnd).2.1).1
    apply this
    have:y=b:=by
     obtain⟨y,u⟩:=y;obtain⟨b,v⟩:=b;cases u;cases v
     dsimp only at ey;rw [ey]
    rw [←this];exact hy
   have ef:(((bagsAt x f).take m).filter (stayQ x.2.2.2.2.2.2.2.2.2.2.2.2.2.2.2.2.1 f)++(bagsAt x f).drop m).filter (fun y=>decide (y.1≠b.1))=((bagsAt x f).take m).filter (stayQ x.2.2.2.2.2.2.2.2.2.2.2.2.2.2.2.2.1 f)++(bagsAt x f).drop (m+1):=by
    rw [hdrop,List.filter_append,List.filter_cons_of_neg (by simp)]
    congr 1
    ·rw [List.filter_eq_self]
     intro y hy
     have:=hnb y (List.mem_filter.1 hy).1
     simpa using this
    ·rw [List.filter_eq_self]
     intro y hy
     have:=hnb2 y hy
     simpa using this
   dsimp only
   rw [ef]
   unfold loopD
   dsimp only
   rw [List.set_set]
  ·rw [if_neg e]
   have eq0:stayQ x.2.2.2.2.2.2.2.2.2.2.2.2.2.2.2.2.1 f b=true:=by unfold stayQ;simp [e]
   rw [List.filter_cons_of_pos (by rw [eq0]),List.filter_nil,i1,hdrop,List.append_assoc]
   rfl
set_option maxHeartbeats 1000000 in
theorem impl_depart_f {k:Nat} (hk:K0≤k) (x:HallT) (f:Int) (h:HallP x):impl_depart.f k x f=some ((depM x f).2.1,(depM x f).1,()):=by
 have hs:=hallP_sz h
 have e1:impl_isFlight.f k x f=chkP (1≤f∧f≤x.2.2.2.2.2.2.2.2.2.2.2.2.2.2.2.1.length):=impl_isFlight_f k x f
 have hG:=impl_Gaps_m hk x.2.2.2.2.2.2.2.2.2.2.2.2.2.2.1 hs.notes
 have hfl:=hs.flights
 have hcl:=hs.cases_
 have hch:=hs.chutes
 unfold impl_depart.f depM
 refine Eq.trans (b:=bnd (impl_isFlight.f k x f) _) rfl ?_
 rw [e1,bnd_chk,br_not]
 by_cases hf:1≤f∧f≤x.2.2.2.2.2.2.2.2.2.2.2.2.2.2.2.1.length
 case neg=>rw [br_neg hf,if_neg (fun z=>hf z.2.1)]
 rw [br_pos hf]
 have hn:natI (f-1)<x.2.2.2.2.2.2.2.2.2.2.2.2.2.2.2.1.length:=by unfold natI;omega
 have hfa:rdP (0,0,0,false,0,()) x.2.2.2.2.2.2.2.2.2.2.2.2.2.2.2.1 (natI (f-1))=flAt x f:=rfl
 rw [subI_id (by omega),inR_dc,br_pos (by rw [ln_e];omega),lett_e,hfa]
 cases hd:(flAt x f).2.2.2.1 with
 |true=>rw [br_t,if_neg (fun z=>by have:=z.2.2.1;rw [hfa,hd]at this;cases this)]
 |false=>
 rw [br_f,lett_e,ltI_dc]
 by_cases hn2:(flAt x f).2.1≤x.1
 case neg=>rw [br_pos (by omega),if_neg (fun z=>hn2 z.2.2.2.1)]
 rw [br_neg (by omega),hG,bnd_s,eqI_dc,notB_dc]
 by_cases hg:gapsM x.2.2.2.2.2.2.2.2.2.2.2.2.2.2.1=0
 case neg=>rw [br_pos (by exact hg),if_neg (fun z=>hg z.2.2.2.2)]
 rw [br_neg (fun z=>z hg),if_pos ⟨h,hf,hd,hn2,hg⟩,lett_e]
 obtain⟨g1,g2⟩:=flD_ok h hf
 obtain⟨m1,m0,m2,m3,m4⟩:=bagsAt_mem h hf
 have hba:(rdP (0,0,[],()) x.2.2.2.2.2.2.2.2.2.2.1 (natI (flAt x f).2.2.1)).2.2.1=bagsAt x f:=rfl
 rw [inR_dc,br_pos (by rw [ln_e];unfold natI at m1;omega),lett_e]
 have hk':=hk
 unfold K0 at hk
 have hbl:∀b∈bagsAt x f,1≤b.1∧b.1≤x.2.2.2.2.2.2.2.2.2.2.2.2.2.2.2.2.1.length:=fun b hb=>by
  obtain⟨b1,c,hc,hz⟩:=m2 b hb
  exact⟨b1,h.2.2.2.2.2.2.2.2.2.2.2.2.2.1 c hc _ hz⟩
 have hle:=dep_loop h hf
 have hlend:=(hle _ (Nat.le_refl _)).1
 rw [List.take_length,List.drop_length,List.append_nil]at hlend
 have hdq:=dq_dp x.2.2.2.2.2.2.2.2.2.2.2.2.2.2.1 f
 have hlq:=dq_left x.2.2.2.2.2.2.2.2.2.2.2.2.2.2.1 f
 rw [hba]
 have hE:dpE x f=dpS x.2.2.2.2.2.2.2.2.2.2.2.2.2.2.1 f (loopOf x,x.2.2.2.2.2.2.2.2.2.2.2.2.2.2.2.2.1,[]) (bagsAt x f):=rfl
 rw [hE,hlend]
 have hpcs:=dpS_pcs x.2.2.2.2.2.2.2.2.2.2.2.2.2.2.1 f
 clear hle hlend
 generalize hB:bagsAt x f=B at*
 refine loop_run (n:=B.length) (fun j=>((dqS x.2.2.2.2.2.2.2.2.2.2.2.2.2.2.1 f (x.2.2.2.2.2.2.2.2.2.2.2.2.2.2.2.2.1,[],[]) (B.take j)).1,(dqS x.2.2.2.2.2.2.2.2.2.2.2.2.2.2.1 f (x.2.2.2.2.2.2.2.2.2.2.2.2.2.2.2.2.1,[],[]) (B.take j)).2.1,(dqS x.2.2.2.2.2.2.2.2.2.2.2.2.2.2.1 f (x.2.2.2.2.2.2.2.2.2.2.2.2.2.2.2.2.1,[],[]) (B.take j)).2.2,(j:Int),())) rfl (fun j hj rec=> ?_) (fun rec=> ?_) (by omega)
 ·obtain⟨l1,l2,l3⟩:=hlq (B.take j) (x.2.2.2.2.2.2.2.2.2.2.2.2.2.2.2.2.1,[],[]) x.2.2.2.2.2.2.2.2.2.2.2.2.2.2.2.2.1 rfl (fun _ _=>rfl) (fun b hb=>hbl b (List.mem_of_mem_take hb))
  have hp:=hpcs (B.take j) (loopOf x,x.2.2.2.2.2.2.2.2.2.2.2.2.2.2.2.2.1,[])
  have hpe:=(hdq (B.take j) (x.2.2.2.2.2.2.2.2.2.2.2.2.2.2.2.2.1,[],[]) (loopOf x,x.2.2.2.2.2.2.2.2.2.2.2.2.2.2.2.2.1,[]) rfl rfl).2
  rw [←hpe]at hp
  rw [List.length_take]at hp l3
  simp only [List.length_nil]at hp l3
  have hm:rdP (0,()) B j∈B:=by rw [rd_lt hj];exact List.getElem_mem hj
  obtain⟨b1,b2⟩:=hbl _ hm
  rw [dqS_s hj]
  have hfly:=impl_MayFly_f hk' x.2.2.2.2.2.2.2.2.2.2.2.2.2.2.1 (rdP (0,()) B j).1 f hs.notes
  generalize dqS x.2.2.2.2.2.2.2.2.2.2.2.2.2.2.1 f (x.2.2.2.2.2.2.2.2.2.2.2.2.2.2.2.2.1,[],[]) (B.take j)=s at*
  obtain⟨b,hbe⟩:∃b,rdP (0,()) B j=(b,()):=⟨(rdP (0,()) B j).1,rfl⟩
  rw [show dqC x.2.2.2.2.2.2.2.2.2.2.2.2.2.2.1 f s (rdP (0,()) B j)=dqC x.2.2.2.2.2.2.2.2.2.2.2.2.2.2.1 f s (b,()) by rw [hbe]]
  rw [hbe]at hfly b1 b2
  have hi:natI (b-1)<s.1.length:=by unfold natI;(try dsimp only at b1 b2);omega
  have hca:rdP (0,0,0,0,0,0,0,0,0,0,()) s.1 (natI (b-1))=caseAt s.1 b:=rfl
  have hfit:=fit1 (pcOf b (caseAt s.1 b)) (l:=s.2.1) (by omega)
  have hfit':fitL s.2.1 [(b,(caseAt s.1 b).2.2.2.2.1,(caseAt s.1 b).2.2.2.2.2.1,())]=true:=hfit
  have hfit2:=fit1 ((b,()):Int×Unit) (l:=s.2.2) (by omega)
  have hset:∀p:CaseT,rdP (0,0,0,0,0,0,0,0,0,0,()) (s.1.set (natI (b-1)) p) (natI (b-1))=p:=fun p=>rd_set_i hi
  (try dsimp only at b1 b2 hfly)
  unfold dqC
  by_cases e:(caseAt s.1 b).2.2.2.1=f
  ·rw [if_pos e]
   by_cases hfl:flyP x.2.2.2.2.2.2.2.2.2.2.2.2.2.2.1 b f
   ·rw [if_pos hfl]
    simp (disch:=omega) only [lett_e,bnd_s,bnd_chk,br_not,br_t,br_f,br_T,br_F,not_true_eq_false,not_false_eq_true,chk_T,chk_F,chk_eq,eqI_dc,ltI_dc,leI_dc,eqN_dc,notB_dc,andB_dc,andB_t,eqB_dc,notB_t,notB_f,inR_dc,upR_dc,ln_e,app_e,tk_e,dp_e,upd_e,repl_e,natI_n,br_pos,br_neg,addI_n,fitN_T,subI_id,hbe,hca,hfly,hfit',chk_T,hset]
    rfl
   ·rw [if_neg hfl]
    simp (disch:=omega) only [lett_e,bnd_s,bnd_chk,br_not,br_t,br_f,br_T,br_F,not_true_eq_false,not_false_eq_true,chk_T,chk_F,chk_eq,eqI_dc,ltI_dc,leI_dc,eqN_dc,notB_dc,andB_dc,andB_t,eqB_dc,notB_t,notB_f,inR_dc,upR_dc,ln_e,app_e,tk_e,dp_e,upd_e,repl_e,natI_n,br_pos,br_neg,addI_n,fitN_T,subI_id,hbe,hca,hfly]
    rfl
  ·rw [if_neg e]
   simp (disch:=omega) only [lett_e,bnd_s,bnd_chk,br_not,br_t,br_f,br_T,br_F,not_true_eq_false,not_false_eq_true,chk_T,chk_F,chk_eq,eqI_dc,ltI_dc,leI_dc,eqN_dc,notB_dc,andB_dc,andB_t,eqB_dc,notB_t,notB_f,inR_dc,upR_dc,ln_e,app_e,tk_e,dp_e,upd_e,repl_e,natI_n,br_pos,br_neg,addI_n,fitN_T,subI_id,hbe,hca,hfit2]
   rfl
 ·obtain⟨l1,l2,l3⟩:=hlq B (x.2.2.2.2.2.2.2.2.2.2.2.2.2.2.2.2.1,[],[]) x.2.2.2.2.2.2.2.2.2.2.2.2.2.2.2.2.1 rfl (fun _ _=>rfl) hbl
  obtain⟨q1,q2⟩:=hdq B (x.2.2.2.2.2.2.2.2.2.2.2.2.2.2.2.2.1,[],[]) (loopOf x,x.2.2.2.2.2.2.2.2.2.2.2.2.2.2.2.2.1,[]) rfl rfl
  have hp:=hpcs B (loopOf x,x.2.2.2.2.2.2.2.2.2.2.2.2.2.2.2.2.1,[])
  rw [List.take_length]
  have hr:impl_Repack.f k (x.2.2.1,x.2.2.2.1,()) (dqS x.2.2.2.2.2.2.2.2.2.2.2.2.2.2.1 f (x.2.2.2.2.2.2.2.2.2.2.2.2.2.2.2.2.1,[],[]) B).2.1=some (repM (x.2.2.1,x.2.2.2.1,()) (dqS x.2.2.2.2.2.2.2.2.2.2.2.2.2.2.1 f (x.2.2.2.2.2.2.2.2.2.2.2.2.2.2.2.2.1,[],[]) B).2.1,()):=impl_Repack_f hk' _ _ (by rw [q2];simp only [List.length_nil]at hp;omega)
  have hl2:(dqS x.2.2.2.2.2.2.2.2.2.2.2.2.2.2.1 f (x.2.2.2.2.2.2.2.2.2.2.2.2.2.2.2.2.1,[],[]) B).2.2=B.filter (stayQ x.2.2.2.2.2.2.2.2.2.2.2.2.2.2.2.2.1 f):=l2
  rw [hl2,q2]
  rw [q2]at hr
  simp (disch:=omega) only [lett_e,bnd_s,bnd_chk,br_not,br_t,br_f,br_T,br_F,not_true_eq_false,not_false_eq_true,chk_T,chk_F,chk_eq,eqI_dc,ltI_dc,leI_dc,eqN_dc,notB_dc,andB_dc,andB_t,eqB_dc,notB_t,notB_f,inR_dc,upR_dc,ln_e,app_e,tk_e,dp_e,upd_e,repl_e,natI_n,br_pos,br_neg,addI_n,fitN_T,hr,hfa,List.length_set,rd_set_i,List.set_set]
  rw [q1]
  unfold flD boxN hallFLC loopD
  rw [hE]
end Go.Proofs.YtpmjopbgccajgaaGreat.Eng
