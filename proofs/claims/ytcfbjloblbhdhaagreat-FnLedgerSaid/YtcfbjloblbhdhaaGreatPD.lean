/- Pure laws: PSend, PSend2, PSend3, PChk, PTick, PTick2. No condition. -/
import Derived.Test.YtcfbjloblbhdhaaGreatPC
import Derived.Test.YtcfbjloblbhdhaaGreatD
set_option linter.unusedVariables false
set_option linter.unusedSimpArgs false
namespace Go.Proofs.YtcfbjloblbhdhaaGreat.Eng
def loopOf (x:HallT):LoopT:=(x.2.2.2.2.2.2.2.2.1,x.2.2.2.2.2.2.2.2.2.1,x.2.2.2.2.2.2.2.2.2.2.1,x.2.2.2.2.2.2.2.2.2.2.2.1,())
def storeOf (x:HallT):StoreT:=(x.2.2.2.2.2.2.2.2.2.2.2.2.1,x.2.2.2.2.2.2.2.2.2.2.2.2.2.1,())
def InC (l:LoopT) (b:Int):Prop:=∃c,c∈l.2.2.1∧(b,())∈c.2.2.1
def placed (e:CaseT) (p:Int):CaseT:=(e.1,e.2.1,e.2.2.1,e.2.2.2.1,e.2.2.2.2.1,e.2.2.2.2.2.1,p,e.2.2.2.2.2.2.2.1,e.2.2.2.2.2.2.2.2.1,e.2.2.2.2.2.2.2.2.2.1,())
def mvH (x:HallT) (l:LoopT) (s:StoreT) (i:Nat) (p:Int):HallT:=(x.1,x.2.1,x.2.2.1,x.2.2.2.1,x.2.2.2.2.1,x.2.2.2.2.2.1,x.2.2.2.2.2.2.1,x.2.2.2.2.2.2.2.1,l.1,l.2.1,l.2.2.1,l.2.2.2.1,s.1,s.2.1,x.2.2.2.2.2.2.2.2.2.2.2.2.2.2.1,x.2.2.2.2.2.2.2.2.2.2.2.2.2.2.2.1,x.2.2.2.2.2.2.2.2.2.2.2.2.2.2.2.2.1.set i (placed (rdP (0,0,0,0,0,0,0,0,0,0,()) x.2.2.2.2.2.2.2.2.2.2.2.2.2.2.2.2.1 i) p),())
theorem mv_ok {x:HallT} {i:Nat} {p:Int} {l:LoopT} {s:StoreT} (h:HallP x) (hi:i<x.2.2.2.2.2.2.2.2.2.2.2.2.2.2.2.2.1.length) (hl:LoopP l) (hs:StoreP s) (hch:l.2.2.1.length=x.2.2.2.2.2.2.2.2.2.2.1.length) (hold:(rdP (0,0,0,0,0,0,0,0,0,0,()) x.2.2.2.2.2.2.2.2.2.2.2.2.2.2.2.2.1 i).2.2.2.2.2.2.1≠1) (hp:2≤p∧p≤7) (hcl:(rdP (0,0,0,0,0,0,0,0,0,0,()) x.2.2.2.2.2.2.2.2.2.2.2.2.2.2.2.2.1 i).2.2.2.2.2.2.2.2.2.1≠1→p=2∨p=7) (hal:¬(p=2∧(rdP (0,0,0,0,0,0,0,0,0,0,()) x.2.2.2.2.2.2.2.2.2.2.2.2.2.2.2.2.1 i).2.2.2.2.2.2.2.2.2.1=2))
  (hgo:p=6→(rdP (0,0,0,false,0,()) x.2.2.2.2.2.2.2.2.2.2.2.2.2.2.2.1 (natI ((rdP (0,0,0,0,0,0,0,0,0,0,()) x.2.2.2.2.2.2.2.2.2.2.2.2.2.2.2.2.1 i).2.2.2.1-1))).2.2.2.1=true)
  (same:∀b:Int,b≠0→b≠(i:Int)+1→((b,())∈l.1↔(b,())∈x.2.2.2.2.2.2.2.2.1)∧(InC l b↔InC (loopOf x) b)∧(InS s b↔InS (storeOf x) b))
  (own:(((i:Int)+1,())∈l.1↔p=3)∧(InC l ((i:Int)+1)↔p=4)∧(InS s ((i:Int)+1)↔p=5)):HallP (mvH x l s i p):=by
 have hx:=h
 obtain⟨h1,h2,h3,h4,h5,h6,h7,h8,h9,h10,h11,h12,h13,h14,h15⟩:=hx
 obtain⟨c1,c2,c3,c4,c5,c6,c7,c8,c9,c10,c11,c12,c13,c14⟩:=h11 i hi
 rw [if_neg hold]at c7
 have bnd:∀b:Int,b=0∨b=(i:Int)+1→b≤x.2.2.2.2.2.2.2.2.2.2.2.2.2.2.2.2.1.length:=by intro b hb;omega
 refine hall_move (i0:=i) (e':=placed (rdP (0,0,0,0,0,0,0,0,0,0,()) x.2.2.2.2.2.2.2.2.2.2.2.2.2.2.2.2.1 i) p) h hi rfl rfl rfl h2 h3 h4 hl hs h7 hch (fun b ⟨y,hy,e⟩=>by subst e;exact h12 y hy) (fun b hb=> ?_) (fun b hb=> ?_) (fun b hb=> ?_) (fun j hj hjl=> ?_) ⟨rfl,rfl,rfl⟩ ?_
 ·by_cases e:b=0∨b=(i:Int)+1
  ·exact bnd b e
  ·exact h13 _ ((same b (fun z=>e (.inl z)) (fun z=>e (.inr z))).1.1 hb)
 ·by_cases e:b=0∨b=(i:Int)+1
  ·exact bnd b e
  ·obtain⟨c,hc,hb⟩:=(same b (fun z=>e (.inl z)) (fun z=>e (.inr z))).2.1.1 hb
   exact h14 c hc _ hb
 ·by_cases e:b=0∨b=(i:Int)+1
  ·exact bnd b e
  ·obtain⟨l,hl,y,hy,e⟩:=(same b (fun z=>e (.inl z)) (fun z=>e (.inr z))).2.2.1 hb
   subst e;exact h15 l hl y hy
 ·obtain⟨s1,s2,s3⟩:=same ((j:Int)+1) (by omega) (by omega)
  exact⟨Iff.rfl,s1,s2,s3⟩
 ·generalize he:rdP (0,0,0,0,0,0,0,0,0,0,()) x.2.2.2.2.2.2.2.2.2.2.2.2.2.2.2.2.1 i=e at*
  have hp1:¬(placed e p).2.2.2.2.2.2.1=1:=by intro z;have z:p=1:=z;omega
  refine⟨c1,c2,c3,c4,by show 1≤p∧p≤7;omega,fun j hj=> ?_,?_,?_,hal,hgo,?_,own.1,own.2.1,own.2.2⟩
  ·have:rdP (0,0,0,0,0,0,0,0,0,0,()) (mvH x l s i p).2.2.2.2.2.2.2.2.2.2.2.2.2.2.2.2.1 j=rdP (0,0,0,0,0,0,0,0,0,0,()) x.2.2.2.2.2.2.2.2.2.2.2.2.2.2.2.2.1 j:=rd_set_o (by omega)
   intro q
   refine c6 j hj ?_
   rw [←this]
   exact q
  ·rw [if_neg hp1];exact c7
  ·intro hv
   have:=hcl hv
   show p≠3∧p≠4∧p≠5∧p≠6
   omega
  ·exact⟨fun q=>absurd (c11.1 q) hold,fun q=>absurd q hp1⟩
noncomputable def ontoW (x:HallT) (i:Nat):LoopT×Bool×Unit:=setWantM (loopOf x) ((i:Int)+1) [((rdP (0,0,0,false,0,()) x.2.2.2.2.2.2.2.2.2.2.2.2.2.2.2.1 (natI ((rdP (0,0,0,0,0,0,0,0,0,0,()) x.2.2.2.2.2.2.2.2.2.2.2.2.2.2.2.2.1 i).2.2.2.1-1))).2.2.1,())]
noncomputable def ontoL (x:HallT) (i:Nat):LoopT×Bool×Unit:=if (ontoW x i).2.1=true then inductM (ontoW x i).1 0 ((i:Int)+1)else(ontoW x i)
noncomputable def ontoM (x:HallT) (i:Nat):HallT×Bool×Unit:=if (ontoL x i).2.1=true then(mvH x (ontoL x i).1 (storeOf x) i 3,true,())else(x,false,())
theorem setWant_at {l:LoopT} {b:Int} {ch:List (Int×Unit)}:(setWantM l b ch).1.1=l.1∧(setWantM l b ch).1.2.1=l.2.1∧(setWantM l b ch).1.2.2.1=l.2.2.1:=by
 unfold setWantM;split<;>exact⟨rfl,rfl,rfl⟩
theorem loopP_sz {l:LoopT} (h:LoopP l):SzL l:=by
 obtain⟨p1,p2,p3,p4,p5,p6,p7,p8,p9,p10⟩:=h
 exact⟨by omega,by omega,fun c hc=>by have:=(p5 c hc).2.2;have:=(p5 c hc).2.1;omega,by omega,fun w hw=>by have:=asc_len (p9 w hw).2;omega⟩
theorem onto_facts {x:HallT} {i:Nat} (h:LoopP (loopOf x)) (ht:(ontoL x i).2.1=true):LoopP (ontoL x i).1∧(ontoL x i).1.2.2.1=x.2.2.2.2.2.2.2.2.2.2.1∧¬InC (ontoL x i).1 ((i:Int)+1)∧((i:Int)+1,())∉x.2.2.2.2.2.2.2.2.1∧((i:Int)+1,())∈(ontoL x i).1.1∧∀b:Int,b≠0→b≠(i:Int)+1→((b,())∈(ontoL x i).1.1↔(b,())∈x.2.2.2.2.2.2.2.2.1):=by
 have hw:LoopP (ontoW x i).1:=setWant_ok h
 obtain⟨w1,w2,w3⟩:(ontoW x i).1.1=x.2.2.2.2.2.2.2.2.1∧(ontoW x i).1.2.1=x.2.2.2.2.2.2.2.2.2.1∧(ontoW x i).1.2.2.1=x.2.2.2.2.2.2.2.2.2.2.1:=setWant_at (l:=loopOf x)
 unfold ontoL at ht ⊢
 generalize ontoW x i=w at*
 by_cases hok:w.2.1=true
 case neg=>rw [if_neg hok]at ht;exact absurd ht hok
 rw [if_pos hok]at ht ⊢
 have hd:=induct_ok (a:=0) (b:=(i:Int)+1) hw
 unfold inductM at ht hd ⊢
 split at ht
 case isFalse=>cases ht
 rename_i hio
 rw [if_pos hio]at hd ⊢
 have hio':=hio
 obtain⟨q1,q2,q3,q4,q5⟩:=hio'
 have htb:=trayM_b q2 hw.2.1
 have htn:natI (trayM w.1 0)<w.1.1.length:=by unfold natI;omega
 generalize natI (trayM w.1 0)=t at*
 rw [←w1,←w3]
 refine⟨hd,rfl,fun z=>q5 (.inr z),fun z=>q5 (.inl z),?_,fun b hb0 hb1=> ?_⟩
 ·exact List.mem_set htn _
 ·constructor
  ·intro z
   rcases List.mem_or_eq_of_mem_set z with z|z
   ·exact z
   ·cases z;exact absurd rfl hb1
  ·intro z
   obtain⟨j,hj,e⟩:=List.getElem_of_mem z
   have hjt:j≠t:=by
    intro e'
    subst e'
    rw [rd_lt hj,e]at q3
    exact hb0 q3
   have:(w.1.1.set t ((i:Int)+1,()))[j]'(by simpa using hj)=(b,()):=by rw [List.getElem_set_ne (fun q=>hjt q.symm),e]
   exact this▸List.getElem_mem _
theorem spec_l09Onto_f {k:Nat} (hk:K0≤k) (x:HallT) (i:Nat) (h:HallP x) (hi:i<x.2.2.2.2.2.2.2.2.2.2.2.2.2.2.2.2.1.length):spec_l09Onto.f k x ((i:Int)+1)=some (ontoM x i):=by
 have hs:=hallP_sz h
 have hcl:=hs.cases_
 have hfl:=hs.flights
 obtain⟨c1,c2,_⟩:=(h.2.2.2.2.2.2.2.2.2.2.1) i hi
 have hL:LoopP (loopOf x):=h.2.2.2.2.1
 have hfn:natI ((rdP (0,0,0,0,0,0,0,0,0,0,()) x.2.2.2.2.2.2.2.2.2.2.2.2.2.2.2.2.1 i).2.2.2.1-1)<x.2.2.2.2.2.2.2.2.2.2.2.2.2.2.2.1.length:=by unfold natI;omega
 have h1:spec_SetWant.f k (x.2.2.2.2.2.2.2.2.1,x.2.2.2.2.2.2.2.2.2.1,x.2.2.2.2.2.2.2.2.2.2.1,x.2.2.2.2.2.2.2.2.2.2.2.1,()) ((i:Int)+1) [((rdP (0,0,0,false,0,()) x.2.2.2.2.2.2.2.2.2.2.2.2.2.2.2.1 (natI ((rdP (0,0,0,0,0,0,0,0,0,0,()) x.2.2.2.2.2.2.2.2.2.2.2.2.2.2.2.2.1 i).2.2.2.1-1))).2.2.1,())]=some (ontoW x i):=spec_SetWant_f hk (loopOf x) _ _ (loopP_sz hL) (by simp)
 have h2:=spec_l09Copy_f hk x hs
 have hw:LoopP (ontoW x i).1:=setWant_ok hL
 have e1:((i:Int)+1)-1=i:=by omega
 unfold spec_l09Onto.f ontoM
 have h3:spec_Induct.f k ((ontoW x i).1.1,(ontoW x i).1.2.1,(ontoW x i).1.2.2.1,(ontoW x i).1.2.2.2.1,()) 0 ((i:Int)+1)=some (inductM (ontoW x i).1 0 ((i:Int)+1)):=spec_Induct_f hk (ontoW x i).1 0 _ (loopP_sz hw)
 have hoL:ontoL x i=if (ontoW x i).2.1=true then inductM (ontoW x i).1 0 ((i:Int)+1)else(ontoW x i):=rfl
 rw [hoL]
 by_cases hok:(ontoW x i).2.1=true
 case neg=>
  have hok':(ontoW x i).2.1=false:=by simpa using hok
  simp only [if_neg hok,if_neg hok]
  simp (disch:=omega) only [lett_e,bnd_s,bnd_chk,br_not,br_t,br_f,br_T,br_F,not_true_eq_false,not_false_eq_true,chk_T,chk_F,chk_eq,eqI_dc,ltI_dc,leI_dc,eqN_dc,notB_dc,andB_dc,andB_t,eqB_dc,notB_t,notB_f,inR_dc,upR_dc,ln_e,app_e,tk_e,dp_e,upd_e,repl_e,natI_n,br_pos,br_neg,addI_n,fitN_T,subI_id,e1,natI_n,h1,hok',both_same]
 simp only [if_pos hok]
 by_cases hd:(inductM (ontoW x i).1 0 ((i:Int)+1)).2.1=true
 case neg=>
  have hd':(inductM (ontoW x i).1 0 ((i:Int)+1)).2.1=false:=by simpa using hd
  simp only [if_neg hd]
  simp (disch:=omega) only [lett_e,bnd_s,bnd_chk,br_not,br_t,br_f,br_T,br_F,not_true_eq_false,not_false_eq_true,chk_T,chk_F,chk_eq,eqI_dc,ltI_dc,leI_dc,eqN_dc,notB_dc,andB_dc,andB_t,eqB_dc,notB_t,notB_f,inR_dc,upR_dc,ln_e,app_e,tk_e,dp_e,upd_e,repl_e,natI_n,br_pos,br_neg,addI_n,fitN_T,subI_id,e1,natI_n,h1,hok,h3,hd',both_same]
 simp only [if_pos hd]
 simp (disch:=omega) only [lett_e,bnd_s,bnd_chk,br_not,br_t,br_f,br_T,br_F,not_true_eq_false,not_false_eq_true,chk_T,chk_F,chk_eq,eqI_dc,ltI_dc,leI_dc,eqN_dc,notB_dc,andB_dc,andB_t,eqB_dc,notB_t,notB_f,inR_dc,upR_dc,ln_e,app_e,tk_e,dp_e,upd_e,repl_e,natI_n,br_pos,br_neg,addI_n,fitN_T,subI_id,e1,natI_n,h1,hok,h3,hd,h2,both_same]
 rfl
end Go.Proofs.YtcfbjloblbhdhaaGreat.Eng
namespace Go.Proofs.YtcfbjloblbhdhaaGreat.Eng
def flOf (x:HallT) (i:Nat):FlightT:=rdP (0,0,0,false,0,()) x.2.2.2.2.2.2.2.2.2.2.2.2.2.2.2.1 (natI ((rdP (0,0,0,0,0,0,0,0,0,0,()) x.2.2.2.2.2.2.2.2.2.2.2.2.2.2.2.2.1 i).2.2.2.1-1))
noncomputable def sendM (x:HallT) (i:Nat):HallT×Bool×Unit:=
 if (rdP (0,0,0,0,0,0,0,0,0,0,()) x.2.2.2.2.2.2.2.2.2.2.2.2.2.2.2.2.1 i).2.2.2.2.2.2.1=2∧(rdP (0,0,0,0,0,0,0,0,0,0,()) x.2.2.2.2.2.2.2.2.2.2.2.2.2.2.2.2.1 i).2.2.2.2.2.2.2.2.2.1=1∧(flOf x i).2.2.2.1=false then
  if (flOf x i).1≤x.1 then ontoM x i
  else if (putM (storeOf x) ((i:Int)+1) (flOf x i).1).2.2.1=true then(mvH x (loopOf x) (putM (storeOf x) ((i:Int)+1) (flOf x i).1).1 i 5,true,())else(x,false,())
 else(x,false,())
theorem hallP_case {x:HallT} {i:Nat} (h:HallP x) (hi:i<x.2.2.2.2.2.2.2.2.2.2.2.2.2.2.2.2.1.length):CaseP x i (rdP (0,0,0,0,0,0,0,0,0,0,()) x.2.2.2.2.2.2.2.2.2.2.2.2.2.2.2.2.1 i):=h.2.2.2.2.2.2.2.2.2.2.1 i hi
theorem onto_ok {x:HallT} {i:Nat} (h:HallP x) (hi:i<x.2.2.2.2.2.2.2.2.2.2.2.2.2.2.2.2.1.length) (hv:(rdP (0,0,0,0,0,0,0,0,0,0,()) x.2.2.2.2.2.2.2.2.2.2.2.2.2.2.2.2.1 i).2.2.2.2.2.2.2.2.2.1=1) (hp:(rdP (0,0,0,0,0,0,0,0,0,0,()) x.2.2.2.2.2.2.2.2.2.2.2.2.2.2.2.2.1 i).2.2.2.2.2.2.1=2):HallP (ontoM x i).1:=by
 unfold ontoM
 split
 case isFalse=>exact h
 rename_i ht
 obtain⟨o1,o2,o3,o4,o5,o6⟩:=onto_facts h.2.2.2.2.1 ht
 obtain⟨c1,c2,c3,c4,c5,c6,c7,c8,c9,c10,c11,c12,c13,c14⟩:=hallP_case h hi
 refine mv_ok h hi o1 h.2.2.2.2.2.1 (by rw [o2]) (by omega) (by omega) (fun z=>absurd hv z) (by omega) (by omega) (fun b b0 b1=>⟨o6 b b0 b1,by unfold InC;rw [o2];exact Iff.rfl,Iff.rfl⟩) ⟨iff_of_true o5 rfl,iff_of_false o3 (by omega),iff_of_false (fun z=> ?_) (by omega)⟩
 have:=c14.1 z
 omega
theorem put_facts {s:StoreT} {b t:Int} (h:(putM s b t).2.2.1=true):1≤b∧¬InS s b∧InS (putM s b t).1 b∧∀a,a≠b→(InS (putM s b t).1 a↔InS s a):=by
 unfold putM at h ⊢
 split at h
 case isFalse=>cases h
 rename_i hh
 rw [if_pos hh]
 obtain⟨h1,h2,h3⟩:=hh
 obtain⟨⟨hj,_,hd⟩,_⟩:=laneM_at h1
 generalize natI (laneM s t (-1))=j at*
 have hp:=bagsS_set hj ((b,t,()):Kept)
 refine⟨h2,h3,?_,fun a ha=> ?_⟩
 ·rw [←mem_bagsS];exact hp.mem_iff.2 (List.mem_cons_self ..)
 ·rw [←mem_bagsS,←mem_bagsS]
  constructor
  ·intro z
   rcases List.mem_cons.1 (hp.mem_iff.1 z)with e|e
   ·cases e;exact absurd rfl ha
   ·exact e
  ·intro z;exact hp.mem_iff.2 (List.mem_cons_of_mem _ z)
theorem send_ok {x:HallT} {i:Nat} (h:HallP x) (hi:i<x.2.2.2.2.2.2.2.2.2.2.2.2.2.2.2.2.1.length):HallP (sendM x i).1:=by
 unfold sendM
 split
 case isFalse=>exact h
 rename_i hh
 obtain⟨hp,hv,hd⟩:=hh
 split
 ·exact onto_ok h hi hv hp
 split
 case isFalse=>exact h
 rename_i ht
 obtain⟨q1,q2,q3,q4⟩:=put_facts ht
 obtain⟨c1,c2,c3,c4,c5,c6,c7,c8,c9,c10,c11,c12,c13,c14⟩:=hallP_case h hi
 refine mv_ok h hi h.2.2.2.2.1 (put_ok h.2.2.2.2.2.1) rfl (by omega) (by omega) (fun z=>absurd hv z) (by omega) (by omega) (fun b b0 b1=>⟨Iff.rfl,Iff.rfl,q4 b b1⟩) ⟨iff_of_false (fun z=> ?_) (by omega),iff_of_false (fun z=> ?_) (by omega),iff_of_true q3 rfl⟩
 ·have:=c12.1 z;omega
 ·have:=c13.1 z;omega
theorem spec_l09Send_f {k:Nat} (hk:K0≤k) (x:HallT) (i:Nat) (h:HallP x) (hi:i<x.2.2.2.2.2.2.2.2.2.2.2.2.2.2.2.2.1.length):spec_l09Send.f k x ((i:Int)+1)=some (sendM x i):=by
 have hs:=hallP_sz h
 have hcl:=hs.cases_
 have hfl:=hs.flights
 obtain⟨c1,c2,_⟩:=hallP_case h hi
 have hfn:natI ((rdP (0,0,0,0,0,0,0,0,0,0,()) x.2.2.2.2.2.2.2.2.2.2.2.2.2.2.2.2.1 i).2.2.2.1-1)<x.2.2.2.2.2.2.2.2.2.2.2.2.2.2.2.1.length:=by unfold natI;omega
 have h1:spec_PutBag.f k (x.2.2.2.2.2.2.2.2.2.2.2.2.1,x.2.2.2.2.2.2.2.2.2.2.2.2.2.1,()) ((i:Int)+1) (flOf x i).1=some (putM (storeOf x) ((i:Int)+1) (flOf x i).1):=spec_PutBag_f hk (storeOf x) _ _ (storeP_sz h.2.2.2.2.2.1)
 have h2:=spec_l09Copy_f hk x hs
 have h3:=spec_l09Onto_f hk x i h hi
 have e1:((i:Int)+1)-1=i:=by omega
 have ef:rdP (0,0,0,false,0,()) x.2.2.2.2.2.2.2.2.2.2.2.2.2.2.2.1 (natI ((rdP (0,0,0,0,0,0,0,0,0,0,()) x.2.2.2.2.2.2.2.2.2.2.2.2.2.2.2.2.1 i).2.2.2.1-1))=flOf x i:=rfl
 unfold spec_l09Send.f sendM
 by_cases hp:(rdP (0,0,0,0,0,0,0,0,0,0,()) x.2.2.2.2.2.2.2.2.2.2.2.2.2.2.2.2.1 i).2.2.2.2.2.2.1=2
 case neg=>
  rw [if_neg (fun z=>hp z.1)]
  simp (disch:=omega) only [lett_e,bnd_s,bnd_chk,br_not,br_t,br_f,br_T,br_F,not_true_eq_false,not_false_eq_true,chk_T,chk_F,chk_eq,eqI_dc,ltI_dc,leI_dc,eqN_dc,notB_dc,andB_dc,andB_t,eqB_dc,notB_t,notB_f,inR_dc,upR_dc,ln_e,app_e,tk_e,dp_e,upd_e,repl_e,natI_n,br_pos,br_neg,addI_n,fitN_T,subI_id,e1,natI_n,ef]
 by_cases hv:(rdP (0,0,0,0,0,0,0,0,0,0,()) x.2.2.2.2.2.2.2.2.2.2.2.2.2.2.2.2.1 i).2.2.2.2.2.2.2.2.2.1=1
 case neg=>
  rw [if_neg (fun z=>hv z.2.1)]
  simp (disch:=omega) only [lett_e,bnd_s,bnd_chk,br_not,br_t,br_f,br_T,br_F,not_true_eq_false,not_false_eq_true,chk_T,chk_F,chk_eq,eqI_dc,ltI_dc,leI_dc,eqN_dc,notB_dc,andB_dc,andB_t,eqB_dc,notB_t,notB_f,inR_dc,upR_dc,ln_e,app_e,tk_e,dp_e,upd_e,repl_e,natI_n,br_pos,br_neg,addI_n,fitN_T,subI_id,e1,natI_n,ef]
 cases hd:(flOf x i).2.2.2.1 with
 |true=>
  rw [if_neg (fun z=>by cases z.2.2)]
  simp (disch:=omega) only [lett_e,bnd_s,bnd_chk,br_not,br_t,br_f,br_T,br_F,not_true_eq_false,not_false_eq_true,chk_T,chk_F,chk_eq,eqI_dc,ltI_dc,leI_dc,eqN_dc,notB_dc,andB_dc,andB_t,eqB_dc,notB_t,notB_f,inR_dc,upR_dc,ln_e,app_e,tk_e,dp_e,upd_e,repl_e,natI_n,br_pos,br_neg,addI_n,fitN_T,subI_id,e1,natI_n,ef,hd]
 |false=>
  rw [if_pos ⟨hp,hv,rfl⟩]
  by_cases ho:(flOf x i).1≤x.1
  ·rw [if_pos ho]
   simp (disch:=omega) only [lett_e,bnd_s,bnd_chk,br_not,br_t,br_f,br_T,br_F,not_true_eq_false,not_false_eq_true,chk_T,chk_F,chk_eq,eqI_dc,ltI_dc,leI_dc,eqN_dc,notB_dc,andB_dc,andB_t,eqB_dc,notB_t,notB_f,inR_dc,upR_dc,ln_e,app_e,tk_e,dp_e,upd_e,repl_e,natI_n,br_pos,br_neg,addI_n,fitN_T,subI_id,e1,natI_n,ef,hd,h3]
  ·rw [if_neg ho]
   by_cases hput:(putM (storeOf x) ((i:Int)+1) (flOf x i).1).2.2.1=true
   ·rw [if_pos hput]
    simp (disch:=omega) only [lett_e,bnd_s,bnd_chk,br_not,br_t,br_f,br_T,br_F,not_true_eq_false,not_false_eq_true,chk_T,chk_F,chk_eq,eqI_dc,ltI_dc,leI_dc,eqN_dc,notB_dc,andB_dc,andB_t,eqB_dc,notB_t,notB_f,inR_dc,upR_dc,ln_e,app_e,tk_e,dp_e,upd_e,repl_e,natI_n,br_pos,br_neg,addI_n,fitN_T,subI_id,e1,natI_n,ef,hd,h1,hput,h2,both_same]
    rfl
   ·rw [if_neg hput]
    have hput':(putM (storeOf x) ((i:Int)+1) (flOf x i).1).2.2.1=false:=by simpa using hput
    simp (disch:=omega) only [lett_e,bnd_s,bnd_chk,br_not,br_t,br_f,br_T,br_F,not_true_eq_false,not_false_eq_true,chk_T,chk_F,chk_eq,eqI_dc,ltI_dc,leI_dc,eqN_dc,notB_dc,andB_dc,andB_t,eqB_dc,notB_t,notB_f,inR_dc,upR_dc,ln_e,app_e,tk_e,dp_e,upd_e,repl_e,natI_n,br_pos,br_neg,addI_n,fitN_T,subI_id,e1,natI_n,ef,hd,h1,hput']
end Go.Proofs.YtcfbjloblbhdhaaGreat.Eng
namespace Go.Proofs.YtcfbjloblbhdhaaGreat.Eng
def hasB (b:Int) (l:List Kept×Unit):Bool:=l.1.any fun y=>decide (y.1=b)
def laneIx (s:StoreT) (b:Int):Nat:=s.2.1.findIdx (hasB b)
noncomputable def takeM (s:StoreT) (b:Int):StoreT×List HopT×Bool×Unit:=takeF s b (laneIx s b) (laneK s (laneIx s b)).length s []
theorem hasB_iff {b:Int} {l:List Kept×Unit}:hasB b l=true↔∃y,y∈l.1∧y.1=b:=by unfold hasB;simp
theorem takeM_at {k:Nat} (hk:K0≤k) {s:StoreT} {b:Int} (h:StoreP s) (hb:InS s b):laneIx s b<s.2.1.length∧(∃y,y∈laneK s (laneIx s b)∧y.1=b)∧spec_l06Find.f k s b=some ((laneIx s b:Int),()):=by
 have hs:=storeP_sz h
 rcases spec_l06Find_f hk s b hs.lanes hs.kept with⟨i,hi,h1,h2,e⟩|⟨h1,e⟩
 ·have hix:laneIx s b=i:=by
   unfold laneIx
   rw [List.findIdx_eq hi]
   refine⟨hasB_iff.2 (by rw [rd_lt hi]at h1;exact h1),fun j hj=> ?_⟩
   have:=h2 j hj
   rw [rd_lt (Nat.lt_trans hj hi)]at this
   exact Bool.eq_false_iff.2 (fun z=>this (hasB_iff.1 z))
  rw [hix]
  exact⟨hi,h1,e⟩
 ·obtain⟨l,hl,hy⟩:=hb
  obtain⟨j,hj,rfl⟩:=List.getElem_of_mem hl
  have:=h1 j hj
  rw [rd_lt hj]at this
  exact absurd hy this
theorem spec_TakeBag_m {k:Nat} (hk:K0≤k) {s:StoreT} {b:Int} (h:StoreP s) (hb:InS s b):spec_TakeBag.f k s b=some (takeM s b):=by
 obtain⟨a1,a2,a3⟩:=takeM_at hk h hb
 exact spec_TakeBag_f hk s b _ h a1 a2 a3
theorem out_perm {x:StoreT} {i:Nat} (hi:i<x.2.1.length) (hne:0<(laneK x i).length):(bagsS x.2.1).Perm (((lastK x i).1,())::bagsS (outL x i).2.1):=by
 have b:=bagsS_set (l:=(outL x i).2.1) (j:=i) (by simpa [outL]using hi) (lastK x i)
 have e:(outL x i).2.1.set i ((rdP ([],()) (outL x i).2.1 i).1++[lastK x i],())=x.2.1:=by
  have e1:rdP ([],()) (outL x i).2.1 i=((laneK x i).take ((laneK x i).length-1),()):=by
   unfold outL rdP;simp [hi]
  have tl:(laneK x i).take ((laneK x i).length-1)++[lastK x i]=laneK x i:=take_last hne
  rw [e1]
  dsimp only
  rw [tl,outL]
  dsimp only
  rw [List.set_set]
  have e2:(laneK x i,())=x.2.1[i]:=by unfold laneK;rw [rd_lt hi]
  rw [e2]
  exact List.set_getElem_self _
 rw [e]at b
 exact b
theorem takeF_perm {s0:StoreT} {b:Int} {i:Nat}:∀(f:Nat) (x:StoreT) (h:List HopT),StoreP x→i<x.2.1.length→(∃y,y∈laneK x i∧y.1=b)→(takeF s0 b i f x h).2.2.1=true→(bagsS x.2.1).Perm ((b,())::bagsS (takeF s0 b i f x h).1.2.1)
 |0,_,_,_,_,_,ht=>by cases ht
 |f+1,x,h,hx,hi,hb,ht=>by
  have hne:0<(laneK x i).length:=by obtain⟨y,hy,_⟩:=hb;exact List.length_pos_of_mem hy
  rw [takeF]at ht ⊢
  split at ht
  ·rename_i e
   rw [if_pos e]
   have:=out_perm hi hne
   rw [e]at this
   exact this
  ·rename_i hn
   rw [if_neg hn]
   split at ht
   ·cases ht
   ·rename_i hm
    rw [if_neg hm]
    obtain⟨hf,ej⟩:=laneM_at (s:=x) (t:=(lastK x i).2.1) (but:=i) (by omega)
    have hp:=hop_perm hi hf.1 (fun z=>hf.2.1 (by rw [←z])) hne
    exact hp.symm.trans (takeF_perm f _ _ (hop_ok hx hi hf hne) (by simpa [hopL]using hi) (hop_keeps hi hb hn) ht)
theorem take_facts {s:StoreT} {b:Int} (h:StoreP s) (hb:InS s b) (ht:(takeM s b).2.2.1=true):StoreP (takeM s b).1∧¬InS (takeM s b).1 b∧∀a,a≠b→(InS (takeM s b).1 a↔InS s a):=by
 obtain⟨a1,a2,_⟩:=takeM_at (Nat.le_refl K0) h hb
 have hp:=takeF_perm (s0:=s) (laneK s (laneIx s b)).length s [] h a1 a2 ht
 have hn:=hp.nodup_iff.1 h.2.2.2
 refine⟨takeF_ok h _ _ _ h a1 a2,fun z=>(List.nodup_cons.1 hn).1 (mem_bagsS.2 z),fun a ha=> ?_⟩
 rw [←mem_bagsS,←mem_bagsS]
 constructor
 ·intro z;exact hp.mem_iff.2 (List.mem_cons_of_mem _ z)
 ·intro z
  rcases List.mem_cons.1 (hp.mem_iff.1 z)with e|e
  ·cases e;exact absurd rfl ha
  ·exact e
noncomputable def fetchM (x:HallT) (i:Nat):HallT×Bool×Unit:=
 if ((rdP (0,0,0,0,0,0,0,0,0,0,()) x.2.2.2.2.2.2.2.2.2.2.2.2.2.2.2.2.1 i).2.2.2.2.2.2.1=5∧(flOf x i).2.2.2.1=false∧(flOf x i).1≤x.1)∧(takeM (storeOf x) ((i:Int)+1)).2.2.1=true∧(ontoL x i).2.1=true then(mvH x (ontoL x i).1 (takeM (storeOf x) ((i:Int)+1)).1 i 3,true,())else(x,false,())
theorem fetch_ok {x:HallT} {i:Nat} (h:HallP x) (hi:i<x.2.2.2.2.2.2.2.2.2.2.2.2.2.2.2.2.1.length):HallP (fetchM x i).1:=by
 unfold fetchM
 split
 case isFalse=>exact h
 rename_i hh
 obtain⟨⟨hp,hd,hn⟩,ht,ho⟩:=hh
 obtain⟨c1,c2,c3,c4,c5,c6,c7,c8,c9,c10,c11,c12,c13,c14⟩:=hallP_case h hi
 have hin:InS (storeOf x) ((i:Int)+1):=c14.2 hp
 obtain⟨o1,o2,o3,o4,o5,o6⟩:=onto_facts h.2.2.2.2.1 ho
 obtain⟨t1,t2,t3⟩:=take_facts h.2.2.2.2.2.1 hin ht
 have hv:(rdP (0,0,0,0,0,0,0,0,0,0,()) x.2.2.2.2.2.2.2.2.2.2.2.2.2.2.2.2.1 i).2.2.2.2.2.2.2.2.2.1=1:=by
  by_cases e:(rdP (0,0,0,0,0,0,0,0,0,0,()) x.2.2.2.2.2.2.2.2.2.2.2.2.2.2.2.2.1 i).2.2.2.2.2.2.2.2.2.1=1
  ·exact e
  ·exact absurd hp (c8 e).2.2.1
 exact mv_ok h hi o1 t1 (by rw [o2]) (by omega) (by omega) (fun z=>absurd hv z) (by omega) (by omega) (fun b b0 b1=>⟨o6 b b0 b1,by unfold InC;rw [o2];exact Iff.rfl,t3 b b1⟩) ⟨iff_of_true o5 rfl,iff_of_false o3 (by omega),iff_of_false t2 (by omega)⟩
theorem spec_l09Fetch_f {k:Nat} (hk:K0≤k) (x:HallT) (i:Nat) (h:HallP x) (hi:i<x.2.2.2.2.2.2.2.2.2.2.2.2.2.2.2.2.1.length):spec_l09Fetch.f k x ((i:Int)+1)=some (fetchM x i):=by
 have hs:=hallP_sz h
 have hcl:=hs.cases_
 have hfl:=hs.flights
 obtain⟨c1,c2,c3,c4,c5,c6,c7,c8,c9,c10,c11,c12,c13,c14⟩:=hallP_case h hi
 have hfn:natI ((rdP (0,0,0,0,0,0,0,0,0,0,()) x.2.2.2.2.2.2.2.2.2.2.2.2.2.2.2.2.1 i).2.2.2.1-1)<x.2.2.2.2.2.2.2.2.2.2.2.2.2.2.2.1.length:=by unfold natI;omega
 have h3:=spec_l09Onto_f hk x i h hi
 have e1:((i:Int)+1)-1=i:=by omega
 have ef:rdP (0,0,0,false,0,()) x.2.2.2.2.2.2.2.2.2.2.2.2.2.2.2.1 (natI ((rdP (0,0,0,0,0,0,0,0,0,0,()) x.2.2.2.2.2.2.2.2.2.2.2.2.2.2.2.2.1 i).2.2.2.1-1))=flOf x i:=rfl
 unfold spec_l09Fetch.f fetchM
 by_cases hp:(rdP (0,0,0,0,0,0,0,0,0,0,()) x.2.2.2.2.2.2.2.2.2.2.2.2.2.2.2.2.1 i).2.2.2.2.2.2.1=5
 case neg=>
  rw [if_neg (fun z=>hp z.1.1)]
  simp (disch:=omega) only [lett_e,bnd_s,bnd_chk,br_not,br_t,br_f,br_T,br_F,not_true_eq_false,not_false_eq_true,chk_T,chk_F,chk_eq,eqI_dc,ltI_dc,leI_dc,eqN_dc,notB_dc,andB_dc,andB_t,eqB_dc,notB_t,notB_f,inR_dc,upR_dc,ln_e,app_e,tk_e,dp_e,upd_e,repl_e,natI_n,br_pos,br_neg,addI_n,fitN_T,subI_id,e1,natI_n,ef]
 have h1:spec_TakeBag.f k (x.2.2.2.2.2.2.2.2.2.2.2.2.1,x.2.2.2.2.2.2.2.2.2.2.2.2.2.1,()) ((i:Int)+1)=some (takeM (storeOf x) ((i:Int)+1)):=spec_TakeBag_m hk h.2.2.2.2.2.1 (c14.2 hp)
 cases hd:(flOf x i).2.2.2.1 with
 |true=>
  rw [if_neg (fun z=>by cases z.1.2.1)]
  simp (disch:=omega) only [lett_e,bnd_s,bnd_chk,br_not,br_t,br_f,br_T,br_F,not_true_eq_false,not_false_eq_true,chk_T,chk_F,chk_eq,eqI_dc,ltI_dc,leI_dc,eqN_dc,notB_dc,andB_dc,andB_t,eqB_dc,notB_t,notB_f,inR_dc,upR_dc,ln_e,app_e,tk_e,dp_e,upd_e,repl_e,natI_n,br_pos,br_neg,addI_n,fitN_T,subI_id,e1,natI_n,ef,hd]
 |false=>
  by_cases ho:(flOf x i).1≤x.1
  case neg=>
   rw [if_neg (fun z=>ho z.1.2.2)]
   simp (disch:=omega) only [lett_e,bnd_s,bnd_chk,br_not,br_t,br_f,br_T,br_F,not_true_eq_false,not_false_eq_true,chk_T,chk_F,chk_eq,eqI_dc,ltI_dc,leI_dc,eqN_dc,notB_dc,andB_dc,andB_t,eqB_dc,notB_t,notB_f,inR_dc,upR_dc,ln_e,app_e,tk_e,dp_e,upd_e,repl_e,natI_n,br_pos,br_neg,addI_n,fitN_T,subI_id,e1,natI_n,ef,hd]
  generalize htk:takeM (storeOf x) ((i:Int)+1)=tk at*
  obtain⟨s,hops,ok,_⟩:=tk
  unfold ontoM at h3
  cases ok with
  |false=>
   rw [if_neg (fun z=>by cases z.2.1)]
   by_cases hon:(ontoL x i).2.1=true
   ·rw [if_pos hon]at h3
    simp (disch:=omega) only [lett_e,bnd_s,bnd_chk,br_not,br_t,br_f,br_T,br_F,not_true_eq_false,not_false_eq_true,chk_T,chk_F,chk_eq,eqI_dc,ltI_dc,leI_dc,eqN_dc,notB_dc,andB_dc,andB_t,eqB_dc,notB_t,notB_f,inR_dc,upR_dc,ln_e,app_e,tk_e,dp_e,upd_e,repl_e,natI_n,br_pos,br_neg,addI_n,fitN_T,subI_id,e1,natI_n,ef,hd,h1,h3]
   ·rw [if_neg hon]at h3
    simp (disch:=omega) only [lett_e,bnd_s,bnd_chk,br_not,br_t,br_f,br_T,br_F,not_true_eq_false,not_false_eq_true,chk_T,chk_F,chk_eq,eqI_dc,ltI_dc,leI_dc,eqN_dc,notB_dc,andB_dc,andB_t,eqB_dc,notB_t,notB_f,inR_dc,upR_dc,ln_e,app_e,tk_e,dp_e,upd_e,repl_e,natI_n,br_pos,br_neg,addI_n,fitN_T,subI_id,e1,natI_n,ef,hd,h1,h3]
  |true=>
   by_cases hon:(ontoL x i).2.1=true
   ·rw [if_pos hon]at h3
    rw [if_pos ⟨⟨hp,rfl,ho⟩,rfl,hon⟩]
    simp (disch:=omega) only [lett_e,bnd_s,bnd_chk,br_not,br_t,br_f,br_T,br_F,not_true_eq_false,not_false_eq_true,chk_T,chk_F,chk_eq,eqI_dc,ltI_dc,leI_dc,eqN_dc,notB_dc,andB_dc,andB_t,eqB_dc,notB_t,notB_f,inR_dc,upR_dc,ln_e,app_e,tk_e,dp_e,upd_e,repl_e,natI_n,br_pos,br_neg,addI_n,fitN_T,subI_id,e1,natI_n,ef,hd,h1,h3]
    rfl
   ·rw [if_neg hon]at h3
    rw [if_neg (fun z=>hon z.2.2)]
    simp (disch:=omega) only [lett_e,bnd_s,bnd_chk,br_not,br_t,br_f,br_T,br_F,not_true_eq_false,not_false_eq_true,chk_T,chk_F,chk_eq,eqI_dc,ltI_dc,leI_dc,eqN_dc,notB_dc,andB_dc,andB_t,eqB_dc,notB_t,notB_f,inR_dc,upR_dc,ln_e,app_e,tk_e,dp_e,upd_e,repl_e,natI_n,br_pos,br_neg,addI_n,fitN_T,subI_id,e1,natI_n,ef,hd,h1,h3]
noncomputable def retM (x:HallT) (i:Nat):HallT×Bool×Unit:=
 if (2≤(rdP (0,0,0,0,0,0,0,0,0,0,()) x.2.2.2.2.2.2.2.2.2.2.2.2.2.2.2.2.1 i).2.2.2.2.2.2.1∧(rdP (0,0,0,0,0,0,0,0,0,0,()) x.2.2.2.2.2.2.2.2.2.2.2.2.2.2.2.2.1 i).2.2.2.2.2.2.1≤5)∧((flOf x i).2.2.2.1=true∨((rdP (0,0,0,0,0,0,0,0,0,0,()) x.2.2.2.2.2.2.2.2.2.2.2.2.2.2.2.2.1 i).2.2.2.2.2.2.1=2∧(rdP (0,0,0,0,0,0,0,0,0,0,()) x.2.2.2.2.2.2.2.2.2.2.2.2.2.2.2.2.1 i).2.2.2.2.2.2.2.2.2.1≠1))then
  if (rdP (0,0,0,0,0,0,0,0,0,0,()) x.2.2.2.2.2.2.2.2.2.2.2.2.2.2.2.2.1 i).2.2.2.2.2.2.1=5 then
   if (takeM (storeOf x) ((i:Int)+1)).2.2.1=true then(mvH x (dropLp (loopOf x) ((i:Int)+1)) (takeM (storeOf x) ((i:Int)+1)).1 i 7,true,())else(x,false,())
  else(mvH x (dropLp (loopOf x) ((i:Int)+1)) (storeOf x) i 7,true,())
 else(x,false,())
theorem drop_facts {l:LoopT} {b:Int} (hb:b≠0):(b,())∉(dropLp l b).1∧¬InC (dropLp l b) b∧∀a:Int,a≠0→a≠b→((a,())∈(dropLp l b).1↔(a,())∈l.1)∧(InC (dropLp l b) a↔InC l a):=by
 unfold dropLp InC
 dsimp only
 refine⟨fun z=> ?_,fun ⟨c,hc,hm⟩=> ?_,fun a ha hab=>⟨⟨fun z=> ?_,fun z=> ?_⟩,⟨fun ⟨c,hc,hm⟩=> ?_,fun ⟨c,hc,hm⟩=> ?_⟩⟩⟩
 ·obtain⟨y,hy,e⟩:=List.mem_map.1 z
  unfold offT at e
  split at e
  ·cases e;exact hb rfl
  ·rename_i hn;subst e;exact hn rfl
 ·obtain⟨d,hd,rfl⟩:=List.mem_map.1 hc
  have:=(List.mem_filter.1 hm).2
  simp at this
 ·obtain⟨y,hy,e⟩:=List.mem_map.1 z
  unfold offT at e
  split at e
  ·cases e;exact absurd rfl ha
  ·subst e;exact hy
 ·exact List.mem_map.2 ⟨_,z,by unfold offT;exact if_neg hab⟩
 ·obtain⟨d,hd,rfl⟩:=List.mem_map.1 hc
  exact⟨d,hd,(List.mem_filter.1 hm).1⟩
 ·exact⟨_,List.mem_map.2 ⟨c,hc,rfl⟩,List.mem_filter.2 ⟨hm,by simpa using hab⟩⟩
theorem ret_ok {x:HallT} {i:Nat} (h:HallP x) (hi:i<x.2.2.2.2.2.2.2.2.2.2.2.2.2.2.2.2.1.length):HallP (retM x i).1:=by
 unfold retM
 split
 case isFalse=>exact h
 rename_i hh
 obtain⟨hp,hd⟩:=hh
 obtain⟨c1,c2,c3,c4,c5,c6,c7,c8,c9,c10,c11,c12,c13,c14⟩:=hallP_case h hi
 obtain⟨d1,d2,d3⟩:=drop_facts (l:=loopOf x) (b:=(i:Int)+1) (by omega)
 have hdo:LoopP (dropLp (loopOf x) ((i:Int)+1)):=drop_ok h.2.2.2.2.1 (by omega)
 have hch:(dropLp (loopOf x) ((i:Int)+1)).2.2.1.length=x.2.2.2.2.2.2.2.2.2.2.1.length:=by simp [dropLp,loopOf]
 split
 ·rename_i h5
  split
  case isFalse=>exact h
  rename_i ht
  obtain⟨t1,t2,t3⟩:=take_facts h.2.2.2.2.2.1 (c14.2 h5) ht
  exact mv_ok h hi hdo t1 hch (by omega) (by omega) (fun _=> .inr rfl) (by omega) (by omega) (fun b b0 b1=>⟨(d3 b b0 b1).1,(d3 b b0 b1).2,t3 b b1⟩) ⟨iff_of_false d1 (by omega),iff_of_false d2 (by omega),iff_of_false t2 (by omega)⟩
 ·rename_i h5
  exact mv_ok h hi hdo h.2.2.2.2.2.1 hch (by omega) (by omega) (fun _=> .inr rfl) (by omega) (by omega) (fun b b0 b1=>⟨(d3 b b0 b1).1,(d3 b b0 b1).2,Iff.rfl⟩) ⟨iff_of_false d1 (by omega),iff_of_false d2 (by omega),iff_of_false (fun z=>h5 (c14.1 z)) (by omega)⟩
set_option maxHeartbeats 1000000 in
theorem spec_l09Return_f {k:Nat} (hk:K0≤k) (x:HallT) (i:Nat) (h:HallP x) (hi:i<x.2.2.2.2.2.2.2.2.2.2.2.2.2.2.2.2.1.length):spec_l09Return.f k x ((i:Int)+1)=some (retM x i):=by
 have hs:=hallP_sz h
 have hcl:=hs.cases_
 have hfl:=hs.flights
 obtain⟨c1,c2,c3,c4,c5,c6,c7,c8,c9,c10,c11,c12,c13,c14⟩:=hallP_case h hi
 have hfn:natI ((rdP (0,0,0,0,0,0,0,0,0,0,()) x.2.2.2.2.2.2.2.2.2.2.2.2.2.2.2.2.1 i).2.2.2.1-1)<x.2.2.2.2.2.2.2.2.2.2.2.2.2.2.2.1.length:=by unfold natI;omega
 have h2:=spec_l09Copy_f hk x hs
 have h3:spec_l09Drop.f k (x.2.2.2.2.2.2.2.2.1,x.2.2.2.2.2.2.2.2.2.1,x.2.2.2.2.2.2.2.2.2.2.1,x.2.2.2.2.2.2.2.2.2.2.2.1,()) ((i:Int)+1)=some (dropLp (loopOf x) ((i:Int)+1),()):=spec_l09Drop_f hk (loopOf x) _ (loopP_sz h.2.2.2.2.1)
 have e1:((i:Int)+1)-1=i:=by omega
 have ef:rdP (0,0,0,false,0,()) x.2.2.2.2.2.2.2.2.2.2.2.2.2.2.2.1 (natI ((rdP (0,0,0,0,0,0,0,0,0,0,()) x.2.2.2.2.2.2.2.2.2.2.2.2.2.2.2.2.1 i).2.2.2.1-1))=flOf x i:=rfl
 have hin:=c14.2
 clear c1 c3 c4 c5 c6 c7 c8 c9 c10 c11 c12 c13 c14
 unfold spec_l09Return.f retM
 by_cases hp:2≤(rdP (0,0,0,0,0,0,0,0,0,0,()) x.2.2.2.2.2.2.2.2.2.2.2.2.2.2.2.2.1 i).2.2.2.2.2.2.1∧(rdP (0,0,0,0,0,0,0,0,0,0,()) x.2.2.2.2.2.2.2.2.2.2.2.2.2.2.2.2.1 i).2.2.2.2.2.2.1≤5
 case neg=>
  rw [if_neg (fun z=>hp z.1)]
  simp (disch:=omega) only [lett_e,bnd_s,bnd_chk,br_not,br_t,br_f,br_T,br_F,not_true_eq_false,not_false_eq_true,chk_T,chk_F,chk_eq,eqI_dc,ltI_dc,leI_dc,eqN_dc,notB_dc,andB_dc,andB_t,eqB_dc,notB_t,notB_f,inR_dc,upR_dc,ln_e,app_e,tk_e,dp_e,upd_e,repl_e,natI_n,br_pos,br_neg,addI_n,fitN_T,subI_id,e1,natI_n,ef,spec_l01In_f]
 by_cases hg:(flOf x i).2.2.2.1=true∨((rdP (0,0,0,0,0,0,0,0,0,0,()) x.2.2.2.2.2.2.2.2.2.2.2.2.2.2.2.2.1 i).2.2.2.2.2.2.1=2∧(rdP (0,0,0,0,0,0,0,0,0,0,()) x.2.2.2.2.2.2.2.2.2.2.2.2.2.2.2.2.1 i).2.2.2.2.2.2.2.2.2.1≠1)
 case neg=>
  rw [if_neg (fun z=>hg z.2)]
  have hd:(flOf x i).2.2.2.1=false:=by simpa using fun z=>hg (.inl z)
  by_cases h2':(rdP (0,0,0,0,0,0,0,0,0,0,()) x.2.2.2.2.2.2.2.2.2.2.2.2.2.2.2.2.1 i).2.2.2.2.2.2.1=2
  ·have hv:(rdP (0,0,0,0,0,0,0,0,0,0,()) x.2.2.2.2.2.2.2.2.2.2.2.2.2.2.2.2.1 i).2.2.2.2.2.2.2.2.2.1=1:=by
    by_cases e:(rdP (0,0,0,0,0,0,0,0,0,0,()) x.2.2.2.2.2.2.2.2.2.2.2.2.2.2.2.2.1 i).2.2.2.2.2.2.2.2.2.1=1
    ·exact e
    ·exact absurd (.inr ⟨h2',e⟩) hg
   simp (disch:=omega) only [lett_e,bnd_s,bnd_chk,br_not,br_t,br_f,br_T,br_F,not_true_eq_false,not_false_eq_true,chk_T,chk_F,chk_eq,eqI_dc,ltI_dc,leI_dc,eqN_dc,notB_dc,andB_dc,andB_t,eqB_dc,notB_t,notB_f,inR_dc,upR_dc,ln_e,app_e,tk_e,dp_e,upd_e,repl_e,natI_n,br_pos,br_neg,addI_n,fitN_T,subI_id,e1,natI_n,ef,spec_l01In_f,hd]
  ·simp (disch:=omega) only [lett_e,bnd_s,bnd_chk,br_not,br_t,br_f,br_T,br_F,not_true_eq_false,not_false_eq_true,chk_T,chk_F,chk_eq,eqI_dc,ltI_dc,leI_dc,eqN_dc,notB_dc,andB_dc,andB_t,eqB_dc,notB_t,notB_f,inR_dc,upR_dc,ln_e,app_e,tk_e,dp_e,upd_e,repl_e,natI_n,br_pos,br_neg,addI_n,fitN_T,subI_id,e1,natI_n,ef,spec_l01In_f,hd]
 rw [if_pos ⟨hp,hg⟩]
 by_cases h5:(rdP (0,0,0,0,0,0,0,0,0,0,()) x.2.2.2.2.2.2.2.2.2.2.2.2.2.2.2.2.1 i).2.2.2.2.2.2.1=5
 ·rw [if_pos h5]
  have h1:spec_TakeBag.f k (x.2.2.2.2.2.2.2.2.2.2.2.2.1,x.2.2.2.2.2.2.2.2.2.2.2.2.2.1,()) ((i:Int)+1)=some (takeM (storeOf x) ((i:Int)+1)):=spec_TakeBag_m hk h.2.2.2.2.2.1 (hin h5)
  have hd:(flOf x i).2.2.2.1=true:=by
   rcases hg with e|e
   ·exact e
   ·omega
  generalize htk:takeM (storeOf x) ((i:Int)+1)=tk at*
  obtain⟨s,hops,ok,_⟩:=tk
  cases ok with
  |false=>
   rw [if_neg (by simp)]
   simp (disch:=omega) only [lett_e,bnd_s,bnd_chk,br_not,br_t,br_f,br_T,br_F,not_true_eq_false,not_false_eq_true,chk_T,chk_F,chk_eq,eqI_dc,ltI_dc,leI_dc,eqN_dc,notB_dc,andB_dc,andB_t,eqB_dc,notB_t,notB_f,inR_dc,upR_dc,ln_e,app_e,tk_e,dp_e,upd_e,repl_e,natI_n,br_pos,br_neg,addI_n,fitN_T,subI_id,e1,natI_n,ef,spec_l01In_f,hd,h1]
  |true=>
   rw [if_pos rfl]
   simp (disch:=omega) only [lett_e,bnd_s,bnd_chk,br_not,br_t,br_f,br_T,br_F,not_true_eq_false,not_false_eq_true,chk_T,chk_F,chk_eq,eqI_dc,ltI_dc,leI_dc,eqN_dc,notB_dc,andB_dc,andB_t,eqB_dc,notB_t,notB_f,inR_dc,upR_dc,ln_e,app_e,tk_e,dp_e,upd_e,repl_e,natI_n,br_pos,br_neg,addI_n,fitN_T,subI_id,e1,natI_n,ef,spec_l01In_f,hd,h1,h2,h3]
   rfl
 ·rw [if_neg h5]
  rcases hg with hd|⟨h2',hv⟩
  ·simp (disch:=omega) only [lett_e,bnd_s,bnd_chk,br_not,br_t,br_f,br_T,br_F,not_true_eq_false,not_false_eq_true,chk_T,chk_F,chk_eq,eqI_dc,ltI_dc,leI_dc,eqN_dc,notB_dc,andB_dc,andB_t,eqB_dc,notB_t,notB_f,inR_dc,upR_dc,ln_e,app_e,tk_e,dp_e,upd_e,repl_e,natI_n,br_pos,br_neg,addI_n,fitN_T,subI_id,e1,natI_n,ef,spec_l01In_f,hd,h2,h3]
   rfl
  ·cases hd:(flOf x i).2.2.2.1 with
   |true=>
    simp (disch:=omega) only [lett_e,bnd_s,bnd_chk,br_not,br_t,br_f,br_T,br_F,not_true_eq_false,not_false_eq_true,chk_T,chk_F,chk_eq,eqI_dc,ltI_dc,leI_dc,eqN_dc,notB_dc,andB_dc,andB_t,eqB_dc,notB_t,notB_f,inR_dc,upR_dc,ln_e,app_e,tk_e,dp_e,upd_e,repl_e,natI_n,br_pos,br_neg,addI_n,fitN_T,subI_id,e1,natI_n,ef,spec_l01In_f,hd,h2,h3]
    rfl
   |false=>
    simp (disch:=omega) only [lett_e,bnd_s,bnd_chk,br_not,br_t,br_f,br_T,br_F,not_true_eq_false,not_false_eq_true,chk_T,chk_F,chk_eq,eqI_dc,ltI_dc,leI_dc,eqN_dc,notB_dc,andB_dc,andB_t,eqB_dc,notB_t,notB_f,inR_dc,upR_dc,ln_e,app_e,tk_e,dp_e,upd_e,repl_e,natI_n,br_pos,br_neg,addI_n,fitN_T,subI_id,e1,natI_n,ef,spec_l01In_f,hd,h2,h3]
    rfl
end Go.Proofs.YtcfbjloblbhdhaaGreat.Eng
namespace Go.Proofs.YtcfbjloblbhdhaaGreat.Eng
abbrev CmdT:=Int×Int×Int×Int×Int×Int×Int×Int×Int×Int×Int×Int×Int×Int×Unit
def newC (c:CmdT):CaseT:=(c.2.2.2.2.2.2.1,c.2.2.2.2.2.2.2.1,c.2.2.2.2.2.2.2.2.1,c.2.2.1,c.2.2.2.2.1,c.2.2.2.2.2.1,1,0,0,0,())
noncomputable def chkB (x:HallT) (c:CmdT):BeltT×Bool×Unit:=enterM (x.2.2.2.2.1,x.2.2.2.2.2.1,x.2.2.2.2.2.2.1,x.2.2.2.2.2.2.2.1,()) ((x.2.2.2.2.2.2.2.2.2.2.2.2.2.2.2.2.1.length:Int)+1) c.2.2.2.1
def tagEq (e:CaseT) (c:CmdT):Prop:=e.1=c.2.2.2.2.2.2.1∧e.2.1=c.2.2.2.2.2.2.2.1∧e.2.2.1=c.2.2.2.2.2.2.2.2.1
noncomputable def checkOk (x:HallT) (c:CmdT):Prop:=x.2.2.2.2.2.2.2.2.2.2.2.2.2.2.2.2.1.length<60∧TagP (c.2.2.2.2.2.2.1,c.2.2.2.2.2.2.2.1,c.2.2.2.2.2.2.2.2.1,())∧(1≤c.2.2.1∧c.2.2.1≤x.2.2.2.2.2.2.2.2.2.2.2.2.2.2.2.1.length)∧(rdP (0,0,0,false,0,()) x.2.2.2.2.2.2.2.2.2.2.2.2.2.2.2.1 (natI (c.2.2.1-1))).2.2.2.1=false∧
 (1≤c.2.2.2.2.1∧c.2.2.2.2.1≤60)∧(0≤c.2.2.2.2.2.1∧c.2.2.2.2.2.1≤5)∧(¬ ∃j,j<x.2.2.2.2.2.2.2.2.2.2.2.2.2.2.2.2.1.length∧tagEq (rdP (0,0,0,0,0,0,0,0,0,0,()) x.2.2.2.2.2.2.2.2.2.2.2.2.2.2.2.2.1 j) c)∧(chkB x c).2.1=true
def addC (x:HallT) (b:BeltT) (e:CaseT):HallT:=(x.1,x.2.1,x.2.2.1,x.2.2.2.1,b.1,b.2.1,b.2.2.1,b.2.2.2.1,x.2.2.2.2.2.2.2.2.1,x.2.2.2.2.2.2.2.2.2.1,x.2.2.2.2.2.2.2.2.2.2.1,x.2.2.2.2.2.2.2.2.2.2.2.1,x.2.2.2.2.2.2.2.2.2.2.2.2.1,x.2.2.2.2.2.2.2.2.2.2.2.2.2.1,x.2.2.2.2.2.2.2.2.2.2.2.2.2.2.1,x.2.2.2.2.2.2.2.2.2.2.2.2.2.2.2.1,x.2.2.2.2.2.2.2.2.2.2.2.2.2.2.2.2.1++[e],())
noncomputable def checkM (x:HallT) (c:CmdT):HallT×Bool×Unit:= @ite _ (checkOk x c) (Classical.propDecidable _) (addC x (chkB x c).1 (newC c),true,()) (x,false,())
theorem enter_facts {b:BeltT} {bag size:Int} (h:(enterM b bag size).2.1=true):(enterM b bag size).1.2.2.2.1=b.2.2.2.1++[(bag,size,size,())]:=by
 unfold enterM at h ⊢
 split at h
 case isFalse=>cases h
 rename_i hh
 rw [if_pos hh]
theorem check_ok {x:HallT} {c:CmdT} (h:HallP x):HallP (checkM x c).1:=by
 unfold checkM
 split
 case isFalse=>exact h
 rename_i hh
 obtain⟨k1,k2,k3,k4,k5,k6,k7,k8⟩:=hh
 obtain⟨h1,h2,h3,h4,h5,h6,h7,h8,h9,h10,h11,h12,h13,h14,h15⟩:=h
 have hb:BeltP (chkB x c).1:=enter_ok h4
 have hit:(chkB x c).1.2.2.2.1=x.2.2.2.2.2.2.2.1++[((x.2.2.2.2.2.2.2.2.2.2.2.2.2.2.2.2.1.length:Int)+1,c.2.2.2.1,c.2.2.2.1,())]:=enter_facts k8
 generalize (chkB x c).1=b at*
 have hlen:(x.2.2.2.2.2.2.2.2.2.2.2.2.2.2.2.2.1++[newC c]).length=x.2.2.2.2.2.2.2.2.2.2.2.2.2.2.2.2.1.length+1:=by simp
 have hl:∀i,i<x.2.2.2.2.2.2.2.2.2.2.2.2.2.2.2.2.1.length→rdP (0,0,0,0,0,0,0,0,0,0,()) (x.2.2.2.2.2.2.2.2.2.2.2.2.2.2.2.2.1++[newC c]) i=rdP (0,0,0,0,0,0,0,0,0,0,()) x.2.2.2.2.2.2.2.2.2.2.2.2.2.2.2.2.1 i:=fun i hi=>rd_app_l hi
 have hr:rdP (0,0,0,0,0,0,0,0,0,0,()) (x.2.2.2.2.2.2.2.2.2.2.2.2.2.2.2.2.1++[newC c]) x.2.2.2.2.2.2.2.2.2.2.2.2.2.2.2.2.1.length=newC c:=by rw [rd_app_r (Nat.le_refl _),Nat.sub_self];rfl
 have hon:∀i:Int,(∃y,y∈b.2.2.2.1∧y.1=i)↔(∃y,y∈x.2.2.2.2.2.2.2.1∧y.1=i)∨i=(x.2.2.2.2.2.2.2.2.2.2.2.2.2.2.2.2.1.length:Int)+1:=by
  intro i
  rw [hit]
  constructor
  ·rintro ⟨y,hy,e⟩
   rcases List.mem_append.1 hy with hy|hy
   ·exact .inl ⟨y,hy,e⟩
   ·rw [List.mem_singleton.1 hy]at e;exact .inr e.symm
  ·rintro (⟨y,hy,e⟩|e)
   ·exact⟨y,List.mem_append_left _ hy,e⟩
   ·exact⟨_,List.mem_append_right _ (List.mem_singleton.2 rfl),e.symm⟩
 refine⟨h1,h2,h3,hb,h5,h6,h7,h8,by show (x.2.2.2.2.2.2.2.2.2.2.2.2.2.2.2.2.1++[newC c]).length≤60;omega,h10,fun i hi=> ?_,fun y hy=> ?_,fun y hy=> ?_,fun d hd y hy=> ?_,fun d hd y hy=> ?_⟩
 ·have hi:i<(x.2.2.2.2.2.2.2.2.2.2.2.2.2.2.2.2.1++[newC c]).length:=hi
  show CaseP (addC x b (newC c)) i (rdP (0,0,0,0,0,0,0,0,0,0,()) (x.2.2.2.2.2.2.2.2.2.2.2.2.2.2.2.2.1++[newC c]) i)
  by_cases e:i<x.2.2.2.2.2.2.2.2.2.2.2.2.2.2.2.2.1.length
  ·rw [hl i e]
   obtain⟨c1,c2,c3,c4,c5,c6,c7,c8,c9,c10,c11,c12,c13,c14⟩:=h11 i e
   refine⟨c1,c2,c3,c4,c5,fun j hj=> ?_,c7,c8,c9,c10,?_,c12,c13,c14⟩
   ·show ¬((rdP (0,0,0,0,0,0,0,0,0,0,()) (x.2.2.2.2.2.2.2.2.2.2.2.2.2.2.2.2.1++[newC c]) j).1=_∧(rdP (0,0,0,0,0,0,0,0,0,0,()) (x.2.2.2.2.2.2.2.2.2.2.2.2.2.2.2.2.1++[newC c]) j).2.1=_∧(rdP (0,0,0,0,0,0,0,0,0,0,()) (x.2.2.2.2.2.2.2.2.2.2.2.2.2.2.2.2.1++[newC c]) j).2.2.1=_)
    rw [hl j (by omega)];exact c6 j hj
   ·refine(hon _).trans ⟨fun z=> ?_,fun z=> .inl (c11.2 z)⟩
    rcases z with z|z
    ·exact c11.1 z
    ·omega
  ·obtain rfl:i=x.2.2.2.2.2.2.2.2.2.2.2.2.2.2.2.2.1.length:=by omega
   rw [hr]
   refine⟨k2,k3,k5,k6,by show (1:Int)≤1∧(1:Int)≤7;omega,fun j hj=> ?_,?_,?_,?_,?_,?_,?_,?_,?_⟩
   ·show ¬((rdP (0,0,0,0,0,0,0,0,0,0,()) (x.2.2.2.2.2.2.2.2.2.2.2.2.2.2.2.2.1++[newC c]) j).1=_∧(rdP (0,0,0,0,0,0,0,0,0,0,()) (x.2.2.2.2.2.2.2.2.2.2.2.2.2.2.2.2.1++[newC c]) j).2.1=_∧(rdP (0,0,0,0,0,0,0,0,0,0,()) (x.2.2.2.2.2.2.2.2.2.2.2.2.2.2.2.2.1++[newC c]) j).2.2.1=_)
    rw [hl j hj];exact fun z=>k7 ⟨j,hj,z⟩
   ·rw [if_pos (show (newC c).2.2.2.2.2.2.1=1 from rfl)];exact⟨rfl,rfl,rfl⟩
   ·intro _;show (1:Int)≠3∧(1:Int)≠4∧(1:Int)≠5∧(1:Int)≠6;omega
   ·rintro ⟨z,_⟩;have z:(1:Int)=2:=z;omega
   ·intro z;have z:(1:Int)=6:=z;omega
   ·exact(hon _).trans (iff_of_true (.inr rfl) rfl)
   ·exact iff_of_false (fun z=>by have:=h13 _ z;dsimp only at this;omega) (by show ¬(1:Int)=3;omega)
   ·exact iff_of_false (fun ⟨d,hd,z⟩=>by have:=h14 d hd _ z;dsimp only at this;omega) (by show ¬(1:Int)=4;omega)
   ·exact iff_of_false (fun ⟨d,hd,y,hy,z⟩=>by have:=h15 d hd y hy;omega) (by show ¬(1:Int)=5;omega)
 ·show y.1≤((x.2.2.2.2.2.2.2.2.2.2.2.2.2.2.2.2.1++[newC c]).length:Int)
  rcases (hon y.1).1 ⟨y,hy,rfl⟩with⟨z,hz,e⟩|e
  ·have:=h12 z hz;omega
  ·omega
 ·show y.1≤((x.2.2.2.2.2.2.2.2.2.2.2.2.2.2.2.2.1++[newC c]).length:Int)
  have:=h13 y hy;omega
 ·show y.1≤((x.2.2.2.2.2.2.2.2.2.2.2.2.2.2.2.2.1++[newC c]).length:Int)
  have:=h14 d hd y hy;omega
 ·show y.1≤((x.2.2.2.2.2.2.2.2.2.2.2.2.2.2.2.2.1++[newC c]).length:Int)
  have:=h15 d hd y hy;omega
set_option maxHeartbeats 1000000 in
theorem spec_l09Check_f {k:Nat} (hk:K0≤k) (x:HallT) (c:CmdT) (h:HallP x):spec_l09Check.f k x c=some (checkM x c):=by
 have hs:=hallP_sz h
 have hcl:=hs.cases_
 have hfl:=hs.flights
 have h1:spec_Enter.f k (x.2.2.2.2.1,x.2.2.2.2.2.1,x.2.2.2.2.2.2.1,x.2.2.2.2.2.2.2.1,()) ((x.2.2.2.2.2.2.2.2.2.2.2.2.2.2.2.2.1.length:Int)+1) c.2.2.2.1=some (chkB x c):=spec_Enter_f hk (x.2.2.2.2.1,x.2.2.2.2.2.1,x.2.2.2.2.2.2.1,x.2.2.2.2.2.2.2.1,()) _ _ (beltP_s h.2.2.2.1)
 have h2:=spec_l09Copy_f hk x hs
 have h3:=spec_TagOk_f k (c.2.2.2.2.2.2.1,c.2.2.2.2.2.2.2.1,c.2.2.2.2.2.2.2.2.1,())
 have hf:=fit1 (newC c) hcl
 have hk':=hk
 unfold K0 at hk
 unfold spec_l09Check.f checkM
 by_cases k1:x.2.2.2.2.2.2.2.2.2.2.2.2.2.2.2.2.1.length<60
 case neg=>rw [if_neg (fun z=>k1 z.1)];simp (disch:=omega) only [lett_e,bnd_s,bnd_chk,br_not,br_t,br_f,br_T,br_F,not_true_eq_false,not_false_eq_true,chk_T,chk_F,chk_eq,eqI_dc,ltI_dc,leI_dc,eqN_dc,notB_dc,andB_dc,andB_t,eqB_dc,notB_t,notB_f,inR_dc,upR_dc,ln_e,app_e,tk_e,dp_e,upd_e,repl_e,natI_n,br_pos,br_neg,addI_n,fitN_T]
 by_cases k2:TagP (c.2.2.2.2.2.2.1,c.2.2.2.2.2.2.2.1,c.2.2.2.2.2.2.2.2.1,())
 case neg=>rw [if_neg (fun z=>k2 z.2.1)];rw [leI_dc,ln_e,br_neg (by omega),h3,bnd_chk,br_not,br_neg k2]
 rw [leI_dc,ln_e,br_neg (by omega),h3,bnd_chk,br_not,br_pos k2]
 by_cases k3:1≤c.2.2.1∧c.2.2.1≤x.2.2.2.2.2.2.2.2.2.2.2.2.2.2.2.1.length
 case neg=>rw [if_neg (fun z=>k3 z.2.2.1)];simp (disch:=omega) only [lett_e,bnd_s,bnd_chk,br_not,br_t,br_f,br_T,br_F,not_true_eq_false,not_false_eq_true,chk_T,chk_F,chk_eq,eqI_dc,ltI_dc,leI_dc,eqN_dc,notB_dc,andB_dc,andB_t,eqB_dc,notB_t,notB_f,inR_dc,upR_dc,ln_e,app_e,tk_e,dp_e,upd_e,repl_e,natI_n,br_pos,br_neg,addI_n,fitN_T,spec_l01In_f]
 have hfn:natI (c.2.2.1-1)<x.2.2.2.2.2.2.2.2.2.2.2.2.2.2.2.1.length:=by unfold natI;omega
 cases k4:(rdP (0,0,0,false,0,()) x.2.2.2.2.2.2.2.2.2.2.2.2.2.2.2.1 (natI (c.2.2.1-1))).2.2.2.1 with
 |true=>rw [if_neg (fun z=>by have:=z.2.2.2.1;rw [k4]at this;cases this)];simp (disch:=omega) only [lett_e,bnd_s,bnd_chk,br_not,br_t,br_f,br_T,br_F,not_true_eq_false,not_false_eq_true,chk_T,chk_F,chk_eq,eqI_dc,ltI_dc,leI_dc,eqN_dc,notB_dc,andB_dc,andB_t,eqB_dc,notB_t,notB_f,inR_dc,upR_dc,ln_e,app_e,tk_e,dp_e,upd_e,repl_e,natI_n,br_pos,br_neg,addI_n,fitN_T,spec_l01In_f,subI_id,k4]
 |false=>
 by_cases k5:1≤c.2.2.2.2.1∧c.2.2.2.2.1≤60
 case neg=>rw [if_neg (fun z=>k5 z.2.2.2.2.1)];simp (disch:=omega) only [lett_e,bnd_s,bnd_chk,br_not,br_t,br_f,br_T,br_F,not_true_eq_false,not_false_eq_true,chk_T,chk_F,chk_eq,eqI_dc,ltI_dc,leI_dc,eqN_dc,notB_dc,andB_dc,andB_t,eqB_dc,notB_t,notB_f,inR_dc,upR_dc,ln_e,app_e,tk_e,dp_e,upd_e,repl_e,natI_n,br_pos,br_neg,addI_n,fitN_T,spec_l01In_f,subI_id,k4]
 by_cases k6:0≤c.2.2.2.2.2.1∧c.2.2.2.2.2.1≤5
 case neg=>rw [if_neg (fun z=>k6 z.2.2.2.2.2.1)];simp (disch:=omega) only [lett_e,bnd_s,bnd_chk,br_not,br_t,br_f,br_T,br_F,not_true_eq_false,not_false_eq_true,chk_T,chk_F,chk_eq,eqI_dc,ltI_dc,leI_dc,eqN_dc,notB_dc,andB_dc,andB_t,eqB_dc,notB_t,notB_f,inR_dc,upR_dc,ln_e,app_e,tk_e,dp_e,upd_e,repl_e,natI_n,br_pos,br_neg,addI_n,fitN_T,spec_l01In_f,subI_id,k4]
 have tail:∀ {R:Type} (A B:Option R),loopN (fun rec7 (c6:Int×Unit)=>br (ltI c6.1 (ln x.2.2.2.2.2.2.2.2.2.2.2.2.2.2.2.2.1)) (br (inR c6.1 (ln x.2.2.2.2.2.2.2.2.2.2.2.2.2.2.2.2.1)) (lett (rdP (0,0,0,0,0,0,0,0,0,0,()) x.2.2.2.2.2.2.2.2.2.2.2.2.2.2.2.2.1 (natI c6.1)) fun e8=>br (andB (eqI e8.1 c.2.2.2.2.2.2.1) (andB (eqI e8.2.1 c.2.2.2.2.2.2.2.1) (andB (eqI e8.2.2.1 c.2.2.2.2.2.2.2.2.1) true))) A (rec7 (addI .i64 c6.1 1,()))) none) B) k (0,())=br (dc (∃j,j<x.2.2.2.2.2.2.2.2.2.2.2.2.2.2.2.2.1.length∧tagEq (rdP (0,0,0,0,0,0,0,0,0,0,()) x.2.2.2.2.2.2.2.2.2.2.2.2.2.2.2.2.1 j) c)) A B:=by
  intro R A B
  refine loop_any (n:=x.2.2.2.2.2.2.2.2.2.2.2.2.2.2.2.2.1.length) (fun i=>((i:Int),())) (fun j=>tagEq (rdP (0,0,0,0,0,0,0,0,0,0,()) x.2.2.2.2.2.2.2.2.2.2.2.2.2.2.2.2.1 j) c) ?_ ?_ ?_ ?_
  ·simp
  ·omega
  ·intro i hi _ rec
   unfold tagEq
   simp (disch:=omega) only [lett_e,bnd_s,bnd_chk,br_not,br_t,br_f,br_T,br_F,not_true_eq_false,not_false_eq_true,chk_T,chk_F,chk_eq,eqI_dc,ltI_dc,leI_dc,eqN_dc,notB_dc,andB_dc,andB_t,eqB_dc,notB_t,notB_f,inR_dc,upR_dc,ln_e,app_e,tk_e,dp_e,upd_e,repl_e,natI_n,br_pos,br_neg,addI_n,fitN_T]
   rfl
  ·intro _ rec;simp (disch:=omega) only [lett_e,bnd_s,bnd_chk,br_not,br_t,br_f,br_T,br_F,not_true_eq_false,not_false_eq_true,chk_T,chk_F,chk_eq,eqI_dc,ltI_dc,leI_dc,eqN_dc,notB_dc,andB_dc,andB_t,eqB_dc,notB_t,notB_f,inR_dc,upR_dc,ln_e,app_e,tk_e,dp_e,upd_e,repl_e,natI_n,br_pos,br_neg,addI_n,fitN_T]
 rw [spec_l01In_f,bnd_chk,br_not,ln_e,br_pos k3,subI_id (by omega),inR_dc,br_pos (by omega),lett_e,k4,br_f,spec_l01In_f,bnd_chk,br_not,br_pos k5,spec_l01In_f,bnd_chk,br_not,br_pos k6]
 refine(tail _ _).trans ?_
 by_cases k7:∃j,j<x.2.2.2.2.2.2.2.2.2.2.2.2.2.2.2.2.1.length∧tagEq (rdP (0,0,0,0,0,0,0,0,0,0,()) x.2.2.2.2.2.2.2.2.2.2.2.2.2.2.2.2.1 j) c
 case pos=>rw [br_pos k7,if_neg (fun z=>z.2.2.2.2.2.2.1 k7)]
 rw [br_neg k7]
 by_cases k8:(chkB x c).2.1=true
 case neg=>
  have k8':(chkB x c).2.1=false:=by simpa using k8
  rw [if_neg (fun z=>k8 z.2.2.2.2.2.2.2)]
  simp (disch:=omega) only [lett_e,bnd_s,bnd_chk,br_not,br_t,br_f,br_T,br_F,not_true_eq_false,not_false_eq_true,chk_T,chk_F,chk_eq,eqI_dc,ltI_dc,leI_dc,eqN_dc,notB_dc,andB_dc,andB_t,eqB_dc,notB_t,notB_f,inR_dc,upR_dc,ln_e,app_e,tk_e,dp_e,upd_e,repl_e,natI_n,br_pos,br_neg,addI_n,fitN_T,h1,k8']
 rw [if_pos ⟨k1,k2,k3,k4,k5,k6,k7,k8⟩]
 have hf':fitL x.2.2.2.2.2.2.2.2.2.2.2.2.2.2.2.2.1 [(c.2.2.2.2.2.2.1,c.2.2.2.2.2.2.2.1,c.2.2.2.2.2.2.2.2.1,c.2.2.1,c.2.2.2.2.1,c.2.2.2.2.2.1,1,0,0,0,())]=true:=hf
 simp (disch:=omega) only [lett_e,bnd_s,bnd_chk,br_not,br_t,br_f,br_T,br_F,not_true_eq_false,not_false_eq_true,chk_T,chk_F,chk_eq,eqI_dc,ltI_dc,leI_dc,eqN_dc,notB_dc,andB_dc,andB_t,eqB_dc,notB_t,notB_f,inR_dc,upR_dc,ln_e,app_e,tk_e,dp_e,upd_e,repl_e,natI_n,br_pos,br_neg,addI_n,fitN_T,h1,k8,h2,hf']
 rfl
end Go.Proofs.YtcfbjloblbhdhaaGreat.Eng
namespace Go.Proofs.YtcfbjloblbhdhaaGreat.Eng
theorem mem_inCh {l:List Chute} {b:Int}:(b,())∈inCh l↔∃c,c∈l∧(b,())∈c.2.2.1:=by unfold inCh;simp [List.mem_flatMap]
theorem mem_bagsL {l:LoopT} {b:Int}:(b,())∈bagsL l↔((b,())∈l.1∧b≠0)∨InC l b:=by
 unfold bagsL InC nz
 rw [List.mem_append,mem_inCh,List.mem_filter]
 simp
theorem lpC_facts {tn:Int} {W:List Want} {p:List (Int×Unit)×List Chute} {i:Nat} (h:LoopP (p.1,tn,p.2,W,())) (hi:i<p.2.length):(bagsL ((lpC tn W p i).1,tn,(lpC tn W p i).2,W,())).Perm (bagsL (p.1,tn,p.2,W,()))∧∀b,(b,())∈inCh p.2→(b,())∈inCh (lpC tn W p i).2:=by
 unfold lpC
 split
 case isFalse=>exact⟨List.Perm.refl _,fun _ z=>z⟩
 case isTrue hg=>
  obtain⟨g1,g2,g3⟩:=hg
  obtain⟨p1,p2,p3,p4,p5,p6,p7,p8,p9,p10⟩:=h
  have hc:=p5 _ (by rw [rd_lt hi];exact List.getElem_mem hi:rdP (0,0,[],()) p.2 i∈p.2)
  have hc1:=hc.1
  dsimp only at p1 p2 p3 p4 p5 p6 p9 hc hc1
  have ht:=trayM_b (l:=(p.1,tn,p.2,W,())) (a:=(rdP (0,0,[],()) p.2 i).1) hc.1 p2
  dsimp only at ht
  have htn:lpT tn W p i<p.1.length:=by unfold lpT natI;omega
  have e1:(nz p.1).Perm ((lpB tn W p i,())::nz (p.1.set (lpT tn W p i) (0,()))):=nz_take htn g1
  have e2:(inCh (p.2.set i ((rdP (0,0,[],()) p.2 i).1,(rdP (0,0,[],()) p.2 i).2.1,(rdP (0,0,[],()) p.2 i).2.2.1++[(lpB tn W p i,())],()))).Perm ((lpB tn W p i,())::inCh p.2):=by
   have e3:inCh p.2=inCh (p.2.take i)++((rdP (0,0,[],()) p.2 i).2.2.1++inCh (p.2.drop (i+1))):=by
    have:=congrArg inCh (split_at hi)
    rw [this,rd_lt hi]
    simp only [inCh,List.flatMap_append,List.flatMap_cons]
   have e4:inCh (p.2.set i ((rdP (0,0,[],()) p.2 i).1,(rdP (0,0,[],()) p.2 i).2.1,(rdP (0,0,[],()) p.2 i).2.2.1++[(lpB tn W p i,())],()))=(inCh (p.2.take i)++(rdP (0,0,[],()) p.2 i).2.2.1)++(lpB tn W p i,())::inCh (p.2.drop (i+1)):=by
    rw [set_split hi]
    simp [inCh]
   rw [e4,e3,←List.append_assoc]
   exact List.perm_middle
  have e5:(bagsL (p.1,tn,p.2,W,())).Perm ((lpB tn W p i,())::(nz (p.1.set (lpT tn W p i) (0,()))++inCh p.2)):=e1.append_right _
  have e6:(nz (p.1.set (lpT tn W p i) (0,()))++inCh (p.2.set i ((rdP (0,0,[],()) p.2 i).1,(rdP (0,0,[],()) p.2 i).2.1,(rdP (0,0,[],()) p.2 i).2.2.1++[(lpB tn W p i,())],()))).Perm ((lpB tn W p i,())::(nz (p.1.set (lpT tn W p i) (0,()))++inCh p.2)):=(e2.append_left _).trans List.perm_middle
  exact⟨e6.trans e5.symm,fun b hb=>e2.mem_iff.2 (List.mem_cons_of_mem _ hb)⟩
theorem lpS_facts {tn:Int} {W:List Want} {p:List (Int×Unit)×List Chute} (h:LoopP (p.1,tn,p.2,W,())):∀i,i≤p.2.length→(bagsL ((lpS tn W p i).1,tn,(lpS tn W p i).2,W,())).Perm (bagsL (p.1,tn,p.2,W,()))∧∀b,(b,())∈inCh p.2→(b,())∈inCh (lpS tn W p i).2
 |0,_=>⟨List.Perm.refl _,fun _ z=>z⟩
 |i+1,hi=>by
  obtain⟨a1,a2⟩:=lpS_facts h i (by omega)
  obtain⟨b1,b2⟩:=lpC_facts (i:=i) (lpS_ok h i (by omega)) (by rw [(lpS_len tn W p i).1];omega)
  exact⟨b1.trans a1,fun b hb=>b2 b (a2 b hb)⟩
theorem step_facts {l:LoopT} (h:LoopP l):(∀b:Int,((b,())∈(stepLp l).1∧b≠0)∨InC (stepLp l) b↔((b,())∈l.1∧b≠0)∨InC l b)∧(∀b,InC l b→InC (stepLp l) b)∧(∀b:Int,InC (stepLp l) b→(b,())∉(stepLp l).1)∧(stepLp l).2.2.1.length=l.2.2.1.length:=by
 obtain⟨h1,h2⟩:=lpS_facts (p:=(l.1,l.2.2.1)) (turned_ok h) l.2.2.1.length (Nat.le_refl _)
 have hp:(bagsL (stepLp l)).Perm (bagsL l):=h1
 refine⟨fun b=>by rw [←mem_bagsL,←mem_bagsL];exact hp.mem_iff,fun b hb=>mem_inCh.1 (h2 b (mem_inCh.2 hb)),fun b hb hm=> ?_,(lpS_len _ _ _ _).1⟩
 have hok:=stepLp_ok h
 have h8:(nz (stepLp l).1++inCh (stepLp l).2.2.1).Nodup:=hok.2.2.2.2.2.2.2.1
 have hb1:1≤b:=hok.2.2.2.2.2.2.1 (b,()) (mem_bagsL.2 (.inr hb))
 refine(List.nodup_append.1 h8).2.2 (b,()) ?_ (b,()) (mem_inCh.2 hb) rfl
 unfold nz
 rw [List.mem_filter]
 exact⟨hm,by simp;omega⟩
def scrd (e:CaseT) (t:Int):CaseT:=(e.1,e.2.1,e.2.2.1,e.2.2.2.1,e.2.2.2.2.1,e.2.2.2.2.2.1,2,1,t,0,())
noncomputable def lvB (x:HallT):BeltT×Int×Bool×Unit:=leaveM (x.2.2.2.2.1,x.2.2.2.2.2.1,x.2.2.2.2.2.2.1,x.2.2.2.2.2.2.2.1,())
noncomputable def cs1 (x:HallT):List CaseT:=if (lvB x).2.2.1=true then x.2.2.2.2.2.2.2.2.2.2.2.2.2.2.2.2.1.set (natI ((lvB x).2.1-1)) (scrd (rdP (0,0,0,0,0,0,0,0,0,0,()) x.2.2.2.2.2.2.2.2.2.2.2.2.2.2.2.2.1 (natI ((lvB x).2.1-1))) (x.1+1))else x.2.2.2.2.2.2.2.2.2.2.2.2.2.2.2.2.1
def fold4:List (Int×Unit)→List CaseT→List CaseT
 | [],cs=>cs
 |b::bs,cs=>fold4 bs (cs.set (natI (b.1-1)) (placed (rdP (0,0,0,0,0,0,0,0,0,0,()) cs (natI (b.1-1))) 4))
theorem fold4_app:∀(a b:List (Int×Unit)) (cs:List CaseT),fold4 (a++b) cs=fold4 b (fold4 a cs)
 | [],_,_=>rfl
 |x::a,b,cs=>fold4_app a b _
theorem fold4_len:∀(a:List (Int×Unit)) (cs:List CaseT),(fold4 a cs).length=cs.length
 | [],_=>rfl
 |x::a,cs=>by rw [fold4,fold4_len];simp
theorem fold4_at:∀(a:List (Int×Unit)) (cs:List CaseT) (i:Nat),i<cs.length→(∀b∈a,1≤b.1)→rdP (0,0,0,0,0,0,0,0,0,0,()) (fold4 a cs) i=if ((i:Int)+1,())∈a then placed (rdP (0,0,0,0,0,0,0,0,0,0,()) cs i) 4 else rdP (0,0,0,0,0,0,0,0,0,0,()) cs i
 | [],cs,i,_,_=>by rw [if_neg (by simp)];rfl
 |b::a,cs,i,hi,hb=>by
  have hb1:=hb b (List.mem_cons_self ..)
  rw [fold4,fold4_at a _ i (by simpa using hi) (fun c hc=>hb c (List.mem_cons_of_mem _ hc))]
  by_cases e:natI (b.1-1)=i
  ·have eb:b=((i:Int)+1,()):=by
    obtain⟨b,u⟩:=b
    cases u
    have:b=(i:Int)+1:=by unfold natI at e;dsimp only at*;omega
    rw [this]
   rw [if_pos (show ((i:Int)+1,())∈b::a by rw [eb];exact List.mem_cons_self ..),e,rd_set_i hi]
   split<;>rfl
  ·rw [rd_set_o e]
   have ne:((i:Int)+1,())≠b:=by
    rintro rfl
    apply e
    unfold natI;dsimp only;omega
   by_cases hm:((i:Int)+1,())∈a
   ·rw [if_pos hm,if_pos (List.mem_cons_of_mem _ hm)]
   ·rw [if_neg hm,if_neg (fun z=>by rcases List.mem_cons.1 z with z|z;exact ne z;exact hm z)]
noncomputable def tickM (x:HallT):HallT:=(x.1+1,x.2.1,x.2.2.1,x.2.2.2.1,(stepB (lvB x).1).1,(stepB (lvB x).1).2.1,(stepB (lvB x).1).2.2.1,(stepB (lvB x).1).2.2.2.1,(stepLp (loopOf x)).1,(stepLp (loopOf x)).2.1,(stepLp (loopOf x)).2.2.1,(stepLp (loopOf x)).2.2.2.1,x.2.2.2.2.2.2.2.2.2.2.2.2.1,x.2.2.2.2.2.2.2.2.2.2.2.2.2.1,x.2.2.2.2.2.2.2.2.2.2.2.2.2.2.1,x.2.2.2.2.2.2.2.2.2.2.2.2.2.2.2.1,fold4 (inCh (stepLp (loopOf x)).2.2.1) (cs1 x),())
theorem stepF_ids (g:Int):∀(l:List Item) (m:Int),(stepF g m l).map (·.1)=l.map (·.1)
 | [],_=>rfl
 |x::xs,m=>by
  rw [stepF,List.map_cons,List.map_cons,stepF_ids g xs];rfl
theorem mem_ids {l:List Item} {b:Int}:(∃y,y∈l∧y.1=b)↔b∈l.map (·.1):=by simp [List.mem_map]
theorem belt_facts {x:HallT} (h:BeltP (x.2.2.2.2.1,x.2.2.2.2.2.1,x.2.2.2.2.2.2.1,x.2.2.2.2.2.2.2.1,())):BeltP (stepB (lvB x).1)∧(∀b:Int,(∃y,y∈(stepB (lvB x).1).2.2.2.1∧y.1=b)↔(∃y,y∈x.2.2.2.2.2.2.2.1∧y.1=b)∧¬((lvB x).2.2.1=true∧b=(lvB x).2.1))∧((lvB x).2.2.1=true→∃y,y∈x.2.2.2.2.2.2.2.1∧y.1=(lvB x).2.1):=by
 have h1:BeltP (lvB x).1:=leave_ok h
 refine⟨step_ok h1,?_⟩
 have e:∀b:Int,(∃y,y∈(stepB (lvB x).1).2.2.2.1∧y.1=b)↔∃y,y∈(lvB x).1.2.2.2.1∧y.1=b:=by
  intro b
  rw [mem_ids,mem_ids]
  unfold stepB
  dsimp only
  rw [stepF_ids]
 obtain⟨b1,b2,b3,b4⟩:=h
 unfold lvB leaveM at*
 by_cases hl:leaveOk (x.2.2.2.2.1,x.2.2.2.2.2.1,x.2.2.2.2.2.2.1,x.2.2.2.2.2.2.2.1,())
 ·rw [if_pos hl]at e ⊢
  obtain⟨_,_,hne,_⟩:=hl
  dsimp only at hne e b4 ⊢
  cases hit:x.2.2.2.2.2.2.2.1 with
  |nil=>exact absurd hit hne
  |cons y ys=>
   rw [hit]at b4 e
   rw [rd_cons0]at*
   refine⟨fun b=>(e b).trans ?_,fun _=>⟨y,List.mem_cons_self ..,rfl⟩⟩
   rw [List.drop_one,List.tail_cons]
   constructor
   ·rintro ⟨z,hz,rfl⟩
    refine⟨⟨z,List.mem_cons_of_mem _ hz,rfl⟩,fun ⟨_,q⟩=> ?_⟩
    obtain⟨j,hj,rfl⟩:=List.getElem_of_mem hz
    have:=(b4 (j+1) (by simp;omega)).2.2.2.1 0 (by omega)
    dsimp only at this
    rw [rd_cons0,rd_cons,rd_lt hj]at this
    exact this q.symm
   ·rintro ⟨⟨z,hz,rfl⟩,q⟩
    rcases List.mem_cons.1 hz with rfl|hz
    ·exact absurd ⟨rfl,rfl⟩ q
    ·exact⟨z,hz,rfl⟩
 ·rw [if_neg hl]at e ⊢
  refine⟨fun b=>(e b).trans ⟨fun z=>⟨z,fun q=>(by cases q.1)⟩,fun z=>z.1⟩,fun q=>(by cases q)⟩
end Go.Proofs.YtcfbjloblbhdhaaGreat.Eng
namespace Go.Proofs.YtcfbjloblbhdhaaGreat.Eng
theorem cs1_len (x:HallT):(cs1 x).length=x.2.2.2.2.2.2.2.2.2.2.2.2.2.2.2.2.1.length:=by unfold cs1;split<;>simp
theorem cs1_at {x:HallT} {i:Nat} (hi:i<x.2.2.2.2.2.2.2.2.2.2.2.2.2.2.2.2.1.length) (hb:(lvB x).2.2.1=true→1≤(lvB x).2.1):rdP (0,0,0,0,0,0,0,0,0,0,()) (cs1 x) i=if (lvB x).2.2.1=true∧(i:Int)+1=(lvB x).2.1 then scrd (rdP (0,0,0,0,0,0,0,0,0,0,()) x.2.2.2.2.2.2.2.2.2.2.2.2.2.2.2.2.1 i) (x.1+1)else rdP (0,0,0,0,0,0,0,0,0,0,()) x.2.2.2.2.2.2.2.2.2.2.2.2.2.2.2.2.1 i:=by
 unfold cs1
 by_cases hl:(lvB x).2.2.1=true
 ·have:=hb hl
  rw [if_pos hl]
  by_cases e:natI ((lvB x).2.1-1)=i
  ·rw [e,rd_set_i hi,if_pos ⟨hl,by unfold natI at e;omega⟩]
  ·rw [rd_set_o e,if_neg (fun z=>e (by unfold natI;omega))]
 ·rw [if_neg hl,if_neg (fun z=>hl z.1)]
theorem tick_ok {x:HallT} (h:HallP x) (hn:x.1+1≤100000):HallP (tickM x):=by
 have hx:=h
 obtain⟨h1,h2,h3,h4,h5,h6,h7,h8,h9,h10,h11,h12,h13,h14,h15⟩:=hx
 obtain⟨b1,b2,b3⟩:=belt_facts h4
 have h5':LoopP (loopOf x):=h5
 obtain⟨s1,s2,s3,s4⟩:=step_facts h5'
 have sok:=stepLp_ok h5'
 have hbag:(lvB x).2.2.1=true→1≤(lvB x).2.1∧(lvB x).2.1≤x.2.2.2.2.2.2.2.2.2.2.2.2.2.2.2.2.1.length:=by
  intro hl
  obtain⟨y,hy,e⟩:=b3 hl
  have hu:=h12 y hy
  obtain⟨j,hj,ej⟩:=List.getElem_of_mem hy
  have:=(h4.2.2.2 j hj).1
  dsimp only at this
  rw [rd_lt hj,ej]at this
  rw [←e];exact⟨this,hu⟩
 have hlp:∀b∈inCh (stepLp (loopOf x)).2.2.1,1≤b.1:=fun b hb=>sok.2.2.2.2.2.2.1 b (List.mem_append_right _ hb)
 have hlen:(fold4 (inCh (stepLp (loopOf x)).2.2.1) (cs1 x)).length=x.2.2.2.2.2.2.2.2.2.2.2.2.2.2.2.2.1.length:=by rw [fold4_len,cs1_len]
 have hpt:∀i,i<x.2.2.2.2.2.2.2.2.2.2.2.2.2.2.2.2.1.length→rdP (0,0,0,0,0,0,0,0,0,0,()) (fold4 (inCh (stepLp (loopOf x)).2.2.1) (cs1 x)) i=if ((i:Int)+1,())∈inCh (stepLp (loopOf x)).2.2.1 then placed (if (lvB x).2.2.1=true∧(i:Int)+1=(lvB x).2.1 then scrd (rdP (0,0,0,0,0,0,0,0,0,0,()) x.2.2.2.2.2.2.2.2.2.2.2.2.2.2.2.2.1 i) (x.1+1)else rdP (0,0,0,0,0,0,0,0,0,0,()) x.2.2.2.2.2.2.2.2.2.2.2.2.2.2.2.2.1 i) 4 else(if (lvB x).2.2.1=true∧(i:Int)+1=(lvB x).2.1 then scrd (rdP (0,0,0,0,0,0,0,0,0,0,()) x.2.2.2.2.2.2.2.2.2.2.2.2.2.2.2.2.1 i) (x.1+1)else rdP (0,0,0,0,0,0,0,0,0,0,()) x.2.2.2.2.2.2.2.2.2.2.2.2.2.2.2.2.1 i):=by
  intro i hi
  rw [fold4_at _ _ _ (by rw [cs1_len];exact hi) hlp,cs1_at hi (fun z=>(hbag z).1)]
 have htag:∀i,i<x.2.2.2.2.2.2.2.2.2.2.2.2.2.2.2.2.1.length→(rdP (0,0,0,0,0,0,0,0,0,0,()) (fold4 (inCh (stepLp (loopOf x)).2.2.1) (cs1 x)) i).1=(rdP (0,0,0,0,0,0,0,0,0,0,()) x.2.2.2.2.2.2.2.2.2.2.2.2.2.2.2.2.1 i).1∧(rdP (0,0,0,0,0,0,0,0,0,0,()) (fold4 (inCh (stepLp (loopOf x)).2.2.1) (cs1 x)) i).2.1=(rdP (0,0,0,0,0,0,0,0,0,0,()) x.2.2.2.2.2.2.2.2.2.2.2.2.2.2.2.2.1 i).2.1∧(rdP (0,0,0,0,0,0,0,0,0,0,()) (fold4 (inCh (stepLp (loopOf x)).2.2.1) (cs1 x)) i).2.2.1=(rdP (0,0,0,0,0,0,0,0,0,0,()) x.2.2.2.2.2.2.2.2.2.2.2.2.2.2.2.2.1 i).2.2.1:=by
  intro i hi
  rw [hpt i hi]
  split<;>split<;>exact⟨rfl,rfl,rfl⟩
 refine⟨by show 0≤x.1+1∧x.1+1≤100000;omega,h2,h3,b1,sok,h6,h7,h8,by show (fold4 _ _).length≤60;rw [hlen];exact h9,by show ∀f∈x.2.2.2.2.2.2.2.2.2.2.2.2.2.2.2.1,FlightP (stepLp (loopOf x)).2.2.1.length f;rw [s4];exact h10,fun i hi=> ?_,fun y hy=> ?_,fun y hy=> ?_,fun c hc y hy=> ?_,fun l hl y hy=> ?_⟩
 ·have hi:i<x.2.2.2.2.2.2.2.2.2.2.2.2.2.2.2.2.1.length:=by rw [←hlen];exact hi
  obtain⟨c1,c2,c3,c4,c5,c6,c7,c8,c9,c10,c11,c12,c13,c14⟩:=h11 i hi
  have c12':((i:Int)+1,())∈(loopOf x).1↔(rdP (0,0,0,0,0,0,0,0,0,0,()) x.2.2.2.2.2.2.2.2.2.2.2.2.2.2.2.2.1 i).2.2.2.2.2.2.1=3:=c12
  have c13':InC (loopOf x) ((i:Int)+1)↔(rdP (0,0,0,0,0,0,0,0,0,0,()) x.2.2.2.2.2.2.2.2.2.2.2.2.2.2.2.2.1 i).2.2.2.2.2.2.1=4:=c13
  have hs1:=s1 ((i:Int)+1)
  have hs2:=s2 ((i:Int)+1)
  have hs3:=s3 ((i:Int)+1)
  have hb2:=b2 ((i:Int)+1)
  have tags:∀j,j<i→¬((rdP (0,0,0,0,0,0,0,0,0,0,()) (fold4 (inCh (stepLp (loopOf x)).2.2.1) (cs1 x)) j).1=(rdP (0,0,0,0,0,0,0,0,0,0,()) x.2.2.2.2.2.2.2.2.2.2.2.2.2.2.2.2.1 i).1∧(rdP (0,0,0,0,0,0,0,0,0,0,()) (fold4 (inCh (stepLp (loopOf x)).2.2.1) (cs1 x)) j).2.1=(rdP (0,0,0,0,0,0,0,0,0,0,()) x.2.2.2.2.2.2.2.2.2.2.2.2.2.2.2.2.1 i).2.1∧(rdP (0,0,0,0,0,0,0,0,0,0,()) (fold4 (inCh (stepLp (loopOf x)).2.2.1) (cs1 x)) j).2.2.1=(rdP (0,0,0,0,0,0,0,0,0,0,()) x.2.2.2.2.2.2.2.2.2.2.2.2.2.2.2.2.1 i).2.2.1):=by
   intro j hj
   obtain⟨t1,t2,t3⟩:=htag j (by omega)
   rw [t1,t2,t3]
   exact c6 j hj
  show CaseP (tickM x) i (rdP (0,0,0,0,0,0,0,0,0,0,()) (fold4 (inCh (stepLp (loopOf x)).2.2.1) (cs1 x)) i)
  rw [hpt i hi]
  by_cases hl:(lvB x).2.2.1=true∧(i:Int)+1=(lvB x).2.1
  ·rw [if_pos hl]
   have hp:(rdP (0,0,0,0,0,0,0,0,0,0,()) x.2.2.2.2.2.2.2.2.2.2.2.2.2.2.2.2.1 i).2.2.2.2.2.2.1=1:=by
    refine c11.1 ?_
    rw [hl.2];exact b3 hl.1
   have hno:¬InC (stepLp (loopOf x)) ((i:Int)+1):=by
    intro z
    rcases hs1.1 (.inr z)with⟨z,_⟩|z
    ·have:=c12'.1 z;omega
    ·have:=c13'.1 z;omega
   have hnt:((i:Int)+1,())∉(stepLp (loopOf x)).1:=by
    intro z
    rcases hs1.1 (.inl ⟨z,by omega⟩)with⟨z,_⟩|z
    ·have:=c12'.1 z;omega
    ·have:=c13'.1 z;omega
   rw [if_neg (fun z=>hno (mem_inCh.1 z))]
   refine⟨c1,c2,c3,c4,by show (1:Int)≤2∧(2:Int)≤7;omega,tags,?_,?_,?_,?_,iff_of_false (fun z=>(hb2.1 z).2 hl) ?_,iff_of_false hnt ?_,iff_of_false hno ?_,iff_of_false (fun z=> ?_) ?_⟩
   ·rw [if_neg (show ¬(scrd (rdP (0,0,0,0,0,0,0,0,0,0,()) x.2.2.2.2.2.2.2.2.2.2.2.2.2.2.2.2.1 i) (x.1+1)).2.2.2.2.2.2.1=1 by show ¬(2:Int)=1;omega)]
    refine⟨⟨by show (1:Int)≤1∧(1:Int)≤4;omega,by show 0≤x.1+1∧x.1+1≤100000;omega,.inl rfl⟩,?_⟩
    show x.1+1≤x.1+1;omega
   ·intro _;show (2:Int)≠3∧(2:Int)≠4∧(2:Int)≠5∧(2:Int)≠6;omega
   ·rintro ⟨_,z⟩;have z:(0:Int)=2:=z;omega
   ·intro z;have z:(2:Int)=6:=z;omega
   ·show ¬(2:Int)=1;omega
   ·show ¬(2:Int)=3;omega
   ·show ¬(2:Int)=4;omega
   ·have:=c14.1 z;omega
   ·show ¬(2:Int)=5;omega
  ·rw [if_neg hl]
   have hbelt:(∃y,y∈(stepB (lvB x).1).2.2.2.1∧y.1=(i:Int)+1)↔(rdP (0,0,0,0,0,0,0,0,0,0,()) x.2.2.2.2.2.2.2.2.2.2.2.2.2.2.2.2.1 i).2.2.2.2.2.2.1=1:=by
    rw [hb2,c11]
    exact⟨fun z=>z.1,fun z=>⟨z,hl⟩⟩
   have hscr:∀p:Int,p≠1→(rdP (0,0,0,0,0,0,0,0,0,0,()) x.2.2.2.2.2.2.2.2.2.2.2.2.2.2.2.2.1 i).2.2.2.2.2.2.1≠1→ScreenP ((rdP (0,0,0,0,0,0,0,0,0,0,()) x.2.2.2.2.2.2.2.2.2.2.2.2.2.2.2.2.1 i).2.2.2.2.2.2.2.1,(rdP (0,0,0,0,0,0,0,0,0,0,()) x.2.2.2.2.2.2.2.2.2.2.2.2.2.2.2.2.1 i).2.2.2.2.2.2.2.2.1,(rdP (0,0,0,0,0,0,0,0,0,0,()) x.2.2.2.2.2.2.2.2.2.2.2.2.2.2.2.2.1 i).2.2.2.2.2.2.2.2.2.1,())∧(rdP (0,0,0,0,0,0,0,0,0,0,()) x.2.2.2.2.2.2.2.2.2.2.2.2.2.2.2.2.1 i).2.2.2.2.2.2.2.2.1≤x.1+1:=by
    intro p _ hp
    rw [if_neg hp]at c7
    exact⟨c7.1,by have:=c7.2;omega⟩
   by_cases hin:InC (stepLp (loopOf x)) ((i:Int)+1)
   ·rw [if_pos (mem_inCh.2 hin)]
    have hp:(rdP (0,0,0,0,0,0,0,0,0,0,()) x.2.2.2.2.2.2.2.2.2.2.2.2.2.2.2.2.1 i).2.2.2.2.2.2.1=3∨(rdP (0,0,0,0,0,0,0,0,0,0,()) x.2.2.2.2.2.2.2.2.2.2.2.2.2.2.2.2.1 i).2.2.2.2.2.2.1=4:=by
     rcases hs1.1 (.inr hin)with⟨z,_⟩|z
     ·exact .inl (c12'.1 z)
     ·exact .inr (c13'.1 z)
    have hv:(rdP (0,0,0,0,0,0,0,0,0,0,()) x.2.2.2.2.2.2.2.2.2.2.2.2.2.2.2.2.1 i).2.2.2.2.2.2.2.2.2.1=1:=by
     by_cases e:(rdP (0,0,0,0,0,0,0,0,0,0,()) x.2.2.2.2.2.2.2.2.2.2.2.2.2.2.2.2.1 i).2.2.2.2.2.2.2.2.2.1=1
     ·exact e
     ·have:=c8 e;omega
    refine⟨c1,c2,c3,c4,by show (1:Int)≤4∧(4:Int)≤7;omega,tags,?_,fun z=>absurd hv z,?_,?_,?_,iff_of_false (hs3 hin) ?_,iff_of_true hin rfl,iff_of_false (fun z=> ?_) ?_⟩
    ·rw [if_neg (show ¬(placed (rdP (0,0,0,0,0,0,0,0,0,0,()) x.2.2.2.2.2.2.2.2.2.2.2.2.2.2.2.2.1 i) 4).2.2.2.2.2.2.1=1 by show ¬(4:Int)=1;omega)]
     exact hscr 4 (by omega) (by omega)
    ·rintro ⟨z,_⟩;have z:(4:Int)=2:=z;omega
    ·intro z;have z:(4:Int)=6:=z;omega
    ·exact hbelt.trans (iff_of_false (by omega) (by show ¬(4:Int)=1;omega))
    ·show ¬(4:Int)=3;omega
    ·have:=c14.1 z;omega
    ·show ¬(4:Int)=5;omega
   ·rw [if_neg (fun z=>hin (mem_inCh.1 z))]
    refine⟨c1,c2,c3,c4,c5,tags,?_,c8,c9,c10,hbelt,?_,?_,c14⟩
    ·by_cases hp:(rdP (0,0,0,0,0,0,0,0,0,0,()) x.2.2.2.2.2.2.2.2.2.2.2.2.2.2.2.2.1 i).2.2.2.2.2.2.1=1
     ·rw [if_pos hp]at c7 ⊢;exact c7
     ·rw [if_neg hp];exact hscr 0 (by omega) hp
    ·rw [←c12]
     constructor
     ·intro z
      rcases hs1.1 (.inl ⟨z,by omega⟩)with⟨z,_⟩|z
      ·exact z
      ·exact absurd (hs2 z) hin
     ·intro z
      rcases hs1.2 (.inl ⟨z,by omega⟩)with⟨z,_⟩|z
      ·exact z
      ·exact absurd z hin
    ·rw [←c13]
     exact⟨fun z=>absurd z hin,fun z=>absurd (hs2 z) hin⟩
 ·show y.1≤((fold4 (inCh (stepLp (loopOf x)).2.2.1) (cs1 x)).length:Int)
  rw [hlen]
  obtain⟨⟨z,hz,e⟩,_⟩:=(b2 y.1).1 ⟨y,hy,rfl⟩
  rw [←e];exact h12 z hz
 ·show y.1≤((fold4 (inCh (stepLp (loopOf x)).2.2.1) (cs1 x)).length:Int)
  rw [hlen]
  by_cases e:y.1=0
  ·omega
  ·rcases (s1 y.1).1 (.inl ⟨hy,e⟩)with⟨z,_⟩|⟨c,hc,z⟩
   ·exact h13 _ z
   ·exact h14 c hc _ z
 ·show y.1≤((fold4 (inCh (stepLp (loopOf x)).2.2.1) (cs1 x)).length:Int)
  rw [hlen]
  rcases (s1 y.1).1 (.inr ⟨c,hc,hy⟩)with⟨z,_⟩|⟨c,hc,z⟩
  ·exact h13 _ z
  ·exact h14 c hc _ z
 ·show y.1≤((fold4 (inCh (stepLp (loopOf x)).2.2.1) (cs1 x)).length:Int)
  rw [hlen]
  exact h15 l hl y hy
theorem spec_l09Tick_f {k:Nat} (hk:K0≤k) (x:HallT) (h:HallP x):spec_l09Tick.f k x=some (tickM x,()):=by
 have hs:=hallP_sz h
 have hx:=h
 obtain⟨h1,h2,h3,h4,h5,h6,h7,h8,h9,h10,h11,h12,h13,h14,h15⟩:=hx
 obtain⟨b1,b2,b3⟩:=belt_facts h4
 have h5':LoopP (loopOf x):=h5
 obtain⟨s1,s2,s3,s4⟩:=step_facts h5'
 have sok:=stepLp_ok h5'
 have hbag:(lvB x).2.2.1=true→1≤(lvB x).2.1∧(lvB x).2.1≤x.2.2.2.2.2.2.2.2.2.2.2.2.2.2.2.2.1.length:=by
  intro hl
  obtain⟨y,hy,e⟩:=b3 hl
  have hu:=h12 y hy
  obtain⟨j,hj,ej⟩:=List.getElem_of_mem hy
  have:=(h4.2.2.2 j hj).1
  dsimp only at this
  rw [rd_lt hj,ej]at this
  rw [←e];exact⟨this,hu⟩
 have hlu:∀b:Int,(b,())∈inCh (stepLp (loopOf x)).2.2.1→1≤b∧b≤x.2.2.2.2.2.2.2.2.2.2.2.2.2.2.2.2.1.length:=by
  intro b hb
  refine⟨sok.2.2.2.2.2.2.1 (b,()) (List.mem_append_right _ hb),?_⟩
  rcases (s1 b).1 (.inr (mem_inCh.1 hb))with⟨z,_⟩|⟨c,hc,z⟩
  ·exact h13 _ z
  ·exact h14 c hc _ z
 have hcl:=hs.cases_
 have hsz:=loopP_sz sok
 have e1:=spec_l09Copy_f hk x hs
 have e2:spec_Leave.f k (x.2.2.2.2.1,x.2.2.2.2.2.1,x.2.2.2.2.2.2.1,x.2.2.2.2.2.2.2.1,())=some (lvB x):=spec_Leave_f hk (x.2.2.2.2.1,x.2.2.2.2.2.1,x.2.2.2.2.2.2.1,x.2.2.2.2.2.2.2.1,()) (beltP_s h4)
 have e3:spec_l02Step.f k ((lvB x).1.1,(lvB x).1.2.1,(lvB x).1.2.2.1,(lvB x).1.2.2.2.1,())=some (stepB (lvB x).1,()):=spec_l02Step_f hk (lvB x).1 (leave_ok h4)
 have e4:spec_l05Step.f k (x.2.2.2.2.2.2.2.2.1,x.2.2.2.2.2.2.2.2.2.1,x.2.2.2.2.2.2.2.2.2.2.1,x.2.2.2.2.2.2.2.2.2.2.2.1,())=some (stepLp (loopOf x),()):=spec_l05Step_f hk (loopOf x) h5' (loopP_sz h5')
 have hk':=hk
 unfold K0 at hk
 have hcs:=cs1_len x
 unfold spec_l09Tick.f
 rw [e1,bnd_s]
 dsimp only
 rw [e2,bnd_s]
 have tail:∀(J:List CaseT×Unit→Option (HallT×Unit)),J (cs1 x,())=some (tickM x,())→(lett J fun j4=>br (lvB x).2.2.1 (br (inR (subI .i64 (lvB x).2.1 1) (ln x.2.2.2.2.2.2.2.2.2.2.2.2.2.2.2.2.1)) (lett (rdP (0,0,0,0,0,0,0,0,0,0,()) x.2.2.2.2.2.2.2.2.2.2.2.2.2.2.2.2.1 (natI (subI .i64 (lvB x).2.1 1))) fun e16=>lett (upd x.2.2.2.2.2.2.2.2.2.2.2.2.2.2.2.2.1 (natI (subI .i64 (lvB x).2.1 1)) (e16.1,e16.2.1,e16.2.2.1,e16.2.2.2.1,e16.2.2.2.2.1,e16.2.2.2.2.2.1,2,e16.2.2.2.2.2.2.2)) fun l17=>br (inR (subI .i64 (lvB x).2.1 1) (ln l17)) (lett (rdP (0,0,0,0,0,0,0,0,0,0,()) l17 (natI (subI .i64 (lvB x).2.1 1))) fun e18=>lett (upd l17 (natI (subI .i64 (lvB x).2.1 1)) (e18.1,e18.2.1,e18.2.2.1,e18.2.2.2.1,e18.2.2.2.2.1,e18.2.2.2.2.2.1,e18.2.2.2.2.2.2.1,1,(addI .i64 x.1 1),0,e18.2.2.2.2.2.2.2.2.2.2)) fun l19=>j4 (l19,())) none) none) (j4 (x.2.2.2.2.2.2.2.2.2.2.2.2.2.2.2.2.1,())))=some (tickM x,()):=by
  intro J hJ
  rw [lett_e]
  cases hl:(lvB x).2.2.1 with
  |true=>
   obtain⟨g1,g2⟩:=hbag hl
   have hn:natI ((lvB x).2.1-1)<x.2.2.2.2.2.2.2.2.2.2.2.2.2.2.2.2.1.length:=by unfold natI;omega
   rw [br_t]
   simp (disch:=omega) only [lett_e,bnd_s,bnd_chk,br_not,br_t,br_f,br_T,br_F,not_true_eq_false,not_false_eq_true,chk_T,chk_F,chk_eq,eqI_dc,ltI_dc,leI_dc,eqN_dc,notB_dc,andB_dc,andB_t,eqB_dc,notB_t,notB_f,inR_dc,upR_dc,ln_e,app_e,tk_e,dp_e,upd_e,repl_e,natI_n,br_pos,br_neg,addI_n,fitN_T,subI_id,List.length_set,rd_set_i,List.set_set,addI_id]
   rw [←hJ]
   unfold cs1
   rw [if_pos hl]
   rfl
  |false=>
   rw [br_f,←hJ]
   unfold cs1
   rw [if_neg (by rw [hl];exact Bool.noConfusion)]
 refine tail _ ?_
 dsimp only
 rw [e3,bnd_s]
 dsimp only
 rw [e4,bnd_s]
 generalize hLe:stepLp (loopOf x)=L at*
 refine loop_run (n:=L.2.2.1.length) (fun i=>(fold4 (inCh (L.2.2.1.take i)) (cs1 x),(i:Int),())) (by simp [inCh];rfl) (fun i hi rec=> ?_) (fun rec=> ?_) (by have:=hsz.chutes;omega)
 ·refine(lt_t hi _ _).trans ?_
  have hlc:=hsz.chutes
  have hbl:=hsz.bags _ (by rw [rd_lt hi];exact List.getElem_mem hi:rdP (0,0,[],()) L.2.2.1 i∈L.2.2.1)
  refine loop_run (n:=(rdP (0,0,[],()) L.2.2.1 i).2.2.1.length) (fun j=>(fold4 (inCh (L.2.2.1.take i)++(rdP (0,0,[],()) L.2.2.1 i).2.2.1.take j) (cs1 x),(j:Int),())) (by simp) (fun j hj rec2=> ?_) (fun rec2=> ?_) (by omega)
  ·have hm:rdP (0,()) (rdP (0,0,[],()) L.2.2.1 i).2.2.1 j∈(rdP (0,0,[],()) L.2.2.1 i).2.2.1:=by rw [rd_lt hj];exact List.getElem_mem hj
   have hb:=hlu (rdP (0,()) (rdP (0,0,[],()) L.2.2.1 i).2.2.1 j).1 (mem_inCh.2 ⟨_,by rw [rd_lt hi];exact List.getElem_mem hi,hm⟩)
   have hl4:∀a,(fold4 a (cs1 x)).length=x.2.2.2.2.2.2.2.2.2.2.2.2.2.2.2.2.1.length:=fun a=>by rw [fold4_len,hcs]
   have hlt:=hl4 (inCh (L.2.2.1.take i)++(rdP (0,0,[],()) L.2.2.1 i).2.2.1.take j)
   rw [take_s (d:=(0,())) hj,←List.append_assoc,fold4_app (inCh (L.2.2.1.take i)++(rdP (0,0,[],()) L.2.2.1 i).2.2.1.take j)]
   generalize fold4 (inCh (L.2.2.1.take i)++(rdP (0,0,[],()) L.2.2.1 i).2.2.1.take j) (cs1 x)=cs at*
   simp (disch:=omega) only [lett_e,bnd_s,bnd_chk,br_not,br_t,br_f,br_T,br_F,not_true_eq_false,not_false_eq_true,chk_T,chk_F,chk_eq,eqI_dc,ltI_dc,leI_dc,eqN_dc,notB_dc,andB_dc,andB_t,eqB_dc,notB_t,notB_f,inR_dc,upR_dc,ln_e,app_e,tk_e,dp_e,upd_e,repl_e,natI_n,br_pos,br_neg,addI_n,fitN_T,subI_id]
   rfl
  ·rw [List.take_length,←inCh_s hi]
   simp (disch:=omega) only [lett_e,bnd_s,bnd_chk,br_not,br_t,br_f,br_T,br_F,not_true_eq_false,not_false_eq_true,chk_T,chk_F,chk_eq,eqI_dc,ltI_dc,leI_dc,eqN_dc,notB_dc,andB_dc,andB_t,eqB_dc,notB_t,notB_f,inR_dc,upR_dc,ln_e,app_e,tk_e,dp_e,upd_e,repl_e,natI_n,br_pos,br_neg,addI_n,fitN_T]
   rfl
 ·rw [List.take_length]
  refine(lt_e _ _).trans ?_
  unfold tickM
  rw [hLe]
  simp (disch:=omega) only [lett_e,bnd_s,bnd_chk,br_not,br_t,br_f,br_T,br_F,not_true_eq_false,not_false_eq_true,chk_T,chk_F,chk_eq,eqI_dc,ltI_dc,leI_dc,eqN_dc,notB_dc,andB_dc,andB_t,eqB_dc,notB_t,notB_f,inR_dc,upR_dc,ln_e,app_e,tk_e,dp_e,upd_e,repl_e,natI_n,br_pos,br_neg,addI_n,fitN_T,addI_id]
end Go.Proofs.YtcfbjloblbhdhaaGreat.Eng
