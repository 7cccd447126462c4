/- FnLedger, as a pure law. No condition. -/
import Derived.Test.YtcfbjloblbhdhaaGreatPLedger
import Derived.Test.YtcfbjloblbhdhaaGreatPDrawN
import Derived.Test.YtcfbjloblbhdhaaGreatStFnLedger
import Derived.Test.YtcfbjloblbhdhaaGreatD
import Derived.Test.YtcfbjloblbhdhaaGreatDFnLedger
namespace Go.Proofs.YtcfbjloblbhdhaaGreat.Eng
set_option linter.unusedVariables false
set_option linter.unusedSimpArgs false
theorem atR_rd (l:List CaseT) (p:Int) (n j:Nat) (h:j<(atR l p n).length):∃i:Nat,i<n∧(rdP (0,0,0,0,0,0,0,0,0,0,()) l i).2.2.2.2.2.2.1=p∧rdP (0,()) (atR l p n) j=((i:Int)+1,()):=by
 have hm:rdP (0,()) (atR l p n) j∈atR l p n:=by rw [rd_lt h];exact List.getElem_mem h
 obtain⟨i,h1,h2,h3⟩:=mem_atR.1 hm
 exact⟨i,h1,h2,h3⟩
theorem atR_lt (l:List CaseT) (p:Int) (n j:Nat) (h:j+1<(atR l p n).length):(rdP (0,()) (atR l p n) j).1<(rdP (0,()) (atR l p n) (j+1)).1:=by
 have:=atR_asc l p n
 rw [List.pairwise_iff_getElem]at this
 rw [rd_lt h,rd_lt (by omega)]
 exact this j (j+1) (by omega) h (by omega)
def sumP (l:List CaseT) (n:Nat):Nat→Nat
 |0=>0
 |p+1=>sumP l n p+(atR l ((p:Int)+1) n).length
theorem sumP_s (l:List CaseT) (n:Nat):∀p:Nat,1≤(rdP (0,0,0,0,0,0,0,0,0,0,()) l n).2.2.2.2.2.2.1→sumP l (n+1) p=sumP l n p+if (rdP (0,0,0,0,0,0,0,0,0,0,()) l n).2.2.2.2.2.2.1≤p then 1 else 0
 |0,h=>by rw [if_neg (by omega)];rfl
 |p+1,h=>by
  rw [sumP,sumP,sumP_s l n p h,atR_s]
  by_cases e:(rdP (0,0,0,0,0,0,0,0,0,0,()) l n).2.2.2.2.2.2.1=(p:Int)+1
  ·rw [if_pos e,if_neg (by omega),if_pos (by omega)];simp;omega
  ·rw [if_neg e]
   by_cases e2:(rdP (0,0,0,0,0,0,0,0,0,0,()) l n).2.2.2.2.2.2.1≤p
   ·rw [if_pos e2,if_pos (by omega)];simp;omega
   ·rw [if_neg e2,if_neg (by omega)];simp
theorem sumP_all (l:List CaseT):∀n:Nat,(∀i,i<n→1≤(rdP (0,0,0,0,0,0,0,0,0,0,()) l i).2.2.2.2.2.2.1∧(rdP (0,0,0,0,0,0,0,0,0,0,()) l i).2.2.2.2.2.2.1≤7)→sumP l n 7=n
 |0,_=>by simp [sumP,atR]
 |n+1,h=>by
  have:=h n (by omega)
  rw [sumP_s l n 7 this.1,sumP_all l n (fun i hi=>h i (by omega)),if_pos (by omega)]
theorem sumP_le (l:List CaseT) (n:Nat):∀p:Nat,sumP l n p≤n*p
 |0=>Nat.le_refl _
 |p+1=>by
  have h1:=sumP_le l n p
  have h2:=atR_len l ((p:Int)+1) n
  rw [sumP,Nat.mul_succ];omega
theorem hallP_szT {x:HallT} (h:HallP x):SzT x:=by
 have hs:=hallP_sz h
 obtain⟨h1,h2,h3,h4,h5,h6,h7,h8,h9,_⟩:=h
 have hnz:=nz_len x.2.2.2.2.2.2.2.2.1
 have p1:=h5.1;have p3:=h5.2.2.1
 dsimp only at p1 p3
 have hin:(inCh x.2.2.2.2.2.2.2.2.2.2.1).length≤40*x.2.2.2.2.2.2.2.2.2.2.1.length:=by
  have:=inCh_len (l:=x.2.2.2.2.2.2.2.2.2.2.1) (n:=x.2.2.2.2.2.2.2.2.1.length) x.2.2.2.2.2.2.2.2.2.2.1.length (Nat.le_refl _) (fun j hj=>h5.2.2.2.2.1 _ (by dsimp only;rw [rd_lt hj];exact List.getElem_mem hj))
  rwa [List.take_length]at this
 have hla:(bagsS x.2.2.2.2.2.2.2.2.2.2.2.2.2.1).length≤5*x.2.2.2.2.2.2.2.2.2.2.2.2.2.1.length:=by
  have:=bagsS_len (l:=x.2.2.2.2.2.2.2.2.2.2.2.2.2.1) x.2.2.2.2.2.2.2.2.2.2.2.2.2.1.length (Nat.le_refl _) (fun j hj=>by have h1:=(h6.2.2.1 _ (by rw [rd_lt hj];exact List.getElem_mem hj:rdP ([],()) x.2.2.2.2.2.2.2.2.2.2.2.2.2.1 j∈x.2.2.2.2.2.2.2.2.2.2.2.2.2.1)).1;have h2:=h6.1.2;(try dsimp only at h1 h2);omega)
  rwa [List.take_length]at this
 have h62:=h6.2.1.2
 dsimp only at h62
 exact { toSzH:=hs,allBags:=by omega,allKept:=by omega }
theorem ledger_pure' {k:Nat} (hk:K0≤k) (b:List (Int×Unit)) (hb:b.length≤9223372036854775807):laws_FnLedger.f k b=some (true,()):=by
 unfold laws_FnLedger.f laws_big.f
 rw [bnd_s,ltI_dc,ln_e]
 by_cases h0:(1048576:Int)<b.length
 ·rw [br_pos h0]
 rw [br_neg h0]
 obtain⟨x,e1,hx⟩:=d_DrawHall hk b (by omega)
 obtain⟨P,M,B,L,S,F,e2,hz⟩:=d_DrawNewHall hk b (by omega)
 have hs:=hallP_szT hx
 have n1:=spec_NewHall_f hk P M B L S F hz.toSzH
 have n2:=impl_NewHall_f hk P M B L S F hz
 have n3:=sameHall_f hk (newM P M B L S F) (newM_sz hz.toSzH)
 have hca:=hs.cases_
 have hc60:x.2.2.2.2.2.2.2.2.2.2.2.2.2.2.2.2.1.length≤60:=hx.2.2.2.2.2.2.2.2.1
 have hpl:∀i,i<x.2.2.2.2.2.2.2.2.2.2.2.2.2.2.2.2.1.length→1≤(rdP (0,0,0,0,0,0,0,0,0,0,()) x.2.2.2.2.2.2.2.2.2.2.2.2.2.2.2.2.1 i).2.2.2.2.2.2.1∧(rdP (0,0,0,0,0,0,0,0,0,0,()) x.2.2.2.2.2.2.2.2.2.2.2.2.2.2.2.2.1 i).2.2.2.2.2.2.1≤7:=fun i hi=>(hallP_case hx hi).2.2.2.2.1
 have h7:=sumP_all x.2.2.2.2.2.2.2.2.2.2.2.2.2.2.2.2.1 x.2.2.2.2.2.2.2.2.2.2.2.2.2.2.2.2.1.length hpl
 have hle:=sumP_le x.2.2.2.2.2.2.2.2.2.2.2.2.2.2.2.2.1 x.2.2.2.2.2.2.2.2.2.2.2.2.2.2.2.2.1.length
 have hled:∀p,ledM x p=atR x.2.2.2.2.2.2.2.2.2.2.2.2.2.2.2.2.1 p x.2.2.2.2.2.2.2.2.2.2.2.2.2.2.2.2.1.length:=fun p=>ledM_pos hx
 have l0:atR x.2.2.2.2.2.2.2.2.2.2.2.2.2.2.2.2.1 0 x.2.2.2.2.2.2.2.2.2.2.2.2.2.2.2.2.1.length=[]:=by
  refine List.eq_nil_iff_forall_not_mem.2 (fun y hy=> ?_)
  obtain⟨i,hi,e,_⟩:=mem_atR.1 hy
  have:=hpl i hi;omega
 have hk':=hk
 unfold K0 at hk
 rw [e1,bnd_s]
 refine loop_run (n:=7) (fun i=>(((sumP x.2.2.2.2.2.2.2.2.2.2.2.2.2.2.2.2.1 x.2.2.2.2.2.2.2.2.2.2.2.2.2.2.2.2.1.length i:Nat):Int),(i:Int)+1,())) rfl (fun i hi rec=> ?_) (fun rec=> ?_) (by omega)
 ·have f1:impl_LedgerOf.f k (x.1,x.2.1,x.2.2.1,x.2.2.2.1,x.2.2.2.2.1,x.2.2.2.2.2.1,x.2.2.2.2.2.2.1,x.2.2.2.2.2.2.2.1,x.2.2.2.2.2.2.2.2.1,x.2.2.2.2.2.2.2.2.2.1,x.2.2.2.2.2.2.2.2.2.2.1,x.2.2.2.2.2.2.2.2.2.2.2.1,x.2.2.2.2.2.2.2.2.2.2.2.2.1,x.2.2.2.2.2.2.2.2.2.2.2.2.2.1,x.2.2.2.2.2.2.2.2.2.2.2.2.2.2.1,x.2.2.2.2.2.2.2.2.2.2.2.2.2.2.2.1,x.2.2.2.2.2.2.2.2.2.2.2.2.2.2.2.2.1,()) ((i:Int)+1)=some (atR x.2.2.2.2.2.2.2.2.2.2.2.2.2.2.2.2.1 ((i:Int)+1) x.2.2.2.2.2.2.2.2.2.2.2.2.2.2.2.2.1.length,()):=by rw [←hled];exact impl_LedgerOf_f hk' x _ hs
  have f2:spec_LedgerOf.f k (x.1,x.2.1,x.2.2.1,x.2.2.2.1,x.2.2.2.2.1,x.2.2.2.2.2.1,x.2.2.2.2.2.2.1,x.2.2.2.2.2.2.2.1,x.2.2.2.2.2.2.2.2.1,x.2.2.2.2.2.2.2.2.2.1,x.2.2.2.2.2.2.2.2.2.2.1,x.2.2.2.2.2.2.2.2.2.2.2.1,x.2.2.2.2.2.2.2.2.2.2.2.2.1,x.2.2.2.2.2.2.2.2.2.2.2.2.2.1,x.2.2.2.2.2.2.2.2.2.2.2.2.2.2.1,x.2.2.2.2.2.2.2.2.2.2.2.2.2.2.2.1,x.2.2.2.2.2.2.2.2.2.2.2.2.2.2.2.2.1,()) ((i:Int)+1)=some (atR x.2.2.2.2.2.2.2.2.2.2.2.2.2.2.2.2.1 ((i:Int)+1) x.2.2.2.2.2.2.2.2.2.2.2.2.2.2.2.2.1.length,()):=by rw [←hled];exact spec_LedgerOf_f hk' x _ hs
  have hl:=atR_len x.2.2.2.2.2.2.2.2.2.2.2.2.2.2.2.2.1 ((i:Int)+1) x.2.2.2.2.2.2.2.2.2.2.2.2.2.2.2.2.1.length
  have f3:=sameInts_f hk' (atR x.2.2.2.2.2.2.2.2.2.2.2.2.2.2.2.2.1 ((i:Int)+1) x.2.2.2.2.2.2.2.2.2.2.2.2.2.2.2.2.1.length) (by omega)
  have rd:=atR_rd x.2.2.2.2.2.2.2.2.2.2.2.2.2.2.2.2.1 ((i:Int)+1) x.2.2.2.2.2.2.2.2.2.2.2.2.2.2.2.2.1.length
  have asc:=atR_lt x.2.2.2.2.2.2.2.2.2.2.2.2.2.2.2.2.1 ((i:Int)+1) x.2.2.2.2.2.2.2.2.2.2.2.2.2.2.2.2.1.length
  have hst:sumP x.2.2.2.2.2.2.2.2.2.2.2.2.2.2.2.2.1 x.2.2.2.2.2.2.2.2.2.2.2.2.2.2.2.2.1.length (i+1)=sumP x.2.2.2.2.2.2.2.2.2.2.2.2.2.2.2.2.1 x.2.2.2.2.2.2.2.2.2.2.2.2.2.2.2.2.1.length i+(atR x.2.2.2.2.2.2.2.2.2.2.2.2.2.2.2.2.1 ((i:Int)+1) x.2.2.2.2.2.2.2.2.2.2.2.2.2.2.2.2.1.length).length:=rfl
  have hle:=hle i
  have hmul:x.2.2.2.2.2.2.2.2.2.2.2.2.2.2.2.2.1.length*i≤60*7:=Nat.mul_le_mul hc60 (by omega)
  rw [hst]
  generalize atR x.2.2.2.2.2.2.2.2.2.2.2.2.2.2.2.2.1 ((i:Int)+1) x.2.2.2.2.2.2.2.2.2.2.2.2.2.2.2.2.1.length=l at*
  generalize sumP x.2.2.2.2.2.2.2.2.2.2.2.2.2.2.2.2.1 x.2.2.2.2.2.2.2.2.2.2.2.2.2.2.2.2.1.length i=s at*
  dsimp only
  rw [leI_dc,br_pos (by omega),f1,bnd_s,f2,bnd_s,f3,bnd_chk,br_not,br_pos trivial]
  refine loop_run (n:=l.length) (fun j=>(((s+j:Nat):Int),(j:Int),())) (by simp) (fun j hj rec2=> ?_) (fun rec2=> ?_) (by omega)
  ·obtain⟨t,ht,hp,er⟩:=rd j hj
   have hadd:addI .i64 ((s+j:Nat):Int) 1=((s+(j+1):Nat):Int):=addI_nat (by omega)
   have hsub:subI .i64 ((t:Int)+1) 1=(t:Int):=subI_nat (by omega)
   cases j with
   |zero=>
    simp (disch:=omega) only [lett_e,bnd_s,bnd_chk,br_not,br_t,br_f,br_T,br_F,not_true_eq_false,not_false_eq_true,chk_T,chk_F,chk_eq,eqI_dc,ltI_dc,leI_dc,eqN_dc,notB_dc,andB_dc,andB_t,eqB_dc,notB_t,notB_f,inR_dc,upR_dc,ln_e,app_e,tk_e,dp_e,upd_e,repl_e,natI_n,br_pos,br_neg,addI_nat,addI_nn,subI_n1,subI_nn,fitN_T,List.length_set,List.length_append,List.length_cons,List.length_nil,er,hsub,hadd]
   |succ j=>
    have ha:=asc j hj
    have hj1:subI .i64 ((j+1:Nat):Int) 1=(j:Int):=subI_nat (by omega)
    rw [er]at ha
    simp (disch:=omega) only [lett_e,bnd_s,bnd_chk,br_not,br_t,br_f,br_T,br_F,not_true_eq_false,not_false_eq_true,chk_T,chk_F,chk_eq,eqI_dc,ltI_dc,leI_dc,eqN_dc,notB_dc,andB_dc,andB_t,eqB_dc,notB_t,notB_f,inR_dc,upR_dc,ln_e,app_e,tk_e,dp_e,upd_e,repl_e,natI_n,br_pos,br_neg,addI_nat,addI_nn,subI_n1,subI_nn,fitN_T,List.length_set,List.length_append,List.length_cons,List.length_nil,er,hsub,hadd,hj1]
  ·simp (disch:=omega) only [lett_e,bnd_s,bnd_chk,br_not,br_t,br_f,br_T,br_F,not_true_eq_false,not_false_eq_true,chk_T,chk_F,chk_eq,eqI_dc,ltI_dc,leI_dc,eqN_dc,notB_dc,andB_dc,andB_t,eqB_dc,notB_t,notB_f,inR_dc,upR_dc,ln_e,app_e,tk_e,dp_e,upd_e,repl_e,natI_n,br_pos,br_neg,addI_nat,addI_nn,subI_n1,subI_nn,fitN_T,List.length_set,List.length_append,List.length_cons,List.length_nil,addI_id]
   rfl
 ·have f0:impl_LedgerOf.f k (x.1,x.2.1,x.2.2.1,x.2.2.2.1,x.2.2.2.2.1,x.2.2.2.2.2.1,x.2.2.2.2.2.2.1,x.2.2.2.2.2.2.2.1,x.2.2.2.2.2.2.2.2.1,x.2.2.2.2.2.2.2.2.2.1,x.2.2.2.2.2.2.2.2.2.2.1,x.2.2.2.2.2.2.2.2.2.2.2.1,x.2.2.2.2.2.2.2.2.2.2.2.2.1,x.2.2.2.2.2.2.2.2.2.2.2.2.2.1,x.2.2.2.2.2.2.2.2.2.2.2.2.2.2.1,x.2.2.2.2.2.2.2.2.2.2.2.2.2.2.2.1,x.2.2.2.2.2.2.2.2.2.2.2.2.2.2.2.2.1,()) 0=some (([]:List (Int×Unit)),()):=by rw [←l0,←hled];exact impl_LedgerOf_f hk' x _ hs
  have n1':spec_NewHall.f k (P.1,()) (M.1,M.2.1,()) (B.1,B.2.1,B.2.2.1,B.2.2.2.1,()) (L.1,L.2.1,L.2.2.1,L.2.2.2.1,()) (S.1,S.2.1,()) F=some (newM P M B L S F,dc (HallP (hallOf P M B L S F)),()):=n1
  have n2':impl_NewHall.f k (P.1,()) (M.1,M.2.1,()) (B.1,B.2.1,B.2.2.1,B.2.2.2.1,()) (L.1,L.2.1,L.2.2.1,L.2.2.2.1,()) (S.1,S.2.1,()) F=some (newM P M B L S F,dc (HallP (hallOf P M B L S F)),()):=n2
  dsimp only
  rw [leI_dc,br_neg (by omega),e2,bnd_s]
  dsimp only
  rw [n2',bnd_s,n1',bnd_s,h7,eqI_dc,ln_e,br_pos rfl,f0,bnd_s]
  generalize newM P M B L S F=z at*
  have n3':laws_sameHall.f k (z.1,z.2.1,z.2.2.1,z.2.2.2.1,z.2.2.2.2.1,z.2.2.2.2.2.1,z.2.2.2.2.2.2.1,z.2.2.2.2.2.2.2.1,z.2.2.2.2.2.2.2.2.1,z.2.2.2.2.2.2.2.2.2.1,z.2.2.2.2.2.2.2.2.2.2.1,z.2.2.2.2.2.2.2.2.2.2.2.1,z.2.2.2.2.2.2.2.2.2.2.2.2.1,z.2.2.2.2.2.2.2.2.2.2.2.2.2.1,z.2.2.2.2.2.2.2.2.2.2.2.2.2.2.1,z.2.2.2.2.2.2.2.2.2.2.2.2.2.2.2.1,z.2.2.2.2.2.2.2.2.2.2.2.2.2.2.2.2.1,()) (z.1,z.2.1,z.2.2.1,z.2.2.2.1,z.2.2.2.2.1,z.2.2.2.2.2.1,z.2.2.2.2.2.2.1,z.2.2.2.2.2.2.2.1,z.2.2.2.2.2.2.2.2.1,z.2.2.2.2.2.2.2.2.2.1,z.2.2.2.2.2.2.2.2.2.2.1,z.2.2.2.2.2.2.2.2.2.2.2.1,z.2.2.2.2.2.2.2.2.2.2.2.2.1,z.2.2.2.2.2.2.2.2.2.2.2.2.2.1,z.2.2.2.2.2.2.2.2.2.2.2.2.2.2.1,z.2.2.2.2.2.2.2.2.2.2.2.2.2.2.2.1,z.2.2.2.2.2.2.2.2.2.2.2.2.2.2.2.2.1,())=chkP True:=n3
  dsimp only
  rw [eqB_same,br_t,n3',bnd_chk]
  simp (disch:=omega) only [lett_e,bnd_s,bnd_chk,br_not,br_t,br_f,br_T,br_F,not_true_eq_false,not_false_eq_true,chk_T,chk_F,chk_eq,eqI_dc,ltI_dc,leI_dc,eqN_dc,notB_dc,andB_dc,andB_t,eqB_dc,notB_t,notB_f,inR_dc,upR_dc,ln_e,app_e,tk_e,dp_e,upd_e,repl_e,natI_n,br_pos,br_neg,addI_n,fitN_T]
  exact br_pos rfl _ _
theorem ledger_pure:laws_FnLedger.Pure:=fun x hx=>⟨K0,ledger_pure' (Nat.le_refl _) x.1 (maxLen_le hx.1.1)⟩
end Go.Proofs.YtcfbjloblbhdhaaGreat.Eng
theorem Go.Proofs.YtcfbjloblbhdhaaGreat.Pure.FnLedger:Go.Proofs.YtcfbjloblbhdhaaGreat.Eng.laws_FnLedger.Pure:=Go.Proofs.YtcfbjloblbhdhaaGreat.Eng.ledger_pure
