/- Pieces in boxes, first fit. No condition. -/
import Derived.Test.YtpmjopbgccajgaaGreatPS
import Derived.Test.YtpmjopbgccajgaaGreatD
namespace Go.Proofs.YtpmjopbgccajgaaGreat.Eng
set_option linter.unusedVariables false
set_option linter.unusedSimpArgs false
abbrev Bx:=Int×Int×List (Int×Unit)×Unit
abbrev rB (l:List Bx) (i:Nat):Bx:=rdP (0,0,[],()) l i
abbrev LimT:=Int×Int×Unit
def PcP (p:Pc):Prop:=1≤p.1∧(1≤p.2.1∧p.2.1≤60)∧0≤p.2.2.1∧p.2.2.1≤5
def PiecesP (l:List Pc):Prop:=l.length≤40∧(∀p∈l,PcP p)∧(l.map (·.1)).Nodup
def LimP (m:LimT):Prop:=(60≤m.1∧m.1≤2000)∧1≤m.2.1∧m.2.1≤40
theorem piecesP_perm {l z:List Pc} (h:z.Perm l):PiecesP z↔PiecesP l:=by
 unfold PiecesP
 rw [h.length_eq,(h.map (·.1)).nodup_iff]
 exact⟨fun ⟨a,b,c⟩=>⟨a,fun p hp=>b p (h.mem_iff.2 hp),c⟩,fun ⟨a,b,c⟩=>⟨a,fun p hp=>b p (h.mem_iff.1 hp),c⟩⟩
theorem nodup_unit (l:List Pc):(l.map fun p=>(p.1,())).Nodup↔(l.map (·.1)).Nodup:=by
 have e:(l.map fun p=>(p.1,()))=(l.map (·.1)).map fun x=>(x,()):=by rw [List.map_map];rfl
 rw [e]
 unfold List.Nodup
 rw [List.pairwise_map]
 simp
theorem impl_PiecesOk_f {k:Nat} (hk:K0≤k) (l:List Pc) (hl:l.length≤1048576):impl_PiecesOk.f k l=chkP (PiecesP l):=by
 have hk':=hk
 unfold K0 at hk
 unfold impl_PiecesOk.f
 simp only [bnd_chk,br_not,chk_F,chk_T,ltI_dc,leI_dc,ln_e,lett_e,inR_dc,app_e]
 rw [loop_chk (n:=l.length) (Q:=l.length≤40∧(l.map fun p=>(p.1,())).Nodup) (fun i=>((l.take i).map (fun p=>(p.1,())),(i:Int),())) (fun i=>PcP (rP l i)) ?h0 ?hk ?hs ?he]
 case h0=>simp
 case hk=>omega
 case he=>
  intro _ rec
  simp only [List.take_length]
  rw [br_neg (by omega),impl_areDifferent_f hk' _ (by simp;omega),bnd_chk,chk_eq,br_chkF']
  exact chk_congr (and_congr (by omega) Iff.rfl)
 case hs=>
  intro i hi hp rec
  have ht:(l.take (i+1)).map (fun p=>(p.1,()))=(l.take i).map (fun p=>(p.1,()))++[((rP l i).1,())]:=by rw [take_s (d:=(0,0,0,())) hi,List.map_append];rfl
  have hf:=fit1 ((rP l i).1,()) (l:=(l.take i).map (fun p=>(p.1,()))) (by simp;omega)
  simp only [natI_n,g1]
  rw [br_pos (by omega),br_pos (by omega),hf,br_t,addI_n (by omega),←ht]
  simp only [g2]
  refine br_iff' ?_ (fun _=>rfl)
  unfold PcP
  grind
 rw [nodup_unit]
 exact chk_congr ⟨fun z=>⟨z.2.1,(all_rd (d:=(0,0,0,()))).1 z.1,z.2.2⟩,fun z=>⟨(all_rd (d:=(0,0,0,()))).2 z.2.1,z.1,z.2.2⟩⟩
def fitsP (m:LimT) (p:Pc) (x:Bx):Prop:=x.1=p.2.2.1∧(x.2.2.1.length:Int)<m.2.1∧addI .i64 x.2.1 p.2.1≤m.1
def addB (x:Bx) (p:Pc):Bx:=(p.2.2.1,addI .i64 x.2.1 p.2.1,x.2.2.1++[(p.1,())],())
noncomputable def putF (m:LimT) (p:Pc):List Bx→List Bx
 | []=>[addB (0,0,[],()) p]
 |x::xs=> @ite _ (fitsP m p x) (Classical.propDecidable _) (addB x p::xs) (x::putF m p xs)
theorem putF_miss {m:LimT} {p:Pc}:∀ {a b:List Bx},(∀x∈a,¬fitsP m p x)→putF m p (a++b)=a++putF m p b
 | [],_,_=>rfl
 |x::xs,b,h=>by
  rw [List.cons_append,putF,if_neg (h x (by simp)),putF_miss fun y hy=>h y (by simp [hy])];rfl
theorem putF_hit {m:LimT} {p:Pc} {l:List Bx} {i:Nat} (hi:i<l.length) (h1:∀j,j<i→¬fitsP m p (rB l j)) (h2:fitsP m p (rB l i)):putF m p l=l.set i (addB (rB l i) p):=by
 have e:l=l.take i++rB l i::l.drop (i+1):=by
  conv=>lhs;rw [←List.take_append_drop i l,drop_s (d:=(0,0,[],())) hi]
 have hm:∀x∈l.take i,¬fitsP m p x:=fun x hx=>by
  obtain⟨j,hj,rfl⟩:=List.getElem_of_mem hx
  rw [List.length_take]at hj
  have:=h1 j (by omega)
  unfold rB at this
  rw [rd_lt (by omega)]at this
  simpa using this
 have hs:l.set i (addB (rB l i) p)=l.take i++addB (rB l i) p::l.drop (i+1):=List.set_eq_take_append_cons_drop.trans (if_pos hi)
 rw [hs]
 conv=>lhs;rw [e]
 rw [putF_miss hm,putF,if_pos h2]
theorem putF_none {m:LimT} {p:Pc} {l:List Bx} (h1:∀j,j<l.length→¬fitsP m p (rB l j)):putF m p l=l++[addB (0,0,[],()) p]:=by
 have:=putF_miss (m:=m) (p:=p) (a:=l) (b:=[]) ((all_rd (d:=(0,0,[],()))).1 h1)
 rwa [List.append_nil]at this
noncomputable def ffR (m:LimT) (l:List Pc):Nat→List Bx
 |0=>[]
 |i+1=>putF m (rP l i) (ffR m l i)
noncomputable def FFm (m:LimT) (l:List Pc):List Bx:= @ite _ (LimP m∧PiecesP l) (Classical.propDecidable _) (ffR m l l.length) []
theorem ffR_len (m:LimT) (l:List Pc):∀i,(ffR m l i).length≤i∧∀x∈ffR m l i,x.2.2.1.length≤i
 |0=>by simp [ffR]
 |i+1=>by
  obtain⟨h1,h2⟩:=ffR_len m l i
  have key:∀(p:Pc) (out:List Bx),(∀x∈out,x.2.2.1.length≤i)→(putF m p out).length≤out.length+1∧∀x∈putF m p out,x.2.2.1.length≤i+1:=by
   intro p out
   induction out with
   |nil=>intro _;simp [putF,addB]
   |cons x xs ih=>
    intro h
    obtain⟨i1,i2⟩:=ih fun y hy=>h y (by simp [hy])
    rw [putF]
    split
    ·refine⟨by simp,fun y hy=> ?_⟩
     rcases List.mem_cons.1 hy with e|e
     ·have:=h x (by simp);rw [e];simp [addB];omega
     ·have:=h y (by simp [e]);omega
    ·refine⟨by simp;omega,fun y hy=> ?_⟩
     rcases List.mem_cons.1 hy with e|e
     ·have:=h x (by simp);rw [e];omega
     ·exact i2 y e
  obtain⟨k1,k2⟩:=key (rP l i) (ffR m l i) h2
  exact⟨by rw [ffR];omega,k2⟩
theorem FFm_len (m:LimT) (l:List Pc):(FFm m l).length≤40∧∀x∈FFm m l,x.2.2.1.length≤40:=by
 unfold FFm
 split
 ·rename_i h
  obtain⟨h1,h2⟩:=ffR_len m l l.length
  have:=h.2.1
  exact⟨by omega,fun x hx=>by have:=h2 x hx;omega⟩
 ·exact⟨by simp,fun x hx=>by cases hx⟩
theorem ffR_sz {m:LimT} {l:List Pc} {i:Nat} (hi:i≤40):(ffR m l i).length≤1048575∧∀j,(rB (ffR m l i) j).2.2.1.length≤1048574:=by
 obtain⟨h1,h2⟩:=ffR_len m l i
 refine⟨by omega,fun j=> ?_⟩
 by_cases hj:j<(ffR m l i).length
 ·have:=h2 (rB (ffR m l i) j) (by unfold rB;rw [rd_lt hj];exact List.getElem_mem hj);omega
 ·unfold rB rdP
  rw [List.getD_eq_getElem?_getD,List.getElem?_eq_none (by omega)]
  simp
theorem impl_LimitsOk_m (k:Nat) (x:LimT):impl_LimitsOk.f k x=chkP (LimP x):=impl_LimitsOk_f k x
theorem rB_last (l:List Bx) (x:Bx):rB (l++[x]) l.length=x:=rd_mid' l [] x rfl
theorem set_last (l:List Bx) (x y:Bx):(l++[x]).set l.length y=l++[y]:=set_mid l [] x y
theorem rB_set {l:List Bx} {i:Nat} {x:Bx} (h:i<l.length):rB (l.set i x) i=x:=by unfold rB rdP;simp [h]
theorem impl_FirstFit_f {k:Nat} (hk:K0≤k) (m:LimT) (l:List Pc) (hl0:l.length≤1048576):impl_FirstFit.f k m l=some (FFm m l,()):=by
 have h1:impl_LimitsOk.f k (m.1,m.2.1,())=chkP (LimP m):=impl_LimitsOk_m k m
 have h2:=impl_PiecesOk_f hk l hl0
 unfold impl_FirstFit.f FFm
 rw [h1,bnd_chk,br_not]
 by_cases hm:LimP m
 case neg=>rw [br_neg hm,if_neg (fun z=>hm z.1)]
 rw [br_pos hm,h2,bnd_chk,br_not]
 by_cases hl:PiecesP l
 case neg=>rw [br_neg hl,if_neg (fun z=>hl z.2)]
 rw [br_pos hl,if_pos ⟨hm,hl⟩]
 have h40:=hl.1
 unfold K0 at hk
 refine loop_rds (P:=fun r=>r=some (ffR m l l.length,())) (n:=l.length) (fun i c=>c=(ffR m l i,(i:Int),())) rfl ?_ ?_ (by omega)
 ·rintro i c rec hi rfl
  obtain⟨b1,b2⟩:=ffR_sz (m:=m) (l:=l) (i:=i) (by omega)
  have hst:ffR m l (i+1)=putF m (rP l i) (ffR m l i):=rfl
  rw [hst]
  generalize ffR m l i=out at*
  simp only [lett_e]
  rw [ltI_dc,ln_e,br_pos (by omega),inR_dc,ln_e,br_pos (by omega),natI_n]
  refine find_in (P:=fun r=>∃c',c'=(putF m (rP l i) out,((i+1:Nat):Int),())∧r=rec c') (n:=out.length) (J:= ?J) (E:= ?E) (fun j=>fitsP m (rP l i) (rB out j)) ?hF ?hE (by omega) ?hP ?hQ
  case hF=>
   intro j rec2 hj
   rw [ltI_dc,ln_e,br_pos (by omega),inR_dc,br_pos (by omega),natI_n,addI_nat (i:=j) (by omega)]
   simp only [eqI_dc,ltI_dc,leI_dc,ln_e,g2]
   exact rfl
  case hE=>intro rec2;rw [ltI_dc,ln_e,br_neg (by omega)]
  case hP=>
   intro j hj q1 q2
   refine⟨_,rfl,?_⟩
   have hb:=b2 j
   have hf:=fit1 ((rP l i).1,()) (l:=(rB out j).2.2.1) (by omega)
   have hc:(rB out j).1=(rP l i).2.2.1:=q2.1
   have hr:∀x:Bx,rdP (0,0,[],()) (out.set j x) j=x:=fun x=>rB_set hj
   simp (disch:=omega) only [lett_e,bnd_s,bnd_chk,br_not,br_t,br_f,br_T,br_F,not_true_eq_false,not_false_eq_true,chk_T,chk_F,chk_eq,eqI_dc,ltI_dc,leI_dc,eqN_dc,notB_dc,andB_dc,andB_t,eqB_dc,notB_t,notB_f,inR_dc,upR_dc,ln_e,app_e,tk_e,dp_e,upd_e,repl_e,natI_n,br_pos,br_neg,addI_nat,addI_nn,subI_n1,subI_nn,fitN_T,List.length_set,List.length_append,List.length_cons,List.length_nil,hr,hf,List.set_set]
   rw [putF_hit hj q1 q2]
   unfold addB
   rw [←hc]
  case hQ=>
   intro g
   refine⟨_,rfl,?_⟩
   have hf:=fit1 ((rP l i).2.2.1,0,[],()) (l:=out) (by omega)
   have hf2:=fit1 ((rP l i).1,()) (l:=([]:List (Int×Unit))) (by simp)
   have hr:∀x:Bx,rdP (0,0,[],()) (out++[x]) out.length=x:=fun x=>rB_last out x
   simp (disch:=omega) only [lett_e,bnd_s,bnd_chk,br_not,br_t,br_f,br_T,br_F,not_true_eq_false,not_false_eq_true,chk_T,chk_F,chk_eq,eqI_dc,ltI_dc,leI_dc,eqN_dc,notB_dc,andB_dc,andB_t,eqB_dc,notB_t,notB_f,inR_dc,upR_dc,ln_e,app_e,tk_e,dp_e,upd_e,repl_e,natI_n,br_pos,br_neg,addI_nat,addI_nn,subI_n1,subI_nn,fitN_T,List.length_set,List.length_append,List.length_cons,List.length_nil,hr,hf,hf2,set_last]
   rw [putF_none g]
   rfl
 ·rintro c rec rfl
  simp (disch:=omega) only [lett_e,bnd_s,bnd_chk,br_not,br_t,br_f,br_T,br_F,not_true_eq_false,not_false_eq_true,chk_T,chk_F,chk_eq,eqI_dc,ltI_dc,leI_dc,eqN_dc,notB_dc,andB_dc,andB_t,eqB_dc,notB_t,notB_f,inR_dc,upR_dc,ln_e,app_e,tk_e,dp_e,upd_e,repl_e,natI_n,br_pos,br_neg,addI_n,fitN_T]
end Go.Proofs.YtpmjopbgccajgaaGreat.Eng
