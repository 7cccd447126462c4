/- The engine, in four texts: this one holds EngChg, EngMeet, EngRen, EngCode, EngDraw, EngRead, EngCall. No condition. -/
import Derived.Test.YtpmjopbgccajgaaGreatEngB
import Derived.Deep.LoopGhost
set_option linter.unusedVariables false
set_option linter.unusedSimpArgs false
namespace Go.Proofs.YtpmjopbgccajgaaGreat.Eng
open Go.RowKit
inductive Chg (G:Gh) (w:World) (G':Gh) (Rf:List Root) (w':World) (r:Nat) (q:Root):Root→Prop where
 |kept (h:q.k.hd≠none→G'.anch r=G.anch r) (hl:(∀ts l,q.k≠ .fro ts l)→q.k.hd≠none→∀s,Lk G w G' w' (.of r s) (.of r s)):Chg G w G' Rf w' r q q
 |dead (q':Root) (hb:∀cs ss,q.k≠ .box cs ss) (hk:q'.k= .dead) (hv:q.ver<q'.ver) (ha:q.anc<q'.anc):Chg G w G' Rf w' r q q'
 |row (o:Bool) (ts:Ty) (l l':List ts.den) (v:Nat) (hk:q.k= .row o ts l) (hl:List.length l'=List.length l) (hv:q.ver<v) (ha:G'.anch r=G.anch r)
   (hr:q8n G' w' (qc4 G' w' r o) (.of r 0) ts l' (G'.anch r).1 (G'.anch r).2):Chg G w G' Rf w' r q ⟨.row o ts l',v,q.anc⟩
 |box (cs cs':List AV) (ss ss':List Nat) (hk:q.k= .box cs ss) (hl:cs'.length=cs.length) (hs:ss'.length=ss.length) (ha:G'.anch r=G.anch r)
   (hc:∀b o,(G.anch r).1=some ⟨b,o,none⟩→∀f,(f<cs.length→G'.own b (o+f)= .of r 0∧w'.frozen? ⟨b,o+f,none⟩=false)∧
    ((ss'.getD f 0=ss.getD f 0∧cs'.getD f .undef=cs.getD f .undef∧(G.own b (o+f)= .of r 0→b<w.heap.size→G'.own b (o+f)= .of r 0∧at_ w' b (o+f)=at_ w b (o+f)))∨
     (ss.getD f 0<ss'.getD f 0∧∃v,at_ w' b (o+f)=some v∧(avR G' Rf w' (cs'.getD f .undef)).1 v))):Chg G w G' Rf w' r q ⟨.box cs' ss',q.ver,q.anc⟩
structure Out (G:Gh) (w:World) (G':Gh) (w':World):Prop where
 os:w'.os=w.os
 tape:w'.tape=w.tape
 output:w'.output=w.output
 size:w.heap.size≤w'.heap.size
 free:Lk G w G' w' .free .free
 hid:Lk G w G' w' .hid .hid
theorem Out.refl (G:Gh) (w:World):Out G w G w:=⟨rfl,rfl,rfl,Nat.le_refl _,Lk.refl _ _ _,Lk.refl _ _ _⟩
theorem Out.trans {G G' G'':Gh} {w w' w'':World} (h:Out G w G' w') (k:Out G' w' G'' w''):Out G w G'' w'':=
 ⟨k.os.trans h.os,k.tape.trans h.tape,k.output.trans h.output,Nat.le_trans h.size k.size,h.free.trans h.size k.free,h.hid.trans h.size k.hid⟩
theorem Chg.rle {G G':Gh} {w w':World} {Rf:List Root} {r:Nat} {q q':Root} {R:List Root} (hq:q8s G R w r q) (h:Chg G w G' Rf w' r q q'):RLe G w G' w' r q q':=by
 cases h with
 |kept h hl=>
  cases hh:q.k.hd with
  |none=>
   have hk:q.k= .dead:=by
    cases e:q.k with
    |dead=>rfl
    |_=>rw [e]at hh;cases hh
   exact⟨Nat.le_refl _,Nat.le_refl _,fun _=> .inl hh,fun t n e=>(by rw [hh]at e;cases e),q.le_refl,fun _ _ _ e=>(by rw [hk]at e;cases e),fun _ _ _ _ e=>(by rw [hk]at e;cases e)⟩
  |some z=>
   have ha:=h (by rw [hh];simp)
   by_cases hf:∃ts l,q.k= .fro ts l
   ·obtain⟨ts,l,e⟩:=hf
    exact⟨Nat.le_refl _,Nat.le_refl _,fun _=> .inr ⟨rfl,ha⟩,fun t n e'=>⟨e',ha⟩,q.le_refl,fun _ _ _ e'=>(by rw [e]at e';cases e'),fun _ _ _ _ e'=>(by rw [e]at e';cases e')⟩
   ·exact RLe.of_same ha (hl (fun ts l e=>hf ⟨ts,l,e⟩) (by rw [hh];simp))
 |dead _ hb hk hv ha=>exact RLe.row' hb (fun cs ss e=>by rw [hk]at e;cases e) hv (Nat.le_of_lt ha) (fun e=>by omega)
 |row o ts l l' v hk hl hv ha hr=>
  exact RLe.row' (fun cs ss e=>by rw [hk]at e;cases e) (fun cs ss e=>by cases e) hv (Nat.le_refl _) (fun _=> .inr ⟨by rw [hk];simp [RK.hd,hl],ha⟩)
 |box cs cs' ss ss' hk hl hs ha hc=>
  unfold q8s at hq
  rw [hk]at hq
  obtain⟨_,b,o,ea,_⟩:=hq
  have e:q=⟨.box cs ss,q.ver,q.anc⟩:=by rw [←hk]
  rw [e]
  refine RLe.box' ha hl (fun f=> ?_) (fun f hf b' o' ea' ho hb=> ?_)
  ·rcases (hc b o ea f).2 with⟨h1,h2,_⟩|⟨h1,_⟩
   ·exact⟨by omega,fun _=>h2⟩
   ·exact⟨by omega,fun e=>by omega⟩
  ·rw [ea]at ea';cases ea'
   rcases (hc b o ea f).2 with⟨_,_,h3⟩|⟨h1,_⟩
   ·exact h3 ho hb
   ·omega
theorem q0i9 {G G':Gh} {R Rf:List Root} {w w':World} (hR:RelR G R w) (hO:Out G w G' w') (hc:∀r q,R[r]? =some q→∃q',Rf[r]? =some q'∧Chg G w G' Rf w' r q q')
  (hn:∀r q,R.length≤r→Rf[r]? =some q→q8s G' Rf w' r q):RelR G' Rf w'∧Evo G R w G' Rf w':=by
 have hE:Evo G R w G' Rf w':=⟨hO.os,hO.tape,hO.output,hO.size,hO.free,hO.hid,fun r q hq=>by
  obtain⟨q',hq',h⟩:=hc r q hq
  exact⟨q',hq',h.rle (hR r q hq)⟩⟩
 refine⟨fun r q' hq'=> ?_,hE⟩
 by_cases hr:R.length≤r
 ·exact hn r q' hr hq'
 ·have hlt:r<R.length:=by omega
  obtain⟨q'',hq'',h⟩:=hc r R[r] (List.getElem?_eq_getElem hlt)
  rw [hq']at hq'';cases hq''
  have hro:=hR r R[r] (List.getElem?_eq_getElem hlt)
  generalize R[r]=q at h hro
  cases h with
  |kept h hl=>
   cases hh:q'.k.hd with
   |none=>
    have hk:q'.k= .dead:=by
     cases e:q'.k with
     |dead=>rfl
     |_=>rw [e]at hh;cases hh
    unfold q8s;rw [hk];trivial
   |some z=>
    have ha:=h (by rw [hh];simp)
    by_cases hf:∃ts l,q'.k= .fro ts l
    ·obtain⟨ts,l,e⟩:=hf
     unfold q8s at hro ⊢
     rw [e]at hro ⊢
     rw [ha]
     exact(q8t (q6s hO.free) (.slice ts)).1 _ _ hro
    ·exact qja hE ha (hl (fun ts l e=>hf ⟨ts,l,e⟩) (by rw [hh];simp)) hro
  |dead _ hb hk hv ha=>unfold q8s;rw [hk];trivial
  |row o ts l l' v hk hl hv ha hr=>exact hr
  |box cs cs' ss ss' hk hl hs ha hc=>
   unfold q8s at hro
   rw [hk]at hro
   obtain⟨h0,b,o,ea,hcs⟩:=hro
   refine⟨by rw [hs,hl,h0],b,o,by rw [ha];exact ea,fun f hf=> ?_⟩
   rw [hl]at hf
   obtain⟨c1,c2⟩:=(hc b o ea f).1 hf
   have c3:=(hc b o ea f).2
   refine⟨c1,c2,?_⟩
   rcases c3 with⟨_,c4,c5⟩|⟨_,v,c6,c7⟩
   ·obtain⟨d1,d2,v,d3,d4⟩:=hcs f hf
    refine⟨v,by rw [(c5 d1 (q1z d3)).2];exact d3,?_⟩
    rw [c4];exact(qac hE _).1 _ d4
   ·exact⟨v,c6,c7⟩
theorem q0ix (ps:List Put):∀(R:List Root) (n r:Nat),(qvb ps n R)[r]? =(R[r]?).map (q8v (n+r) ps):=by
 intro R
 induction R with
 |nil=>intro n r;simp [qvb]
 |cons q R ih=>
  intro n r
  cases r with
  |zero=>simp [qvb]
  |succ r=>simp only [qvb,List.getElem?_cons_succ,ih];rw [show n+1+r=n+(r+1) by omega]
theorem q0h8 (ps:List Put) (R:List Root) (r:Nat):(puts ps R)[r]? =(R[r]?).map (q8v r ps):=by
 cases ps with
 |nil=>simp only [puts];cases R[r]? <;>rfl
 |cons p ps=>have:=q0ix (p::ps) R 0 r;rw [Nat.zero_add]at this;exact this
theorem qfw (ps:List Put) (R:List Root):(puts ps R).length=R.length:=by
 have:∀(R:List Root) (n:Nat),(qvb ps n R).length=R.length:=by
  intro R
  induction R with
  |nil=>intro n;rfl
  |cons q R ih=>intro n;simp [qvb,ih]
 cases ps with
 |nil=>rfl
 |cons p ps=>exact this R 0
def Put.at:Put→Nat| .root r _=>r| .cell r _ _=>r
theorem qqe {r:Nat}:∀ {ps:List Put},(∀p∈ps,p.at≠r)→∀q,q8v r ps q=q
 | [],_,_=>rfl
 | .root r' q'::ps,h,q=>by
  have e:Nat.beq r' r=false:=by
   have:=h _ (List.mem_cons_self);cases hb:Nat.beq r' r with
   |false=>rfl
   |true=>exact absurd (qd hb) this
  simp only [q8v,e]
  exact qqe (fun p hp=>h p (List.mem_cons_of_mem _ hp)) q
 | .cell r' f v::ps,h,q=>by
  have e:Nat.beq r' r=false:=by
   have:=h _ (List.mem_cons_self);cases hb:Nat.beq r' r with
   |false=>rfl
   |true=>exact absurd (qd hb) this
  simp only [q8v,e]
  exact qqe (fun p hp=>h p (List.mem_cons_of_mem _ hp)) q
end Go.Proofs.YtpmjopbgccajgaaGreat.Eng
namespace Go.Proofs.YtpmjopbgccajgaaGreat.Eng
open Go.RowKit
def qyl:List It→Nat→List (Nat×Nat)
 | [],_=>[]
 |i::is,n=>match i.p with
  | .root r=>(r,0)::qyl is n
  |_=>(List.range' n (q0l i.m i.t)).map (fun k=>(k,0))++qyl is (n+q0l i.m i.t)
def q0ep:List It→Nat
 | []=>0
 |i::is=>(match qrx i with|true=>0|false=>q0l i.m i.t)+q0ep is
theorem qoz {n k:Nat} {L:List (Nat×Nat)}:consec ((List.range' n k).map (fun j=>(j,0))++L) n k:=fun j hj=>by
 rw [List.getD_eq_getElem?_getD,List.getElem?_append_left (by simpa using hj)]
 simp [hj]
theorem qqx:∀(is:List It) (n:Nat),∀p∈qyl is n,p.2=0
 | [],_,p,h=>by cases h
 |i::is,n,p,h=>by
  obtain⟨q,m,t⟩:=i
  cases q with
  |root r=>
   simp only [qyl,List.mem_cons]at h
   rcases h with e|h
   ·rw [e]
   ·exact qqx is n p h
  |slot s=>
   simp only [qyl,List.mem_append,List.mem_map]at h
   rcases h with⟨k,_,e⟩|h
   ·rw [←e]
   ·exact qqx is _ p h
  |cell s f=>
   simp only [qyl,List.mem_append,List.mem_map]at h
   rcases h with⟨k,_,e⟩|h
   ·rw [←e]
   ·exact qqx is _ p h
def q0f9 (G:Gh) (R:List Root) (w:World):List It→(t:Ty)→t.den→Nat→List Value→Prop
 |i::is,.cons t ts,x,n,v::vs=>match qrx i with
  |true=>q0f9 G R w is ts x.2 n vs
  |false=>(avR G R w (qxy i.m t x.1 n)).1 v∧q0f9 G R w is ts x.2 (n+q0l i.m t) vs
 |_,_,_,_,_=>True
def q0mk (G:Gh) (w:World):List It→(t:Ty)→t.den→List Value→Prop
 |i::is,.cons t ts,x,v::vs=>(match i.p with| .root r=>qkk G w i.m.sm t x.1 v (r,0)|_=>True)∧q0mk G w is ts x.2 vs
 |_,_,_,_=>True
theorem qyq {G:Gh} {w:World} {R0:List Root}:∀(is:List It) (x:(q1f is).den) (vs:List Value) (n:Nat),qaj R0 is=true→qyf G w (q1f is) x (qrw is) vs (qyl is n)→
  InOk G w n (q0ep is) (quw is (q1f is) x n) (fun G' R'=>q0f9 G' R' w is (q1f is) x n vs)∧q0mk G w is (q1f is) x vs
 | [],x,vs,n,_,h=>⟨InOk.none (fun an R'=>trivial),trivial⟩
 |i::is,x,vs,n,hr,h=>by
  obtain⟨p,m,t⟩:=i
  cases vs with
  |nil=>exact h.elim
  |cons v vs=>
   obtain⟨h1,h2⟩:=h
   cases p with
   |root r=>
    simp only [qaj]at hr
    obtain⟨hr1,hr2⟩:=and2 hr
    split at hr1
    ·rename_i o ts l ver anc us hq
     obtain⟨hr1,hr4⟩:=and2 hr1
     obtain⟨hr1,hr5⟩:=and2 hr1
     obtain⟨hr1,hr6⟩:=and2 hr1
     have hp:m.ptr=false:=by simpa using hr1
     have hsm:q5f m.sm (.slice us)=true:=by simp only [q5f,Ty.isSl,Bool.and_true];exact hr6
     have hids:q0l m (.slice us)=1:=by simp [q0l,hp,qbz,q1w,hsm]
     have hone:qkk G w m.sm (.slice us) x.1 v (r,0):=by
      have h1':=h1
      unfold hOne at h1'
      rw [hp]at h1'
      exact h1'
     have h2':qyf G w (q1f is) x.2 (qrw is) vs (qyl is n):=by
      have e:(qyl (⟨.root r,m,.slice us⟩::is) n).drop (q0l m (.slice us))=qyl is n:=by rw [hids];rfl
      rw [←e];exact h2
     obtain⟨i1,i2⟩:=qyq is x.2 vs n hr2 h2'
     refine⟨?_,hone,i2⟩
     have e1:q0ep (⟨.root r,m,.slice us⟩::is)=q0ep is:=by simp [q0ep,qrx]
     rw [e1]
     exact i1
    ·cases hr1
   |slot s=>
    have h2':qyf G w (q1f is) x.2 (qrw is) vs (qyl is (n+q0l m t)):=by
     have e:(qyl (⟨.slot s,m,t⟩::is) n).drop (q0l m t)=qyl is (n+q0l m t):=by simp [qyl]
     rw [←e];exact h2
    obtain⟨i1,i2⟩:=qyq is x.2 vs _ hr h2'
    exact⟨(q0ht h1 qoz).append i1,trivial,i2⟩
   |cell s f=>
    have h2':qyf G w (q1f is) x.2 (qrw is) vs (qyl is (n+q0l m t)):=by
     have e:(qyl (⟨.cell s f,m,t⟩::is) n).drop (q0l m t)=qyl is (n+q0l m t):=by simp [qyl]
     rw [←e];exact h2
    obtain⟨i1,i2⟩:=qyq is x.2 vs _ hr h2'
    exact⟨(q0ht h1 qoz).append i1,trivial,i2⟩
def q0ov (G:Gh) (R:List Root) (a:Act) (w:World) (p:Place) (v:Value):Prop:=match p with
 | .slot s=>v=a.tmps.getD s undef
 | .cell r f=>∀cs ss ver anc b o,R[r]? =some ⟨.box cs ss,ver,anc⟩→f<cs.length→(G.anch r).1=some ⟨b,o,none⟩→at_ w b (o+f)=some v
 | .root r=>∀o ts l ver anc,R[r]? =some ⟨.row o ts l,ver,anc⟩→v= .slice (G.anch r).1 (List.length l) (G.anch r).2
theorem q0kr {G:Gh} {σ:St} {a:Act} {w:World} (hR:Rel G σ a w) (p:Place):∃v,(avR G σ.roots w (q05b σ p)).1 v∧q0ov G σ.roots a w p v:=by
 cases p with
 |slot s=>exact⟨_,hR.tmps s,rfl⟩
 |cell r f=>
  by_cases hb:∃cs ss ver anc,σ.roots[r]? =some ⟨.box cs ss,ver,anc⟩
  ·obtain⟨cs,ss,ver,anc,hq⟩:=hb
   obtain⟨_,b,o,ea,hcs⟩:=hR.roots r _ hq
   have hpl:q05b σ (.cell r f)=cs.getD f .undef:=by simp [q05b,hq]
   rw [hpl]
   by_cases hf:f<cs.length
   ·obtain⟨_,_,v,h3,h4⟩:=hcs f hf
    refine⟨v,h4,fun cs' ss' ver' anc' b' o' hq' _ ea'=> ?_⟩
    rw [ea]at ea';cases ea';exact h3
   ·refine⟨undef,?_,fun cs' ss' ver' anc' b' o' hq' hf' _=> ?_⟩
    ·rw [List.getD_eq_getElem?_getD,List.getElem?_eq_none (by omega)];exact trivial
    ·rw [hq]at hq';cases hq';exact absurd hf' hf
  ·refine⟨undef,?_,fun cs ss ver anc b o hq=>absurd ⟨cs,ss,ver,anc,hq⟩ hb⟩
   have:q05b σ (.cell r f)= .undef:=by
    simp only [q05b]
    split
    ·rename_i cs ss ver anc hq;exact absurd ⟨cs,ss,ver,anc,hq⟩ hb
    ·rfl
   rw [this];exact trivial
 |root r=>
  cases hq:σ.roots[r]? with
  |none=>exact⟨undef,by simp [q05b,hq,avR],fun o ts l ver anc h=>by rw [hq]at h;cases h⟩
  |some q=>
   obtain⟨k,ver,anc⟩:=q
   have hpl:q05b σ (.root r)= .sl r anc:=by simp [q05b,hq]
   rw [hpl]
   cases hh:k.hd with
   |none=>
    refine⟨undef,⟨_,hq,Nat.le_refl _,fun _ ts n h=> ?_⟩,fun o ts l ver' anc' h=> ?_⟩
    ·simp only at h;rw [hh]at h;cases h
    ·rw [hq]at h;cases h;cases hh
   |some z=>
    obtain⟨bx,ts,n⟩:=z
    refine⟨.slice (G.anch r).1 n (G.anch r).2,⟨_,hq,Nat.le_refl _,fun _ ts' n' h=> ?_⟩,fun o ts' l ver' anc' h=> ?_⟩
    ·simp only at h;rw [hh]at h;cases h;rfl
    ·rw [hq]at h;cases h;cases hh;rfl
def q0f8 (G:Gh) (R:List Root) (a:Act) (w:World):List It→List Value→Prop
 |i::is,v::vs=>q0ov G R a w i.p v∧q0f8 G R a w is vs
 |_,_=>True
theorem q00v {G:Gh} {σ:St} {a:Act} {w:World} (hR:Rel G σ a w):∀(is:List It),∃vs:List Value,(places σ is).length=vs.length∧(∀i,i<(places σ is).length→(avR G σ.roots w ((places σ is).getD i .undef)).1 (vs.getD i undef))∧q0f8 G σ.roots a w is vs
 | []=>⟨[],rfl,fun i hi=>by simp [places]at hi,trivial⟩
 |i::is=>by
  obtain⟨vs,h1,h2,h3⟩:=q00v hR is
  obtain⟨v,g1,g2⟩:=q0kr hR i.p
  refine⟨v::vs,by simp [places,h1],fun j hj=> ?_,g2,h3⟩
  cases j with
  |zero=>exact g1
  |succ j=>simpa [places]using h2 j (by simpa [places]using hj)
def qnk (R:List Root):Sr→Nat×Nat→Nat→Nat→Option Lab
 | .nul,_,_,_=>none
 | .row r',p,r,s=>if r'=r then some (.of p.1 s)else none
 | .inn r' i f,p,r,s=>if r'=r then some (match R[r]? with|some ⟨.row _ ts _,_,_⟩=>if s=i*ts.size+f+1 then .of p.1 p.2 else .hid|_=> .hid)else none
 | .box r' _ _,p,r,s=>if r'=r then some (.of p.1 s)else none
def tauS (R:List Root):List Sr→List (Nat×Nat)→Nat→Nat→Option Lab
 | [],_,_,_=>none
 |x::ss,L,r,s=>match qnk R x (L.headD (0,0)) r s with|some l=>some l|none=>tauS R ss (L.drop 1) r s
theorem qza {R:List Root} {x:Sr} {p:Nat×Nat} {r s:Nat} (h:r∉x.id):qnk R x p r s=none:=by
 cases x with
 |nul=>rfl
 |row r'=>simp only [Sr.id,List.mem_singleton]at h;simp [qnk,Ne.symm h]
 |inn r' i f=>simp only [Sr.id,List.mem_singleton]at h;simp [qnk,Ne.symm h]
 |box r' f n=>simp only [Sr.id,List.mem_singleton]at h;simp [qnk,Ne.symm h]
theorem qqy {R:List Root}:∀ {ss:List Sr} {L:List (Nat×Nat)} {r s:Nat},r∉q11 ss→tauS R ss L r s=none
 | [],_,_,_,_=>rfl
 |x::ss,L,r,s,h=>by
  simp only [q11,List.mem_append,not_or]at h
  simp only [tauS,qza h.1]
  exact qqy h.2
theorem q09o {G:Gh} {w:World} {R:List Root} {G':Gh} {τ:Nat→Nat→Lab} (hl:∀r s,Lk G w G' w (.of r s) (τ r s)):∀ {ss:List Sr} {L:List (Nat×Nat)},(q11 ss).Nodup→(∀p∈L,p.2=0)→
  (∀r,r∈q11 ss→∀s,tauS R ss L r s=some (τ r s))→TgtL G w R G' ss L
 | [],_,_,_,_=>trivial
 |x::ss,L,hn,hz,h=>by
  have hp:(L.headD (0,0)).2=0:=by
   cases L with
   |nil=>rfl
   |cons p L=>exact hz p (by simp)
  simp only [q11,List.nodup_append]at hn
  obtain⟨n1,n2,n3⟩:=hn
  refine⟨?_,q09o hl n2 (fun p hp=>hz p (List.mem_of_mem_drop hp)) (fun r hr s=> ?_)⟩
  ·cases x with
   |nul=>exact hp
   |row r=>
    refine⟨hp,fun s=> ?_⟩
    have:=h r (by simp [q11,Sr.id]) s
    simp only [tauS,qnk,if_true]at this
    have e:Lab.of (L.headD (0,0)).1 s=τ r s:=Option.some.inj this
    rw [e];exact hl r s
   |inn r i f=>
    intro o ts l v a hq
    have:=h r (by simp [q11,Sr.id]) (i*ts.size+f+1)
    simp only [tauS,qnk,if_true,hq]at this
    have e:Lab.of (L.headD (0,0)).1 (L.headD (0,0)).2=τ r (i*ts.size+f+1):=Option.some.inj this
    rw [e];exact hl r _
   |box r f n=>
    refine⟨hp,?_⟩
    have:=h r (by simp [q11,Sr.id]) 0
    simp only [tauS,qnk,if_true]at this
    have e:Lab.of (L.headD (0,0)).1 0=τ r 0:=Option.some.inj this
    rw [e];exact fun b o _ j _ hb ho=>(hl r 0 _ _ hb ho).1
  ·have hx:r∉x.id:=fun hx=>n3 r hx r hr rfl
   have:=h r (by simp [q11,hr]) s
   simp only [tauS,qza hx]at this
   exact this
def q0ou (σ:St) (P:Nat→Root→Prop):List It→(t:Ty)→t.den→Prop
 |i::is,.cons t ts,x=>(match i.p with| .root r=>∃q,q00m σ r t x.1=[.root r q]∧P r q|_=>True)∧q0ou σ P is ts x.2
 |_,_,_=>True
def q0ml (B:Nat→Nat→AV→Prop):List It→(t:Ty)→t.den→Nat→Prop
 |i::is,.cons t ts,x,n=>match i.p with
  | .root r=>q0ml B is ts x.2 n
  | .cell r f=>B r f (qxy i.m t x.1 n)∧q0ml B is ts x.2 (n+q0l i.m t)
  | .slot _=>q0ml B is ts x.2 (n+q0l i.m t)
 |_,_,_,_=>True
theorem qrb {q:Root} (hb:∀cs ss,q.k≠ .box cs ss) (f:Nat) (v:AV):setCell q f v=q:=by
 unfold setCell
 cases hk:q.k with
 |box cs ss=>exact absurd hk (hb cs ss)
 |_=>rfl
theorem qtg {σ:St} {P:Nat→Root→Prop} (hP:∀r q,P r q→∀cs ss,q.k≠ .box cs ss) {r:Nat}:∀(is:List It) (x:(q1f is).den) (n:Nat) (q:Root),(∀cs ss,q.k≠ .box cs ss)→q0ou σ P is (q1f is) x→
  (r∉q51 is→q8v r (qbr σ is (q1f is) x n) q=q)∧(r∈q51 is→P r (q8v r (qbr σ is (q1f is) x n) q))
 | [],x,n,q,hb,_=>⟨fun _=>rfl,fun h=>by cases h⟩
 |⟨.slot s,m,t⟩::is,x,n,q,hb,hg=>qtg hP is x.2 _ q hb hg.2
 |⟨.cell r' f,m,t⟩::is,x,n,q,hb,hg=>by
  have:=qtg hP is x.2 (n+q0l m t) q hb hg.2 (r:=r)
  have e:q8v r (qbr σ (⟨.cell r' f,m,t⟩::is) (q1f (⟨.cell r' f,m,t⟩::is)) x n) q=q8v r (qbr σ is (q1f is) x.2 (n+q0l m t)) q:=by
   show q8v r _ (match Nat.beq r' r with|true=>setCell q f _|false=>q)=_
   rw [qrb hb]
   cases Nat.beq r' r<;>rfl
  rw [e];exact this
 |⟨.root r',m,t⟩::is,x,n,q,hb,hg=>by
  obtain⟨⟨q1,hq1,hp1⟩,hg⟩:=hg
  have e:q8v r (qbr σ (⟨.root r',m,t⟩::is) (q1f (⟨.root r',m,t⟩::is)) x n) q=q8v r (qbr σ is (q1f is) x.2 n) (match Nat.beq r' r with|true=>q1|false=>q):=by
   show q8v r (q00m σ r' t x.1++qbr σ is (q1f is) x.2 n) q=_
   rw [hq1];rfl
  rw [e]
  cases hbq:Nat.beq r' r with
  |true=>
   have er:=qd hbq
   subst er
   obtain⟨h1,h2⟩:=qtg hP is x.2 n q1 (hP _ _ hp1) hg (r:=r')
   refine⟨fun h=>absurd (by simp [q51]) h,fun _=> ?_⟩
   by_cases hm:r'∈q51 is
   ·exact h2 hm
   ·simp only [h1 hm];exact hp1
  |false=>
   have er:r≠r':=fun e=>by subst e;rw [Nat.beq_refl]at hbq;cases hbq
   obtain⟨h1,h2⟩:=qtg hP is x.2 n q hb hg (r:=r)
   exact⟨fun h=>h1 (fun hm=>h (by simp [q51,hm])),fun h=>h2 (by simpa [q51,er]using h)⟩
theorem q77 {α:Type} {l:List α} {i:Nat} {y d:α} (h:i<l.length):(l.set i y).getD i d=y:=by simp [List.getD_eq_getElem?_getD,h]
theorem getD_set_ne {α:Type} {l:List α} {i j:Nat} {y d:α} (h:i≠j):(l.set i y).getD j d=l.getD j d:=by simp [List.getD_eq_getElem?_getD,List.getElem?_set_ne h]
theorem q00t {σ:St} {P:Nat→Root→Prop} {B:Nat→Nat→AV→Prop} {r ver anc:Nat}:∀(is:List It) (x:(q1f is).den) (n:Nat) (cs:List AV) (ss:List Nat),ss.length=cs.length→r∉q51 is→q0ou σ P is (q1f is) x→q0ml B is (q1f is) x n→
  ∃cs' ss',q8v r (qbr σ is (q1f is) x n) ⟨.box cs ss,ver,anc⟩=⟨.box cs' ss',ver,anc⟩∧cs'.length=cs.length∧ss'.length=ss.length∧
   ∀f,(¬(q02t is r f=true∧f<cs.length)∧cs'.getD f .undef=cs.getD f .undef∧ss'.getD f 0=ss.getD f 0)∨(q02t is r f=true∧f<cs.length∧ss.getD f 0<ss'.getD f 0∧B r f (cs'.getD f .undef))
 | [],x,n,cs,ss,hl,_,_,_=>⟨cs,ss,rfl,rfl,rfl,fun f=> .inl ⟨fun h=>(by cases h.1),rfl,rfl⟩⟩
 |⟨.slot s,m,t⟩::is,x,n,cs,ss,hl,hr,hg,hc=>q00t is x.2 _ cs ss hl hr hg.2 hc
 |⟨.root r',m,t⟩::is,x,n,cs,ss,hl,hr,hg,hc=>by
  obtain⟨⟨q1,hq1,_⟩,hg⟩:=hg
  have er:Nat.beq r' r=false:=by
   cases h:Nat.beq r' r with
   |false=>rfl
   |true=>exact absurd (by simp [q51,qd h]) hr
  obtain⟨cs',ss',e,h⟩:=q00t (ver:=ver) (anc:=anc) is x.2 n cs ss hl (fun (hm:r∈q51 is)=>hr (by simp [q51,hm])) hg hc
  refine⟨cs',ss',?_,h⟩
  show q8v r (q00m σ r' t x.1++qbr σ is (q1f is) x.2 n) _=_
  rw [hq1,List.singleton_append,q8v,er];exact e
 |⟨.cell r' f',m,t⟩::is,x,n,cs,ss,hl,hr,hg,hc=>by
  obtain⟨hb,hc⟩:=hc
  have hit:∀f,q02t (⟨.cell r' f',m,t⟩::is) r f=((Nat.beq r' r&&Nat.beq f' f)||q02t is r f):=fun f=>rfl
  cases er:Nat.beq r' r with
  |false=>
   obtain⟨cs',ss',e,h1,h2,h3⟩:=q00t (ver:=ver) (anc:=anc) is x.2 (n+q0l m t) cs ss hl hr hg.2 hc
   refine⟨cs',ss',?_,h1,h2,fun f=> ?_⟩
   ·show q8v r _ (match Nat.beq r' r with|true=>_|false=>_)=_
    rw [er];exact e
   ·rw [hit,er];exact h3 f
  |true=>
   have e':=qd er
   subst e'
   obtain⟨cs',ss',e,h1,h2,h3⟩:=q00t (ver:=ver) (anc:=anc) is x.2 (n+q0l m t) (cs.set f' (qxy m t x.1 n)) (ss.set f' (ss.getD f' 0+1)) (by simp [hl]) hr hg.2 hc
   refine⟨cs',ss',?_,by simpa using h1,by simpa using h2,fun f=> ?_⟩
   ·show q8v r' _ (match Nat.beq r' r' with|true=>setCell _ f' _|false=>_)=_
    rw [er];exact e
   ·rw [hit,er]
    rw [List.length_set]at h3
    by_cases hf:f'=f
    ·subst hf
     by_cases hlt:f'<cs.length
     ·right
      have e1:(cs.set f' (qxy m t x.1 n)).getD f' .undef=qxy m t x.1 n:=q77 hlt
      have e2:(ss.set f' (ss.getD f' 0+1)).getD f' 0=ss.getD f' 0+1:=q77 (by omega)
      rcases h3 f' with⟨_,g1,g2⟩|⟨_,_,g1,g2⟩
      ·exact⟨by simp,hlt,by rw [g2,e2];omega,by rw [g1,e1];exact hb⟩
      ·exact⟨by simp,hlt,by rw [e2]at g1;omega,g2⟩
     ·left
      rcases h3 f' with⟨_,g1,g2⟩|⟨_,g0,_⟩
      ·refine⟨fun h=>hlt h.2,?_,?_⟩
       ·rw [g1,List.set_eq_of_length_le (by omega)]
       ·rw [g2,List.set_eq_of_length_le (by omega)]
      ·exact absurd g0 hlt
    ·have e0:Nat.beq f' f=false:=by
      cases h:Nat.beq f' f with
      |false=>rfl
      |true=>exact absurd (qd h) hf
     rw [e0]
     have:=h3 f
     rw [getD_set_ne hf,getD_set_ne hf]at this
     simpa using this
theorem q0e5 (q:Root):q30 (q30 q)=q30 q:=by
 obtain⟨k,v,a⟩:=q
 cases k<;>rfl
theorem q0ho:∀(rs:List Nat) (σ:St) (r:Nat),(kill σ rs).roots[r]? =if r∈rs then(σ.roots[r]?).map q30 else σ.roots[r]?
 | [],σ,r=>by simp [kill]
 |m::rs,σ,r=>by
  rw [kill,q0ho rs]
  have h1:∀x,(q0e6 σ m).roots[x]? =if x=m then(σ.roots[x]?).map q30 else σ.roots[x]? :=by
   intro x
   unfold q0e6
   cases hm:σ.roots[m]? with
   |none=>
    by_cases e:x=m
    ·subst e;simp [hm]
    ·simp [e]
   |some q=>
    have hlt:m<σ.roots.length:=(List.getElem?_eq_some_iff.1 hm).1
    by_cases e:x=m
    ·subst e;simp only [q2z,List.getElem?_set_self hlt,hm,if_true,Option.map_some]
    ·simp [q2z,e,List.getElem?_set_ne (Ne.symm e)]
  rw [h1 r]
  by_cases e:r=m
  ·subst e
   by_cases hr:r∈rs
   ·simp only [hr,if_true,List.mem_cons,or_true]
    cases σ.roots[r]? with
    |none=>rfl
    |some q=>simp [q0e5]
   ·simp [hr]
  ·simp [e]
theorem q02q:∀(rs:List Nat) (σ:St),(kill σ rs).tmps=σ.tmps
 | [],_=>rfl
 |r::rs,σ=>by
  rw [kill,q02q rs]
  unfold q0e6
  cases σ.roots[r]? <;>rfl
theorem q0hn:∀(rs:List Nat) (σ:St),(kill σ rs).roots.length=σ.roots.length
 | [],_=>rfl
 |r::rs,σ=>by
  rw [kill,q0hn rs]
  unfold q0e6
  cases σ.roots[r]? <;>simp [q2z]
theorem qst:∀(ds:List Nat) (σ:St),(wipe σ ds).roots=σ.roots
 | [],_=>rfl
 |d::ds,σ=>by rw [wipe,qst ds];rfl
theorem q09l:∀(ds:List Nat) (σ:St) (t:Nat),(t∉ds→(wipe σ ds).get t=σ.get t)∧(t∈ds→(wipe σ ds).get t= .undef)
 | [],σ,t=>⟨fun _=>rfl,fun h=>by cases h⟩
 |d::ds,σ,t=>by
  obtain⟨h1,h2⟩:=q09l ds (σ.put (some d) .undef) t
  have e1:t≠d→(σ.put (some d) .undef).get t=σ.get t:=fun e=>by
   simp only [St.put,St.get];exact getD_set_ne (Ne.symm e)
  have e2:t=d→(σ.put (some d) .undef).get t= .undef:=fun e=>by
   subst e
   simp only [St.put,St.get]
   by_cases h:t<σ.tmps.length
   ·exact q77 h
   ·rw [List.getD_eq_getElem?_getD,List.getElem?_eq_none (by simp;omega)];rfl
  refine⟨fun h=> ?_,fun h=> ?_⟩
  ·simp only [List.mem_cons,not_or]at h
   rw [wipe,h1 h.2,e1 h.1]
  ·by_cases hm:t∈ds
   ·rw [wipe];exact h2 hm
   ·rw [wipe,h1 hm]
    simp only [List.mem_cons]at h
    exact e2 (h.resolve_right hm)
theorem q0gy:∀(ds:List Nat) (σ:St),(wipe σ ds).tmps.length=σ.tmps.length
 | [],_=>rfl
 |d::ds,σ=>by rw [wipe,q0gy ds];simp [St.put]
theorem qrv {is:List It} {dead:List Nat}:∀ {ps qs:List Root} {n:Nat},q02r is dead n ps qs=true→∀r p,ps[r]? =some p→∃q,qs[r]? =some q∧quh is dead (n+r) p q=true
 | [],qs,n,_,r,p,hp=>by simp at hp
 |p0::ps,[],n,h,r,p,hp=>by cases h
 |p0::ps,q0::qs,n,h,r,p,hp=>by
  obtain⟨h1,h2⟩:=and2 h
  cases r with
  |zero=>simp at hp;subst hp;exact⟨q0,rfl,h1⟩
  |succ r=>
   obtain⟨q,e,g⟩:=qrv h2 r p (by simpa using hp)
   exact⟨q,by simpa using e,by rwa [show n+1+r=n+(r+1) by omega]at g⟩
theorem q095 {is:List It} {r:Nat}:∀ {ss ts:List Nat} {n:Nat},q0hp is r n ss ts=true→ss.length=ts.length∧∀f,q02t is r (n+f)=true∨ss.getD f 0=ts.getD f 0
 | [],[],n,_=>⟨rfl,fun f=> .inr rfl⟩
 | [],_::_,n,h=>by cases h
 |_::_,[],n,h=>by cases h
 |s::ss,t::ts,n,h=>by
  obtain⟨h1,h2⟩:=and2 h
  obtain⟨g1,g2⟩:=q095 h2
  refine⟨by simp [g1],fun f=> ?_⟩
  cases f with
  |zero=>
   rcases Bool.or_eq_true_iff.1 h1 with e|e
   ·exact .inr (qd e)
   ·exact .inl e
  |succ f=>
   rcases g2 f with e|e
   ·exact .inl (by rwa [show n+1+f=n+(f+1) by omega]at e)
   ·exact .inr (by simpa using e)
theorem qou {R:List Root} {ok:List Nat}:∀ {rs:List Nat},qyu R ok rs=true→∀r∈rs,R.length≤r∨(r∈ok∧q97 R r=false)
 | [],_,r,h=>by cases h
 |x::rs,h,r,hr=>by
  obtain⟨h1,h2⟩:=and2 h
  rcases List.mem_cons.1 hr with e|hr
  ·subst e
   rcases Bool.or_eq_true_iff.1 h1 with e|e
   ·exact .inl (qab e)
   ·obtain⟨e1,e2⟩:=and2 e
    exact .inr ⟨q4v.1 e1,by simpa using e2⟩
  ·exact qou h2 r hr
theorem qz4 {R:List Root}:∀ {ss:List Sr} {L:List (Nat×Nat)} {r s:Nat},r∈q11 ss→∃l,tauS R ss L r s=some l
 |x::ss,L,r,s,h=>by
  simp only [q11,List.mem_append]at h
  simp only [tauS]
  cases hx:qnk R x (L.headD (0,0)) r s with
  |some l=>exact⟨l,rfl⟩
  |none=>
   refine qz4 (h.resolve_left (fun hm=> ?_))
   cases x with
   |nul=>cases hm
   |row r'=>simp only [Sr.id,List.mem_singleton]at hm;simp [qnk,hm]at hx
   |inn r' i f=>simp only [Sr.id,List.mem_singleton]at hm;simp [qnk,hm]at hx
   |box r' f n=>simp only [Sr.id,List.mem_singleton]at hm;simp [qnk,hm]at hx
theorem qyz {G G':Gh} {R R':List Root} {a:Act} {w:World}:∀(is:List It) (x:(q1f is).den) (vs:List Value) (n:Nat),q0f9 G R w is (q1f is) x n vs→q0f8 G' R' a w is vs→vs.length=is.length→
  q0ml (fun r f av=>∃v,(avR G R w av).1 v∧q0ov G' R' a w (.cell r f) v) is (q1f is) x n
 | [],_,_,_,_,_,_=>trivial
 |i::is,x,[],n,_,_,hl=>by simp at hl
 |⟨.root r,m,t⟩::is,x,v::vs,n,hg,hv,hl=>qyz is x.2 vs n hg hv.2 (by simpa using hl)
 |⟨.slot s,m,t⟩::is,x,v::vs,n,hg,hv,hl=>qyz is x.2 vs _ hg.2 hv.2 (by simpa using hl)
 |⟨.cell r f,m,t⟩::is,x,v::vs,n,hg,hv,hl=>⟨⟨v,hg.1,hv.1⟩,qyz is x.2 vs _ hg.2 hv.2 (by simpa using hl)⟩
def RtP (G G':Gh) (R':List Root) (a:Act) (w:World) (R0:List Root) (r:Nat) (q:Root):Prop:=
 ∃o ts l ver anc,R0[r]? =some ⟨.row o ts l,ver,anc⟩∧∃l':List ts.den,q=⟨.row o ts l',ver+1,anc⟩∧∃a0 c,q8n G w (qc4 G w r o) (.of r 0) ts l' a0 c∧q0ov G' R' a w (.root r) (.slice a0 (List.length l') c)
theorem q0i4 {a b:Ty} (h:(a.eq? b).isSome=true):a=b:=by
 cases e:a.eq? b with
 |none=>rw [e]at h;cases h
 |some p=>exact p.down
theorem qym {G G':Gh} {σ:St} {R':List Root} {a:Act} {w:World}:∀(is:List It) (x:(q1f is).den) (vs:List Value),qaj σ.roots is=true→q0mk G w is (q1f is) x vs→q0f8 G' R' a w is vs→vs.length=is.length→
  q0ou σ (RtP G G' R' a w σ.roots) is (q1f is) x
 | [],_,_,_,_,_,_=>trivial
 |i::is,x,[],_,_,_,hl=>by simp at hl
 |⟨.slot s,m,t⟩::is,x,v::vs,hr,hg,hv,hl=>⟨trivial,qym is x.2 vs hr hg.2 hv.2 (by simpa using hl)⟩
 |⟨.cell r f,m,t⟩::is,x,v::vs,hr,hg,hv,hl=>⟨trivial,qym is x.2 vs hr hg.2 hv.2 (by simpa using hl)⟩
 |⟨.root r,m,t⟩::is,x,v::vs,hr,hg,hv,hl=>by
  simp only [qaj]at hr
  obtain⟨hr1,hr2⟩:=and2 hr
  refine⟨?_,qym is x.2 vs hr2 hg.2 hv.2 (by simpa using hl)⟩
  split at hr1
  ·rename_i o ts l ver anc us hq
   obtain⟨hr1,hr4⟩:=and2 hr1
   obtain⟨hr1,hr5⟩:=and2 hr1
   obtain⟨hr1,hr6⟩:=and2 hr1
   have e:=q0i4 hr4
   subst e
   have hsm:q5f m.sm (.slice ts)=true:=by simp only [q5f,Ty.isSl,Bool.and_true];exact hr6
   have hone:qkk G w m.sm (.slice ts) x.1 v (r,0):=hg.1
   unfold qkk at hone
   rw [hsm]at hone
   obtain⟨a0,c,ev,hrow,_⟩:=hone
   have ho:o=(Nat.beq m.sm 2&&ts.hasSl):=eq_of_beq hr5
   refine⟨⟨.row o ts x.1,ver+1,anc⟩,by simp [q00m,hq],o,ts,l,ver,anc,hq,x.1,rfl,a0,c,by rw [ho];exact hrow,?_⟩
   have:=hv.1
   rw [ev]at this;exact this
  ·cases hr1
theorem qnh:∀(is:List It) (x:(q1f is).den) (n:Nat) (l:List AV),(qoy is (q1f is) x n l).length=l.length
 | [],_,_,_=>rfl
 |⟨.root r,m,t⟩::is,x,n,l=>qnh is x.2 n l
 |⟨.cell r f,m,t⟩::is,x,n,l=>qnh is x.2 _ l
 |⟨.slot s,m,t⟩::is,x,n,l=>(qnh is x.2 _ _).trans (by simp)
theorem q09n {G G':Gh} {R R':List Root} {a:Act} {w:World}:∀(is:List It) (x:(q1f is).den) (vs:List Value) (n:Nat) (l:List AV),q0f9 G R w is (q1f is) x n vs→q0f8 G' R' a w is vs→vs.length=is.length→
  (∀t,(avR G R w (l.getD t .undef)).1 (a.tmps.getD t undef))→∀t,(avR G R w ((qoy is (q1f is) x n l).getD t .undef)).1 (a.tmps.getD t undef)
 | [],_,_,_,l,_,_,_,h=>h
 |i::is,x,[],n,l,_,_,hl,_=>by simp at hl
 |⟨.root r,m,t⟩::is,x,v::vs,n,l,hg,hv,hl,h=>q09n is x.2 vs n l hg hv.2 (by simpa using hl) h
 |⟨.cell r f,m,t⟩::is,x,v::vs,n,l,hg,hv,hl,h=>q09n is x.2 vs _ l hg.2 hv.2 (by simpa using hl) h
 |⟨.slot s,m,t⟩::is,x,v::vs,n,l,hg,hv,hl,h=>q09n is x.2 vs _ _ hg.2 hv.2 (by simpa using hl) (fun t'=>by
   by_cases e:s=t'
   ·subst e
    by_cases hs:s<l.length
    ·rw [q77 hs]
     have e:v=a.tmps.getD s undef:=hv.1
     rw [←e];exact hg.1
    ·rw [List.set_eq_of_length_le (by omega)];exact h s
   ·rw [getD_set_ne e];exact h t')
structure Agree (D:List Nat) (a a':Act):Prop where
 size:a'.tmps.size=a.tmps.size
 tmps:∀t,t∉D→a'.tmps.getD t undef=a.tmps.getD t undef
theorem q0jd {σ:St} {is:List It}:(places σ is).length=is.length:=by
 induction is with
 |nil=>rfl
 |cons i is ih=>simp [places,ih]
theorem q0nx {R:List Root} {r:Nat} {cs:List AV} {ss:List Nat} {v a:Nat} (h:R[r]? =some ⟨.box cs ss,v,a⟩):q97 R r=true:=by simp [q97,h]
theorem q0g7 {is:List It} {dead:List Nat} {r:Nat} {p q:Root} {cs:List AV} {ss:List Nat} (hp:p.k= .box cs ss) (h:quh is dead r p q=true):∃cs' ss',q.k= .box cs' ss'∧q0hp is r 0 ss ss'=true:=by
 unfold quh at h
 rw [hp]at h
 cases hq:q.k with
 |box cs' ss'=>rw [hq]at h;exact⟨_,_,rfl,h⟩
 |_=>rw [hq]at h;cases h
theorem q02s {is:List It} {dead:List Nat} {r:Nat} {p q:Root} (hp:∀cs ss,p.k≠ .box cs ss) (h:quh is dead r p q=true):r∈dead∨(r∈q51 is∧p.anc=q.anc)∨p.ver=q.ver:=by
 have h:(qsr r dead||(qsr r (q51 is)&&Nat.beq p.anc q.anc)||Nat.beq p.ver q.ver)=true:=by
  unfold quh at h
  cases hk:p.k with
  |box cs ss=>exact absurd hk (hp _ _)
  |_=>rw [hk]at h;cases hq:q.k<;>rw [hq]at h<;>exact h
 ·rcases Bool.or_eq_true_iff.1 h with h|h
  ·rcases Bool.or_eq_true_iff.1 h with h|h
   ·exact .inl (q4v.1 h)
   ·obtain⟨h1,h2⟩:=and2 h
    exact .inr (.inl ⟨q4v.1 h1,qd h2⟩)
  ·exact .inr (.inr (qd h))
theorem qjb {R:List Root}:∀ {is:List It},qaj R is=true→∀ {r:Nat},r∈q51 is→∃o ts l v a,R[r]? =some ⟨.row o ts l,v,a⟩
 | [],_,r,h=>by cases h
 |⟨.slot s,m,t⟩::is,hr,r,h=>qjb (is:=is) hr h
 |⟨.cell s f,m,t⟩::is,hr,r,h=>qjb (is:=is) hr h
 |⟨.root r',m,t⟩::is,hr,r,h=>by
  simp only [qaj]at hr
  obtain⟨hr1,hr2⟩:=and2 hr
  rcases List.mem_cons.1 h with e|h
  ·subst e
   split at hr1
   ·rename_i o ts l ver anc us hq
    exact⟨_,_,_,_,_,hq⟩
   ·cases hr1
  ·exact qjb hr2 h
theorem q0lh {q q':Root} (h:q.le q') (hb:∀cs ss,q.k≠ .box cs ss) (hv:q.ver=q'.ver):q'=q:=by
 unfold Root.le at h
 cases hk:q.k with
 |box cs ss=>exact absurd hk (hb cs ss)
 |_=>rw [hk]at h;exact h.2.2 hv.symm
theorem q0rz {q q':Root} (h:q.le q') {cs:List AV} {ss:List Nat} (hk:q.k= .box cs ss):∃cs' ss',q'.k= .box cs' ss'∧cs'.length=cs.length:=by
 unfold Root.le at h
 rw [hk]at h
 obtain⟨cs',ss',e,l,_⟩:=h
 exact⟨cs',ss',e,l⟩
theorem q0lb {G G':Gh} {σ σ' base:St} {a a':Act} {w w':World} {dead:List Nat} {is:List It} {c:(q1f is).den} (hR:Rel G σ a w) (hE:Evo G σ.roots w G' σ'.roots w') (hR':Rel G' σ' a' w') (hsz:a'.tmps.size=a.tmps.size)
  (hbr:∀r,base.roots[r]? =if r∈dead then(σ.roots[r]?).map q30 else σ.roots[r]?) (hbl:base.roots.length=σ.roots.length)
  (hbt:∀t,(avR G σ.roots w (base.get t)).1 (a'.tmps.getD t undef)) (hbtl:base.tmps.length=σ.tmps.length)
  (henc:enc base σ' dead is (q1f is)=some c):
  ∃G'',Rel G'' (dec base is (q1f is) c) a' w'∧Evo G σ.roots w G'' (dec base is (q1f is) c).roots w':=by
 unfold enc at henc
 simp only at henc
 split at henc
 ·rename_i hcond
  obtain⟨hcond,c7⟩:=and2 hcond
  obtain⟨hcond,c8⟩:=and2 hcond
  obtain⟨hcond,c6⟩:=and2 hcond
  obtain⟨hcond,c5⟩:=and2 hcond
  obtain⟨hcond,c4⟩:=and2 hcond
  obtain⟨hcond,c3⟩:=and2 hcond
  obtain⟨c1,c2⟩:=and2 hcond
  have c1:=qby.1 c1
  have c2:=qgi.1 c2
  have c3:=qou c3
  have c4:=qou c4
  have c5:=qgi.1 c5
  have c7:=qrv c7
  obtain⟨vs,hvl,hva,hvv⟩:=q00v hR' is
  have hvl':vs.length=is.length:=hvl.symm.trans q0jd
  generalize hss:q46 σ' (q1f is) (qrw is) (places σ' is)=ss at c1 c2 c3
  generalize hro:qwg σ' (q1f is) (qrw is) (places σ' is)=ro at c2 c4
  let τ:Nat→Nat→Lab:=fun r s=>match tauS σ'.roots ss (qyl is base.roots.length) r s with
   |some l=>l
   |none=>if qsr r ro then .free else if decide (r<base.roots.length)&&(!qsr r dead||q97 base.roots r)then .of r s else .free
  have hlk:∀r s,Lk G' w' (q1m G' τ) w' (.of r s) (τ r s):=fun r s=>ql7 τ r s
  have hfr:Fr G' w' (q1m G' τ) w' (fun _=>True):=qsh (fun r hr=>absurd trivial hr)
  have hall:qyf (q1m G' τ) w' (q1f is) c (qrw is) vs (qyl is base.roots.length):=by
   refine q0g0 (tm:=σ'.tmps) hR'.roots hfr.free henc hvl hva (fun r hr s=> ?_) ?_
   ·have hr:r∈ro:=hro▸hr
    have e:τ r s= .free:=by
     show (match tauS σ'.roots ss (qyl is base.roots.length) r s with|some l=>l|none=>_)=_
     rw [qqy (c2 r hr)]
     simp [q4v.2 hr]
    have:=hlk r s
    rwa [e]at this
   ·rw [show q46 ⟨σ'.tmps,σ'.roots⟩ (q1f is) (qrw is) (places σ' is)=ss from hss]
    refine q09o hlk c1 (qqx is _) (fun r hr s=> ?_)
    obtain⟨l,hl⟩:=qz4 (R:=σ'.roots) (L:=qyl is base.roots.length) (s:=s) hr
    show _=some (match tauS σ'.roots ss (qyl is base.roots.length) r s with|some l=>l|none=>_)
    rw [hl]
  have hkeep:∀r,r<base.roots.length→r∉dead∨q97 base.roots r=true→(q97 base.roots r=true∨r∉q51 is)→∀s,τ r s= .of r s:=by
   intro r hr h1 h2 s
   have hns:r∉q11 ss:=fun hm=>by
    rcases c3 r hm with h|⟨h,hb⟩
    ·omega
    ·rcases List.mem_append.1 h with h|h
     ·rcases h1 with h1|h1
      ·exact h1 h
      ·rw [h1]at hb;cases hb
     ·rcases h2 with h2|h2
      ·rw [h2]at hb;cases hb
      ·exact h2 h
   have hnr:r∉ro:=fun hm=>by
    rcases c4 r hm with h|⟨h,hb⟩
    ·omega
    ·rcases h1 with h1|h1
     ·exact h1 h
     ·rw [h1]at hb;cases hb
   show (match tauS σ'.roots ss (qyl is base.roots.length) r s with|some l=>l|none=>_)=_
   rw [qqy hns]
   have e1:qsr r ro=false:=by
    cases e:qsr r ro with
    |false=>rfl
    |true=>exact absurd (q4v.1 e) hnr
   have e2:(decide (r<base.roots.length)&&(!qsr r dead||q97 base.roots r))=true:=by
    rcases h1 with h1|h1
    ·have e3:qsr r dead=false:=by
      cases e:qsr r dead with
      |false=>rfl
      |true=>exact absurd (q4v.1 e) h1
     simp [hr,e3]
    ·simp [hr,h1]
   simp only [e1,e2,if_true]
   rfl
  obtain⟨⟨hNl,A,hAl,hin⟩,hrt⟩:=qyq is c vs base.roots.length c6 hall
  let an:Nat→Option Addr×Nat:=fun r=>if r<base.roots.length then G'.anch r else A.getD (r-base.roots.length) (none,0)
  have han:∀r,r<base.roots.length→an r=G'.anch r:=fun r hr=>if_pos hr
  have hfin:∀j q,(quw is (q1f is) c base.roots.length)[j]? =some q→(dec base is (q1f is) c).roots[base.roots.length+j]? =some q:=fun j q hq=>by
   show (puts _ base.roots++_)[_]? =_
   rw [List.getElem?_append_right (by rw [qfw];omega),qfw,Nat.add_sub_cancel_left];exact hq
  obtain⟨g1,g2⟩:=hin an (fun j hj=>by
   show (if _ then _ else _)=_
   rw [if_neg (by omega),Nat.add_sub_cancel_left]) (dec base is (q1f is) c).roots hfin
  have hget:∀r q,base.roots[r]? =some q→(dec base is (q1f is) c).roots[r]? =some (q8v r (qbr base is (q1f is) c base.roots.length) q):=fun r q hq=>by
   have hlt:=(List.getElem?_eq_some_iff.1 hq).1
   show (puts _ base.roots++_)[_]? =_
   rw [List.getElem?_append_left (by rw [qfw];exact hlt),q0h8,hq];rfl
  have hP:∀r q,RtP (q1m G' τ) G' σ'.roots a' w' base.roots r q→∀cs ss,q.k≠ .box cs ss:=by
   rintro r q ⟨o,ts,l,ver,anc,_,l',e,_⟩ cs ss hk
   rw [e]at hk;cases hk
  have hrtA:=qym (G:=q1m G' τ) (G':=G') (R':=σ'.roots) (a:=a') (w:=w') (σ:=base) is c vs c6 hrt hvv hvl'
  have hclA:=qyz is c vs base.roots.length g2 hvv hvl'
  generalize hRf:(dec base is (q1f is) c).roots=Rf at g1 g2 hget hclA
  have hmain:=q0i9 (G:=G) (G':=⟨(q1m G' τ).own,an⟩) (R:=σ.roots) (Rf:=Rf) (w:=w) (w':=w') hR.roots
   ⟨hE.os,hE.tape,hE.output,hE.size,hE.free.trans hE.size hfr.free,hE.hid.trans hE.size hfr.hid⟩ (fun r q hq=> ?_) (fun r q hr hq=> ?_)
  ·refine⟨⟨(q1m G' τ).own,an⟩,⟨by rw [hRf];exact hmain.1,hR'.defers,hR.inv.keep hmain.2.free,?_,fun t=> ?_⟩,hmain.2⟩
   ·show (qoy _ _ _ _ _).length≤_
    rw [qnh,hbtl,hsz];exact hR.size
   ·show (avR _ (dec base is (q1f is) c).roots w' ((qoy is (q1f is) c base.roots.length base.tmps).getD t .undef)).1 _
    rw [hRf]
    exact q09n is c vs base.roots.length base.tmps g2 hvv hvl' (fun t=>(qac hmain.2 _).1 _ (hbt t)) t
  ·-- each root
   have hlt:r<base.roots.length:=by rw [hbl];exact(List.getElem?_eq_some_iff.1 hq).1
   obtain⟨q',hq',hle⟩:=hE.root r q hq
   by_cases hbx:∃cs ss,q.k= .box cs ss
   ·obtain⟨cs,ss0,hk⟩:=hbx
    have hkill:q30 q=q:=by unfold q30;rw [hk]
    have hb:base.roots[r]? =some q:=by
     rw [hbr r,hq]
     by_cases hd:r∈dead
     ·rw [if_pos hd];simp [hkill]
     ·rw [if_neg hd]
    have eq:q=⟨.box cs ss0,q.ver,q.anc⟩:=by rw [←hk]
    have hisb:q97 base.roots r=true:=q0nx (eq▸hb)
    obtain⟨q2,hq2,hk2⟩:=c7 r q hb
    rw [hq']at hq2;cases hq2
    rw [Nat.zero_add]at hk2
    obtain⟨cs',ss',hk',hst⟩:=q0g7 hk hk2
    obtain⟨hstl,hst⟩:=q095 hst
    have hro0:=hR.roots r q hq
    unfold q8s at hro0
    rw [hk]at hro0
    obtain⟨hl0,b,o,ea,hcs⟩:=hro0
    have hro1:=hR'.roots r q' hq'
    unfold q8s at hro1
    rw [hk']at hro1
    obtain⟨hl1,b1,o1,ea1,hcs1⟩:=hro1
    have hanch:G'.anch r=G.anch r:=(hle.box .nil cs'.length (by rw [hk'];rfl)).2
    rw [hanch,ea]at ea1;cases ea1
    have hcl:cs'.length=cs.length:=by
     obtain⟨cs2,ss2,e2,l2⟩:=q0rz hle.le hk
     rw [hk']at e2;cases e2;exact l2
    have hnr:r∉q51 is:=fun hm=>by
     obtain⟨o,ts,l,v,a,e⟩:=qjb c6 hm
     rw [hb,eq]at e;cases e
    obtain⟨csf,ssf,hput,l1,l2,hf⟩:=q00t (σ:=base) (ver:=q.ver) (anc:=q.anc) is c base.roots.length cs ss0 (by rw [hl0]) hnr hrtA hclA
    have hgr:=hget r q hb
    rw [eq]at hgr
    rw [hput]at hgr
    refine⟨_,hgr,.box cs csf ss0 ssf hk l1 l2 ?_ (fun b' o' ea' f=> ?_)⟩
    ·show an r=_
     rw [han r hlt,hanch]
    ·rw [ea]at ea';cases ea'
     have hτ:τ r 0= .of r 0:=hkeep r hlt (.inr hisb) (.inl hisb) 0
     have hown:∀b p,G'.own b p= .of r 0→(q1m G' τ).own b p= .of r 0:=fun b p e=>by
      simp only [q1m,e];exact hτ
     refine⟨fun hlt=> ?_,?_⟩
     ·obtain⟨d1,d2,_⟩:=hcs1 f (by omega)
      exact⟨hown _ _ d1,d2⟩
     ·rcases hf f with⟨e0,e1,e2⟩|⟨e0,e1,e2,v,e3,e4⟩
      ·by_cases hit:q02t is r f=true
       ·-- out of the box's cells
        have hge:¬f<cs.length:=fun hl=>e0 ⟨hit,hl⟩
        have hs0:ss'.getD f 0=ss0.getD f 0:=by
         rw [List.getD_eq_getElem?_getD,List.getElem?_eq_none (by omega),List.getD_eq_getElem?_getD,List.getElem?_eq_none (by omega)]
        refine .inl ⟨e2,e1,fun ho hb=> ?_⟩
        obtain⟨k1,k2⟩:=hle.cell cs ss0 cs' ss' hk hk' f hs0 b o ea ho hb
        exact⟨hown _ _ k1,k2⟩
       ·have hs0:ss'.getD f 0=ss0.getD f 0:=by
         rcases hst f with h|h
         ·rw [Nat.zero_add]at h;exact absurd h hit
         ·exact h.symm
        refine .inl ⟨e2,e1,fun ho hb=> ?_⟩
        obtain⟨k1,k2⟩:=hle.cell cs ss0 cs' ss' hk hk' f hs0 b o ea ho hb
        exact⟨hown _ _ k1,k2⟩
      ·refine .inr ⟨e2,v,?_,e3⟩
       have eq':q'=⟨.box cs' ss',q'.ver,q'.anc⟩:=by rw [←hk']
       exact e4 cs' ss' q'.ver q'.anc b o (by rw [←eq'];exact hq') (by omega) (by rw [hanch];exact ea)
   ·have hnb:∀cs ss,q.k≠ .box cs ss:=fun cs ss e=>hbx ⟨cs,ss,e⟩
    by_cases hd:r∈dead
    ·have hb:base.roots[r]? =some (q30 q):=by rw [hbr r,if_pos hd,hq];rfl
     have hnb':∀cs ss,(q30 q).k≠ .box cs ss:=by
      intro cs ss e
      unfold q30 at e
      cases hk:q.k with
      |box _ _=>exact hnb _ _ hk
      |_=>rw [hk]at e;first|exact hnb _ _ e|cases e
     have hnr:r∉q51 is:=fun hm=>c5 r hm hd
     have hgr:=hget r _ hb
     rw [(qtg hP is c base.roots.length _ hnb' hrtA).1 hnr]at hgr
     refine⟨_,hgr,?_⟩
     cases hk:q.k with
     |dead=>
      have e:q30 q=q:=by unfold q30;rw [hk]
      rw [e]
      exact .kept (fun h=>absurd (by rw [hk];rfl) h) (fun _ h=>absurd (by rw [hk];rfl) h)
     |box cs ss=>exact absurd hk (hnb cs ss)
     |row o ts l=>
      have e:q30 q=⟨.dead,q.ver+1,q.anc+1⟩:=by unfold q30;rw [hk]
      rw [e]
      exact .dead _ hnb rfl (Nat.lt_succ_self _) (Nat.lt_succ_self _)
     |fro ts l=>
      have e:q30 q=⟨.dead,q.ver+1,q.anc+1⟩:=by unfold q30;rw [hk]
      rw [e]
      exact .dead _ hnb rfl (Nat.lt_succ_self _) (Nat.lt_succ_self _)
    ·have hb:base.roots[r]? =some q:=by rw [hbr r,if_neg hd];exact hq
     have hgr:=hget r _ hb
     obtain⟨q2,hq2,hk2⟩:=c7 r q hb
     rw [hq']at hq2;cases hq2
     rw [Nat.zero_add]at hk2
     obtain⟨p1,p2⟩:=qtg hP is c base.roots.length q hnb hrtA (r:=r)
     have hanc:q'.anc=q.anc:=by
      rcases q02s hnb hk2 with h|⟨_,h⟩|h
      ·exact absurd h hd
      ·exact h.symm
      ·rw [q0lh hle.le hnb h]
     by_cases hm:r∈q51 is
     ·-- a row in its own q05b
      obtain⟨o,ts,l,ver,anc,hb',l',e,a0,c0,hrow,hval⟩:=p2 hm
      rw [hb]at hb';cases hb'
      rw [e]at hgr
      obtain⟨o',ts',m',ver',anc',hrq⟩:=qjb c8 hm
      rw [hq']at hrq;cases hrq
      have hanch:G'.anch r=G.anch r∧ts'=ts∧List.length m'=List.length l:=by
       rcases hle.hd hanc with d|⟨d,d2⟩
       ·cases d
       ·simp only [RK.hd,Option.some.injEq,Prod.mk.injEq]at d
        exact⟨d2,d.2.1,d.2.2⟩
      obtain⟨ha,ht,hll⟩:=hanch
      have hv:=hval o' ts' m' _ _ hq'
      simp only [Value.slice.injEq]at hv
      obtain⟨v1,v2,v3⟩:=hv
      refine⟨_,hgr,.row o ts l l' (ver+1) rfl (by rw [←hll];exact v2) (Nat.lt_succ_self _) ?_ ?_⟩
      ·show an r=_
       rw [han r hlt];exact ha
      ·show q8n _ _ _ _ _ _ (an r).1 (an r).2
       rw [han r hlt,←v1,←v3];exact hrow
     ·have hq2:q'=q:=by
       rcases q02s hnb hk2 with h|⟨h,_⟩|h
       ·exact absurd h hd
       ·exact absurd h hm
       ·exact q0lh hle.le hnb h
      rw [p1 hm]at hgr
      refine⟨q,hgr,.kept (fun hh=> ?_) (fun hf hh s=> ?_)⟩
      ·show an r=_
       rw [han r hlt]
       rcases hle.hd hanc with d|⟨_,d⟩
       ·rw [hq2]at d;exact absurd d hh
       ·exact d
      ·have hτ:∀s,τ r s= .of r s:=hkeep r hlt (.inl hd) (.inr hm)
       have hl2:Lk G' w' (q1m G' τ) w' (.of r s) (.of r s):=by
        have:=hlk r s
        rwa [hτ s]at this
       cases hk:q.k with
       |row o ts l=>exact(hle.same o ts l hk (by rw [hq2]) s).trans hE.size hl2
       |fro ts l=>exact absurd hk (hf ts l)
       |box cs ss=>exact absurd hk (hnb cs ss)
       |dead=>rw [hk]at hh;exact absurd rfl hh
  ·have hq0:=hq
   rw [←hRf]at hq
   have hq:(puts (qbr base is (q1f is) c base.roots.length) base.roots++quw is (q1f is) c base.roots.length)[r]? =some q:=hq
   rw [List.getElem?_append_right (by rw [qfw,hbl];exact hr),qfw]at hq
   have:=g1 _ q hq
   rwa [show base.roots.length+(r-base.roots.length)=r by omega]at this
 ·cases henc
theorem q011 {G G':Gh} {σ σ':St} {a a':Act} {w w':World} {D:List Nat} (hR:Rel G σ a w) (hE:Evo G σ.roots w G' σ'.roots w') (hR':Rel G' σ' a' w') (hA:Agree D a a') {h:Hint} {c:(q1f h.items).den}
  (henc:enc (qej σ h D) σ' (qvn σ h) h.items (q1f h.items)=some c):
  ∃G'',Rel G'' (dec (qej σ h D) h.items (q1f h.items) c) a' w'∧Evo G σ.roots w G'' (dec (qej σ h D) h.items (q1f h.items) c).roots w':=by
 refine q0lb hR hE hR' hA.size (fun r=> ?_) ?_ (fun t=> ?_) ?_ henc
 ·unfold qej;rw [qst,q0ho]
 ·unfold qej;rw [qst,q0hn]
 ·unfold qej
  by_cases ht:t∈D
  ·rw [(q09l D _ t).2 ht];exact trivial
  ·rw [(q09l D _ t).1 ht,hA.tmps t ht]
   have:(kill σ (qvn σ h)).get t=σ.get t:=by simp only [St.get,q02q]
   rw [this];exact hR.tmps t
 ·unfold qej;rw [q0gy,q02q]
end Go.Proofs.YtpmjopbgccajgaaGreat.Eng
namespace Go.Proofs.YtpmjopbgccajgaaGreat.Eng
open Go.RowKit
section
variable {G G':Gh} {w:World}
theorem q03y {c:Nat→Nat→Option Value} {cv cv':Nat→(t:Ty)→t.den→Value→Prop} (h:∀k t x v,t.isSl=false→cv k t x v→cv' k t x v):∀(ts:Ty) (x:ts.den) (b o k:Nat),ts.hasSl=false→elG c cv ts x b o k→elG c cv' ts x b o k
 | .cons t ts,x,b,o,k,hs,⟨⟨v,e,g⟩,hk⟩=>by
  simp only [Ty.hasSl,Bool.or_eq_false_iff]at hs
  exact⟨⟨v,e,h k t x.1 v hs.1 g⟩,q03y h ts x.2 b (o+1) (k+1) hs.2 hk⟩
 | .bool,_,_,_,_,_,_=>trivial
 | .int _,_,_,_,_,_,_=>trivial
 | .str,_,_,_,_,_,_=>trivial
 | .nil,_,_,_,_,_,_=>trivial
 | .slice _,_,_,_,_,_,_=>trivial
theorem q00n {u u':Nat→Nat→Option Value} {t:Ty} {x:t.den} {v:Value} (hs:t.isSl=false) (h:(ro u t).1 x v):(ro u' t).1 x v:=by
 cases t with
 |slice us=>cases hs
 |bool=>exact h
 |int k=>exact h
 |str=>exact h
 |nil=>exact h
 |cons _ _=>exact h
theorem q0ap {cv cv':Nat→(t:Ty)→t.den→Value→Prop} {L L':Lab} {ts:Ty} {l:List ts.den} {a:Option Addr} {n:Nat} (hc:Lk G w G' w L L') (hv:∀(x:ts.den) (b o k:Nat),elG (at_ w) cv ts x b o k→elG (at_ w) cv' ts x b o k)
  (h:q8n G w cv L ts l a n):q8n G' w cv' L' ts l a n:=by
 obtain⟨h0,h⟩:=h
 refine⟨h0,h.imp id ?_⟩
 rintro ⟨b,o,ea,h1,h2⟩
 refine⟨b,o,ea,fun j hj=> ?_,fun i hi=>hv _ _ _ _ (h2 i hi)⟩
 obtain⟨k1,k2,k3⟩:=h1 j hj
 obtain⟨c1,c2,c3⟩:=hc _ _ (qth k3) k1
 exact⟨c1,k2,k3⟩
theorem q0m0 {r r':Nat} (hl:∀k,Lk G w G' w (.of r (k+1)) (.of r' (k+1))):∀(ts:Ty) (x:ts.den) (b o k:Nat),ts.deep=false→elG (at_ w) (qim G w r) ts x b o k→elG (at_ w) (qim G' w r') ts x b o k
 | .cons t ts,x,b,o,k,hs,⟨⟨v,e,g⟩,hk⟩=>by
  have hs':(match t with| .slice vs=>vs.hasSl|_=>false)=false∧ts.deep=false:=by
   cases t with
   |slice vs=>simpa [Ty.deep]using hs
   |_=>exact⟨rfl,by simpa [Ty.deep]using hs⟩
  refine⟨⟨v,e,?_⟩,q0m0 hl ts x.2 b (o+1) (k+1) hs'.2 hk⟩
  cases t with
  |slice vs=>
   obtain⟨a,n,e1,g1⟩:=g
   exact⟨a,n,e1,q0ap (hl k) (fun x b o k=>q03y (fun k t x v hs g=>q00n hs g) vs x b o k hs'.1) g1⟩
  |bool=>exact g
  |int k=>exact g
  |str=>exact g
  |nil=>exact g
  |cons _ _=>exact g
 | .bool,_,_,_,_,_,_=>trivial
 | .int _,_,_,_,_,_,_=>trivial
 | .str,_,_,_,_,_,_=>trivial
 | .nil,_,_,_,_,_,_=>trivial
 | .slice _,_,_,_,_,_,_=>trivial
theorem q0lz {r:Nat} (hl:∀k,Lk G w G' w (.of r (k+1)) .free):∀(ts:Ty) (x:ts.den) (b o k:Nat),ts.deep=false→elG (at_ w) (qim G w r) ts x b o k→elG (at_ w) (qea (vw G' w)) ts x b o k
 | .cons t ts,x,b,o,k,hs,⟨⟨v,e,g⟩,hk⟩=>by
  have hs':(match t with| .slice vs=>vs.hasSl|_=>false)=false∧ts.deep=false:=by
   cases t with
   |slice vs=>simpa [Ty.deep]using hs
   |_=>exact⟨rfl,by simpa [Ty.deep]using hs⟩
  refine⟨⟨v,e,?_⟩,q0lz hl ts x.2 b (o+1) (k+1) hs'.2 hk⟩
  cases t with
  |slice vs=>
   obtain⟨a,n,e1,g1⟩:=g
   rw [e1]
   refine⟨a,n,rfl,g1.1,fun i hi=> ?_⟩
   obtain⟨b',p',ea,h1,h2⟩:=q4u g1 hi
   refine⟨b',p',ea,(q09a vs _ b' _ (i*vs.size)).2 ?_⟩
   have h3:=q03y (cv':=qea (vw G' w)) (fun k t x v hs g=>q00n hs g) vs _ _ _ _ hs'.1 h2
   exact q3c vs _ b' _ _ (fun j v hj e=>qsu.2 ⟨(hl k _ _ (q1z e) (h1 j hj).1).1,e⟩) (fun _ _ _ _ g=>g) h3
  |bool=>exact g
  |int k=>exact g
  |str=>exact g
  |nil=>exact g
  |cons _ _=>exact g
 | .bool,_,_,_,_,_,_=>trivial
 | .int _,_,_,_,_,_,_=>trivial
 | .str,_,_,_,_,_,_=>trivial
 | .nil,_,_,_,_,_,_=>trivial
 | .slice _,_,_,_,_,_,_=>trivial
def Ren (soft:Bool) (G:Gh) (w:World) (G':Gh) (p p':Nat×Nat):Prop:=p.2=0∧p'.2=0∧Lk G w G' w (.of p.1 0) (.of p'.1 0)∧match soft with
 |true=>∀s,Lk G w G' w (.of p.1 (s+1)) .free
 |false=>∀s,Lk G w G' w (.of p.1 (s+1)) (.of p'.1 (s+1))
def sftN (soft:Bool) (sm:Nat):Nat:=match soft with|true=>(match sm with|2=>1|n=>n)|false=>sm
theorem q0fo {soft:Bool} {sm:Nat} {t:Ty}:q5f (sftN soft sm) t=q5f sm t:=by
 cases soft with
 |false=>rfl
 |true=>
  unfold sftN q5f
  rcases sm with _|_|_|n<;>rfl
theorem q0ct {soft:Bool} {sm:Nat} {t:Ty} {x:t.den} {v:Value} {p p':Nat×Nat} (h:qkk G w sm t x v p) (hf:qos sm t=true→Lk G w G' w .free .free) (hr:q5f sm t=true→Ren soft G w G' p p'):qkk G' w (sftN soft sm) t x v p':=by
 unfold qkk at h ⊢
 rw [q0fo]
 cases ho:q5f sm t with
 |false=>
  rw [ho]at h
  simp only at h ⊢
  by_cases hs:t.isSl=true
  ·have hsm:sm=0:=by
    unfold q5f at ho
    rw [hs,Bool.and_true]at ho
    have:Nat.beq sm 0=true:=by simpa using ho
    exact qd this
   subst hsm
   have hro:qos 0 t=true:=by
    cases t with
    |slice us=>rfl
    |_=>cases hs
   exact(q8t (q6s (hf hro)) t).1 _ _ h
  ·exact q00n (by simpa using hs) h
 |true=>
  rw [ho]at h
  obtain⟨us,e⟩:=qmj ho
  subst e
  obtain⟨a,c,ev,hrow,hz⟩:=h
  obtain⟨hp,hp',hl0,hl⟩:=hr ho
  have hsm0:sm≠0:=fun e=>by subst e;simp [q5f]at ho
  show ∃a c,v= .slice a (List.length x) c∧q8n G' w (qc4 G' w p'.1 (Nat.beq (sftN soft sm) 2&&us.hasSl)) (.of p'.1 p'.2) us x a c∧((Nat.beq (sftN soft sm) 2&&us.hasSl)=true→p'.2=0)
  rw [hp]at hrow
  rw [hp']
  refine⟨a,c,ev,q0ap hl0 (fun x b o k hel=> ?_) hrow,fun _=>rfl⟩
  cases hsl:us.hasSl with
  |false=>
   simp only [hsl,Bool.and_false,qc4]at hel ⊢
   exact q03y (fun k t x v hs g=>q00n hs g) us x b o k hsl hel
  |true=>
   simp only [hsl,Bool.and_true]at hel ⊢
   cases soft with
   |false=>
    simp only [sftN]at hf ⊢
    cases hb:Nat.beq sm 2 with
    |true=>
     have e2:=qd hb
     subst e2
     rw [hb]at hel
     simp only [qc4]at hel ⊢
     cases hd:us.deep with
     |false=>exact q0m0 hl us x b o k hd hel
     |true=>exact q3c us x b o k (fun _ _ _ e=>e) (fun k t x v g=>qio (q6s (hf hd)) (hl k) t x v g) hel
    |false=>
     rw [hb]at hel
     simp only [qc4]at hel ⊢
     have hro:qos sm (.slice us)=true:=by
      rcases sm with _|_|_|n
      ·rfl
      ·exact hsl
      ·cases hb
      ·rfl
     exact q3c us x b o k (fun _ _ _ e=>e) (fun k t x v g=>q4j (q6s (hf hro)) k k t x v g) hel
   |true=>
    have hb':Nat.beq (sftN true sm) 2=false:=by rcases sm with _|_|_|n<;>rfl
    rw [hb']
    simp only [qc4]
    cases hb:Nat.beq sm 2 with
    |false=>
     rw [hb]at hel
     have hro:qos sm (.slice us)=true:=by
      rcases sm with _|_|_|n
      ·rfl
      ·exact hsl
      ·cases hb
      ·rfl
     exact q3c us x b o k (fun _ _ _ e=>e) (fun k t x v g=>q4j (q6s (hf hro)) k k t x v g) hel
    |true=>
     have e2:=qd hb
     subst e2
     rw [hb]at hel
     simp only [qc4]at hel
     cases hd:us.deep with
     |false=>exact q0lz hl us x b o k hd hel
     |true=>
      have hff:=hf hd
      refine q3c us x b o k (fun _ _ _ e=>e) (fun k t x v g=> ?_) hel
      cases t with
      |slice vs=>
       obtain⟨a1,n1,e1,g1⟩:=g
       rw [e1]
       exact qte hff (hl k) g1
      |bool=>exact g
      |int k=>exact g
      |str=>exact g
      |nil=>exact g
      |cons _ _=>exact g
def RenL (soft:Bool) (G:Gh) (w:World) (G':Gh) (k:Nat) (L L':List (Nat×Nat)):Prop:=∀j,j<k→Ren soft G w G' (L.getD j (0,0)) (L'.getD j (0,0))
theorem qmo (L:List (Nat×Nat)):L.headD (0,0)=L.getD 0 (0,0):=by cases L<;>rfl
theorem RenL.right {soft:Bool} {k k':Nat} {L L':List (Nat×Nat)} (h:RenL soft G w G' (k+k') L L'):RenL soft G w G' k' (L.drop k) (L'.drop k):=fun j hj=>by
 have:=h (k+j) (by omega)
 simp only [List.getD_eq_getElem?_getD,List.getElem?_drop]at this ⊢
 exact this
theorem RenL.left {soft:Bool} {k k':Nat} {L L':List (Nat×Nat)} (h:RenL soft G w G' (k+k') L L'):RenL soft G w G' k L L':=fun j hj=>h j (by omega)
theorem RenL.head {soft:Bool} {k:Nat} {L L':List (Nat×Nat)} (h:RenL soft G w G' k L L') (hk:0<k):Ren soft G w G' (L.headD (0,0)) (L'.headD (0,0)):=by
 rw [qmo,qmo];exact h 0 hk
theorem q0fp {soft:Bool} {sm:Nat} {t:Ty}:q1w (sftN soft sm) t=q1w sm t:=by unfold q1w;rw [q0fo]
theorem q0n1 {soft:Bool} {sm:Nat}:∀ {ts:Ty},q10 (sftN soft sm) ts=q10 sm ts:=by
 intro ts
 induction ts with
 |cons t ts _ ih=>simp only [q10,q0fp,ih]
 |_=>rfl
theorem q043 {soft:Bool} {sm:Nat}:∀ {ts:Ty} {x:ts.den} {vs:List Value} {L L':List (Nat×Nat)},qmp G w sm ts x vs L→(qi0 sm ts=true→Lk G w G' w .free .free)→RenL soft G w G' (q10 sm ts) L L'→qmp G' w (sftN soft sm) ts x vs L':=by
 intro ts
 induction ts with
 |nil=>intro x vs L L' h _ _;exact h
 |cons t ts _ ih=>
  intro x vs L L' h hf hr
  obtain⟨v,vs',e,h1,h2⟩:=h
  refine⟨v,vs',e,q0ct h1 (fun hh=>hf (by simp [qi0,hh])) (fun ho=>hr.head (by simp [q10,q1w,ho];omega)),?_⟩
  rw [q0fp]
  refine ih h2 (fun hh=> ?_) hr.right
  cases ts with
  |nil=>exact hf (by simp only [qi0]at hh ⊢;rw [hh];simp)
  |cons _ _=>exact hf (by simp only [qi0]at hh ⊢;rw [hh];simp)
  |_=>exact h2.elim
 |_=>intro x vs L L' h;exact h.elim
theorem q098 {soft:Bool} {m:Md}:(qpw soft m).ptr=m.ptr:=by cases soft<;>rfl
theorem q0e7 {soft:Bool} {m:Md}:(qpw soft m).sm=sftN soft m.sm:=by
 cases soft with
 |false=>rfl
 |true=>obtain⟨p,sm⟩:=m;rcases sm with _|_|_|n<;>rfl
theorem qui {soft:Bool} {m:Md} {t:Ty}:q0l (qpw soft m) t=q0l m t:=by
 unfold q0l
 rw [q098,q0e7,q0n1,q0fp]
theorem q0pz {soft:Bool} {m:Md} {t:Ty} {x:t.den} {v:Value} {L L':List (Nat×Nat)} (h:hOne G w m t x v L) (hf:qi0 m.sm t=true→Lk G w G' w .free .free) (hr:RenL soft G w G' (q0l m t) L L'):hOne G' w (qpw soft m) t x v L':=by
 unfold hOne at h ⊢
 unfold q0l at hr
 rw [q098,q0e7]
 cases hp:m.ptr with
 |true=>
  rw [hp]at h hr
  obtain⟨b,o,vs,ev,hl,h0,hc,hcs⟩:=h
  have hh:=hr.head (by simp only;omega)
  refine⟨b,o,vs,ev,hl,hh.2.1,fun f hf'=> ?_,q043 hcs hf hr.right⟩
  obtain⟨c1,c2,c3⟩:=hc f hf'
  exact⟨(hh.2.2.1 _ _ (q1z c3) c1).1,c2,c3⟩
 |false=>
  rw [hp]at h hr
  simp only at h hr ⊢
  cases hc:qbz t with
  |true=>
   rw [hc]at h hr
   obtain⟨vs,e,h⟩:=h
   exact⟨vs,e,q043 h hf hr⟩
  |false=>
   rw [hc]at h hr
   refine q0ct h (fun hh=>hf ?_) (fun ho=>hr.head (by simp [q1w,ho]))
   cases t with
   |cons _ _=>cases hc
   |nil=>cases hc
   |_=>exact hh
end
end Go.Proofs.YtpmjopbgccajgaaGreat.Eng
namespace Go.Proofs.YtpmjopbgccajgaaGreat.Eng
open Go.RowKit
theorem Agree.refl (D:List Nat) (a:Act):Agree D a a:=⟨rfl,fun _ _=>rfl⟩
theorem Agree.trans {D E F:List Nat} {a b c:Act} (h:Agree D a b) (k:Agree E b c) (hD:∀t∈D,t∈F) (hE:∀t∈E,t∈F):Agree F a c:=
 ⟨k.size.trans h.size,fun t ht=>(k.tmps t (fun h=>ht (hE t h))).trans (h.tmps t (fun h=>ht (hD t h)))⟩
theorem Agree.mono {D E:List Nat} {a b:Act} (h:Agree D a b) (hD:∀t∈D,t∈E):Agree E a b:=⟨h.size,fun t ht=>h.tmps t (fun hm=>ht (hD t hm))⟩
theorem Agree.put {D:List Nat} {a:Act} {d:Option Nat} {x:Value} (h:∀n,d=some n→n∈D):Agree D a (a.put d x):=by
 cases d with
 |none=>exact Agree.refl _ _
 |some n=>
  refine⟨by simp [Act.put],fun t ht=> ?_⟩
  have:n≠t:=fun e=>ht (e▸h n rfl)
  simp [Act.put,Array.getElem?_setIfInBounds_ne this]
theorem q0n8 (a:Act) (d:Nat):a.put (some d) (a.tmps.getD d undef)=a:=by
 have:a.tmps.setIfInBounds d (a.tmps.getD d undef)=a.tmps:=by
  apply Array.ext_getElem?
  intro i
  by_cases e:i=d
  ·subst e
   by_cases hi:i<a.tmps.size
   ·simp [hi]
   ·simp [hi]
  ·simp [Array.getElem?_setIfInBounds_ne (Ne.symm e)]
 show ({ a with tmps:=_ }:Act)=a
 rw [this]
section
variable {P:Program} {tab:List (Nat×TI)} {soft:Bool} {Γ:List (Nat×Ent)} {R:Type} {r:R} {Q:Exit→Act→World→Prop}
def q0cy (P:Program) (tab:List (Nat×TI)) (soft:Bool) (Γ:List (Nat×Ent)) (R:Type) (call:Nat→List AV→St→(AV→St→Option R)→Option R) (k:Nat):Prop:=
 ∀(o:Oper) (σ:St) (K:AV→St→Option R) (r:R),qa1 tab soft Γ call k o σ K=some r→∀(G:Gh) (a:Act) (w:World) (next:Act→World→Prop) (Q:Exit→Act→World→Prop),
  Rel G σ a w→Nxt false G σ w a o.dst K r next→o.wp P a w next Q
variable {call:Nat→List AV→St→(AV→St→Option R)→Option R} {k:Nat}
theorem q03v {ops:Array Oper} {o:Oper} {σ:St} {K:St→Option R} (h:q0ly tab soft Γ call k ops.toList o σ K=some r) {G:Gh} {a:Act} {w:World} (hR:Rel G σ a w):
  (Region.wanted o (yielded ops a.tmps)=true∧∃σ0,Rel G σ0 a w∧σ0.roots=σ.roots∧(∀t,σ0.get t=σ.get t)∧qa1 tab soft Γ call k o σ0 (fun v σ=>K (σ.put o.dst v))=some r)∨
  (Region.wanted o (yielded ops a.tmps)=false∧∃σ0,Rel G σ0 a w∧σ0.roots=σ.roots∧K (σ0.put o.dst (.tup .nil))=some r):=by
 simp only [q0ly]at h
 cases hg:o.guard with
 |none=>
  rw [hg]at h
  exact .inl ⟨by simp [Region.wanted,hg],σ,hR,rfl,fun t=>rfl,h⟩
 |some jw=>
  obtain⟨j,want⟩:=jw
  rw [hg]at h
  simp only at h
  cases hgu:q0gg ops.toList σ j with
  |none=>rw [hgu]at h;cases h
  |some db=>
   obtain⟨d,ob⟩:=db
   rw [hgu]at h
   have hdst:(ops[j]?).bind (·.dst)=some d∧(match ob with|some b=>σ.get d= .val .bool b|none=>σ.get d= .tup .nil):=by
    unfold q0gg at hgu
    split at hgu
    ·rename_i og hog
     split at hgu
     ·rename_i d' hd'
      split at hgu
      ·rename_i b hb;cases hgu;exact⟨by rw [show ops[j]? =some og by simpa using hog];exact hd',hb⟩
      ·rename_i hb;cases hgu;exact⟨by rw [show ops[j]? =some og by simpa using hog];exact hd',hb⟩
      ·cases hgu
     ·cases hgu
    ·cases hgu
   obtain⟨hdst,hval⟩:=hdst
   have htmp:=hR.tmps d
   cases ob with
   |none=>
    rw [hval]at htmp
    obtain⟨vs,e,hv⟩:=htmp
    have hv:vs=[]:=hv
    subst hv
    have hw:Region.wanted o (yielded ops a.tmps)=false:=by
     simp only [Region.wanted,hg,yielded,hdst,Option.bind_some]
     have:a.tmps[d]? =none∨a.tmps[d]? =some (.tuple #[]):=by
      cases hh:a.tmps[d]? with
      |none=>exact .inl rfl
      |some y=>
       right
       have:a.tmps.getD d undef=y:=by simp [hh]
       rw [←this,e]
     rcases this with e|e<;>rw [e]<;>rfl
    exact .inr ⟨hw,σ,hR,rfl,h⟩
   |some b=>
    rw [hval]at htmp
    have htmp:a.tmps.getD d undef= .bool b:=htmp
    have hsome:a.tmps[d]? =some (.bool b):=by
     cases hh:a.tmps[d]? with
     |none=>
      have:a.tmps.getD d undef=undef:=by simp [hh]
      rw [this]at htmp;cases htmp
     |some y=>
      have:a.tmps.getD d undef=y:=by simp [hh]
      rw [←this,htmp]
    have hw:Region.wanted o (yielded ops a.tmps)=(b==want):=by
     simp only [Region.wanted,hg,yielded,hdst,Option.bind_some,hsome]
     cases b<;>cases want<;>rfl
    have hR1:Rel G (σ.put (some d) (.val .bool b)) a w:=by
     have:=hR.put (v:= .val .bool b) (x:= .bool b) rfl (some d)
     rw [←htmp,q0n8]at this;exact this
    have hget:∀t,(σ.put (some d) (.val .bool b)).get t=σ.get t:=fun t=>by
     by_cases e:d=t
     ·subst e
      simp only [St.put,St.get]
      have hval':σ.tmps.getD d .undef= .val .bool b:=hval
      by_cases hl:d<σ.tmps.length
      ·rw [q77 hl,hval']
      ·rw [List.set_eq_of_length_le (by omega)]
     ·simp only [St.put,St.get];rw [getD_set_ne e]
    rw [hw]
    rcases q44 h with⟨e,h⟩|⟨e,h⟩
    ·subst e
     cases want with
     |true=>exact .inl ⟨rfl,_,hR1,rfl,hget,h⟩
     |false=>exact .inr ⟨rfl,_,hR1,rfl,h⟩
    ·subst e
     cases want with
     |true=>exact .inr ⟨rfl,_,hR1,rfl,h⟩
     |false=>exact .inl ⟨rfl,_,hR1,rfl,hget,h⟩
theorem q03u (hO:q0cy P tab soft Γ R call k) {ops:Array Oper} {i:Nat} {o:Oper} (ho:ops[i]? =some o) {σ:St} {K:St→Option R} (h:q0ly tab soft Γ call k ops.toList o σ K=some r) {G:Gh} {a:Act} {w:World} (hR:Rel G σ a w)
  {next:Act→World→Prop} (hn:∀σ' G' x w',K σ'=some r→Rel G' σ' (a.put o.dst x) w'→Evo G σ.roots w G' σ'.roots w'→next (a.put o.dst x) w'):wpOp P ops Q i next a w:=by
 unfold wpOp
 rw [ho]
 simp only
 rcases q03v h hR with⟨hw,σ0,hR0,hro,_,h⟩|⟨hw,σ0,hR0,hro,h⟩
 ·rw [if_pos hw]
  refine .inl (hO o σ0 _ r h G a w next Q hR0 (fun v R' G' x w' hv hR' hx hE _=> ?_))
  refine hn _ G' x w' hv ((hR0.evo hR' hE).put hx o.dst) ?_
  have:(St.put ⟨σ0.tmps,R'⟩ o.dst v).roots=R':=by cases o.dst<;>rfl
  rw [this,←hro];exact hE
 ·rw [if_neg (by rw [hw];simp)]
  refine hn _ G undef w h (hR0.put (v:= .tup .nil) (x:=undef) ⟨[],rfl,rfl⟩ o.dst) ?_
  have:(St.put σ0 o.dst (.tup .nil)).roots=σ.roots:=by cases o.dst<;>exact hro
  rw [this];exact Evo.refl _ _ _
def q03z (ops:Array Oper) (is:List Nat):List Nat:=is.filterMap fun i=>(ops[i]?).bind (·.dst)
def q0g2 (all:List Oper):List Nat→List Oper
 | []=>[]
 |i::is=>match all[i]? with|some o=>o::q0g2 all is|none=>q0g2 all is
theorem q03t (hO:q0cy P tab soft Γ R call k) (ops:Array Oper):∀(is:List Nat) (σ:St) (K:St→Option R),(∀i∈is,i<ops.size)→
  q0qf tab soft Γ call k ops.toList (q0g2 ops.toList is) σ K=some r→∀(G:Gh) (a:Act) (w:World),Rel G σ a w→
  (∀σ' G' a' w',K σ'=some r→Rel G' σ' a' w'→Evo G σ.roots w G' σ'.roots w'→Agree (q03z ops is) a a'→Q .normal a' w')→wpOps P ops Q is a w
 | [],σ,K,_,h,G,a,w,hR,hK=>hK σ G a w h hR (Evo.refl _ _ _) (Agree.refl _ _)
 |i::is,σ,K,hin,h,G,a,w,hR,hK=>by
  have hi:i<ops.size:=hin i (by simp)
  have ho:ops[i]? =some ops[i]:=Array.getElem?_eq_getElem hi
  have hl:ops.toList[i]? =some ops[i]:=by simp [hi]
  simp only [q0g2,hl]at h
  generalize ops[i]=o at ho h
  have hd:∀n,o.dst=some n→n∈q03z ops (i::is):=fun n hn=>by simp [q03z,ho,hn]
  have hsub:∀t∈q03z ops is,t∈q03z ops (i::is):=fun t ht=>by
   simp only [q03z,List.filterMap_cons]at ht ⊢
   split
   ·exact ht
   ·exact List.mem_cons_of_mem _ ht
  rw [wpOps_cons]
  refine q03u hO ho h hR (fun σ' G' x w' hK1 hR1 hE1=> ?_)
  exact q03t hO ops is σ' K (fun j hj=>hin j (List.mem_cons_of_mem _ hj)) hK1 G' _ w' hR1 (fun σ'' G'' a'' w'' h1 h2 h3 h4=>hK σ'' G'' a'' w'' h1 h2 (hE1.trans h3) ((Agree.put hd).trans h4 (fun _ h=>h) hsub))
def toX:Ex→Exit| .normal=> .normal| .exit j=> .exit j| .ret=> .ret
def Cont (G:Gh) (σ:St) (w:World) (a:Act) (D:List Nat) (K:Ex→St→Option R) (r:R) (Q:Exit→Act→World→Prop):Prop:=
 ∀e σ' G' a' w',K e σ'=some r→Rel G' σ' a' w'→Evo G σ.roots w G' σ'.roots w'→Agree D a a'→Q (toX e) a' w'
theorem q0g1 (l:List Oper):q0g2 l (List.range l.length)=l:=by
 have:∀(m l:List Oper),q0g2 (m++l) (List.range' m.length l.length)=l:=by
  intro m l
  induction l generalizing m with
  |nil=>rfl
  |cons o os ih=>
   rw [List.length_cons,List.range'_succ]
   have:=ih (m++[o])
   simp only [List.append_assoc,List.singleton_append,List.length_append,List.length_singleton]at this
   simp [q0g2,this]
 have:=this [] l
 simpa [List.range_eq_range']using this
theorem qeb (hO:q0cy P tab soft Γ R call k) (hD:∀id ops,∀(σ:St) (K:St→Option R) (r:R),qow tab soft Γ call k ops.toList ops.toList.length (ops.toList.map fun _=>false) [] σ K=some r→∀(G:Gh) (a:Act) (w:World) (Q:Exit→Act→World→Prop),
   Rel G σ a w→(∀σ' G' a' w',K σ'=some r→Rel G' σ' a' w'→Evo G σ.roots w G' σ'.roots w'→Agree (qyy (.region id ops true)) a a'→Q .normal a' w')→(Code.region id ops true).wp P Q a w) (H:List Hint):
  ∀(c:Code) (σ:St) (K:Ex→St→Option R) (r:R),ev tab soft Γ call H k c σ K=some r→∀(G:Gh) (a:Act) (w:World) (Q:Exit→Act→World→Prop),
   Rel G σ a w→Cont G σ w a (qyy c) K r Q→c.wp P Q a w
 | .skip,σ,K,r,h,G,a,w,Q,hR,hK=>wp_skip (hK .normal σ G a w h hR (Evo.refl _ _ _) (Agree.refl _ _))
 | .exit j,σ,K,r,h,G,a,w,Q,hR,hK=>wp_exit (hK (.exit j) σ G a w h hR (Evo.refl _ _ _) (Agree.refl _ _))
 | .ret,σ,K,r,h,G,a,w,Q,hR,hK=>wp_ret (hK .ret σ G a w h hR (Evo.refl _ _ _) (Agree.refl _ _))
 | .region id ops false,σ,K,r,h,G,a,w,Q,hR,hK=>by
  refine wp_region (q03t (r:=r) hO ops (List.range ops.size) σ (K .normal) (fun i hi=>by simpa using hi) ?_ G a w hR (fun σ' G' a' w' h1 h2 h3 h4=> ?_))
  ·have:=q0g1 ops.toList
   rw [Array.length_toList]at this
   rw [this];exact h
  ·refine hK .normal σ' G' a' w' h1 h2 h3 (h4.mono (fun t hm=> ?_))
   simp only [q03z,List.mem_filterMap]at hm
   obtain⟨i,_,hi⟩:=hm
   cases ho:ops[i]? with
   |none=>rw [ho]at hi;cases hi
   |some o=>
    rw [ho]at hi
    exact List.mem_filterMap.2 ⟨o,by have:=Array.mem_of_getElem? ho;simpa using this,hi⟩
 | .region id ops true,σ,K,r,h,G,a,w,Q,hR,hK=>hD id ops σ (K .normal) r h G a w Q hR (fun σ' G' a' w' h1 h2 h3 h4=>hK .normal σ' G' a' w' h1 h2 h3 h4)
 | .cond c x y,σ,K,r,h,G,a,w,Q,hR,hK=>by
  have hc:=hR.eval c
  simp only [ev]at h
  split at h
  ·rename_i t ht
   rw [ht]at hc
   have hc:a.eval c= .bool t:=hc
   rcases q44 h with⟨e,h⟩|⟨e,h⟩
   ·subst e
    exact wp_cond_true hc (qeb hO hD H x σ K r h G a w Q hR (fun e σ' G' a' w' h1 h2 h3 h4=>hK e σ' G' a' w' h1 h2 h3 (h4.mono (fun t hm=>List.mem_append_left _ hm))))
   ·subst e
    exact wp_cond_false hc (qeb hO hD H y σ K r h G a w Q hR (fun e σ' G' a' w' h1 h2 h3 h4=>hK e σ' G' a' w' h1 h2 h3 (h4.mono (fun t hm=>List.mem_append_right _ hm))))
  ·cases h
 | .block id x,σ,K,r,h,G,a,w,Q,hR,hK=>by
  simp only [ev]at h
  refine wp_block (qeb hO hD H x σ _ r h G a w _ hR (fun e σ' G' a' w' h1 h2 h3 h4=> ?_))
  cases e with
  |normal=>exact hK .normal σ' G' a' w' h1 h2 h3 h4
  |ret=>exact hK .ret σ' G' a' w' h1 h2 h3 h4
  |exit j=>
   show Exit.inBlock id Q (.exit j) a' w'
   simp only [Exit.inBlock]
   simp only [q0s5]at h1
   cases e:Nat.beq j id with
   |true=>
    rw [e]at h1
    rw [if_pos (qd e)]
    exact hK .normal σ' G' a' w' h1 h2 h3 h4
   |false=>
    rw [e]at h1
    rw [if_neg (fun e'=>by subst e';rw [Nat.beq_refl]at e;cases e)]
    exact hK (.exit j) σ' G' a' w' h1 h2 h3 h4
 | .seq x y,σ,K,r,h,G,a,w,Q,hR,hK=>by
  simp only [ev]at h
  split at h
  ·refine wp_seq (qeb hO hD H x σ _ r h G a w _ hR (fun e σ' G' a' w' h1 h2 h3 h4=> ?_))
   cases e with
   |normal=>
    refine qeb hO hD H y σ' K r h1 G' a' w' Q h2 (fun e σ'' G'' a'' w'' k1 k2 k3 k4=>hK e σ'' G'' a'' w'' k1 k2 (h3.trans k3) (h4.trans k4 (fun t ht=>List.mem_append_left _ ht) (fun t ht=>List.mem_append_right _ ht)))
   |ret=>exact hK .ret σ' G' a' w' h1 h2 h3 (h4.mono (fun t hm=>List.mem_append_left _ hm))
   |exit j=>exact hK (.exit j) σ' G' a' w' h1 h2 h3 (h4.mono (fun t hm=>List.mem_append_left _ hm))
  ·rename_i hh _
   have h:ev tab soft Γ call H k x σ (q048 (fun σ'=>bnd (enc (qej σ hh (qyy x)) σ' (qvn σ hh) hh.items (q1f hh.items)) (fun c=>ev tab soft Γ call H k y (dec (qej σ hh (qyy x)) hh.items (q1f hh.items) c) K)) K)=some r:=h
   refine wp_seq (qeb hO hD H x σ _ r h G a w _ hR (fun e σ' G' a' w' h1 h2 h3 h4=> ?_))
   cases e with
   |normal=>
    obtain⟨c,hc,h1⟩:=q0cu h1
    ·obtain⟨G2,r1,r2⟩:=q011 hR h3 h2 h4 hc
     refine qeb hO hD H y _ K r h1 G2 a' w' Q r1 (fun e σ'' G'' a'' w'' k1 k2 k3 k4=>hK e σ'' G'' a'' w'' k1 k2 (r2.trans k3) (h4.trans k4 (fun t ht=>List.mem_append_left _ ht) (fun t ht=>List.mem_append_right _ ht)))
   |ret=>exact hK .ret σ' G' a' w' h1 h2 h3 (h4.mono (fun t hm=>List.mem_append_left _ hm))
   |exit j=>exact hK (.exit j) σ' G' a' w' h1 h2 h3 (h4.mono (fun t hm=>List.mem_append_left _ hm))
 | .loop x,σ,K,r,h,G,a,w,Q,hR,hK=>by
  simp only [ev]at h
  split at h
  ·rename_i hh _
   obtain⟨c0,hc0,h⟩:=q0cu h
   obtain⟨G2,r1,r2⟩:=q011 hR (Evo.refl _ _ _) hR (Agree.refl (qyy x) a) hc0
   refine wp_loop_ghost (fun n a' w'=>∃c G',qh (fun rec c=>ev tab soft Γ call H k x (dec (qej σ hh (qyy x)) hh.items (q1f hh.items) c) (q048 (fun σ'=>bnd (enc (qej σ hh (qyy x)) σ' (qvn σ hh) hh.items (q1f hh.items)) rec) K)) n c=some r∧
    Rel G' (dec (qej σ hh (qyy x)) hh.items (q1f hh.items) c) a' w'∧Evo G σ.roots w G' (dec (qej σ hh (qyy x)) hh.items (q1f hh.items) c).roots w'∧Agree (qyy x) a a') k ⟨c0,G2,h,r1,r2,Agree.refl _ _⟩ ?_
   rintro n a1 w1 ⟨c,G1,hn,hR1,hE1,hA1⟩
   cases n with
   |zero=>cases hn
   |succ n=>
    simp only [qh]at hn
    refine qeb hO hD H x _ _ r hn G1 a1 w1 _ hR1 (fun e σ' G' a' w' h1 h2 h3 h4=> ?_)
    have hA:Agree (qyy x) a a':=hA1.trans h4 (fun _ h=>h) (fun _ h=>h)
    cases e with
    |normal=>
     obtain⟨c',hc',h1⟩:=q0cu h1
     obtain⟨G3,s1,s2⟩:=q011 hR (hE1.trans h3) h2 hA hc'
     exact⟨n,Nat.lt_succ_self _,c',G3,h1,s1,s2,hA⟩
    |ret=>exact hK .ret σ' G' a' w' h1 h2 (hE1.trans h3) hA
    |exit j=>exact hK (.exit j) σ' G' a' w' h1 h2 (hE1.trans h3) hA
  ·cases h
 | .rangeFunc _ _ _ _,_,_,_,h,_,_,_,_,_,_=>by simp [ev]at h
 | .scope _,_,_,_,h,_,_,_,_,_,_=>by simp [ev]at h
 | .label _,_,_,_,h,_,_,_,_,_,_=>by simp [ev]at h
 | .goto _,_,_,_,h,_,_,_,_,_,_=>by simp [ev]at h
 | .refuse _,_,_,_,h,_,_,_,_,_,_=>by simp [ev]at h
end
end Go.Proofs.YtpmjopbgccajgaaGreat.Eng
namespace Go.Proofs.YtpmjopbgccajgaaGreat.Eng
open Go.RowKit
section
variable {P:Program} {ops:Array Oper} {Q:Exit→Act→World→Prop}
def q0gv (ops:Array Oper) (i m:Nat):Prop:=∃n,waits ops.toList i n m=true
def Closed (ops:Array Oper) (listed:Array Bool):Prop:=∀m o,listed.getD m false=true→ops[m]? =some o→∀e∈o.after,Region.binds .any e=true→listed.getD e.on false=true
theorem Closed.waits {listed:Array Bool} (h:Closed ops listed) {i:Nat}:∀(n m:Nat),listed.getD m false=true→waits ops.toList i n m=true→listed.getD i false=true
 |0,_,_,hw=>by cases hw
 |n+1,m,hm,hw=>by
  simp only [Eng.waits]at hw
  cases ho:ops.toList[m]? with
  |none=>rw [ho]at hw;cases hw
  |some o=>
   rw [ho]at hw
   have ho':ops[m]? =some o:=by simpa using ho
   obtain⟨e,he,hb⟩:=List.any_eq_true.1 hw
   obtain⟨hb1,hb2⟩:=and2 hb
   have hl:=h m o hm ho' e (by simpa using he) hb1
   rcases Bool.or_eq_true_iff.1 hb2 with hb2|hb2
   ·rw [←qd hb2];exact hl
   ·exact Closed.waits h n e.on hl hb2
theorem Closed.ready {listed:Array Bool} (h:Closed ops listed) {i j:Nat} (hj:j∈Region.ready .any ops listed) (hw:q0gv ops i j):listed.getD i false=true:=by
 obtain⟨n,hw⟩:=hw
 obtain⟨_,o,ho,hall⟩:=mem_ready.1 hj
 cases n with
 |zero=>cases hw
 |succ n=>
  simp only [Eng.waits]at hw
  have ho':ops.toList[j]? =some o:=by simpa using ho
  rw [ho']at hw
  obtain⟨e,he,hb⟩:=List.any_eq_true.1 hw
  obtain⟨hb1,hb2⟩:=and2 hb
  have hl:=hall e (by simpa using he) hb1
  rcases Bool.or_eq_true_iff.1 hb2 with hb2|hb2
  ·rw [←qd hb2];exact hl
  ·exact Closed.waits h n e.on hl hb2
theorem q03o {listed:Array Bool} {i:Nat} (h:listed.getD i true=false):listed.getD i false=false:=by
 by_cases hi:i<listed.size
 ·simp [hi]at h ⊢;exact h
 ·simp [hi]at h
theorem Closed.set {listed:Array Bool} (h:Closed ops listed) {j:Nat} (hj:j∈Region.ready .any ops listed):Closed ops (listed.setIfInBounds j true):=by
 intro m o hm ho e he hb
 obtain⟨_,oj,hoj,hall⟩:=mem_ready.1 hj
 by_cases hjm:j=m
 ·subst hjm
  rw [hoj]at ho;cases ho
  exact getD_set_true (hall e he hb)
 ·rw [_root_.Go.getD_set_ne false hjm]at hm
  exact getD_set_true (h m o hm ho e he hb)
def Obl (ops:Array Oper) (pend:List (Nat×(World→Prop))) (listed:Array Bool) (j:Nat) (w w':World):Prop:=
 ∀p∈pend,(∀m,(listed.getD m false=true∨m=j)→m∉pend.map Prod.fst→¬q0gv ops p.1 m)→p.2 w→p.2 w'
def qpl (P:Program) (ops:Array Oper) (Q:Exit→Act→World→Prop) (pend:List (Nat×(World→Prop))):Nat→Array Bool→Act→World→Prop
 |0,listed,a,w=>Region.ready .any ops listed=[]∧Q .normal a w
 |n+1,listed,a,w=>(Region.ready .any ops listed=[]→Q .normal a w)∧
  ∀j∈Region.ready .any ops listed,wpOp P ops Q j (fun a' w'=>Obl ops pend listed j w w'∧qpl P ops Q pend n (listed.setIfInBounds j true) a' w') a w
theorem q08p {pend:List (Nat×(World→Prop))}:∀(n:Nat) (listed:Array Bool) (a:Act) (w:World),qpl P ops Q pend n listed a w→wpAny P .any ops Q n listed a w
 |0,_,_,_,h=>h
 |n+1,listed,a,w,h=>⟨h.1,fun j hj=>wpOp_mono (fun a' w' h'=>q08p n _ a' w' h'.2) (h.2 j hj)⟩
theorem Obl.less {p:Nat×(World→Prop)} {pend:List (Nat×(World→Prop))} {listed:Array Bool} {j:Nat} {w w':World} (h:Obl ops (p::pend) listed j w w'):Obl ops pend listed j w w':=
 fun q hq hm=>h q (List.mem_cons_of_mem _ hq) (fun m hm' hn=>hm m hm' (fun hx=>hn (by simp only [List.map_cons,List.mem_cons];exact .inr hx)))
theorem qq9 {p:Nat×(World→Prop)} {pend:List (Nat×(World→Prop))}:∀(n:Nat) (listed:Array Bool) (a:Act) (w:World),qpl P ops Q (p::pend) n listed a w→qpl P ops Q pend n listed a w
 |0,_,_,_,h=>h
 |n+1,listed,a,w,h=>⟨h.1,fun j hj=>wpOp_mono (fun a' w' h'=>⟨h'.1.less,qq9 n _ a' w' h'.2⟩) (h.2 j hj)⟩
theorem qz1 {i:Nat} {oi:Oper} {x:Value} {S:World→Prop} {pend:List (Nat×(World→Prop))} (hi:ops[i]? =some oi) (hsel:∀(j:Nat) (o:Oper) cs b,ops[j]? =some o→o.op≠ .select cs b)
  (hQ:∀c a w,Q (.panic c) (a.put oi.dst x) w→Q (.panic c) a w):
  ∀(fuel:Nat) (listed:Array Bool) (a:Act) (w:World),Closed ops listed→(∀j oj,ops[j]? =some oj→j≠i→listed.getD j true=false→q0gv ops i j∨oi.apart ops oj=true)→
   i∈Region.ready .any ops listed→YieldsIf P ops S oi x a→S w→
   qpl P ops Q ((i,S)::pend) fuel (listed.setIfInBounds i true) (a.put oi.dst x) w→qpl P ops Q pend (fuel+1) listed a w:=by
 intro fuel
 induction fuel with
 |zero=>
  intro listed a w hcl hfree hr hy hS H
  refine⟨fun h=>(by rw [h]at hr;cases hr),fun j hj=> ?_⟩
  by_cases hji:j=i
  ·subst hji;exact hy.wpOp hi hS ⟨fun p _ _ h=>h,qq9 _ _ _ _ H⟩
  ·have:=ready_mono hj hji
   rw [H.1]at this
   cases this
 |succ fuel ih=>
  intro listed a w hcl hfree hr hy hS H
  refine⟨fun h=>(by rw [h]at hr;cases hr),fun j hj=> ?_⟩
  by_cases hji:j=i
  ·subst hji;exact hy.wpOp hi hS ⟨fun p _ _ h=>h,qq9 _ _ _ _ H⟩
  ·have h1:=H.2 j (ready_mono hj hji)
   obtain⟨hjun,oj,hoj,hall⟩:=mem_ready.1 hj
   have hiun:listed.getD i false=false:=q03o (mem_ready.1 hr).1
   have hnw:¬q0gv ops i j:=fun hw=>by rw [hcl.ready hj hw]at hiun;cases hiun
   have hap:=(hfree j oj hoj hji hjun).resolve_left hnw
   have h2:=wpOp_putIf hoj hap (fun cs b=>hsel i oi cs b hi) (fun cs b=>hsel j oj cs b hoj) hQ hy h1
   refine wpOp_mono (fun a' w' h3=> ?_) h2
   obtain⟨hy',hobl,h4⟩:=h3
   have hS':S w':=hobl (i,S) (by simp) (fun m hm hn hw=>by
    rcases hm with hm|hm
    ·by_cases hmi:i=m
     ·subst hmi;exact hn (by simp)
     ·rw [_root_.Go.getD_set_ne false hmi]at hm
      obtain⟨n,hw⟩:=hw
      rw [hcl.waits n m hm hw]at hiun;cases hiun
    ·subst hm;exact hnw hw) hS
   refine⟨fun p hp hm hpw=>hobl p (List.mem_cons_of_mem _ hp) (fun m hm' hn hw=> ?_) hpw,?_⟩
   ·have hmi:i≠m:=fun e=>by subst e;exact hn (by simp)
    refine hm m ?_ (fun hx=>hn (by simp only [List.map_cons,List.mem_cons];exact .inr hx)) hw
    rcases hm' with hm'|hm'
    ·rw [_root_.Go.getD_set_ne false hmi]at hm';exact .inl hm'
    ·exact .inr hm'
   ·refine ih (listed.setIfInBounds j true) a' w' (hcl.set hj) (fun k ok hk hki hun=> ?_) (ready_mono hr (Ne.symm hji)) hy' hS' ?_
    ·refine hfree k ok hk hki ?_
     by_cases hjk:j=k
     ·subst hjk;exact hjun
     ·rw [_root_.Go.getD_set_ne true hjk]at hun;exact hun
    ·rw [Array.setIfInBounds_comm _ _ hji];exact h4
theorem qz2 {pend:List (Nat×(World→Prop))} {listed:Array Bool} {a:Act} {w:World} (hr:Region.ready .any ops listed=[]) (h:Q .normal a w):∀n,qpl P ops Q pend n listed a w
 |0=>⟨hr,h⟩
 |n+1=>⟨fun _=>h,by rw [hr];simp⟩
theorem q08x {listed:List Bool} {j:Nat}:∀(os:List Oper) (n:Nat),j∈ql3 listed os n↔∃m o,j=n+m∧os[m]? =some o∧listed.getD j true=false∧∀e∈o.after,Region.binds .any e=true→listed.getD e.on false=true
 | [],n=>by simp [ql3]
 |o::os,n=>by
  have ih:=q08x (listed:=listed) (j:=j) os (n+1)
  have hcond:(!listed.getD n true&&o.after.toList.all (fun e=> !Region.binds .any e||listed.getD e.on false))=true↔listed.getD n true=false∧∀e∈o.after,Region.binds .any e=true→listed.getD e.on false=true:=by
   rw [Bool.and_eq_true,List.all_eq_true]
   refine and_congr (by simp) ⟨fun h e he hb=> ?_,fun h e he=> ?_⟩
   ·have:=h e (by simpa using he)
    rw [hb]at this;simpa using this
   ·cases hb:Region.binds .any e with
    |false=>simp
    |true=>simpa using h e (by simpa using he) hb
  have shift:(∃m o',j=n+1+m∧os[m]? =some o'∧listed.getD j true=false∧∀e∈o'.after,Region.binds .any e=true→listed.getD e.on false=true)↔
    ∃m o',j=n+(m+1)∧os[m]? =some o'∧listed.getD j true=false∧∀e∈o'.after,Region.binds .any e=true→listed.getD e.on false=true:=
   ⟨fun ⟨m,o',e,h⟩=>⟨m,o',by omega,h⟩,fun ⟨m,o',e,h⟩=>⟨m,o',by omega,h⟩⟩
  have split:(∃m o',j=n+m∧(o::os)[m]? =some o'∧listed.getD j true=false∧∀e∈o'.after,Region.binds .any e=true→listed.getD e.on false=true)↔
    (j=n∧listed.getD n true=false∧∀e∈o.after,Region.binds .any e=true→listed.getD e.on false=true)∨
    ∃m o',j=n+(m+1)∧os[m]? =some o'∧listed.getD j true=false∧∀e∈o'.after,Region.binds .any e=true→listed.getD e.on false=true:=by
   constructor
   ·rintro ⟨m,o',e,ho,h1,h2⟩
    cases m with
    |zero=>simp at ho;subst ho;exact .inl ⟨by omega,by rw [show j=n by omega]at h1;exact h1,h2⟩
    |succ m=>exact .inr ⟨m,o',e,by simpa using ho,h1,h2⟩
   ·rintro (⟨e,h1,h2⟩|⟨m,o',e,ho,h1,h2⟩)
    ·exact⟨0,o,by omega,rfl,by rw [e];exact h1,h2⟩
    ·exact⟨m+1,o',e,by simpa using ho,h1,h2⟩
  rw [split,←shift,←ih]
  simp only [ql3]
  cases hb:(!listed.getD n true&&o.after.toList.all (fun e=> !Region.binds .any e||listed.getD e.on false))with
  |true=>simp only [List.mem_cons];exact or_congr ⟨fun e=>⟨e,hcond.1 hb⟩,fun h=>h.1⟩ Iff.rfl
  |false=>exact⟨.inr,fun h=>h.resolve_left (fun h=>by rw [hcond.2 h.2]at hb;cases hb)⟩
theorem qgd {listed:List Bool} {j:Nat}:j∈ql3 listed ops.toList 0↔j∈Region.ready .any ops listed.toArray:=by
 rw [q08x,mem_ready]
 constructor
 ·rintro ⟨m,o,e,ho,h1,h2⟩
  have:j=m:=by omega
  subst this
  exact⟨by simpa using h1,o,by simpa using ho,fun e he hb=>by simpa using h2 e he hb⟩
 ·rintro ⟨h1,o,ho,h2⟩
  exact⟨j,o,by omega,by simpa using ho,by simpa using h1,fun e he hb=>by simpa using h2 e he hb⟩
def unl:List Bool→Nat
 | []=>0
 |b::bs=>(match b with|true=>0|false=>1)+unl bs
theorem qz3:∀(l:List Bool) (i:Nat),l.getD i true=false→unl (l.set i true)+1=unl l
 | [],i,h=>by simp at h
 |b::bs,0,h=>by simp at h;subst h;simp [unl];omega
 |b::bs,i+1,h=>by
  have:=qz3 bs i (by simpa using h)
  simp only [List.set_cons_succ,unl];omega
theorem q0ii {R:Type} {r:R} {f:Nat→Option R}:∀ {l:List Nat},allO f l=some r→∀i∈l,f i=some r
 | [],h,i,hi=>by cases hi
 | [j],h,i,hi=>by rw [List.mem_singleton.1 hi];exact h
 |j::k::l,h,i,hi=>by
  have h:qqr (f j) (allO f (k::l))=some r:=h
  unfold qqr at h
  split at h
  ·rename_i e
   rcases List.mem_cons.1 hi with e'|hi
   ·rw [e'];exact h
   ·exact q0ii (e▸h) i hi
  ·cases h
theorem q03r {p:Nat→Bool}:∀ {l:List Nat} {i:Nat},q0ck p l=some i→i∈l∧p i=true
 |j::l,i,h=>by
  simp only [q0ck]at h
  split at h
  ·rename_i e;cases h;exact⟨by simp,e⟩
  ·obtain⟨h1,h2⟩:=q03r h
   exact⟨List.mem_cons_of_mem _ h1,h2⟩
theorem q0j4 {os:List Oper} (h:q0nn os=true):∀o∈os,∀cs b,o.op≠ .select cs b:=by
 induction os with
 |nil=>intro o ho;cases ho
 |cons o os ih=>
  intro o' ho cs b e
  simp only [q0nn]at h
  obtain⟨h1,h2⟩:=and2 h
  rcases List.mem_cons.1 ho with e'|ho
  ·rw [←e',e]at h1;simp [q0s2]at h1
  ·exact ih h2 o' ho cs b e
end
section
variable {P:Program} {tab:List (Nat×TI)} {soft:Bool} {Γ:List (Nat×Ent)} {R:Type} {r:R} {Q:Exit→Act→World→Prop} {ops:Array Oper}
variable {call:Nat→List AV→St→(AV→St→Option R)→Option R} {k:Nat}
def q0gw (P:Program) (tab:List (Nat×TI)) (soft:Bool) (Γ:List (Nat×Ent)) (R:Type) (call:Nat→List AV→St→(AV→St→Option R)→Option R) (k:Nat):Prop:=
 ∀(o:Oper) (σ:St) (K:AV→St→Option R) (r:R),ql5 Γ o≤1→qa1 tab soft Γ call k o σ K=some r→∀(G:Gh) (a:Act) (w:World),Rel G σ a w→Reads P G σ w o a K r
def PInv (ops:Array Oper) (pS:List (Nat×(World→Prop))) (pend:List (Nat×Nat)) (listed:List Bool) (G:Gh) (R:List Root) (w:World):Prop:=
 ∀p∈pS,listed.getD p.1 false=true∧((∀m,listed.getD m false=true→m∉pS.map Prod.fst→¬q0gv ops p.1 m)→
  ∃rs:List Nat,(∀r∈rs,(p.1,r)∈pend)∧∀G' R' w',Evo G R w G' R' w'→(∀r∈rs,qpf R R' r=true)→p.2 w')
theorem q090 {all:List Oper} {k:Nat} {R R':List Root}:∀ {pend:List (Nat×Nat)},q00w all k R R' pend=true→∀i r,(i,r)∈pend→waits all i all.length k=true∨qpf R R' r=true
 |(j,s)::ps,h,i,r,hm=>by
  simp only [q00w]at h
  obtain⟨h1,h2⟩:=and2 h
  rcases List.mem_cons.1 hm with e|hm
  ·cases e;exact Bool.or_eq_true_iff.1 h1
  ·exact q090 h2 i r hm
theorem qil {l:List Bool} {i m:Nat} {d:Bool} (h:i≠m):(l.set i true).getD m d=l.getD m d:=getD_set_ne h
theorem qes (l:List Bool) (i:Nat):(l.set i true).toArray=l.toArray.setIfInBounds i true:=by simp
theorem q0jk (hO:q0cy P tab soft Γ R call k) (hRd:q0gw P tab soft Γ R call k) {D:List Nat} (hD:∀(i:Nat) (o:Oper),ops[i]? =some o→∀d,o.dst=some d→d∈D) {Q0:Act→World→Prop} {σ0:St} {G0:Gh} {a0:Act} {w0:World} {K:St→Option R}
  (hK:∀σ' G' a' w',K σ'=some r→Rel G' σ' a' w'→Evo G0 σ0.roots w0 G' σ'.roots w'→Agree D a0 a'→Q0 a' w'):
  ∀(n:Nat) (listed:List Bool) (pend:List (Nat×Nat)) (σ:St),qow tab soft Γ call k ops.toList n listed pend σ K=some r→∀(pS:List (Nat×(World→Prop))) (G:Gh) (a:Act) (w:World) (fuel:Nat),Rel G σ a w→Evo G0 σ0.roots w0 G σ.roots w→Agree D a0 a→
   Closed ops listed.toArray→PInv ops pS pend listed G σ.roots w→unl listed≤fuel→qpl P ops (fun e a w=>match e with| .normal=>Q0 a w|_=>False) pS fuel listed.toArray a w:=by
 intro n
 induction n with
 |zero=>
  intro listed pend σ h pS G a w fuel hR hE hA hcl hp hf
  simp only [qow]at h
  split at h
  ·rename_i hr
   have hr':Region.ready .any ops listed.toArray=[]:=List.eq_nil_iff_forall_not_mem.2 (fun j hj=>by
    have:=qgd.2 hj
    rw [hr]at this;cases this)
   exact qz2 hr' (hK σ G a w h hR hE hA) fuel
  ·cases h
 |succ n ih=>
  intro listed pend σ h pS G a w fuel hR hE hA hcl hp hf
  have step:∀i,i∈ql3 listed ops.toList 0→q03s tab soft Γ call k ops.toList i σ (fun σ'=>chk (q00w ops.toList i σ.roots σ'.roots pend) (qow tab soft Γ call k ops.toList n (listed.set i true) pend σ' K))=some r→
    ∀fuel',unl listed≤fuel'+1→wpOp P ops (fun e a w=>match e with| .normal=>Q0 a w|_=>False) i (fun a' w'=>Obl ops pS listed.toArray i w w'∧qpl P ops (fun e a w=>match e with| .normal=>Q0 a w|_=>False) pS fuel' (listed.toArray.setIfInBounds i true) a' w') a w:=by
   intro i hi h fuel' hf
   have hir:=qgd.1 hi
   obtain⟨hiu,oi,hoi,hdep⟩:=mem_ready.1 hir
   have hiu':listed.getD i true=false:=by simpa using hiu
   have hiuf:listed.getD i false=false:=by simpa using q03o hiu
   unfold q03s at h
   rw [show ops.toList[i]? =some oi by simpa using hoi]at h
   simp only at h
   refine q03u hO hoi h hR (fun σ' G' x w' hK1 hR1 hE1=> ?_)
   obtain⟨hpo,hK1⟩:=qw hK1
   have hpo:=q090 hpo
   refine⟨fun p hpm hpr hpw=> ?_,?_⟩
   ·obtain⟨hl,hkeep⟩:=hp p hpm
    obtain⟨rs,h1,h2⟩:=hkeep (fun m hm hn=>hpr m (.inl (by simpa using hm)) hn)
    refine h2 G' σ'.roots w' hE1 (fun r hr=> ?_)
    rcases hpo _ _ (h1 r hr)with hw|hs
    ·exfalso
     refine hpr i (.inr rfl) (fun hx=> ?_) ⟨_,hw⟩
     obtain⟨q,hq,e⟩:=List.mem_map.1 hx
     have:=(hp q hq).1
     rw [e,hiuf]at this;cases this
    ·exact hs
   ·rw [←qes]
    refine ih (listed.set i true) pend σ' hK1 pS G' _ w' fuel' hR1 (hE.trans hE1) (hA.trans (Agree.put (fun d hd=>hD i oi hoi d hd)) (fun _ h=>h) (fun _ h=>h)) (by rw [qes];exact hcl.set hir) (fun p hpm=> ?_) (by have:=qz3 listed i hiu';omega)
    obtain⟨hl,hkeep⟩:=hp p hpm
    have hpi:i≠p.1:=fun e=>by rw [←e,hiuf]at hl;cases hl
    refine⟨by rw [qil hpi];exact hl,fun hpr=> ?_⟩
    have hnpi:i∉pS.map Prod.fst:=fun hx=>by
     obtain⟨q,hq,e⟩:=List.mem_map.1 hx
     have:=(hp q hq).1
     rw [e,hiuf]at this;cases this
    have hlt:i<listed.length:=by
     by_cases hlt:i<listed.length
     ·exact hlt
     ·rw [List.getD_eq_getElem?_getD,List.getElem?_eq_none (by omega)]at hiu';cases hiu'
    have hset:(listed.set i true).getD i false=true:=q77 hlt
    obtain⟨rs,h1,h2⟩:=hkeep (fun m hm hn=>hpr m (by
     by_cases e:i=m
     ·subst e;exact hset
     ·rw [qil e];exact hm) hn)
    refine⟨rs,h1,fun G2 R2 w2 hE2 hs2=>h2 G2 R2 w2 (hE1.trans hE2) (fun r hr=> ?_)⟩
    rcases hpo _ _ (h1 r hr)with hw|hs
    ·exact absurd ⟨_,hw⟩ (hpr i hset hnpi)
    ·exact q0ft hs (hs2 r hr)
  have hpos:∀i,i∈ql3 listed ops.toList 0→∃f',fuel=f'+1:=fun i hi=>by
   obtain⟨hiu,_⟩:=mem_ready.1 (qgd.1 hi)
   have:=qz3 listed i (by simpa using hiu)
   exact⟨fuel-1,by omega⟩
  have steps:(∀i∈ql3 listed ops.toList 0,q03s tab soft Γ call k ops.toList i σ (fun σ'=>chk (q00w ops.toList i σ.roots σ'.roots pend) (qow tab soft Γ call k ops.toList n (listed.set i true) pend σ' K))=some r)→(∃i,i∈ql3 listed ops.toList 0)→
    qpl P ops (fun e a w=>match e with| .normal=>Q0 a w|_=>False) pS fuel listed.toArray a w:=by
   rintro hall ⟨i,hi⟩
   obtain⟨f',hf'⟩:=hpos i hi
   subst hf'
   refine⟨fun he=> ?_,fun j hj=>step j (qgd.2 hj) (hall j (qgd.2 hj)) f' hf⟩
   have:=qgd.1 hi
   rw [he]at this;cases this
  simp only [qow]at h
  split at h
  ·rename_i hr
   have hr':Region.ready .any ops listed.toArray=[]:=List.eq_nil_iff_forall_not_mem.2 (fun j hj=>by
    have:=qgd.2 hj
    rw [hr]at this;cases this)
   exact qz2 hr' (hK σ G a w h hR hE hA) fuel
  ·rename_i i hr
   exact steps (fun j hj=>by rw [hr]at hj;rw [List.mem_singleton.1 hj];exact h) ⟨i,by rw [hr];simp⟩
  ·rename_i hr1 hr2
   split at h
   ·rename_i i hfi
    obtain⟨hi,hfo⟩:=q03r hfi
    obtain⟨f',hf'⟩:=hpos i hi
    subst hf'
    have hir:=qgd.1 hi
    obtain⟨hiu,oi,hoi,hdep⟩:=mem_ready.1 hir
    have hiu':listed.getD i true=false:=by simpa using hiu
    have hiuf:listed.getD i false=false:=by simpa using q03o hiu
    have hoil:ops.toList[i]? =some oi:=by simpa using hoi
    unfold q0lx at hfo
    rw [hoil]at hfo
    simp only at hfo
    obtain⟨hfo,hfree⟩:=and2 hfo
    obtain⟨hkind,hns⟩:=and2 hfo
    have hkind:=qab hkind
    have hns:=q0j4 hns
    have hsel:∀(j:Nat) (o:Oper) cs b,ops[j]? =some o→o.op≠ .select cs b:=fun j o cs b ho=>hns o (by have:=Array.mem_of_getElem? ho;simpa using this) cs b
    have hfree':∀j oj,ops[j]? =some oj→j≠i→listed.toArray.getD j true=false→q0gv ops i j∨oi.apart ops oj=true:=by
     intro j oj hoj hji hju
     have hlt:j<ops.toList.length:=by
      have:=(Array.getElem?_eq_some_iff.1 hoj).1;simpa using this
     have hj:=List.all_eq_true.1 hfree j (List.mem_range.2 hlt)
     rw [show ops.toList[j]? =some oj by simpa using hoj]at hj
     rcases Bool.or_eq_true_iff.1 hj with hj|hj
     ·rcases Bool.or_eq_true_iff.1 hj with hj|hj
      ·rcases Bool.or_eq_true_iff.1 hj with hj|hj
       ·exact absurd (qd hj) hji
       ·have:listed.getD j true=false:=by simpa using hju
        rw [this]at hj;cases hj
      ·right
       have:=(and2 hj).1
       simpa using this
     ·exact .inl ⟨_,hj⟩
    have hlt:i<listed.length:=by
     by_cases hlt:i<listed.length
     ·exact hlt
     ·rw [List.getD_eq_getElem?_getD,List.getElem?_eq_none (by omega)]at hiu';cases hiu'
    have hset:(listed.set i true).getD i false=true:=q77 hlt
    unfold q03s at h
    rw [hoil]at h
    simp only at h
    have old:∀(S:World→Prop) (pend':List (Nat×Nat)),∀p∈pS,(listed.set i true).getD p.1 false=true∧((∀m,(listed.set i true).getD m false=true→m∉((i,S)::pS).map Prod.fst→¬q0gv ops p.1 m)→
      ∃rs:List Nat,(∀r∈rs,(p.1,r)∈pend'++pend)∧∀G' R' w',Evo G σ.roots w G' R' w'→(∀r∈rs,qpf σ.roots R' r=true)→p.2 w'):=by
     intro S pend' p hpm
     obtain⟨hl,hkeep⟩:=hp p hpm
     have hpi:i≠p.1:=fun e=>by rw [←e,hiuf]at hl;cases hl
     refine⟨by rw [qil hpi];exact hl,fun hpr=> ?_⟩
     obtain⟨rs,h1,h2⟩:=hkeep (fun m hm hn=>by
      have hmi:i≠m:=fun e=>by subst e;rw [hiuf]at hm;cases hm
      refine hpr m (by rw [qil hmi];exact hm) (fun hx=> ?_)
      simp only [List.map_cons,List.mem_cons]at hx
      rcases hx with e|hx
      ·exact hmi e.symm
      ·exact hn hx)
     exact⟨rs,fun r hr=>List.mem_append_right _ (h1 r hr),h2⟩
    have hAi:∀x,Agree D a0 (a.put oi.dst x):=fun x=>hA.trans (Agree.put (fun d hd=>hD i oi hoi d hd)) (fun _ h=>h) (fun _ h=>h)
    rcases q03v h hR with⟨hw,σ1,hR1,hro,hget,h⟩|⟨hw,σ1,hR1,hro,h⟩
    ·obtain⟨v,x,hKv,hrd,hav⟩:=hRd oi σ1 _ r hkind h G a w hR1
     have hrr:q8u σ1 oi=q8u σ oi:=by
      have he:∀y,σ1.eval y=σ.eval y:=fun y=>by
       cases y with
       |tmp t=>exact hget t
       |const v=>cases v<;>rfl
       |_=>rfl
      unfold q8u
      cases oi.op<;>first|rfl|simp only [he]
     refine qz1 (S:=fun w'=>(execOp a.eval oi).run P w'= .ok (.value x) w') hoi hsel (fun c a w h=>h.elim) f' listed.toArray a w hcl hfree' hir (.inl ⟨hw,fun w h=>h⟩) hrd.1 ?_
     rw [←qes]
     have hRn:=hR1.put hav oi.dst
     have hrn:(σ1.put oi.dst v).roots=σ.roots:=by cases oi.dst<;>exact hro
     refine ih (listed.set i true) _ _ hKv _ G _ w f' hRn (by rw [hrn];exact hE) (hAi x) (by rw [qes];exact hcl.set hir) (fun p hpm=> ?_) (by have:=qz3 listed i hiu';omega)
     rw [hrn]
     rcases List.mem_cons.1 hpm with e|hpm
     ·subst e
      refine⟨hset,fun _=>⟨q8u σ oi,fun r hr=>List.mem_append_left _ ?_,fun G' R' w' hE' hs=> ?_⟩⟩
      ·unfold q0p4
       rw [hoil]
       exact List.mem_map_of_mem (f:=fun r=>(i,r)) hr
      ·refine hrd.2 G' R' w' (by rw [hro];exact hE') (fun r hr=> ?_)
       rw [hro];exact hs r (hrr▸hr)
     ·exact old _ _ p hpm
    ·refine qz1 (S:=fun _=>True) hoi hsel (fun c a w h=>h.elim) f' listed.toArray a w hcl hfree' hir (.inr ⟨hw,rfl⟩) trivial ?_
     rw [←qes]
     have hRn:=hR1.put (v:= .tup .nil) (x:=undef) ⟨[],rfl,rfl⟩ oi.dst
     have hrn:(σ1.put oi.dst (.tup .nil)).roots=σ.roots:=by cases oi.dst<;>exact hro
     refine ih (listed.set i true) _ _ h _ G _ w f' hRn (by rw [hrn];exact hE) (hAi _) (by rw [qes];exact hcl.set hir) (fun p hpm=> ?_) (by have:=qz3 listed i hiu';omega)
     rw [hrn]
     rcases List.mem_cons.1 hpm with e|hpm
     ·subst e
      exact⟨hset,fun _=>⟨[],fun r hr=>(by cases hr),fun _ _ _ _ _=>trivial⟩⟩
     ·exact old _ _ p hpm
   ·rename_i hfi
    have hne:∃i,i∈ql3 listed ops.toList 0:=by
     cases hrl:ql3 listed ops.toList 0 with
     |nil=>exact absurd hrl hr1
     |cons i is=>exact⟨i,by simp⟩
    exact steps (fun j hj=>q0ii h j hj) hne
theorem qov (hm:P.follows .mixedOrders=true) (hO:q0cy P tab soft Γ R call k) (hRd:q0gw P tab soft Γ R call k):∀id ops,∀(σ:St) (K:St→Option R) (r:R),qow tab soft Γ call k ops.toList ops.toList.length (ops.toList.map fun _=>false) [] σ K=some r→∀(G:Gh) (a:Act) (w:World) (Q:Exit→Act→World→Prop),
   Rel G σ a w→(∀σ' G' a' w',K σ'=some r→Rel G' σ' a' w'→Evo G σ.roots w G' σ'.roots w'→Agree (qyy (.region id ops true)) a a'→Q .normal a' w')→(Code.region id ops true).wp P Q a w:=by
 intro id ops σ K r h G a w Q hR hK
 have hD:∀(i:Nat) (o:Oper),ops[i]? =some o→∀d,o.dst=some d→d∈qyy (.region id ops true):=fun i o ho d hd=>List.mem_filterMap.2 ⟨o,by have:=Array.mem_of_getElem? ho;simpa using this,hd⟩
 have hfalse:∀m,(ops.toList.map fun _=>false).getD m false=false:=fun m=>by
  rw [List.getD_eq_getElem?_getD,List.getElem?_map];cases ops.toList[m]? <;>rfl
 have:=q0jk (Q0:=Q .normal) hO hRd hD (σ0:=σ) (G0:=G) (a0:=a) (w0:=w) hK ops.toList.length (ops.toList.map fun _=>false) [] σ h [] G a w.drew ops.size { roots:=RelR.drew hR.roots,defers:=hR.defers,inv:=hR.inv.keep (Evo.drew G σ.roots w).free,size:=hR.size,tmps:=fun t=>(qac (Evo.drew _ _ _) _).1 _ (hR.tmps t) } (Evo.drew _ _ _) (Agree.refl _ _)
  (fun m o hm=>by
   have hm:(ops.toList.map fun _=>false).getD m false=true:=by simpa using hm
   rw [hfalse]at hm;cases hm) (fun p hp=>by cases hp) (by
   have:∀l:List Oper,unl (l.map fun _=>false)=l.length:=by
    intro l
    induction l with
    |nil=>rfl
    |cons o os ih=>simp only [List.map_cons,unl,ih,List.length_cons];omega
   rw [this];simp)
 refine wp_mono (wp_region_any hm (q08p (pend:=[]) _ _ _ _ ?_)) (fun e a w h=> ?_) (Q:=fun e a w=>match e with| .normal=>Q .normal a w|_=>False)
 ·have e:(ops.toList.map fun _=>false).toArray=Array.replicate ops.size false:=by
   apply Array.ext'
   simp [List.map_const']
  rw [←e]
  exact this
 ·cases e<;>first|exact h|exact h.elim
end
end Go.Proofs.YtpmjopbgccajgaaGreat.Eng
namespace Go.Proofs.YtpmjopbgccajgaaGreat.Eng
open Go.RowKit
section
variable {P:Program} {tab:List (Nat×TI)} {soft:Bool} {Γ:List (Nat×Ent)} {R:Type}
variable {call:Nat→List AV→St→(AV→St→Option R)→Option R} {k:Nat}
theorem len1 {α:Type} {l:List α} (h:l.length=1):∃x,l=[x]:=by
 cases l with
 |nil=>simp at h
 |cons x l=>cases l with
  |nil=>exact⟨x,rfl⟩
  |cons _ _=>simp at h
theorem len2 {α:Type} {l:List α} (h:l.length=2):∃x y,l=[x,y]:=by
 cases l with
 |nil=>simp at h
 |cons x l=>cases l with
  |nil=>simp at h
  |cons y l=>cases l with
   |nil=>exact⟨x,y,rfl⟩
   |cons _ _=>simp at h
theorem q0me (hT:q7w P tab) {o:Oper} {σ:St} {K:AV→St→Option R} {r:R} {G:Gh} {a:Act} {w:World} {op:BinOp} {T T':Nat} {x y:Operand} (ho:o.op= .binOp op T x y T') (h:qa1 tab soft Γ call k o σ K=some r) (hR:Rel G σ a w):Reads P G σ w o a K r:=by
 by_cases he:y= .const (.slice none 0 0)∧(op= .eql∨op= .neq)
 ·obtain⟨e,e'|e'⟩:=he
  ·subst e;subst e';exact q0kw hT ho hR h
  ·subst e;subst e';exact q0kv hT ho hR h
 ·refine q0ni hT ho hR ?_
  unfold qa1 at h
  rw [ho]at h
  split at h
  all_goals first
   |contradiction
   |(simp only [Op.binOp.injEq]at*;done)
   |skip
  all_goals (rename_i hh;first|(simp only [Op.binOp.injEq]at hh;obtain⟨h1,h2,h3,h4,h5⟩:=hh;subst h1;subst h2;subst h3;subst h4;first|exact h|exact absurd ⟨rfl,.inl rfl⟩ he|exact absurd ⟨rfl,.inr rfl⟩ he)|skip)
theorem qyn (hT:q7w P tab):q0gw P tab soft Γ R call k:=by
 intro o σ K r hk h G a w hR
 cases hop:o.op with
 |load T x=>
  simp only [qa1,hop]at h
  split at h
  ·rename_i i hi
   exact q0pw hT hop hi hR h
  ·cases h
 |move x=>exact q0pv hop hR h
 |pick c x y=>exact q0pu hop hR h
 |binOp op T x y T'=>exact q0me hT hop h hR
 |unOp u T x=>
  cases u with
  |not=>exact q0rp hop hR h
  |neg=>exact q0rq hop hR h
  |_=>simp only [qa1,hop]at h;cases h
 |convert S D x=>exact q0j2 hT hop hR h
 |fieldAddr T x f=>exact q0dt hT hop hR h
 |field T x f=>exact q0nf hT hop hR h
 |indexAddr T x ix=>exact q0ne hT hop hR h
 |extract x n=>exact q0j1 hop hR h
 |nilCheck x=>exact q0g3 hop hR h
 |build T ps=>exact q0nh hT hop hR h
 |makeFunc f fs cs=>
  cases f with
  |func f=>exact q0g4 hop hR h
  |_=>simp only [qa1,hop]at h;cases h
 |slice T x lo hi mx=>
  cases mx with
  |none=>
   cases lo with
   |none=>
    cases hi with
    |some y=>exact q0j0 hT hop hR h
    |none=>
     exfalso
     simp only [qa1,hop,Option.map_none]at h
     repeat' split at h
     all_goals first|contradiction|(cases h;done)|(obtain⟨_,h⟩:=qw h;cases h;done)|skip
   |some z=>
    cases hi with
    |none=>exact q0iz hT hop hR h
    |some y=>
     exfalso
     simp only [qa1,hop,Option.map_some]at h
     repeat' split at h
     all_goals first|contradiction|(cases h;done)|(obtain⟨_,h⟩:=qw h;cases h;done)|skip
  |some m=>
   have h0:=h
   unfold qa1 at h
   rw [hop]at h
   split at h
   all_goals first
    |contradiction
    |skip
   all_goals (rename_i hh;first|(simp only [Op.slice.injEq]at hh;obtain⟨rfl,rfl,rfl,rfl,h5⟩:=hh;cases h5;done)|skip)
   all_goals
    simp only [Op.slice.injEq]at hh
    obtain⟨rfl,rfl,rfl,rfl,h5⟩:=hh
    obtain rfl:=Option.some.inj h5
    exact q0dr hT hop hR h0
 |call c=>
  obtain⟨ca,args,Ts⟩:=c
  cases ca with
  |builtin b=>
   cases b with
   |len=>
    have h':=h
    simp only [qa1,hop]at h'
    have hl:∃x,args.toList=[x]:=by
     have:(args.toList.map σ.eval).length=1:=by
      generalize args.toList.map σ.eval=l at h'
      cases l with
      |nil=>cases h'
      |cons v l=>cases l with
       |nil=>rfl
       |cons _ _=>cases h'
     exact len1 (by simpa using this)
    obtain⟨x,hx⟩:=hl
    have e:args= #[x]:=by apply Array.ext';simpa using hx
    subst e
    exact q0rt hT hop hR h
   |max=>
    have h':=h
    simp only [qa1,hop]at h'
    have hl:∃x y,args.toList=[x,y]:=by
     have:(args.toList.map σ.eval).length=2:=by
      generalize args.toList.map σ.eval=l at h'
      unfold q4r at h'
      split at h'<;>first|rfl|(rename_i hb _;cases hb;done)|(cases h';done)|contradiction
     exact len2 (by simpa using this)
    obtain⟨x,y,hx⟩:=hl
    have e:args= #[x,y]:=by apply Array.ext';simpa using hx
    subst e
    exact q0rs hop hR h'
   |min=>
    have h':=h
    simp only [qa1,hop]at h'
    have hl:∃x y,args.toList=[x,y]:=by
     have:(args.toList.map σ.eval).length=2:=by
      generalize args.toList.map σ.eval=l at h'
      unfold q4r at h'
      split at h'<;>first|rfl|(rename_i hb _;cases hb;done)|(cases h';done)|contradiction
     exact len2 (by simpa using this)
    obtain⟨x,y,hx⟩:=hl
    have e:args= #[x,y]:=by apply Array.ext';simpa using hx
    subst e
    exact q0rr hop hR h'
   |_=>simp [ql5,hop]at hk
  |value f=>
   cases f with
   |func f=>
    simp only [ql5,hop]at hk
    split at hk
    ·split at hk<;>omega
    ·omega
   |_=>simp [ql5,hop]at hk
  |_=>simp [ql5,hop]at hk
 |_=>simp [ql5,hop]at hk
end
end Go.Proofs.YtpmjopbgccajgaaGreat.Eng
namespace Go.Proofs.YtpmjopbgccajgaaGreat.Eng
open Go.RowKit
def qpj (P:Program) (f:Nat):Prop:=∃fn:Func,P.funcs[f]? =some fn∧(fn.name== "runtime.NumGoroutine")=false∧fn.body.isNone=false
section
variable {P:Program} {tab:List (Nat×TI)} {soft:Bool} {Γ:List (Nat×Ent)} {R:Type}
variable {call:Nat→List AV→St→(AV→St→Option R)→Option R} {k:Nat}
def qfq (P:Program) (f:Nat) (as:List AV) (σ:St) (K:AV→St→Option R) (r:R):Prop:=
 ∀(G:Gh) (w:World) (args:List Value),Inv G w→RelR G σ.roots w→args.length=as.length→(∀i,i<as.length→(avR G σ.roots w (as.getD i .undef)).1 (args.getD i undef))→
  Calls P f args.toArray w (fun| .returned x,w'=>∃v R' G',K v ⟨σ.tmps,R'⟩=some r∧RelR G' R' w'∧(avR G' R' w' v).1 x∧Evo G σ.roots w G' R' w'|_,_=>False)
theorem q0op {G:Gh} {Rs:List Root} {w:World}:∀(cs:AV) (vs:List Value),(avR G Rs w cs).2 vs→vs.length=cs.toList.length∧∀i,i<cs.toList.length→(avR G Rs w (cs.toList.getD i .undef)).1 (vs.getD i undef):=fun cs vs h=>by
 obtain⟨h1,h2⟩:=q047 cs vs h
 exact⟨h1,fun i hi=>h2 i (by omega)⟩
theorem q0g5 {o:Oper} {σ:St} {K:AV→St→Option R} {r:R} {G:Gh} {a:Act} {w:World} {next:Act→World→Prop} {Q:Exit→Act→World→Prop} {fo:Operand} {args:Array Operand} {Ts:Array TypeId} {f:Nat} {caps:AV}
  (ho:o.op= .call ⟨.value fo,args,Ts⟩) (hfo:σ.eval fo= .fn f caps) (hf:qpj P f) (hR:Rel G σ a w) (hn:Nxt false G σ w a o.dst K r next) (h:qfq P f (args.toList.map σ.eval++caps.toList) σ K r):o.wp P a w next Q:=by
 have hv:=hR.eval fo
 rw [hfo]at hv
 obtain⟨vs,ev,hvs⟩:=hv
 obtain⟨l1,l2⟩:=q0op caps vs hvs
 obtain⟨fn,f1,f2,f3⟩:=hf
 have hrun:(execOp a.eval o).run P w= .ok (.enter f (args.map a.eval++vs.toArray)) w:=by
  have f2':¬fn.name= "runtime.NumGoroutine" :=by simpa using f2
  have f3':¬fn.body=none:=fun e=>by rw [e]at f3;cases f3
  simp [execOp,ho,resolve,Deferred.ofValue,ev,invoke,callFunc,f1,f2',f3']
 unfold Oper.wp
 rw [hrun]
 have:=h G w (args.toList.map a.eval++vs) hR.inv hR.roots (by simp [l1]) (fun i hi=>by
  by_cases hlt:i<args.toList.length
  ·rw [List.getD_eq_getElem?_getD,List.getElem?_append_left (by simpa using hlt),List.getD_eq_getElem?_getD,List.getElem?_append_left (by simpa using hlt),List.getElem?_map,List.getElem?_map,List.getElem?_eq_getElem hlt]
   exact hR.eval _
  ·have hge:args.toList.length≤i:=by omega
   rw [List.getD_eq_getElem?_getD,List.getElem?_append_right (by simpa using hge),List.getD_eq_getElem?_getD,List.getElem?_append_right (by simpa using hge)]
   simp only [List.length_map,List.length_append]at hi ⊢
   have:=l2 (i-args.toList.length) (by omega)
   rw [List.getD_eq_getElem?_getD,List.getD_eq_getElem?_getD]at this
   exact this)
 have ea:(args.toList.map a.eval++vs).toArray=args.map a.eval++vs.toArray:=by apply Array.ext';simp
 rw [ea]at this
 show Calls P f _ w _
 refine this.mono (fun e w' he=> ?_)
 cases e with
 |returned x=>
  obtain⟨v,R',G',h1,h2,h3,h4⟩:=he
  exact hn v R' G' x w' h1 h2 h3 h4 (fun e=>by cases e)
 |_=>exact he.elim
theorem q0ku (hT:q7w P tab) (hΓ:∀f e,qkt Γ f=some e→(∃g,e= .sig g)→qpj P f) (hG:∀f g,qkt Γ f=some (.sig g)→∀as σ K (r:R),qqp soft k g as σ K=some r→qfq P f as σ K r)
  (hX:∀f F d,qkt Γ f=some (.cut F d)→qpj P f∧∀as σ K (r:R),qqq soft k F d as σ K=some r→qfq P f as σ K r)
  (hC:∀f as σ K (r:R),call f as σ K=some r→qfq P f as σ K r∧qpj P f):q0cy P tab soft Γ R call k:=by
 intro o σ K r h G a w next Q hR hn
 have rd:Reads P G σ w o a K r→o.wp P a w next Q:=fun hr=>hr.wp hR.roots hn
 by_cases hk:ql5 Γ o≤1
 ·exact rd (qyn hT o σ K r hk h G a w hR)
 ·cases hop:o.op with
  |assign x=>exact rd (q0kx hop hR h)
  |alloc T=>exact q0nj hT hop hR hn h
  |box T x=>exact q0ru hT hop hR hn h
  |store T x v=>exact q0nd hT hop hR hn h
  |buildSlice T n ps=>exact q0at hT hop hR hn h
  |makeSlice T l c=>exact q0ds hT hop hR hn h
  |call c=>
   obtain⟨ca,args,Ts⟩:=c
   simp only [qa1,hop]at h
   cases ca with
   |builtin b=>
    simp only at h
    cases b with
    |append=>
     have hl:∃x y,args.toList=[x,y]:=by
      have:(args.toList.map σ.eval).length=2:=by
       generalize args.toList.map σ.eval=l at h
       unfold q4r at h
       split at h<;>first|rfl|(rename_i hb _;cases hb;done)|(cases h;done)|contradiction
      exact len2 (by simpa using this)
     obtain⟨x,y,hx⟩:=hl
     have e:args= #[x,y]:=by apply Array.ext';simpa using hx
     subst e
     exact q0ky hT hop hR hn h
    |clear=>
     have hl:∃x,args.toList=[x]:=by
      have:(args.toList.map σ.eval).length=1:=by
       generalize args.toList.map σ.eval=l at h
       cases l with
       |nil=>cases h
       |cons v l=>cases l with
        |nil=>rfl
        |cons _ _=>first|(cases v<;>cases h;done)|(unfold q4r at h;split at h<;>first|rfl|(cases h;done)|contradiction)
      exact len1 (by simpa using this)
     obtain⟨x,hx⟩:=hl
     have e:args= #[x]:=by apply Array.ext';simpa using hx
     subst e
     exact q0ng hT hop hR hn h
    |len=>simp [ql5,hop]at hk
    |max=>simp [ql5,hop]at hk
    |min=>simp [ql5,hop]at hk
    |_=>unfold q4r at h;split at h<;>first|(rename_i hb _;cases hb;done)|(cases h;done)|contradiction
   |value fo=>
    simp only at h
    split at h
    ·rename_i f caps hfo
     split at h
     ·rename_i g hg
      exact q0g5 hop hfo (hΓ f _ hg ⟨g,rfl⟩) hR hn (hG f g hg _ _ _ _ h)
     ·rename_i F d hg
      obtain⟨h1,h2⟩:=hX f F d hg
      exact q0g5 hop hfo h1 hR hn (h2 _ _ _ _ h)
     ·obtain⟨h1,h2⟩:=hC f _ _ _ _ h
      exact q0g5 hop hfo h2 hR hn h1
    ·cases h
   |_=>cases h
  |_=>first|(exfalso;apply hk;simp [ql5,hop];done)|(simp only [qa1,hop]at h;cases h;done)
end
end Go.Proofs.YtpmjopbgccajgaaGreat.Eng
