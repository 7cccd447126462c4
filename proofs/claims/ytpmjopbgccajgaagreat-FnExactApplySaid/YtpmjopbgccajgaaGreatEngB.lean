/- The engine, in four texts: this one holds EngWr, EngApp, EngMk, EngHand. No condition. -/
import Derived.Test.YtpmjopbgccajgaaGreatEngA
import Derived.Laws.AppendOwn
import Derived.Laws.Slices
import Derived.Laws.MakeOwn
import Derived.Great.BuildSlice
set_option linter.unusedVariables false
set_option linter.unusedSimpArgs false
namespace Go.Proofs.YtpmjopbgccajgaaGreat.Eng
open Go.RowKit
structure Fr (G:Gh) (w:World) (G':Gh) (w':World) (ex:Nat→Prop):Prop where
 os:w'.os=w.os
 tape:w'.tape=w.tape
 output:w'.output=w.output
 size:w.heap.size≤w'.heap.size
 free:Lk G w G' w' .free .free
 hid:Lk G w G' w' .hid .hid
 root:∀r,¬ex r→G'.anch r=G.anch r∧∀s,Lk G w G' w' (.of r s) (.of r s)
theorem Fr.refl (G:Gh) (w:World) (ex:Nat→Prop):Fr G w G w ex:=⟨rfl,rfl,rfl,Nat.le_refl _,Lk.refl _ _ _,Lk.refl _ _ _,fun r _=>⟨rfl,fun s=>Lk.refl _ _ _⟩⟩
theorem Fr.trans {G G' G'':Gh} {w w' w'':World} {ex ex':Nat→Prop} (h:Fr G w G' w' ex) (k:Fr G' w' G'' w'' ex'):Fr G w G'' w'' (fun r=>ex r∨ex' r) where
 os:=k.os.trans h.os
 tape:=k.tape.trans h.tape
 output:=k.output.trans h.output
 size:=Nat.le_trans h.size k.size
 free:=h.free.trans h.size k.free
 hid:=h.hid.trans h.size k.hid
 root:=fun r hr=>by
  obtain⟨h1,h2⟩:=h.root r (fun e=>hr (.inl e))
  obtain⟨k1,k2⟩:=k.root r (fun e=>hr (.inr e))
  exact⟨k1.trans h1,fun s=>(h2 s).trans h.size (k2 s)⟩
theorem Fr.drew (G:Gh) (w:World) (ex:Nat→Prop):Fr G w G w.drew ex:=⟨rfl,rfl,rfl,Nat.le_refl _,fun _ _ _ h=>⟨h,rfl,rfl⟩,fun _ _ _ h=>⟨h,rfl,rfl⟩,fun r _=>⟨rfl,fun s _ _ _ h=>⟨h,rfl,rfl⟩⟩⟩
theorem RLe.of_same {G G':Gh} {w w':World} {r:Nat} {q:Root} (ha:G'.anch r=G.anch r) (hc:∀s,Lk G w G' w' (.of r s) (.of r s)):RLe G w G' w' r q q:=
 ⟨Nat.le_refl _,Nat.le_refl _,fun _=> .inr ⟨rfl,ha⟩,fun _ _ e=>⟨e,ha⟩,q.le_refl,fun _ _ _ _ _ s=>hc s,fun _ _ _ _ _ _ f _ b o _ ho hb=>let ⟨h1,h2,_⟩:=hc 0 b (o+f) hb ho;⟨h1,h2⟩⟩
theorem q0gl {G G':Gh} {R R':List Root} {w w':World} {ex:Nat→Prop} (hF:Fr G w G' w' ex) (hl:R.length≤R'.length) (hsame:∀r q,R[r]? =some q→¬ex r→R'[r]? =some q)
  (hex:∀r q,R[r]? =some q→ex r→∃q',R'[r]? =some q'∧RLe G w G' w' r q q'):Evo G R w G' R' w':=
 {os:=hF.os,tape:=hF.tape,output:=hF.output,size:=hF.size,free:=hF.free,hid:=hF.hid,
  root:=fun r q hq=>by
   by_cases e:ex r
   ·exact hex r q hq e
   ·obtain⟨h1,h2⟩:=hF.root r e
    exact⟨q,hsame r q hq e,RLe.of_same h1 h2⟩ }
theorem qca {G G':Gh} {R:List Root} {w w':World} {r:Nat} {q q':Root} (hR:RelR G R w) (hq:R[r]? =some q) (hF:Fr G w G' w' (· =r)) (hle:RLe G w G' w' r q q')
  (hk:Evo G R w G' (R.set r q') w'→q8s G' (R.set r q') w' r q'):RelR G' (R.set r q') w'∧Evo G R w G' (R.set r q') w':=by
 have hr:r<R.length:=(List.getElem?_eq_some_iff.1 hq).1
 have hE:Evo G R w G' (R.set r q') w':=q0gl hF (by simp) (fun s p hs e=>by rw [List.getElem?_set_ne (fun e'=>e e'.symm)];exact hs) (fun s p hs e=>by
  subst e
  rw [hq]at hs;cases hs
  exact⟨q',List.getElem?_set_self hr,hle⟩)
 refine⟨fun s p hs=> ?_,hE⟩
 by_cases e:s=r
 ·subst e
  rw [List.getElem?_set_self hr]at hs;cases hs;exact hk hE
 ·rw [List.getElem?_set_ne (Ne.symm e)]at hs
  obtain⟨h1,h2⟩:=hF.root s e
  exact qja hE h1 h2 (hR s p hs)
theorem q049 {G G':Gh} {R N:List Root} {w w':World} (hR:RelR G R w) (hF:Fr G w G' w' (fun r=>R.length≤r))
  (hk:Evo G R w G' (R++N) w'→∀j q,N[j]? =some q→q8s G' (R++N) w' (R.length+j) q):RelR G' (R++N) w'∧Evo G R w G' (R++N) w':=by
 have lt:∀r q,R[r]? =some q→r<R.length:=fun r q h=>(List.getElem?_eq_some_iff.1 h).1
 have hE:Evo G R w G' (R++N) w':=q0gl hF (by simp) (fun s p hs e=>by rw [List.getElem?_append_left (lt s p hs)];exact hs) (fun s p hs e=>absurd (lt s p hs) (by omega))
 refine⟨fun s p hs=> ?_,hE⟩
 rcases Nat.lt_or_ge s R.length with h|h
 ·rw [List.getElem?_append_left h]at hs
  obtain⟨h1,h2⟩:=hF.root s (by omega)
  exact qja hE h1 h2 (hR s p hs)
 ·rw [List.getElem?_append_right h]at hs
  have:=hk hE _ _ hs
  rwa [show R.length+(s-R.length)=s by omega]at this
theorem qn3 (b:Nat):∀(vs:List Value) (p:Nat) (w:World),(w.setCells b p vs).heap.size=w.heap.size
 | [],_,_=>rfl
 |v::r,p,w=>by rw [World.setCells,qn3 b r];simp
theorem qld (b:Nat):∀(vs:List Value) (p:Nat) (w:World),(w.setCells b p vs).os=w.os∧(w.setCells b p vs).tape=w.tape∧(w.setCells b p vs).output=w.output
 | [],_,_=>⟨rfl,rfl,rfl⟩
 |v::r,p,w=>qld b r (p+1) _
theorem q6n {w:World} {b p:Nat} {vs:List Value} {b' p':Nat} (h:¬(b'=b∧p≤p'∧p'<p+vs.length)):at_ (w.setCells b p vs) b' p'=at_ w b' p':=
 World.cell?_setCells_out b vs p w ⟨b',p',none⟩ (fun e _=>by have e:b'=b:=e;show p'<p∨p+vs.length≤p';omega)
theorem qkq {w:World} {b p:Nat} {vs:List Value} (h:∀j,j<vs.length→(at_ w b (p+j)).isSome=true) (j:Nat) (hj:j<vs.length):at_ (w.setCells b p vs) b (p+j)=some (vs.getD j undef):=by
 have:=World.cell?_setCells_in b vs p w h j hj
 rw [List.getD_eq_getElem?_getD,List.getElem?_eq_getElem hj];exact this
theorem q0fn (w:World) (a:Addr) (v:Value) (b:Nat):shp (w.setCell a v) b=shp w b:=by
 unfold shp World.setCell
 simp only [Array.getElem?_modify]
 by_cases e:a.block=b
 ·rw [if_pos e]
  cases h:w.heap[b]? with
  |none=>rfl
  |some x=>cases x<;>simp [shpO]<;>(split<;>simp)
 ·rw [if_neg e]
theorem qv9 (b:Nat):∀(vs:List Value) (p:Nat) (w:World) (b':Nat),shp (w.setCells b p vs) b'=shp w b'
 | [],_,_,_=>rfl
 |v::vs,p,w,b'=>(qv9 b vs (p+1) _ b').trans (q0fn _ _ _ _)
theorem q03p (b:Nat) (vs:List Value) (p:Nat) (w:World) (b' o:Nat):fz (w.setCells b p vs) b' o=fz w b' o:=by
 unfold fz;rw [World.frozen?_setCells,qv9]
theorem qot {w:World} {ob:Obj} {b o:Nat} (h:b<w.heap.size):fz (w.alloc ob) b o=fz w b o:=by
 unfold fz
 have e:shp (w.alloc ob) b=shp w b:=by
  unfold shp
  have:(w.alloc ob).heap[b]? =w.heap[b]? :=by
   show (w.heap.push ob)[b]? =_
   rw [Array.getElem?_push,if_neg (by omega)]
  rw [this]
 rw [e,World.frozen?_alloc_old _ _ _ (by simp;omega)]
theorem q0et {G:Gh} {w:World} {r:Nat} {b p:Nat} {vs:List Value} (ho:∀j,j<vs.length→∃s,G.own b (p+j)= .of r s):Fr G w G (w.setCells b p vs) (· =r):=by
 obtain⟨h1,h2,h3⟩:=qld b vs p w
 have key:∀L:Lab,(∀s,L≠ .of r s)→Lk G w G (w.setCells b p vs) L L:=by
  intro L hL b' o' _ h
  refine⟨h,q6n (fun ⟨e1,e2,e3⟩=> ?_),q03p b vs p w _ _⟩
  obtain⟨s,hs⟩:=ho (o'-p) (by omega)
  rw [show p+(o'-p)=o' by omega,←e1,h]at hs
  exact hL s hs
 exact⟨h1,h2,h3,by rw [qn3];exact Nat.le_refl _,key _ (fun s e=>by cases e),key _ (fun s e=>by cases e),fun s hs=>⟨rfl,fun t=>key _ (fun u e=>by cases e;exact hs rfl)⟩⟩
theorem qlb {w:World} {o:Obj} {b p:Nat} (h:b<w.heap.size):at_ (w.alloc o) b p=at_ w b p:=World.cell?_alloc_lt _ _ _ h
theorem q0if {w1:World} {vs:List Value} {e j:Nat} (hj:j<vs.length):at_ (w1.alloc (.cells vs.toArray e)) w1.heap.size j=some (vs.getD j undef):=by simp [at_,hj]
theorem q0lu {w1:World} {vs:List Value} {e j:Nat}:(w1.alloc (.cells vs.toArray e)).frozen? ⟨w1.heap.size,j,none⟩=false:=by simp
theorem Ext.alloc (w:World) (o:Obj):Ext w (w.alloc o):=⟨by simp,fun b o hb=>qlb hb⟩
def qgj (G:Gh) (n:Nat) (w:World) (cap:Nat):Gh:=
 ⟨fun b o=>if b=w.heap.size then .of n 0 else G.own b o,fun r=>if r=n then(some ⟨w.heap.size,0,none⟩,cap)else G.anch r⟩
theorem q0i0 {G:Gh} {w:World} (n cap:Nat) (obj:Obj) {ex:Nat→Prop} (hn:ex n):Fr G w (qgj G n w cap) (w.alloc obj) ex:=by
 have key:∀L:Lab,Lk G w (qgj G n w cap) (w.alloc obj) L L:=by
  intro L b o hb h
  exact⟨by simp [qgj,Nat.ne_of_lt hb,h],qlb hb,qot hb⟩
 exact⟨rfl,rfl,rfl,by simp,key _,key _,fun r hr=>⟨by simp only [qgj];rw [if_neg (fun e=>by subst e;exact hr hn)],fun s=>key _⟩⟩
theorem q0nq {G:Gh} {w:World} (n cap:Nat) (obj:Obj) (L:Lab):Lk G w (qgj G n w cap) (w.alloc obj) L L:=
 fun b o hb h=>⟨by simp [qgj,Nat.ne_of_lt hb,h],qlb hb,qot hb⟩
def q0mj (G:Gh) (n:Nat) (a:Option Addr) (cap:Nat):Gh:=⟨G.own,fun r=>if r=n then(a,cap)else G.anch r⟩
theorem q0qb {G:Gh} {w:World} (n:Nat) (a:Option Addr) (cap:Nat) {ex:Nat→Prop} (hn:ex n):Fr G w (q0mj G n a cap) w ex:=
 ⟨rfl,rfl,rfl,Nat.le_refl _,fun _ _ _ h=>⟨h,rfl,rfl⟩,fun _ _ _ h=>⟨h,rfl,rfl⟩,fun r hr=>⟨by simp only [q0mj];rw [if_neg (fun e=>by subst e;exact hr hn)],fun s _ _ _ h=>⟨h,rfl,rfl⟩⟩⟩
def q1m (G:Gh) (τ:Nat→Nat→Lab):Gh:=⟨fun b o=>match G.own b o with| .of r s=>τ r s|x=>x,G.anch⟩
theorem ql7 {G:Gh} {w:World} (τ:Nat→Nat→Lab) (r s:Nat):Lk G w (q1m G τ) w (.of r s) (τ r s):=fun b o _ h=>⟨by simp [q1m,h],rfl,rfl⟩
theorem qsh {G:Gh} {w:World} {τ:Nat→Nat→Lab} {ex:Nat→Prop} (hτ:∀r,¬ex r→∀s,τ r s= .of r s):Fr G w (q1m G τ) w ex:=
 ⟨rfl,rfl,rfl,Nat.le_refl _,fun _ _ _ h=>⟨by simp [q1m,h],rfl,rfl⟩,fun _ _ _ h=>⟨by simp [q1m,h],rfl,rfl⟩,fun r hr=>⟨rfl,fun s=>by have:=ql7 (G:=G) (w:=w) τ r s;rwa [hτ r hr s]at this⟩⟩
theorem q4v {n:Nat}:∀ {l:List Nat},qsr n l=true↔n∈l
 | []=>by simp [qsr]
 |m::ms=>by
  simp only [qsr,Bool.or_eq_true,List.mem_cons,q4v (l:=ms)]
  exact or_congr ⟨fun h=>qd h,fun h=>by subst h;exact Nat.beq_refl n⟩ Iff.rfl
theorem qby:∀ {l:List Nat},qve l=true↔l.Nodup
 | []=>by simp [qve]
 |m::ms=>by
  simp only [qve,Bool.and_eq_true,Bool.not_eq_true',List.nodup_cons,qby (l:=ms)]
  refine and_congr ⟨fun h hm=> ?_,fun h=> ?_⟩ Iff.rfl
  ·rw [q4v.2 hm]at h;cases h
  ·cases e:qsr m ms with
   |false=>rfl
   |true=>exact absurd (q4v.1 e) h
theorem qgi {l:List Nat}:∀ {ms:List Nat},qvp l ms=true↔∀m∈ms,m∉l
 | []=>by simp [qvp]
 |m::ms=>by
  simp only [qvp,Bool.and_eq_true,Bool.not_eq_true',List.mem_cons,forall_eq_or_imp,qgi (ms:=ms)]
  refine and_congr ⟨fun h hm=> ?_,fun h=> ?_⟩ Iff.rfl
  ·rw [q4v.2 hm]at h;cases h
  ·cases e:qsr m l with
   |false=>rfl
   |true=>exact absurd (q4v.1 e) h
theorem q0cn (own:Bool) (q:Root):qox own (qox own q)=qox own q:=by
 obtain⟨k,v,a⟩:=q
 cases own<;>cases k<;>rfl
theorem qnf (own:Bool):∀(rs:List Nat) (σ:St),(eat own σ rs).tmps=σ.tmps
 | [],_=>rfl
 |r::rs,σ=>by
  rw [eat,qnf own rs]
  unfold q0m2
  cases σ.roots[r]? <;>rfl
theorem qng (own:Bool):∀(rs:List Nat) (σ:St) (r:Nat),(eat own σ rs).roots[r]? =if r∈rs then(σ.roots[r]?).map (qox own)else σ.roots[r]?
 | [],σ,r=>by simp [eat]
 |m::rs,σ,r=>by
  rw [eat,qng own rs]
  have h1:∀x,(q0m2 own σ m).roots[x]? =if x=m then(σ.roots[x]?).map (qox own)else σ.roots[x]? :=by
   intro x
   unfold q0m2
   cases hm:σ.roots[m]? with
   |none=>
    by_cases e:x=m
    ·subst e;simp [hm]
    ·simp [e]
   |some q=>
    have hlt:m<σ.roots.length:=(List.getElem?_eq_some_iff.1 hm).1
    by_cases e:x=m
    ·subst e;simp only [q2z,List.getElem?_set_self hlt,hm,if_true,Option.map_some]
    ·simp [q2z,e,List.getElem?_set_ne (Ne.symm e)]
  rw [h1 r]
  by_cases e:r=m
  ·subst e
   by_cases hr:r∈rs
   ·simp only [hr,if_true,List.mem_cons,or_true]
    cases σ.roots[r]? with
    |none=>rfl
    |some q=>simp [q0cn]
   ·simp [hr]
  ·simp [e]
theorem quv (own:Bool):∀(rs:List Nat) (σ:St),(eat own σ rs).roots.length=σ.roots.length
 | [],_=>rfl
 |r::rs,σ=>by
  rw [eat,quv own rs]
  unfold q0m2
  cases σ.roots[r]? <;>simp [q2z]
theorem qmh {G G':Gh} {w:World} {r:Nat} {own:Bool} {ts:Ty} {l:List ts.den} {a:Option Addr} {n:Nat} (hu:Lk G w G' w .free .free) (hf:∀s,Lk G w G' w (.of r s) .free) (h:q8n G w (qc4 G w r own) (.of r 0) ts l a n):
  (ro (vw G' w) (.slice ts)).1 l (.slice a (List.length l) n):=by
 have flat:∀(s:Nat) (us:Ty) (m:List us.den) (a:Option Addr) (n:Nat) (cv:Nat→(t:Ty)→t.den→Value→Prop),(∀k t x v,cv k t x v→(ro (vw G' w) t).1 x v)→q8n G w cv (.of r s) us m a n→(ro (vw G' w) (.slice us)).1 m (.slice a (List.length m) n):=by
  intro s us m a n cv hcv h
  refine⟨a,n,rfl,h.1,fun i hi=> ?_⟩
  obtain⟨b,p,ea,h1,h2⟩:=q4u h hi
  refine⟨b,p,ea,(q09a us _ b _ (i*us.size)).2 (q3c us _ b _ _ (fun j v hj e=> ?_) hcv h2)⟩
  exact qsu.2 ⟨(hf s _ _ (q1z e) (h1 j hj).1).1,e⟩
 refine flat 0 ts l a n _ (fun k t x v g=> ?_) h
 cases own with
 |false=>exact(q8t (q6s hu) t).1 _ _ g
 |true=>
  cases t with
  |slice us=>
   obtain⟨a1,n1,e,g⟩:=g
   subst e
   exact flat (k+1) us x a1 n1 _ (fun k t x v g=>(q8t (q6s hu) t).1 _ _ g) g
  |bool=>exact g
  |int _=>exact g
  |str=>exact g
  |nil=>exact g
  |cons _ _=>exact g
def q096:RK→Bool| .row _ _ _=>true|_=>false
theorem qyx {G:Gh} {σ:St} {w:World} {own:Bool} {rs:List Nat} {τ:Nat→Nat→Lab} (hR:RelR G σ.roots w) (hrow:∀r∈rs,∀q,σ.roots[r]? =some q→q096 q.k=true)
  (hτ:∀r,r∉rs→∀s,τ r s= .of r s) (hfree:own=false→∀r∈rs,∀s,τ r s= .free):
  RelR (q1m G τ) (eat own σ rs).roots w∧Evo G σ.roots w (q1m G τ) (eat own σ rs).roots w:=by
 have hF:Fr G w (q1m G τ) w (· ∈rs):=qsh (fun r hr s=>hτ r hr s)
 have hE:Evo G σ.roots w (q1m G τ) (eat own σ rs).roots w:=by
  refine q0gl hF (by rw [quv];exact Nat.le_refl _) (fun r q hq hr=>by rw [qng,if_neg hr];exact hq) (fun r q hq hr=> ?_)
  have hk:=hrow r hr q hq
  obtain⟨kk,ver,anc⟩:=q
  refine⟨qox own ⟨kk,ver,anc⟩,by rw [qng,if_pos hr,hq];rfl,?_⟩
  cases kk with
  |row o ts l=>
   cases own with
   |true=>exact⟨Nat.le_succ _,Nat.le_succ _,fun e=> .inl rfl,fun t n e=>(by cases e),⟨fun _ _ h=>(by cases h),Nat.le_succ _,fun e=>absurd e (by simp [qox])⟩,fun _ _ _ _ e=>absurd e (by simp [qox]),fun _ _ _ _ e=>by cases e⟩
   |false=>exact⟨Nat.le_refl _,Nat.le_succ _,fun e=> .inr ⟨rfl,rfl⟩,fun t n e=>(by cases e),⟨fun _ _ h=>(by cases h),Nat.le_succ _,fun e=>absurd e (by simp [qox])⟩,fun _ _ _ _ e=>absurd e (by simp [qox]),fun _ _ _ _ e=>by cases e⟩
  |_=>cases hk
 refine⟨fun r q hq=> ?_,hE⟩
 rw [qng]at hq
 by_cases hr:r∈rs
 ·rw [if_pos hr]at hq
  cases h0:σ.roots[r]? with
  |none=>rw [h0]at hq;cases hq
  |some q0=>
   rw [h0]at hq
   cases hq
   have hk:=hrow r hr q0 h0
   have hro:=hR r q0 h0
   obtain⟨kk,ver,anc⟩:=q0
   cases kk with
   |row o ts l=>
    cases own with
    |true=>exact trivial
    |false=>
     exact qmh hF.free (fun s=>by have:=ql7 (G:=G) (w:=w) τ r s;rwa [hfree rfl r hr s]at this) hro
   |_=>cases hk
 ·rw [if_neg hr]at hq
  obtain⟨h1,h2⟩:=hF.root r hr
  exact qja hE h1 h2 (hR r q hq)
theorem q0s7 {k:RK} {t:Ty} {n:Nat} (h:k.hd=some (true,t,n)):∃cs ss,k= .box cs ss:=by
 cases k with
 |box cs ss=>exact⟨cs,ss,rfl⟩
 |_=>cases h
theorem RLe.row' {G G':Gh} {w w':World} {r:Nat} {q q':Root} (hnb:∀cs ss,q.k≠ .box cs ss) (hnb':∀cs ss,q'.k≠ .box cs ss) (hv:q.ver<q'.ver) (ha:q.anc≤q'.anc)
  (hh:q'.anc=q.anc→q'.k.hd=none∨(q'.k.hd=q.k.hd∧G'.anch r=G.anch r)):RLe G w G' w' r q q' where
 anc:=ha
 ver:=Nat.le_of_lt hv
 hd:=hh
 box:=fun t n h=>by obtain⟨cs,ss,e⟩:=q0s7 h;exact absurd e (hnb' cs ss)
 le:=by
  unfold Root.le
  cases hk:q.k with
  |box cs ss=>exact absurd hk (hnb cs ss)
  |_=>exact⟨hnb',Nat.le_of_lt hv,fun e=>by omega⟩
 same:=fun _ _ _ _ e=>by omega
 cell:=fun cs ss _ _ e=>absurd e (hnb cs ss)
theorem RLe.box' {G G':Gh} {w w':World} {r:Nat} {cs cs':List AV} {ss ss':List Nat} {ver anc:Nat} (ha:G'.anch r=G.anch r) (hl:cs'.length=cs.length)
  (h:∀f,ss.getD f 0≤ss'.getD f 0∧(ss'.getD f 0=ss.getD f 0→cs'.getD f .undef=cs.getD f .undef))
  (hc:∀f,ss'.getD f 0=ss.getD f 0→∀b o,(G.anch r).1=some ⟨b,o,none⟩→G.own b (o+f)= .of r 0→b<w.heap.size→G'.own b (o+f)= .of r 0∧at_ w' b (o+f)=at_ w b (o+f)):RLe G w G' w' r ⟨.box cs ss,ver,anc⟩ ⟨.box cs' ss',ver,anc⟩ where
 anc:=Nat.le_refl _
 ver:=Nat.le_refl _
 hd:=fun _=> .inr ⟨by simp [RK.hd,hl],ha⟩
 box:=fun t n e=>⟨by simp only [RK.hd,hl]at e ⊢;exact e,ha⟩
 le:=⟨cs',ss',rfl,hl,h⟩
 same:=fun _ _ _ e=>by cases e
 cell:=fun _ _ _ _ e e' f hf b o=>by cases e;cases e';exact hc f hf b o
theorem q00j {G:Gh} {w:World} {u:Nat→Nat→Option Value} {L:Lab} {ts:Ty} {l:List ts.den} {a:Option Addr} {c lo:Nat} (h:q8n G w (qea u) L ts l a c) (hlo:lo≤List.length l):
  q8n G w (qea u) L ts (dp l lo) (if c=lo then a else a.map (·.add (lo*ts.size))) (c-lo):=by
 obtain⟨h0,h⟩:=h
 refine⟨by rw [qeh];omega,?_⟩
 by_cases e:c=lo
 ·exact .inl (by omega)
 ·rcases h with h|⟨b,o,ea,h1,h2⟩
  ·omega
  ·right
   refine⟨b,o+lo*ts.size,by rw [if_neg e,ea];simp [qlc],fun j hj=> ?_,fun i hi=> ?_⟩
   ·have hm:lo*ts.size+j<c*ts.size:=by
     have:lo*ts.size+(c-lo)*ts.size=c*ts.size:=by rw [←Nat.add_mul];congr 1;omega
     omega
    have:=h1 _ hm
    rwa [show o+lo*ts.size+j=o+(lo*ts.size+j) by omega]
   ·rw [qeh]at hi
    rw [q0kk]
    have:=h2 (lo+i) (by omega)
    rw [Nat.add_mul]at this
    rw [show o+lo*ts.size+i*ts.size=o+(lo*ts.size+i*ts.size) by omega]
    exact qga ts _ b _ (lo*ts.size+i*ts.size) b _ (i*ts.size) (fun j v _ e=>e) (fun j _ t x v g=>g) this
theorem q0kd {u:Nat→Nat→Option Value} {ts:Ty} {l:List ts.den} {n:Nat} (hn:n≤List.length l) {a0:Option Addr} {c:Nat} (hc:List.length l≤c)
  (h:∀i,i<List.length l→∃b o,a0=some ⟨b,o,none⟩∧(ro u ts).2 (rd ts l i) b (o+i*ts.size)):(ro u (.slice ts)).1 (dp l n) (.slice (if c=n then a0 else a0.map (·.add (n*ts.size))) (List.length l-n) (c-n)):=by
 refine⟨_,c-n,by rw [qeh],by rw [qeh];omega,fun i hi=> ?_⟩
 rw [qeh]at hi
 obtain⟨b,p,ea,k'⟩:=h (n+i) (by omega)
 refine⟨b,p+n*ts.size,?_,?_⟩
 ·rw [if_neg (by omega),ea];simp [qlc]
 ·rw [q0kk,show p+n*ts.size+i*ts.size=p+(n+i)*ts.size by rw [Nat.add_mul];omega];exact k'
theorem q0jl {G:Gh} {σ:St} {w:World} {av:AV} {v:Value} (hR:RelR G σ.roots w) (hv:(avR G σ.roots w av).1 v):
  (qbs σ av).2.tmps=σ.tmps∧∃G',RelR G' (qbs σ av).2.roots w∧Evo G σ.roots w G' (qbs σ av).2.roots w∧(avR G' (qbs σ av).2.roots w (qbs σ av).1).1 v:=by
 have same:∀av',(avR G σ.roots w av').1 v→(qbs σ av)=(av',σ)→(qbs σ av).2.tmps=σ.tmps∧∃G',RelR G' (qbs σ av).2.roots w∧Evo G σ.roots w G' (qbs σ av).2.roots w∧(avR G' (qbs σ av).2.roots w (qbs σ av).1).1 v:=by
  intro av' h e
  rw [e]
  exact⟨rfl,G,hR,Evo.refl _ _ _,h⟩
 cases av with
 |hd r a n=>
  obtain⟨q,hq,hle,g⟩:=hv
  have hro:=hR r q hq
  obtain⟨kk,ver,anc⟩:=q
  cases kk with
  |row o ts l=>
   cases hab:Nat.beq a anc with
   |false=>exact same .undef trivial (by simp [qbs,hq,hab])
   |true=>
    have e:=qd hab
    subst e
    obtain⟨hn,ev⟩:=g rfl ts (List.length l) rfl
    have hcut:qbs σ (.hd r a n)=(.sl r (a+1),q2z σ r ⟨.row o ts (tk l n),ver+1,a+1⟩):=by simp [qbs,hq,hab]
    rw [hcut]
    have hro':q8n G w (qc4 G w r o) (.of r 0) ts l (G.anch r).1 (G.anch r).2:=hro
    obtain⟨h1,h2⟩:=qca (G':=G) (w':=w) (q':=⟨.row o ts (tk l n),ver+1,a+1⟩) hR hq (Fr.refl _ _ _) (RLe.row' (fun _ _ e=>by cases e) (fun _ _ e=>by cases e) (Nat.lt_succ_self _) (Nat.le_succ _) (fun e=>absurd e (by simp))) (fun _=>qj9 hro' hn)
    refine⟨rfl,G,h1,h2,_,List.getElem?_set_self (List.getElem?_eq_some_iff.1 hq).1,Nat.le_refl _,fun _ ts' m hh=> ?_⟩
    cases hh
    rw [qoj hn];exact ev
  |fro ts l=>
   cases hab:Nat.beq a anc with
   |false=>exact same .undef trivial (by simp [qbs,hq,hab])
   |true=>
    have e:=qd hab
    subst e
    obtain⟨hn,ev⟩:=g rfl ts (List.length l) rfl
    refine same (.val (.slice ts) (tk l n)) ?_ (by simp [qbs,hq,hab])
    obtain⟨a0,c,e0,hc,hh⟩:=hro
    cases e0
    rw [ev]
    exact q0aq hn (by omega) hh
  |box _ _=>exact same .undef trivial (by simp [qbs,hq])
  |dead=>exact same .undef trivial (by simp [qbs,hq])
 |tl r a n=>
  obtain⟨q,hq,hle,g⟩:=hv
  have hro:=hR r q hq
  obtain⟨kk,ver,anc⟩:=q
  cases kk with
  |row o ts l=>
   cases o with
   |true=>exact same .undef trivial (by simp [qbs,hq])
   |false=>
    cases hab:Nat.beq a anc with
    |false=>exact same .undef trivial (by simp [qbs,hq,hab])
    |true=>
     have e:=qd hab
     subst e
     obtain⟨hn,ev⟩:=g rfl ts (List.length l) rfl
     have hcut:qbs σ (.tl r a n)=(.sl r (a+1),q2z σ r ⟨.row false ts (dp l n),ver+1,a+1⟩):=by simp [qbs,hq,hab]
     rw [hcut]
     have hro':q8n G w (qea (vw G w)) (.of r 0) ts l (G.anch r).1 (G.anch r).2:=hro
     have hd:=q00j hro' hn
     obtain⟨h1,h2⟩:=qca (G':=q0mj G r (if (G.anch r).2=n then(G.anch r).1 else((G.anch r).1).map (·.add (n*ts.size))) ((G.anch r).2-n)) (w':=w) (q':=⟨.row false ts (dp l n),ver+1,a+1⟩) hR hq (q0qb r _ _ rfl)
      (RLe.row' (fun _ _ e=>by cases e) (fun _ _ e=>by cases e) (Nat.lt_succ_self _) (Nat.le_succ _) (fun e=>absurd e (by simp))) (fun _=>by
       simp only [q8s,q0mj,if_true]
       exact q61 (fun k t x v g=>g) (fun _ _ _ h=>⟨h,rfl,rfl⟩) hd)
     refine⟨rfl,_,h1,h2,_,List.getElem?_set_self (List.getElem?_eq_some_iff.1 hq).1,Nat.le_refl _,fun _ ts' m hh=> ?_⟩
     cases hh
     simp only [q0mj,if_true]
     rw [qeh];exact ev
  |fro ts l=>
   cases hab:Nat.beq a anc with
   |false=>exact same .undef trivial (by simp [qbs,hq,hab])
   |true=>
    have e:=qd hab
    subst e
    obtain⟨hn,ev⟩:=g rfl ts (List.length l) rfl
    refine same (.val (.slice ts) (dp l n)) ?_ (by simp [qbs,hq,hab])
    obtain⟨a0,c,e0,hc,hh⟩:=hro
    cases e0
    rw [ev]
    refine⟨_,(G.anch r).2-n,by rw [qeh],by rw [qeh];omega,fun i hi=> ?_⟩
    rw [qeh]at hi
    obtain⟨b,p,ea,k'⟩:=hh (n+i) (by omega)
    refine⟨b,p+n*ts.size,?_,?_⟩
    ·rw [if_neg (by omega),ea];simp [qlc]
    ·rw [q0kk,show p+n*ts.size+i*ts.size=p+(n+i)*ts.size by rw [Nat.add_mul];omega];exact k'
  |box _ _=>exact same .undef trivial (by simp [qbs,hq])
  |dead=>exact same .undef trivial (by simp [qbs,hq])
 |undef=>exact same _ hv rfl
 |val t x=>exact same _ hv rfl
 |nl ts=>exact same _ hv rfl
 |agg cs=>exact same _ hv rfl
 |tup vs=>exact same _ hv rfl
 |rp ts x f=>exact same _ hv rfl
 |bp r f=>exact same _ hv rfl
 |ep r a i f=>exact same _ hv rfl
 |sl r a=>exact same _ hv rfl
 |il r s i f=>exact same _ hv rfl
 |ip r s i f j g=>exact same _ hv rfl
 |pd r s i f us l=>exact same _ hv rfl
 |fn f cs=>exact same _ hv rfl
 |nil=>exact same _ hv rfl
 |cons c cs=>exact same _ hv rfl
section
variable {P:Program}
section
variable {R:Type} {G:Gh} {σ:St} {a:Act} {w:World} {K:AV→St→Option R} {r:R} {next:Act→World→Prop} {Q:Exit→Act→World→Prop} {o:Oper} {tab:List (Nat×TI)}
variable {soft:Bool} {Γ:List (Nat×Ent)} {call:Nat→List AV→St→(AV→St→Option R)→Option R} {k:Nat} {qt:Bool}
theorem q0l7 {T:Nat} {cs:AV} {vs:List Value} (hR:RelR G σ.roots w) (hv:(avR G σ.roots w cs).2 vs):
  ∃G',RelR G' (q8i σ (.box cs.toList (cs.toList.map fun _=>0))).roots (w.alloc (.cells vs.toArray T))∧Evo G σ.roots w G' (q8i σ (.box cs.toList (cs.toList.map fun _=>0))).roots (w.alloc (.cells vs.toArray T))∧
   (avR G' (q8i σ (.box cs.toList (cs.toList.map fun _=>0))).roots (w.alloc (.cells vs.toArray T)) (.bp σ.roots.length 0)).1 (.pointer (some ⟨w.heap.size,0,none⟩)):=by
 obtain⟨k1,k2⟩:=q047 cs vs hv
 obtain⟨h1,h2⟩:=q049 (G':=qgj G σ.roots.length w 0) (w':=w.alloc (.cells vs.toArray T)) (N:=[⟨.box cs.toList (cs.toList.map fun _=>0),0,0⟩]) hR (q0i0 σ.roots.length 0 _ (Nat.le_refl _)) (fun hE j q hj=>by
  have e:j=0:=by have:=(List.getElem?_eq_some_iff.1 hj).1;simpa using this
  subst e
  simp at hj;subst hj
  refine⟨by simp,w.heap.size,0,by simp [qgj],fun f hf=>⟨by simp [qgj],q0lu,vs.getD f undef,?_,(qac hE _).1 _ (k2 f (by omega))⟩⟩
  have hf':f<vs.length:=by omega
  rw [Nat.zero_add];exact q0if hf')
 refine⟨_,h1,h2,⟨.box cs.toList (cs.toList.map fun _=>0),0,0⟩,by simp [q8i,qz0],fun n t hh=>⟨w.heap.size,0,by simp [qgj],by simp⟩⟩
theorem q0nj {T:Nat} (hT:q7w P tab) (ho:o.op= .alloc T) (hR:Rel G σ a w) (hn:Nxt qt G σ w a o.dst K r next) (h:qa1 tab soft Γ call k o σ K=some r):o.wp P a w next Q:=by
 simp only [qa1,ho]at h
 split at h
 ·rename_i i hi
  obtain⟨I,z,e1,e2,e3⟩:=(hT T i hi).zero
  obtain⟨G',h1,h2,h3⟩:=q0l7 (T:=T) hR.roots (q0gx i.cells (hT T i hi).flat)
  refine q4l (x:= .pointer (some ⟨w.heap.size,0,none⟩)) (w':=w.alloc (.cells (q17 i.cells).toArray T)) ?_ (hn _ _ G' _ _ h h1 h3 h2 (fun _=>Ext.alloc _ _))
  simp [execOp,ho,Instr.alloc,zeroValue,typeInfo,e1,e2,newVar,newRow,e3]
 ·cases h
theorem q0ru {T:Nat} {x:Operand} (hT:q7w P tab) (ho:o.op= .box T x) (hR:Rel G σ a w) (hn:Nxt qt G σ w a o.dst K r next) (h:qa1 tab soft Γ call k o σ K=some r):o.wp P a w next Q:=by
 simp only [qa1,ho]at h
 split at h
 ·rename_i i hi
  obtain⟨hl,h⟩:=qw h
  have hl:=qd hl
  have hne:qgz (cellsOf σ (σ.eval x))≠0:=by
   intro e0
   have:(cellsOf σ (σ.eval x)).toList.length=0:=by
    generalize cellsOf σ (σ.eval x)=c at e0
    cases c<;>simp_all [qgz,AV.toList]
   rw [this]at hl
   exact(hT T i hi).pos hl.symm
  obtain⟨vs,e1,e2,e3,e4⟩:=qc5 (tm:=σ.tmps) hR.roots hne (hR.eval x)
  obtain⟨G',h1,h2,h3⟩:=q0l7 (σ:=σ) (T:=T) hR.roots e3
  refine q4l (x:= .pointer (some ⟨w.heap.size,0,none⟩)) (w':=w.alloc (.cells vs.toArray T)) ?_ (hn _ _ G' _ _ h h1 h3 h2 (fun _=>Ext.alloc _ _))
  simp [execOp,ho,Instr.box,newVar,newRow,e1]
 ·cases h
def q0fb (Rs:List Root):AV→Nat→List (Nat×Nat)
 | .cons v as,k=>(q0fv ⟨[],Rs⟩ v).map (fun r=>(r,k))++q0fb Rs as (k+1)
 |_,_=>[]
theorem q08q {tm:List AV} {Rs:List Root}:∀(cs:AV) (k:Nat),(q0fb Rs cs k).map Prod.fst=qcq ⟨tm,Rs⟩ cs:=by
 intro cs
 induction cs with
 |cons c cs _ ih=>
  intro k
  have e:q0fv ⟨[],Rs⟩ c=q0fv ⟨tm,Rs⟩ c:=by cases c<;>rfl
  simp only [q0fb,qcq,List.map_append,ih,e]
  simp [Function.comp_def]
 |_=>intro k;rfl
theorem q00h {tm:List AV} {Rs:List Root} {r r':Nat} (h:r'∈(match q0dk ⟨tm,Rs⟩ r with|true=>[r]|false=>[])):r'=r∧∀q,Rs[r]? =some q→q096 q.k=true:=by
 cases e:q0dk ⟨tm,Rs⟩ r with
 |false=>rw [e]at h;cases h
 |true=>
  rw [e]at h
  refine⟨by simpa using h,fun q hq=> ?_⟩
  obtain⟨kk,v,b⟩:=q
  simp only [q0dk,hq]at e
  cases kk<;>first|rfl|cases e
theorem q0kc {tm:List AV} {Rs:List Root} {c:AV} {r:Nat} (h:r∈q0fv ⟨tm,Rs⟩ c):∀q,Rs[r]? =some q→q096 q.k=true:=by
 cases c with
 |sl r' a=>obtain⟨e,g⟩:=q00h h;subst e;exact g
 |hd r' a n=>obtain⟨e,g⟩:=q00h h;subst e;exact g
 |tl r' a n=>obtain⟨e,g⟩:=q00h h;subst e;exact g
 |_=>cases h
theorem q08v {tm:List AV} {Rs:List Root}:∀(cs:AV) (r:Nat),r∈qcq ⟨tm,Rs⟩ cs→∀q,Rs[r]? =some q→q096 q.k=true:=by
 intro cs
 induction cs with
 |cons c cs _ ih=>
  intro r hr q hq
  simp only [qcq,List.mem_append]at hr
  rcases hr with hr|hr
  ·exact q0kc hr q hq
  ·exact ih r hr q hq
 |_=>intro r hr;cases hr
theorem q00i {tm:List AV} {Rs:List Root} {r v b:Nat} {o:Bool} {ts:Ty} {l:List ts.den} (h:Rs[r]? =some ⟨.row o ts l,v,b⟩):r∈(match q0dk ⟨tm,Rs⟩ r with|true=>[r]|false=>[]):=by
 simp [q0dk,h]
def qiq (own:Bool) (r0:Nat) (L:List (Nat×Nat)):Nat→Nat→Lab:=fun r s=>match L.lookup r with
 |some k=>(match own with|true=> .of r0 (k+1)|false=> .free)
 |none=> .of r s
theorem q012 {L:List (Nat×Nat)} {r:Nat} (h:r∉L.map Prod.fst):L.lookup r=none:=by
 induction L with
 |nil=>rfl
 |cons p L ih=>
  simp only [List.map_cons,List.mem_cons,not_or]at h
  rw [List.lookup_cons]
  have:(r==p.1)=false:=by simpa using h.1
  rw [this];exact ih h.2
theorem q0j9 {L:List (Nat×Nat)} {r k:Nat} (hn:(L.map Prod.fst).Nodup) (h:(r,k)∈L):L.lookup r=some k:=by
 induction L with
 |nil=>cases h
 |cons p L ih=>
  simp only [List.map_cons,List.nodup_cons]at hn
  rw [List.lookup_cons]
  rcases List.mem_cons.1 h with e|h
  ·subst e;simp
  ·have:(r==p.1)=false:=by
    simp only [beq_eq_false_iff_ne,ne_eq]
    intro e
    exact hn.1 (e▸List.mem_map_of_mem (f:=Prod.fst) h)
   rw [this];exact ih hn.2 h
theorem qqg {L:List (Nat×Nat)} {r:Nat} (h:r∈L.map Prod.fst):∃k,L.lookup r=some k:=by
 induction L with
 |nil=>cases h
 |cons p L ih=>
  rw [List.lookup_cons]
  by_cases e:r=p.1
  ·exact⟨p.2,by simp [e]⟩
  ·have:(r==p.1)=false:=by simpa using e
   rw [this]
   simp only [List.map_cons,List.mem_cons]at h
   exact ih (h.resolve_left e)
def q08n (Rs:List Root) (own:Bool) (r0:Nat) (τ:Nat→Nat→Lab):AV→Nat→Prop
 | .cons v as,k=>(∀r∈q0fv ⟨[],Rs⟩ v,∀s,τ r s=if own then .of r0 (k+1)else .free)∧q08n Rs own r0 τ as (k+1)
 |_,_=>True
theorem q0ra {Rs:List Root} {own:Bool} {r0:Nat} {L:List (Nat×Nat)} (hn:own=true→(L.map Prod.fst).Nodup):∀(cs:AV) (k:Nat),(∀p∈q0fb Rs cs k,p∈L)→q08n Rs own r0 (qiq own r0 L) cs k:=by
 intro cs
 induction cs with
 |cons c cs _ ih=>
  intro k h
  simp only [q0fb,List.mem_append,List.mem_map]at h
  refine⟨fun r hr s=> ?_,ih (k+1) (fun p hp=>h p (.inr hp))⟩
  have hm:=h (r,k) (.inl ⟨r,hr,rfl⟩)
  cases own with
  |true=>simp [qiq,q0j9 (hn rfl) hm]
  |false=>
   obtain⟨k',hk'⟩:=qqg (List.mem_map_of_mem (f:=Prod.fst) hm)
   simp [qiq,hk']
 |_=>intro k _;exact trivial
theorem qsm {s t:Ty} {x:s.den} {y:t.den} (h:s.cast t x=some y):∃e:s=t,e▸x=y:=by
 unfold Ty.cast at h
 cases he:s.eq? t with
 |none=>rw [he]at h;cases h
 |some p=>rw [he]at h;exact⟨p.down,Option.some.inj h⟩
theorem q79 {us:Ty} {t:Ty} {x:(Ty.slice us).den} {y:t.den} (h:(Ty.slice us).cast t x=some y):∃e:t= .slice us,e▸y=x:=by
 obtain⟨e,g⟩:=qsm h
 subst e;exact⟨rfl,g.symm⟩
theorem q0go {Rs:List Root} {tm:List AV} {own:Bool} {r0 kk:Nat} {τ:Nat→Nat→Lab} (hR:RelR G Rs w) {t:Ty} {av:AV} {x:t.den} {v:Value} (h:qq7 ⟨tm,Rs⟩ own t av=some x) (hv:(avR G Rs w av).1 v)
  (ht:q08n Rs own r0 τ (.cons av .nil) kk):qc4 (q1m G τ) w r0 own kk t x v:=by
 have hu:∀b o v,vw G w b o=some v→vw (q1m G τ) w b o=some v:=q6s (qsh (ex:=fun _=>True) (G:=G) (w:=w) (τ:=τ) (fun r hr=>absurd trivial hr)).free
 have flat:∀(t:Ty) (x:t.den),(own&&t.isSl)=false→(ro (vw G w) t).1 x v→qc4 (q1m G τ) w r0 own kk t x v:=by
  intro t x hs hro
  have:=(q8t hu t).1 _ _ hro
  cases own with
  |false=>exact this
  |true=>cases t<;>first|exact this|cases hs
 have fromRow:∀(r:Nat) (o:Bool) (us:Ty) (x:List us.den) (a0:Option Addr) (c:Nat),(∀s,τ r s=if own then .of r0 (kk+1)else .free)→(!own|| !o)=true→v= .slice a0 (List.length x) c→q8n G w (qc4 G w r o) (.of r 0) us x a0 c→
   qc4 (q1m G τ) w r0 own kk (.slice us) x v:=by
  intro r o us x a0 c hτ ho ev hro
  cases own with
  |true=>
   have ho:o=false:=by simpa using ho
   subst ho
   refine⟨_,_,ev,q61 (fun k t x v g=>q4j hu k k t x v g) ?_ hro⟩
   have:=ql7 (G:=G) (w:=w) τ r 0
   rwa [hτ 0]at this
  |false=>
   rw [ev]
   refine qmh (qsh (ex:=fun _=>True) (fun r hr=>absurd trivial hr)).free (fun s=> ?_) hro
   have:=ql7 (G:=G) (w:=w) τ r s
   rwa [hτ s]at this
 cases av with
 |val u y=>
  simp only [qq7]at h
  split at h
  ·cases h
  ·rename_i hs
   obtain⟨e,g⟩:=qsm h
   subst e;subst g
   exact flat _ _ hs hv
 |nl us=>
  obtain⟨a,ev⟩:=hv
  obtain⟨e,g⟩:=q79 h
  subst e
  have g:x=[]:=g
  subst g
  cases own with
  |true=>exact⟨a,0,ev,Nat.zero_le _,.inl rfl⟩
  |false=>exact⟨a,0,ev,Nat.le_refl _,fun i hi=>absurd hi (by simp)⟩
 |sl r a=>
  obtain⟨q,hq,hle,g⟩:=hv
  simp only [qq7,hq]at h
  obtain⟨k',ver,anc⟩:=q
  have hro:=hR r _ hq
  cases k' with
  |row o us m=>
   have hτ:=ht.1 r (q00i hq)
   simp only at h
   split at h
   ·rename_i hb
    obtain⟨hb1,hb2⟩:=and2 hb
    have ev:=g (qd hb1).symm us (List.length m) rfl
    obtain⟨e,g'⟩:=q79 h
    subst e
    have g':x=m:=g'
    subst g'
    exact fromRow r o us x _ _ hτ hb2 ev hro
   ·cases h
  |fro us m=>
   simp only at h
   split at h
   ·rename_i hb
    obtain⟨hb1,hb2⟩:=and2 hb
    have ev:=g (qd hb1).symm us (List.length m) rfl
    obtain⟨e,g'⟩:=q79 h
    subst e
    have g':x=m:=g'
    subst g'
    refine flat _ _ (by simp only [Bool.not_eq_true']at hb2;rw [hb2];rfl) ?_
    rw [ev];exact hro
   ·cases h
  |_=>cases h
 |hd r a n=>
  obtain⟨q,hq,hle,g⟩:=hv
  simp only [qq7,hq]at h
  obtain⟨k',ver,anc⟩:=q
  have hro:=hR r _ hq
  cases k' with
  |row o us m=>
   have hτ:=ht.1 r (q00i hq)
   simp only at h
   split at h
   ·rename_i hb
    obtain⟨hb1,hb2⟩:=and2 hb
    obtain⟨hn,ev⟩:=g (qd hb1).symm us (List.length m) rfl
    obtain⟨e,g'⟩:=q79 h
    subst e
    have g':x=tk m n:=g'
    subst g'
    exact fromRow r o us _ _ _ hτ hb2 (by rw [qoj hn];exact ev) (qj9 hro hn)
   ·cases h
  |fro us m=>
   simp only at h
   split at h
   ·rename_i hb
    obtain⟨hb1,hb2⟩:=and2 hb
    obtain⟨hn,ev⟩:=g (qd hb1).symm us (List.length m) rfl
    obtain⟨e,g'⟩:=q79 h
    subst e
    have g':x=tk m n:=g'
    subst g'
    refine flat _ _ (by simp only [Bool.not_eq_true']at hb2;rw [hb2];rfl) ?_
    rw [ev]
    obtain⟨a0,c,e0,hc,hh⟩:=hro
    cases e0
    exact q0aq hn (by omega) hh
   ·cases h
  |_=>cases h
 |tl r a n=>
  obtain⟨q,hq,hle,g⟩:=hv
  simp only [qq7,hq]at h
  obtain⟨k',ver,anc⟩:=q
  have hro:=hR r _ hq
  cases k' with
  |row o us m=>
   have hτ:=ht.1 r (q00i hq)
   simp only at h
   split at h
   ·rename_i hb
    obtain⟨hb1,hb2⟩:=and2 hb
    obtain⟨hn,ev⟩:=g (qd hb1).symm us (List.length m) rfl
    have ho:o=false:=by simpa using hb2
    subst ho
    obtain⟨e,g'⟩:=q79 h
    subst e
    have g':x=dp m n:=g'
    subst g'
    exact fromRow r false us _ _ _ hτ (by simp) (by rw [qeh];exact ev) (q00j hro hn)
   ·cases h
  |fro us m=>
   simp only at h
   split at h
   ·rename_i hb
    obtain⟨hb1,hb2⟩:=and2 hb
    obtain⟨hn,ev⟩:=g (qd hb1).symm us (List.length m) rfl
    obtain⟨e,g'⟩:=q79 h
    subst e
    have g':x=dp m n:=g'
    subst g'
    refine flat _ _ (by simp only [Bool.not_eq_true']at hb2;rw [hb2];rfl) ?_
    rw [ev]
    obtain⟨a0,c,e0,hc,hh⟩:=hro
    cases e0
    exact q0kd hn hc hh
   ·cases h
  |_=>cases h
 |_=>cases h
theorem q0iu {Rs:List Root} {tm:List AV} {own:Bool} {t:Ty} {c:AV} {z:t.den} {r:Nat} (h:r∈q0fv ⟨[],Rs⟩ c) (hz:qq7 ⟨tm,Rs⟩ own t c=some z):∃(us:Ty) (l:List us.den),(Ty.slice us).cast t l=some z:=by
 cases c with
 |sl r' a=>
  simp only [qq7]at hz
  split at hz
  ·split at hz
   ·exact⟨_,_,hz⟩
   ·cases hz
  ·split at hz
   ·exact⟨_,_,hz⟩
   ·cases hz
  ·cases hz
 |hd r' a n=>
  simp only [qq7]at hz
  split at hz
  ·split at hz
   ·exact⟨_,_,hz⟩
   ·cases hz
  ·split at hz
   ·exact⟨_,_,hz⟩
   ·cases hz
  ·cases hz
 |tl r' a n=>
  simp only [qq7]at hz
  split at hz
  ·split at hz
   ·exact⟨_,_,hz⟩
   ·cases hz
  ·split at hz
   ·exact⟨_,_,hz⟩
   ·cases hz
  ·cases hz
 |_=>cases h
theorem qmi {Rs:List Root} {tm:List AV} {own:Bool} {r0:Nat} {τ:Nat→Nat→Lab} (hR:RelR G Rs w) {c c':Nat→Nat→Option Value} {b:Nat}:∀(ts:Ty) (x y:ts.den) (f p k:Nat) (av:AV) (vs:List Value),
  qre ⟨tm,Rs⟩ own ts x f av=some y→(avR G Rs w av).2 vs→q08n Rs own r0 τ av (k+f)→elG c (qc4 (q1m G τ) w r0 own) ts x b p k→
  (∀j,j<ts.size→c' b (p+j)=if f≤j∧j<f+vs.length then some (vs.getD (j-f) undef)else c b (p+j))→elG c' (qc4 (q1m G τ) w r0 own) ts y b p k
 | .cons t ts,x,y,f+1,p,k,av,vs,h,hv,ht,⟨⟨v,e,g⟩,hk⟩,hc=>by
  simp only [qre]at h
  split at h
  ·rename_i z hz
   cases h
   refine⟨⟨v,?_,g⟩,qmi hR ts x.2 z f (p+1) (k+1) av vs hz hv (by rw [show k+1+f=k+(f+1) by omega];exact ht) hk (fun j hj=> ?_)⟩
   ·have:=hc 0 (by simp [Ty.size])
    rw [if_neg (by omega)]at this
    simpa using this.trans (by simpa using e)
   ·have:=hc (j+1) (by simp only [Ty.size];omega)
    rw [show p+(j+1)=p+1+j by omega]at this
    rw [this]
    by_cases hlt:f≤j∧j<f+vs.length
    ·rw [if_pos hlt,if_pos (by omega),show j+1-(f+1)=j-f by omega]
    ·rw [if_neg hlt,if_neg (by omega)]
  ·cases h
 | .cons t ts,x,y,0,p,k,.cons av as,vs,h,hv,ht,⟨⟨v,e,g⟩,hk⟩,hc=>by
  simp only [qre]at h
  obtain⟨v0,vs0,ev,h1,h2⟩:=hv
  subst ev
  have ht1:q08n Rs own r0 τ (.cons av .nil) k∧q08n Rs own r0 τ as (k+1):=⟨⟨ht.1,trivial⟩,ht.2⟩
  split at h
  ·rename_i z0 z hz0 hz
   cases h
   refine⟨⟨v0,?_,q0go hR hz0 h1 ht1.1⟩,qmi hR ts x.2 z 0 (p+1) (k+1) as vs0 hz h2 ht1.2 hk (fun j hj=> ?_)⟩
   ·have:=hc 0 (by simp [Ty.size])
    rw [if_pos (by simp)]at this
    simpa using this
   ·have:=hc (j+1) (by simp only [Ty.size];omega)
    rw [show p+(j+1)=p+1+j by omega]at this
    rw [this]
    by_cases hlt:j<vs0.length
    ·rw [if_pos (show 0≤j+1∧j+1<0+(v0::vs0).length from⟨Nat.zero_le _,by simp;omega⟩),if_pos (show 0≤j∧j<0+vs0.length by omega)];simp
    ·rw [if_neg (by simp;omega),if_neg (by omega)]
  ·cases h
 | .cons t ts,x,y,0,p,k,.nil,vs,h,hv,_,hk,hc=>by
  have hv:vs=[]:=hv
  subst hv
  simp only [qre]at h
  cases h
  refine q3c _ _ _ _ _ (fun j v hj e=> ?_) (fun _ _ _ _ g=>g) hk
  have:=hc j hj
  rw [if_neg (fun h=>by have:=h.2;simp at this)]at this
  rw [this];exact e
 | .bool,_,_,_,_,_,_,_,_,_,_,_,_=>trivial
 | .int _,_,_,_,_,_,_,_,_,_,_,_,_=>trivial
 | .str,_,_,_,_,_,_,_,_,_,_,_,_=>trivial
 | .nil,_,_,_,_,_,_,_,_,_,_,_,_=>trivial
 | .slice _,_,_,_,_,_,_,_,_,_,_,_,_=>trivial
 | .cons t ts,x,y,0,p,k,.undef,vs,h,hv,_,hk,hc=>hv.elim
 | .cons t ts,x,y,0,p,k,.val _ _,vs,h,hv,_,hk,hc=>hv.elim
 | .cons t ts,x,y,0,p,k,.nl _,vs,h,hv,_,hk,hc=>hv.elim
 | .cons t ts,x,y,0,p,k,.agg _,vs,h,hv,_,hk,hc=>hv.elim
 | .cons t ts,x,y,0,p,k,.tup _,vs,h,hv,_,hk,hc=>hv.elim
 | .cons t ts,x,y,0,p,k,.rp _ _ _,vs,h,hv,_,hk,hc=>hv.elim
 | .cons t ts,x,y,0,p,k,.bp _ _,vs,h,hv,_,hk,hc=>hv.elim
 | .cons t ts,x,y,0,p,k,.ep _ _ _ _,vs,h,hv,_,hk,hc=>hv.elim
 | .cons t ts,x,y,0,p,k,.sl _ _,vs,h,hv,_,hk,hc=>hv.elim
 | .cons t ts,x,y,0,p,k,.hd _ _ _,vs,h,hv,_,hk,hc=>hv.elim
 | .cons t ts,x,y,0,p,k,.tl _ _ _,vs,h,hv,_,hk,hc=>hv.elim
 | .cons t ts,x,y,0,p,k,.il _ _ _ _,vs,h,hv,_,hk,hc=>hv.elim
 | .cons t ts,x,y,0,p,k,.ip _ _ _ _ _ _,vs,h,hv,_,hk,hc=>hv.elim
 | .cons t ts,x,y,0,p,k,.pd _ _ _ _ _ _,vs,h,hv,_,hk,hc=>hv.elim
 | .cons t ts,x,y,0,p,k,.fn _ _,vs,h,hv,_,hk,hc=>hv.elim
theorem qcp {c c':Nat→Nat→Option Value} {cv cv':Nat→(t:Ty)→t.den→Value→Prop} {b:Nat} {us:Ty} {m:List us.den} {v:Value}:∀(ts:Ty) (x y:ts.den) (f p k:Nat),q5m ts x f us m=some y→elG c cv ts x b p k→
  (∀j u,j<ts.size→j≠f→c b (p+j)=some u→c' b (p+j)=some u)→(∀j,j<ts.size→j≠f→∀t x v,cv (k+j) t x v→cv' (k+j) t x v)→c' b (p+f)=some v→cv' (k+f) (.slice us) m v→elG c' cv' ts y b p k
 | .cons (.slice vs) ts,x,y,0,p,k,h,⟨_,hk⟩,hc,hcv,hf,hv=>by
  simp only [q5m]at h
  split at h
  ·rename_i z hz
   cases h
   obtain⟨e,g⟩:=q79 hz
   cases e
   have g:z=m:=g
   subst g
   refine⟨⟨v,by simpa using hf,hv⟩,qga _ _ _ _ _ _ _ _ (fun j u hj e=> ?_) (fun j hj t x v g=> ?_) hk⟩
   ·have:=hc (j+1) u (by simp only [Ty.size];omega) (by omega)
    rw [show p+(j+1)=p+1+j by omega]at this
    exact this e
   ·have:=hcv (j+1) (by simp only [Ty.size];omega) (by omega) t x v
    rw [show k+(j+1)=k+1+j by omega]at this
    exact this g
  ·cases h
 | .cons t ts,x,y,f+1,p,k,h,⟨⟨u,e,g⟩,hk⟩,hc,hcv,hf,hv=>by
  have h:(match q5m ts x.2 f us m with|some y=>some (x.1,y)|none=>none)=some y:=by cases t<;>exact h
  split at h
  ·rename_i z hz
   cases h
   refine⟨⟨u,?_,?_⟩,qcp ts x.2 z f (p+1) (k+1) hz hk (fun j u hj hne e=> ?_) (fun j hj hne t x v g=> ?_) (by rw [show p+1+f=p+(f+1) by omega];exact hf) (by rw [show k+1+f=k+(f+1) by omega];exact hv)⟩
   ·have:=hc 0 u (by simp [Ty.size]) (by omega)
    simpa using this (by simpa using e)
   ·have:=hcv 0 (by simp [Ty.size]) (by omega) t x.1 u
    simpa using this (by simpa using g)
   ·have:=hc (j+1) u (by simp only [Ty.size];omega) (by omega)
    rw [show p+(j+1)=p+1+j by omega]at this
    exact this e
   ·have:=hcv (j+1) (by simp only [Ty.size];omega) (by omega) t x v
    rw [show k+(j+1)=k+1+j by omega]at this
    exact this g
  ·cases h
 | .cons .bool ts,x,y,0,p,k,h,_,_,_,_,_=>by cases h
 | .cons (.int _) ts,x,y,0,p,k,h,_,_,_,_,_=>by cases h
 | .cons .str ts,x,y,0,p,k,h,_,_,_,_,_=>by cases h
 | .cons .nil ts,x,y,0,p,k,h,_,_,_,_,_=>by cases h
 | .cons (.cons _ _) ts,x,y,0,p,k,h,_,_,_,_,_=>by cases h
 | .bool,_,_,_,_,_,h,_,_,_,_,_=>by cases h
 | .int _,_,_,_,_,_,h,_,_,_,_,_=>by cases h
 | .str,_,_,_,_,_,h,_,_,_,_,_=>by cases h
 | .slice _,_,_,_,_,_,h,_,_,_,_,_=>by cases h
 | .nil,_,_,_,_,_,h,_,_,_,_,_=>by cases h
theorem q0e0 {L0:Lab} {b p:Nat} {vs:List Value} (ho:∀j,j<vs.length→G.own b (p+j)=L0) (L:Lab) (hL:L≠L0):Lk G w G (w.setCells b p vs) L L:=by
 intro b' o' _ h
 refine⟨h,q6n (fun ⟨e1,e2,e3⟩=> ?_),q03p b vs p w _ _⟩
 have:=ho (o'-p) (by omega)
 rw [show p+(o'-p)=o' by omega,←e1,h]at this
 exact hL this
theorem q0fu (hT:q7w P tab) {T:Nat} {i:TI} (hi:qkt tab T=some i) {v:Value} {vs:List Value} (hv:v.cells=vs.toArray) (hl:vs.length=i.cells.size) (h1:∀x∈vs,x.oneCell'=true) {b p:Nat}
  (hc:∀j,j<vs.length→(at_ w b (p+j)).isSome=true) (hf:∀j,j<vs.length→w.frozen? ⟨b,p+j,none⟩=false):
  (storeVar T ⟨b,p,none⟩ v).run P w= .ok () (w.setCells b p vs):=by
 have:=run_storeCells_cells (P:=P) b p vs 0 w (fun j hj=>by simpa [at_]using hc j hj) (fun j hj=>by simpa using hf j hj) h1
 have hs:=q0k6 hT hi w
 simp only [Nat.add_zero]at this
 simp [storeVar,Sem.run_bind,hs,hv,hl,this]
theorem qob {Rs:List Root} {w:World}:∀(cs:List AV) (ss:List Nat) (f:Nat) (av:AV) (vs:List Value),ss.length=cs.length→(avR G Rs w av).2 vs→f+vs.length≤cs.length→
  (setCells cs ss f av).1.length=cs.length∧(setCells cs ss f av).2.length=cs.length∧
  ∀j,j<cs.length→if f≤j∧j<f+vs.length then(avR G Rs w ((setCells cs ss f av).1.getD j .undef)).1 (vs.getD (j-f) undef)else(setCells cs ss f av).1.getD j .undef=cs.getD j .undef
 |c::cs,s::ss,f+1,av,vs,hs,hv,hl=>by
  obtain⟨h1,h2,h3⟩:=qob cs ss f av vs (by simpa using hs) hv (by simp at hl;omega)
  refine⟨by simp [setCells,h1],by simp [setCells,h2],fun j hj=> ?_⟩
  cases j with
  |zero=>rw [if_neg (by omega)];rfl
  |succ j=>
   have:=h3 j (by simpa using hj)
   by_cases hlt:f≤j∧j<f+vs.length
   ·rw [if_pos hlt]at this;rw [if_pos (by omega),show j+1-(f+1)=j-f by omega];exact this
   ·rw [if_neg hlt]at this;rw [if_neg (by omega)];exact this
 |c::cs,s::ss,0,.cons v a,vs,hs,hv,hl=>by
  obtain⟨x,xs,e,g1,g2⟩:=hv
  subst e
  obtain⟨h1,h2,h3⟩:=qob cs ss 0 a xs (by simpa using hs) g2 (by simp at hl;omega)
  refine⟨by simp [setCells,h1],by simp [setCells,h2],fun j hj=> ?_⟩
  cases j with
  |zero=>rw [if_pos (by simp)];exact g1
  |succ j=>
   have:=h3 j (by simpa using hj)
   by_cases hlt:j<xs.length
   ·rw [if_pos (by omega)]at this;rw [if_pos ⟨by omega,by simp;omega⟩];simpa [setCells]using this
   ·rw [if_neg (by omega)]at this;rw [if_neg (by simp;omega)];exact this
 |cs,ss,0,.nil,vs,hs,hv,hl=>by
  cases hv
  refine⟨by cases cs<;>cases ss<;>rfl,by cases cs<;>cases ss<;>simp_all [setCells],fun j hj=> ?_⟩
  rw [if_neg (by simp)]
  cases cs<;>cases ss<;>rfl
 | [],[],f,.cons v a,vs,hs,hv,hl=>by
  obtain⟨x,xs,e,_,_⟩:=hv
  subst e;simp at hl
 |_,_,_,.undef,_,_,hv,_=>hv.elim
 |_,_,_,.val _ _,_,_,hv,_=>hv.elim
 |_,_,_,.nl _,_,_,hv,_=>hv.elim
 |_,_,_,.agg _,_,_,hv,_=>hv.elim
 |_,_,_,.tup _,_,_,hv,_=>hv.elim
 |_,_,_,.rp _ _ _,_,_,hv,_=>hv.elim
 |_,_,_,.bp _ _,_,_,hv,_=>hv.elim
 |_,_,_,.ep _ _ _ _,_,_,hv,_=>hv.elim
 |_,_,_,.sl _ _,_,_,hv,_=>hv.elim
 |_,_,_,.hd _ _ _,_,_,hv,_=>hv.elim
 |_,_,_,.tl _ _ _,_,_,hv,_=>hv.elim
 |_,_,_,.il _ _ _ _,_,_,hv,_=>hv.elim
 |_,_,_,.ip _ _ _ _ _ _,_,_,hv,_=>hv.elim
 |_,_,_,.pd _ _ _ _ _ _,_,_,hv,_=>hv.elim
 |_,_,_,.fn _ _,_,_,hv,_=>hv.elim
 | [],[],f+1,.nil,vs,hs,hv,hl=>by simp at hl
theorem q00d:∀(cs:List AV) (ss:List Nat) (f:Nat) (av:AV) (g:Nat),ss.getD g 0≤(setCells cs ss f av).2.getD g 0∧((setCells cs ss f av).2.getD g 0=ss.getD g 0→(setCells cs ss f av).1.getD g .undef=cs.getD g .undef):=by
 intro cs
 induction cs with
 |nil=>intro ss f av g;cases ss<;>cases f<;>cases av<;>exact⟨Nat.le_refl _,fun _=>rfl⟩
 |cons c cs ih=>
  intro ss f av g
  cases ss with
  |nil=>cases f<;>cases av<;>exact⟨Nat.le_refl _,fun _=>rfl⟩
  |cons s ss=>
   cases f with
   |succ f=>
    cases g with
    |zero=>exact⟨Nat.le_refl _,fun _=>rfl⟩
    |succ g=>exact ih ss f av g
   |zero=>
    cases av with
    |cons v a=>
     cases g with
     |zero=>exact⟨Nat.le_succ _,fun h=>absurd h (by simp [setCells])⟩
     |succ g=>exact ih ss 0 a g
    |_=>exact⟨Nat.le_refl _,fun _=>rfl⟩
theorem q0al {Rs:List Root} {w:World}:∀(cs:List AV) (ss:List Nat) (f:Nat) (av:AV) (vs:List Value),ss.length=cs.length→(avR G Rs w av).2 vs→f+vs.length≤cs.length→
  ∀j,f≤j∧j<f+vs.length→(setCells cs ss f av).2.getD j 0=ss.getD j 0+1:=by
 intro cs
 induction cs with
 |nil=>
  intro ss f av vs hs hv hl j hj
  have:f+vs.length≤0:=hl
  omega
 |cons c cs ih=>
  intro ss f av vs hs hv hl j hj
  cases ss with
  |nil=>simp at hs
  |cons s ss=>
   cases f with
   |succ f=>
    cases j with
    |zero=>omega
    |succ j=>exact ih ss f av vs (by simpa using hs) hv (by simp at hl;omega) j (by omega)
   |zero=>
    cases av with
    |cons v a=>
     obtain⟨x,xs,e,_,g2⟩:=hv
     subst e
     cases j with
     |zero=>rfl
     |succ j=>exact ih ss 0 a xs (by simpa using hs) g2 (by simp at hl;omega) j (by simp at hj;omega)
    |nil=>cases hv;simp at hj
    |_=>exact hv.elim
theorem q0md {Rs:List Root} {rr ver anc:Nat} {cs:List AV} {ss:List Nat} {f:Nat} {av:AV} {vs:List Value} (hR:RelR G Rs w) (hq:Rs[rr]? =some ⟨.box cs ss,ver,anc⟩) (hv:(avR G Rs w av).2 vs) (hl:f+vs.length≤cs.length):
  ∃b p,(G.anch rr).1=some ⟨b,p,none⟩∧(∀j,j<vs.length→(at_ w b (p+f+j)).isSome=true∧w.frozen? ⟨b,p+f+j,none⟩=false)∧
   RelR G (Rs.set rr ⟨.box (setCells cs ss f av).1 (setCells cs ss f av).2,ver,anc⟩) (w.setCells b (p+f) vs)∧Evo G Rs w G (Rs.set rr ⟨.box (setCells cs ss f av).1 (setCells cs ss f av).2,ver,anc⟩) (w.setCells b (p+f) vs):=by
 obtain⟨hss,b,p,ea,hcs⟩:=hR rr _ hq
 obtain⟨k1,k2,k3⟩:=qob (G:=G) (Rs:=Rs) (w:=w) cs ss f _ vs hss hv hl
 have hc:∀j,j<vs.length→G.own b (p+f+j)= .of rr 0∧w.frozen? ⟨b,p+f+j,none⟩=false∧(at_ w b (p+f+j)).isSome=true:=by
  intro j hj
  obtain⟨c1,c2,u,c3,_⟩:=hcs (f+j) (by omega)
  rw [show p+f+j=p+(f+j) by omega]
  exact⟨c1,c2,by rw [c3];rfl⟩
 refine⟨b,p,ea,fun j hj=>⟨(hc j hj).2.2,(hc j hj).2.1⟩,?_⟩
 refine qca hR hq (q0et (fun j hj=>⟨0,(hc j hj).1⟩)) (RLe.box' rfl k1 (q00d cs ss f av) (fun j hj b' p' ea' _ _=>by
  rw [ea]at ea';cases ea'
  refine⟨‹_›,q6n (fun ⟨_,e2,e3⟩=> ?_)⟩
  have:=q0al (G:=G) (Rs:=Rs) (w:=w) cs ss f av vs hss hv hl j (by omega)
  omega)) (fun hE=> ?_)
 refine⟨by rw [k1,k2],b,p,ea,fun g' hg'=> ?_⟩
 rw [k1]at hg'
 obtain⟨c1,c2,u,c3,c4⟩:=hcs g' hg'
 have:=k3 g' hg'
 by_cases hlt:f≤g'∧g'<f+vs.length
 ·rw [if_pos hlt]at this
  refine⟨c1,by rw [World.frozen?_setCells];exact c2,_,?_,(qac hE _).1 _ this⟩
  have:=qkq (w:=w) (b:=b) (p:=p+f) (vs:=vs) (fun j hj=>(hc j hj).2.2) (g'-f) (by omega)
  rwa [show p+f+(g'-f)=p+g' by omega]at this
 ·rw [if_neg hlt]at this
  refine⟨c1,by rw [World.frozen?_setCells];exact c2,u,?_,?_⟩
  ·rw [q6n (by omega)];exact c3
  ·rw [this];exact(qac hE _).1 _ c4
theorem q00r {ts:Ty} {l:List ts.den} {j:Nat} {y:ts.den} (h:j<List.length l):rd ts (upd l j y) j=y:=by simp [rd,upd,List.getD_eq_getElem?_getD,h]
theorem q00q {ts:Ty} {l:List ts.den} {i j:Nat} {y:ts.den} (h:i≠j):rd ts (upd l j y) i=rd ts l i:=by simp [rd,upd,List.getD_eq_getElem?_getD,List.getElem?_set_ne (Ne.symm h)]
theorem qjd {α:Type} {l:List α} {j:Nat} {y:α}:(upd l j y).length=l.length:=by simp [upd]
theorem qsj {i j s m f n:Nat} (h:i≠j) (hm:m<s) (hf:f+n≤s):¬(j*s+f≤i*s+m∧i*s+m<j*s+f+n):=by
 rcases Nat.lt_or_gt_of_ne h with hlt|hgt
 ·have:(i+1)*s≤j*s:=Nat.mul_le_mul_right _ (by omega)
  rw [Nat.add_mul,Nat.one_mul]at this;omega
 ·have:(j+1)*s≤i*s:=Nat.mul_le_mul_right _ (by omega)
  rw [Nat.add_mul,Nat.one_mul]at this;omega
theorem q00g {cv cv':Nat→(t:Ty)→t.den→Value→Prop} {L:Lab} {ts:Ty} {l:List ts.den} {a0:Option Addr} {n j f:Nat} {y:ts.den} {vs:List Value} {b p:Nat} (hrow:q8n G w cv L ts l a0 n) (hj:j<List.length l) (hl:f+vs.length≤ts.size) (ha:a0=some ⟨b,p,none⟩)
  (hcv:∀k t x v,cv k t x v→cv' k t x v)
  (hy:(∀m,m<ts.size→at_ (w.setCells b (p+j*ts.size+f) vs) b (p+j*ts.size+m)=if f≤m∧m<f+vs.length then some (vs.getD (m-f) undef)else at_ w b (p+j*ts.size+m))→elG (at_ (w.setCells b (p+j*ts.size+f) vs)) cv' ts y b (p+j*ts.size) (j*ts.size)):
  q8n G (w.setCells b (p+j*ts.size+f) vs) cv' L ts (upd l j y) a0 n:=by
 obtain⟨b',p',ea,hcell,_⟩:=q4u hrow hj
 rw [ha]at ea;cases ea
 have hc:∀m,m<vs.length→(at_ w b (p+j*ts.size+f+m)).isSome=true:=by
  intro m hm
  have:=(hcell (f+m) (by omega)).2.2
  rwa [show p+j*ts.size+(f+m)=p+j*ts.size+f+m by omega]at this
 obtain⟨r1,r2⟩:=hrow
 refine⟨by rw [qjd];exact r1,r2.imp id ?_⟩
 rintro ⟨b',p',ea,h1,h2⟩
 rw [ha]at ea;cases ea
 refine⟨b,p,ha,fun m hm=> ?_,fun i hi=> ?_⟩
 ·obtain⟨c1,c2,c3⟩:=h1 m hm
  refine⟨c1,by rw [World.frozen?_setCells];exact c2,?_⟩
  by_cases hlt:j*ts.size+f≤m∧m<j*ts.size+f+vs.length
  ·have:=qkq (w:=w) (b:=b) (p:=p+j*ts.size+f) (vs:=vs) hc (m-(j*ts.size+f)) (by omega)
   rw [show p+j*ts.size+f+(m-(j*ts.size+f))=p+m by omega]at this
   rw [this];rfl
  ·rw [q6n (by omega)];exact c3
 ·rw [qjd]at hi
  by_cases e:i=j
  ·subst e
   rw [q00r hi]
   refine hy (fun m hm=> ?_)
   by_cases hlt:f≤m∧m<f+vs.length
   ·rw [if_pos hlt]
    have:=qkq (w:=w) (b:=b) (p:=p+i*ts.size+f) (vs:=vs) hc (m-f) (by omega)
    rwa [show p+i*ts.size+f+(m-f)=p+i*ts.size+m by omega]at this
   ·rw [if_neg hlt,q6n (by omega)]
  ·rw [q00q e]
   refine q3c ts _ b _ _ (fun m v hm e'=> ?_) hcv (h2 i hi)
   have:=qsj (f:=f) (n:=vs.length) e hm hl
   rw [q6n (by omega)];exact e'
theorem q0nd {T:Nat} {x v:Operand} (hT:q7w P tab) (ho:o.op= .store T x v) (hR:Rel G σ a w) (hn:Nxt false G σ w a o.dst K r next) (h:qa1 tab soft Γ call k o σ K=some r):o.wp P a w next Q:=by
 simp only [qa1,ho]at h
 split at h
 ·rename_i i hi
  have hpos:=(hT T i hi).pos
  have hx:=hR.eval x
  have hv:=hR.eval v
  have run:∀(b p:Nat) (vs:List Value),a.eval x= .pointer (some ⟨b,p,none⟩)→(a.eval v).cells=vs.toArray→vs.length=i.cells.size→(∀x∈vs,x.oneCell'=true)→(∀j,j<vs.length→(at_ w b (p+j)).isSome=true∧w.frozen? ⟨b,p+j,none⟩=false)→
    (execOp a.eval o).run P w= .ok .skip (w.setCells b p vs):=by
   intro b p vs ex hvc hvl hv1 hc
   have hrun:=q0fu hT hi hvc hvl hv1 (w:=w) (b:=b) (p:=p) (fun j hj=>(hc j hj).1) (fun j hj=>(hc j hj).2)
   simp [execOp,ho,Instr.storeAt,ex,Instr.sureAddr,hrun]
  have fin:∀(R':List Root) (G':Gh) (w':World),(execOp a.eval o).run P w= .ok .skip w'→RelR G' R' w'→Evo G σ.roots w G' R' w'→K (.tup .nil) ⟨σ.tmps,R'⟩=some r→o.wp P a w next Q:=by
   intro R' G' w' hrun h1 h2 hK
   exact q0il hrun (hn (.tup .nil) R' G' undef w' hK h1 ⟨[],rfl,rfl⟩ h2 (fun e=>by cases e))
  generalize hax:σ.eval x=ax at h hx
  cases ax with
  |bp r' f=>
   obtain⟨hlen,h⟩:=qw h
   have hlen:=qd hlen
   obtain⟨q,hq,g⟩:=hx
   simp only [hq]at h
   obtain⟨kk,ver,anc⟩:=q
   cases kk with
   |box cs ss=>
    obtain⟨hb,hK⟩:=qw h
    obtain⟨vs,hvc,hvl,hva,hv1⟩:=qc5 (tm:=σ.tmps) hR.roots (by rw [hlen];exact hpos) hv
    have hvl':vs.length=i.cells.size:=hvl.trans hlen
    obtain⟨b,p,ea,ex⟩:=g cs.length .nil rfl
    obtain⟨b',p',ea',hc,h1,h2⟩:=q0md hR.roots hq hva (by rw [hvl'];exact qab hb)
    rw [ea]at ea';cases ea'
    exact fin _ G _ (run b (p+f) vs ex hvc hvl' hv1 hc) h1 h2 hK
   |_=>cases h
  |ep r' a' j f=>
   obtain⟨hlen,h⟩:=qw h
   have hlen:=qd hlen
   obtain⟨vs,hvc,hvl,hva,hv1⟩:=qc5 (tm:=σ.tmps) hR.roots (by rw [hlen];exact hpos) hv
   have hvl':vs.length=i.cells.size:=hvl.trans hlen
   obtain⟨q,hq,hle,g⟩:=hx
   simp only [hq]at h
   obtain⟨kk,ver,anc⟩:=q
   cases kk with
   |row ow ts l=>
    obtain⟨hb,h⟩:=qw h
    obtain⟨hb1,hb2⟩:=and2 hb
    have hb1:=qd hb1
    have hb2:=qab hb2
    obtain⟨hj,b,p,ea,ex⟩:=g hb1.symm ts (List.length l) rfl
    have gen:(match qre σ ow ts (rd ts l j) f (cellsOf σ (σ.eval v))with
      |some y=>chk (q0m1 ow (qcq σ (cellsOf σ (σ.eval v)))&& !qsr r' (qcq σ (cellsOf σ (σ.eval v))))
        (K (.tup .nil) (q2z (eat ow σ (qcq σ (cellsOf σ (σ.eval v)))) r' ⟨.row ow ts (upd l j y),ver+1,anc⟩))
      |none=>none)=some r→o.wp P a w next Q:=by
     intro h
     split at h
     ·rename_i y hy
      obtain⟨hok,hK⟩:=qw h
      obtain⟨hok1,hok2⟩:=and2 hok
      have hnm:r'∉qcq σ (cellsOf σ (σ.eval v)):=fun hm=>by rw [q4v.2 hm]at hok2;cases hok2
      generalize hcs:cellsOf σ (σ.eval v)=cs at hva hy hK hok1 hnm
      have htr:=q08q (tm:=σ.tmps) (Rs:=σ.roots) cs (j*ts.size+f)
      generalize hL:q0fb σ.roots cs (j*ts.size+f)=L at htr
      have htr:L.map Prod.fst=qcq σ cs:=htr
      have hnd:ow=true→(L.map Prod.fst).Nodup:=by
       intro e
       subst e
       rw [htr]
       exact qby.1 (by simpa [q0m1]using hok1)
      have hT1:q08n σ.roots ow r' (qiq ow r' L) cs (j*ts.size+f):=q0ra hnd cs _ (fun q hq=>hL▸hq)
      have hτ:∀s,s∉qcq σ cs→∀m,qiq ow r' L s m= .of s m:=by
       intro s hs m
       simp [qiq,q012 (htr▸hs)]
      obtain⟨g1,g2⟩:=qyx (own:=ow) (rs:=qcq σ cs) (τ:=qiq ow r' L) hR.roots (fun s hs q hq=>q08v (tm:=σ.tmps) cs s hs q hq) hτ (fun e s hs m=>by
       subst e
       obtain⟨k',hk'⟩:=qqg (htr▸hs)
       simp [qiq,hk'])
      have hq1:(eat ow σ (qcq σ cs)).roots[r']? =some ⟨.row ow ts l,ver,anc⟩:=by rw [qng,if_neg hnm];exact hq
      have hrow:q8n (q1m G (qiq ow r' L)) w (qc4 (q1m G (qiq ow r' L)) w r' ow) (.of r' 0) ts l (G.anch r').1 (G.anch r').2:=g1 r' _ hq1
      obtain⟨b',p',ea',hcell,hel⟩:=q4u hrow hj
      rw [ea]at ea';cases ea'
      have hlab:∀m,m<vs.length→(q1m G (qiq ow r' L)).own b (p+j*ts.size+f+m)= .of r' 0:=fun m hm=>by
       have:=(hcell (f+m) (by omega)).1
       rwa [show p+j*ts.size+(f+m)=p+j*ts.size+f+m by omega]at this
      have hcc:∀m,m<vs.length→(at_ w b (p+j*ts.size+f+m)).isSome=true∧w.frozen? ⟨b,p+j*ts.size+f+m,none⟩=false:=fun m hm=>by
       have:=(hcell (f+m) (by omega)).2
       rw [show p+j*ts.size+(f+m)=p+j*ts.size+f+m by omega]at this
       exact⟨this.2,this.1⟩
      have hlk:=q0e0 (w:=w) hlab
      obtain⟨h1,h2⟩:=qca (G':=q1m G (qiq ow r' L)) (w':=w.setCells b (p+j*ts.size+f) vs) (q':=⟨.row ow ts (upd l j y),ver+1,anc⟩) g1 hq1 (q0et (fun m hm=>⟨0,hlab m hm⟩))
       (RLe.row' (fun _ _ e=>by cases e) (fun _ _ e=>by cases e) (Nat.lt_succ_self _) (Nat.le_refl _) (fun _=> .inr ⟨by simp [RK.hd,qjd],rfl⟩)) (fun hE=>by
        have hcv:∀k t x v,qc4 (q1m G (qiq ow r' L)) w r' ow k t x v→qc4 (q1m G (qiq ow r' L)) (w.setCells b (p+j*ts.size+f) vs) r' ow k t x v:=
         fun k t x v g=>qmr ow (qv3 hE) (fun _=>hlk _ (fun e=>by cases e)) t x v g
        refine q00g hrow hj (by omega) ea hcv (fun hc=> ?_)
        exact q3c ts y b _ _ (fun _ _ _ e=>e) hcv (qmi (tm:=σ.tmps) hR.roots ts (rd ts l j) y f (p+j*ts.size) (j*ts.size) cs vs hy hva hT1 hel hc))
      refine fin _ _ _ (run b (p+j*ts.size+f) vs ex hvc hvl' hv1 hcc) h1 (g2.trans h2) ?_
      have:q2z (eat ow σ (qcq σ cs)) r' ⟨.row ow ts (upd l j y),ver+1,anc⟩=⟨σ.tmps,(eat ow σ (qcq σ cs)).roots.set r' ⟨.row ow ts (upd l j y),ver+1,anc⟩⟩:=by
       simp [q2z,qnf]
      rw [←this];exact hK
     ·cases h
    have pdg:∀(r2 v2 i2 f2:Nat) (us:Ty) (m:List us.den),ow=true→r2=r'→v2=ver→f2=f→(avR G σ.roots w (.pd r2 v2 i2 f2 us m)).1 (a.eval v)→br (eqN i2 j) (match q5m ts (rd ts l j) f2 us m with
      |some y=>K (.tup .nil) (q2z σ r2 ⟨.row true ts (upd l j y),v2+1,anc⟩)
      |none=>none) none=some r→o.wp P a w next Q:=by
     intro r2 v2 i2 f2 us m c1 c2 c3 c4 hv9 h9
     subst c1;subst c2;subst c3;subst c4
     rcases q44 h9 with⟨hij,h9⟩|⟨_,h9⟩
     ·split at h9
      ·rename_i y hy
       have hK:=h9
       have hij:i2=j:=of_decide_eq_true hij
       subst hij
       obtain⟨q,hq',_,gp⟩:=hv9
       rw [hq]at hq';cases hq'
       obtain⟨_,hf,a1,n1,ev,hinn⟩:=gp rfl true ts l rfl
       have hrow:q8n G w (qim G w r2) (.of r2 0) ts l (G.anch r2).1 (G.anch r2).2:=hR.roots r2 _ hq
       obtain⟨b',p',ea',hcell,hel⟩:=q4u hrow hj
       rw [ea]at ea';cases ea'
       have hvs:vs=[a.eval v]:=by
        rw [ev]at hvc ⊢
        have:vs.toArray= #[Value.slice a1 (List.length m) n1]:=hvc.symm
        have:=congrArg Array.toList this
        simpa using this
       have hlab:∀m',m'<vs.length→G.own b (p+i2*ts.size+f2+m')= .of r2 0:=fun m' hm=>by
        have:=(hcell (f2+m') (by rw [hvs]at hm;simp at hm;omega)).1
        rwa [show p+i2*ts.size+(f2+m')=p+i2*ts.size+f2+m' by omega]at this
       have hcc:∀m',m'<vs.length→(at_ w b (p+i2*ts.size+f2+m')).isSome=true∧w.frozen? ⟨b,p+i2*ts.size+f2+m',none⟩=false:=fun m' hm=>by
        have:=(hcell (f2+m') (by rw [hvs]at hm;simp at hm;omega)).2
        rw [show p+i2*ts.size+(f2+m')=p+i2*ts.size+f2+m' by omega]at this
        exact⟨this.2,this.1⟩
       have hlk:=q0e0 (w:=w) hlab
       obtain⟨h1,h2⟩:=qca (G':=G) (w':=w.setCells b (p+i2*ts.size+f2) vs) (q':=⟨.row true ts (upd l i2 y),v2+1,anc⟩) hR.roots hq (q0et (fun m hm=>⟨0,hlab m hm⟩))
        (RLe.row' (fun _ _ e=>by cases e) (fun _ _ e=>by cases e) (Nat.lt_succ_self _) (Nat.le_refl _) (fun _=> .inr ⟨by simp [RK.hd,qjd],rfl⟩)) (fun hE=>by
         have hcv:∀k t x v,qim G w r2 k t x v→qim G (w.setCells b (p+i2*ts.size+f2) vs) r2 k t x v:=
          fun k t x v g=>qio (qv3 hE) (hlk _ (fun e=>by cases e)) t x v g
         refine q00g hrow hj (by rw [hvs];simp;omega) ea hcv (fun hc=> ?_)
         refine qcp (v:=a.eval v) ts (rd ts l i2) y f2 _ _ hy hel (fun m' u hm' hne e=> ?_) (fun m' _ _ t x v g=>hcv _ t x v g) ?_ (hcv _ (.slice us) m _ ⟨a1,n1,ev,hinn⟩)
         ·rw [hc m' hm',if_neg (by rw [hvs];simp;omega)];exact e
         ·rw [hc f2 hf,hvs];simp)
       exact fin _ _ _ (run b (p+i2*ts.size+f2) vs ex hvc hvl' hv1 hcc) h1 h2 hK
      ·cases h9
     ·cases h9
    generalize hav:σ.eval v=av at h hv gen hva hvc
    cases av with
    |pd r2 v2 i2 f2 us m=>
     obtain⟨hc,h⟩:=qw h
     obtain⟨hc,c4⟩:=and2 hc
     obtain⟨hc,c3⟩:=and2 hc
     obtain⟨c1,c2⟩:=and2 hc
     have c2:=qd c2
     have c3:=qd c3
     have c4:=qd c4
     subst c1;subst c2;subst c3;subst c4
     exact pdg r2 v2 i2 f2 us m rfl rfl rfl rfl hv h
    |il r2 v2 i2 f2=>
     obtain⟨hc,h⟩:=qw h
     obtain⟨hc,c4⟩:=and2 hc
     obtain⟨hc,c3⟩:=and2 hc
     obtain⟨c1,c2⟩:=and2 hc
     have c2:=qd c2
     have c3:=qd c3
     have c4:=qd c4
     subst c1;subst c2;subst c3;subst c4
     have h:br (eqN i2 j) (match q2u ts (rd ts l i2) f2 with
      |some ⟨us,m⟩=>(match q5m ts (rd ts l j) f2 us m with
       |some y=>K (.tup .nil) (q2z σ r2 ⟨.row true ts (upd l j y),v2+1,anc⟩)
       |none=>none)
      |none=>none) none=some r:=h
     cases hin:q2u ts (rd ts l i2) f2 with
     |none=>rw [hin]at h;rcases q44 h with⟨_,h⟩|⟨_,h⟩<;>cases h
     |some pr=>
      obtain⟨us,m⟩:=pr
      rw [hin]at h
      have hpd:(avR G σ.roots w (.pd r2 v2 i2 f2 us m)).1 (a.eval v):=by
       obtain⟨g1,g2,g3⟩:=qkj hR.roots hq rfl hin hv
       refine⟨_,hq,Nat.le_refl _,fun _ ow' ts' l' hk=> ?_⟩
       cases hk
       exact⟨g1,g2,g3⟩
      exact pdg r2 v2 i2 f2 us m rfl rfl rfl rfl hpd h
    |_=>exact gen h
   |_=>cases h
  |ip r' s' j f m g=>
   obtain⟨hlen,h⟩:=qw h
   have hlen:=qd hlen
   obtain⟨vs,hvc,hvl,hva,hv1⟩:=qc5 (tm:=σ.tmps) hR.roots (by rw [hlen];exact hpos) hv
   have hvl':vs.length=i.cells.size:=hvl.trans hlen
   obtain⟨q,hq,hle,gg⟩:=hx
   simp only [hq]at h
   obtain⟨kk,ver,anc⟩:=q
   cases kk with
   |row ow ts l=>
    cases ow with
    |false=>cases h
    |true=>
     have h:(match q2u ts (rd ts l j) f with
      |some ⟨us,n⟩=>chk (Nat.beq s' ver&&Nat.ble (g+i.cells.size) us.size&& !us.hasSl) (match qre σ false us (rd us n m) g (cellsOf σ (σ.eval v))with
       |some y=>match q5m ts (rd ts l j) f us (upd n m y)with
        |some z=>K (.tup .nil) (q2z σ r' ⟨.row true ts (upd l j z),ver+1,anc⟩)
        |none=>none
       |none=>none)
      |none=>none)=some r:=h
     cases hin:q2u ts (rd ts l j) f with
     |none=>simp only [hin]at h;cases h
     |some pr=>
      obtain⟨us,n⟩:=pr
      simp only [hin]at h
      obtain⟨hb,h⟩:=qw h
      obtain⟨hb,hb3⟩:=and2 hb
      obtain⟨hb1,hb2⟩:=and2 hb
      have hb1:=qd hb1
      have hb2:=qab hb2
      have hb3:us.hasSl=false:=by simpa using hb3
      subst hb1
      obtain⟨i1,i2,us',m',i3,i4,b,p,b',p',n',c',i5,i6,i7,ex⟩:=gg rfl true ts l rfl
      rw [hin]at i3;cases i3
      have hil:(avR G σ.roots w (.il r' s' j f)).1 (.slice (some ⟨b',p',none⟩) n' c'):=⟨_,hq,Nat.le_refl _,fun he ow' ts' l' hk=>by
       cases hk;exact⟨i1,i2,b,p,i5,i6,i7⟩⟩
      obtain⟨_,_,a1,n1,e1,e2⟩:=qkj hR.roots hq rfl hin hil
      have hnn:n'=List.length n:=by cases e1;rfl
      cases e1
      split at h
      ·rename_i y hy
       split at h
       ·rename_i z hz
        obtain⟨b2,p2,ea,hcell,hel⟩:=q4u e2 i4
        cases ea
        have hrow:q8n G w (qim G w r') (.of r' 0) ts l (G.anch r').1 (G.anch r').2:=hR.roots r' _ hq
        obtain⟨b3,p3,ea3,hcell3,hel3⟩:=q4u hrow i1
        rw [i5]at ea3;cases ea3
        have hlab:∀m',m'<vs.length→G.own b' (p'+m*us.size+g+m')= .of r' (j*ts.size+f+1):=fun m' hm=>by
         have:=(hcell (g+m') (by omega)).1
         rwa [show p'+m*us.size+(g+m')=p'+m*us.size+g+m' by omega]at this
        have hcc:∀m',m'<vs.length→(at_ w b' (p'+m*us.size+g+m')).isSome=true∧w.frozen? ⟨b',p'+m*us.size+g+m',none⟩=false:=fun m' hm=>by
         have:=(hcell (g+m') (by omega)).2
         rw [show p'+m*us.size+(g+m')=p'+m*us.size+g+m' by omega]at this
         exact⟨this.2,this.1⟩
        have hlk:=q0e0 (w:=w) hlab
        have hu:∀b o v,vw G w b o=some v→vw G (w.setCells b' (p'+m*us.size+g) vs) b o=some v:=q6s (hlk _ (fun e=>by cases e))
        have hin':q8n G (w.setCells b' (p'+m*us.size+g) vs) (qea (vw G (w.setCells b' (p'+m*us.size+g) vs))) (.of r' (j*ts.size+f+1)) us (upd n m y) (some ⟨b',p',none⟩) c':=by
         refine q00g e2 i4 (by omega) rfl (fun k t x v g=>q4j hu k k t x v g) (fun hc=> ?_)
         have hT0:q08n σ.roots false r' (fun r s=>Lab.of r s) (cellsOf σ (σ.eval v)) (m*us.size+g)→elG (at_ (w.setCells b' (p'+m*us.size+g) vs)) (qea (vw G (w.setCells b' (p'+m*us.size+g) vs))) us y b' (p'+m*us.size) (m*us.size):=by
          intro hT0
          have hG:q1m G (fun r s=>Lab.of r s)=G:=by
           have:(q1m G (fun r s=>Lab.of r s)).own=G.own:=by
            funext b o
            simp only [q1m]
            cases G.own b o<;>rfl
           cases G;simp only [q1m]at this ⊢;rw [this]
          have:=qmi (tm:=σ.tmps) (own:=false) (r0:=r') (τ:=fun r s=>Lab.of r s) hR.roots us (rd us n m) y g (p'+m*us.size) (m*us.size) _ vs hy hva hT0 (by rw [hG];exact hel) hc
          rw [hG]at this
          exact q3c us y b' _ _ (fun _ _ _ e=>e) (fun k t x v gg=>q4j hu k k t x v gg) this
         refine hT0 ?_
         have key:∀(ts:Ty) (x:ts.den) (g:Nat) (cs:AV) (y:ts.den),ts.hasSl=false→qre σ false ts x g cs=some y→∀k,q08n σ.roots false r' (fun r s=>Lab.of r s) cs k:=by
          intro ts
          induction ts with
          |cons t ts _ ih=>
           intro x g cs y hs hp k
           simp only [Ty.hasSl,Bool.or_eq_false_iff]at hs
           cases g with
           |succ g=>
            simp only [qre]at hp
            split at hp
            ·rename_i z hz;exact ih _ _ _ _ hs.2 hz k
            ·cases hp
           |zero=>
            cases cs with
            |cons c cs=>
             simp only [qre]at hp
             split at hp
             ·rename_i z0 z hz0 hz
              refine⟨fun r1 hr1=> ?_,ih _ _ _ _ hs.2 hz (k+1)⟩
              exfalso
              have no:∀(us:Ty) (l:List us.den),(Ty.slice us).cast t l=some z0→False:=fun us l hc=>by
               obtain⟨e,_⟩:=q79 hc;subst e;cases hs.1
              have hz1:=q0iu hr1 hz0
              obtain⟨us,l,hc⟩:=hz1
              exact no us l hc
             ·cases hp
            |nil=>exact trivial
            |_=>cases hp
          |nil=>
           intro x g cs y hs hp k
           cases cs with
           |nil=>exact trivial
           |_=>cases g<;>cases hp
          |_=>
           intro x g cs y hs hp k
           cases cs with
           |nil=>exact trivial
           |_=>cases g<;>cases hp
         exact key us _ _ _ _ hb3 hy _
        obtain⟨h1,h2⟩:=qca (G':=G) (w':=w.setCells b' (p'+m*us.size+g) vs) (q':=⟨.row true ts (upd l j z),s'+1,anc⟩) hR.roots hq (q0et (fun m hm=>⟨_,hlab m hm⟩))
         (RLe.row' (fun _ _ e=>by cases e) (fun _ _ e=>by cases e) (Nat.lt_succ_self _) (Nat.le_refl _) (fun _=> .inr ⟨by simp [RK.hd,qjd],rfl⟩)) (fun hE=>by
          have hrow':q8n G (w.setCells b' (p'+m*us.size+g) vs) (qim G w r') (.of r' 0) ts l (G.anch r').1 (G.anch r').2:=q61 (fun _ _ _ _ g=>g) (hlk _ (fun e=>by cases e)) hrow
          obtain⟨q1,q2⟩:=hrow'
          refine⟨by rw [qjd];exact q1,q2.imp id ?_⟩
          rintro ⟨b4,p4,ea4,d1,d2⟩
          rw [i5]at ea4;cases ea4
          refine⟨b,p,i5,d1,fun i' hi'=> ?_⟩
          rw [qjd]at hi'
          have hkeep:∀k,k≠j*ts.size+f→∀t x v,qim G w r' k t x v→qim G (w.setCells b' (p'+m*us.size+g) vs) r' k t x v:=fun k hk t x v g=>qio hu (hlk _ (fun e=>by cases e;omega)) t x v g
          by_cases e:i'=j
          ·subst e
           rw [q00r hi']
           have hdd:=d2 i' hi'
           have hcell':at_ (w.setCells b' (p'+m*us.size+g) vs) b (p+i'*ts.size+f)=some (.slice (some ⟨b',p',none⟩) (List.length n) c'):=by
            rw [((hlk (.of r' 0) (fun e=>by cases e)) _ _ (q1z i7) i6).2.1];exact i7
           have hn':List.length n=List.length (upd n m y):=by rw [qjd]
           exact qcp ts _ z f _ _ hz hdd (fun _ _ _ _ e=>e) (fun j hj hne t x v g=>hkeep _ (by omega) t x v g) hcell' ⟨_,c',by rw [hn'],hin'⟩
          ·rw [q00q e]
           refine qga ts _ b _ _ b _ _ (fun _ _ _ e=>e) (fun k hk t x v g=>hkeep _ (fun e'=> ?_) t x v g) (d2 i' hi')
           have:=qsj (f:=f) (n:=1) e hk (by omega)
           omega)
        exact fin _ _ _ (run b' (p'+m*us.size+g) vs ex hvc hvl' hv1 hcc) h1 h2 h
       ·cases h
      ·cases h
   |_=>cases h
  |_=>cases h
 ·cases h
end
end
end Go.Proofs.YtpmjopbgccajgaaGreat.Eng
namespace Go.Proofs.YtpmjopbgccajgaaGreat.Eng
open Go.RowKit
section
variable {P:Program}
section
variable {R:Type} {G:Gh} {σ:St} {a:Act} {w:World} {K:AV→St→Option R} {r:R} {next:Act→World→Prop} {Q:Exit→Act→World→Prop} {o:Oper} {tab:List (Nat×TI)}
variable {soft:Bool} {Γ:List (Nat×Ent)} {call:Nat→List AV→St→(AV→St→Option R)→Option R} {k:Nat} {qt:Bool}
def anyV (u:Nat→Nat→Option Value):Nat→(t:Ty)→t.den→Value→Prop:=fun _ t x v=>t.isSl=false→(ro u t).1 x v
theorem q0sh {w:World} {G:Gh} {r:Nat} (own:Bool) (k:Nat) (t:Ty) (x:t.den) (v:Value) (h:qc4 G w r own k t x v):anyV (vw G w) k t x v:=by
 intro hs
 cases own with
 |false=>exact h
 |true=>cases t<;>first|exact h|cases hs
theorem q0sp {w:World} {G:Gh} {r:Nat} (own:Bool) (k:Nat) (t:Ty) (x:t.den) (v:Value) (hs:t.isSl=false) (h:anyV (vw G w) k t x v):qc4 G w r own k t x v:=by
 have:=h hs
 cases own with
 |false=>exact this
 |true=>cases t<;>first|exact this|cases hs
theorem q0oc {c:Nat→Nat→Option Value} {cv cv':Nat→(t:Ty)→t.den→Value→Prop} (h:∀k k' t x v,t.isSl=false→cv k t x v→cv' k' t x v):∀(ts:Ty) (x:ts.den) (b o k k':Nat),ts.hasSl=false→elG c cv ts x b o k→elG c cv' ts x b o k':=by
 intro ts
 induction ts with
 |cons t ts _ ih=>
  intro x b o k k' hs ⟨⟨v,e,g⟩,hk⟩
  simp only [Ty.hasSl,Bool.or_eq_false_iff]at hs
  exact⟨⟨v,e,h _ _ _ _ _ hs.1 g⟩,ih _ _ _ _ _ hs.2 hk⟩
 |_=>intro x b o k k' _ _;exact trivial
def Elems (w:World) (cv:Nat→(t:Ty)→t.den→Value→Prop) (ts:Ty) (m:List ts.den) (base:Nat) (v:Value):Prop:=
 ∃a c,v= .slice a (List.length m) c∧∀i,i<List.length m→∃b p,a=some ⟨b,p,none⟩∧elG (at_ w) cv ts (rd ts m i) b (p+i*ts.size) (base+i*ts.size)
theorem Elems.mono {cv cv':Nat→(t:Ty)→t.den→Value→Prop} {ts:Ty} {m:List ts.den} {base base':Nat} {v:Value} (h:Elems w cv ts m base v) (hcv:∀i,i<List.length m→∀j,j<ts.size→∀t x v,cv (base+i*ts.size+j) t x v→cv' (base'+i*ts.size+j) t x v):Elems w cv' ts m base' v:=by
 obtain⟨a,c,e,h⟩:=h
 refine⟨a,c,e,fun i hi=> ?_⟩
 obtain⟨b,p,ea,g⟩:=h i hi
 exact⟨b,p,ea,qga ts _ b _ _ b _ _ (fun _ _ _ e=>e) (hcv i hi) g⟩
theorem qyw {ts:Ty} {m:List ts.den} {v:Value} (h:(ro (vw G w) (.slice ts)).1 m v):Elems w (qea (vw G w)) ts m 0 v:=by
 obtain⟨a,c,e,_,g⟩:=h
 refine⟨a,c,e,fun i hi=> ?_⟩
 obtain⟨b,p,ea,k⟩:=g i hi
 exact⟨b,p,ea,q3c ts _ b _ _ (fun j v _ e=>at_u e) (fun _ _ _ _ g=>g) ((q09a ts _ b _ _).1 k)⟩
theorem qkl {cv:Nat→(t:Ty)→t.den→Value→Prop} {L:Lab} {ts:Ty} {m:List ts.den} {a0:Option Addr} {n:Nat} (h:q8n G w cv L ts m a0 n):Elems w cv ts m 0 (.slice a0 (List.length m) n):=by
 refine⟨a0,n,rfl,fun i hi=> ?_⟩
 obtain⟨b,p,ea,_,g⟩:=q4u h hi
 exact⟨b,p,ea,by rw [Nat.zero_add];exact g⟩
theorem q0i5 {cv:Nat→(t:Ty)→t.den→Value→Prop} {ts:Ty} {m:List ts.den} {a0:Option Addr} {c n:Nat} (h:Elems w cv ts m 0 (.slice a0 (List.length m) c)) (hn:n≤List.length m):Elems w cv ts (tk m n) 0 (.slice a0 n c):=by
 obtain⟨a,c',e,g⟩:=h
 cases e
 refine⟨a0,c,by rw [qoj hn],fun i hi=> ?_⟩
 rw [qoj hn]at hi
 rw [q0rj hi];exact g i (by omega)
theorem q0i6 {cv:Nat→(t:Ty)→t.den→Value→Prop} {ts:Ty} {m:List ts.den} {a0:Option Addr} {c n:Nat} (h:Elems w cv ts m 0 (.slice a0 (List.length m) c)) (hn:n≤List.length m) (hc:List.length m≤c):
  Elems w cv ts (dp m n) (n*ts.size) (.slice (if c=n then a0 else a0.map (·.add (n*ts.size))) (List.length m-n) (c-n)):=by
 obtain⟨a,c',e,g⟩:=h
 cases e
 refine⟨_,_,by rw [qeh],fun i hi=> ?_⟩
 rw [qeh]at hi
 obtain⟨b,p,ea,k⟩:=g (n+i) (by omega)
 refine⟨b,p+n*ts.size,by rw [if_neg (by omega),ea];simp [qlc],?_⟩
 rw [q0kk,show p+n*ts.size+i*ts.size=p+(n+i)*ts.size by rw [Nat.add_mul];omega,←Nat.add_mul]
 simpa using k
theorem q0aj {Rs:List Root} {tm:List AV} (hR:RelR G Rs w) {av:AV} {ts:Ty} {m:List ts.den} {v:Value} (hs:q3u ⟨tm,Rs⟩ av=some ⟨ts,m⟩) (hv:(avR G Rs w av).1 v):∃base,Elems w (anyV (vw G w)) ts m base v:=by
 have any:∀ {own:Bool} {r:Nat} {ts:Ty} {m:List ts.den} {base:Nat} {v:Value},Elems w (qc4 G w r own) ts m base v→Elems w (anyV (vw G w)) ts m base v:=fun h=>h.mono (fun _ _ _ _ t x v g=>q0sh _ _ t x v g)
 have ofRo:∀ {ts:Ty} {m:List ts.den} {v:Value},(ro (vw G w) (.slice ts)).1 m v→Elems w (anyV (vw G w)) ts m 0 v:=fun h=>any (own:=false) (r:=0) (qyw h)
 cases av with
 |val t x=>
  cases t with
  |slice us=>cases hs;exact⟨0,ofRo hv⟩
  |_=>cases hs
 |nl us=>cases hs;obtain⟨a,e⟩:=hv;exact⟨0,a,0,e,fun i hi=>absurd hi (by simp)⟩
 |sl r a=>
  obtain⟨q,hq,hle,g⟩:=hv
  simp only [q3u,hq]at hs
  obtain⟨k,ver,anc⟩:=q
  have hro:=hR r _ hq
  cases k with
  |row ow us n=>
   simp only at hs
   split at hs
   ·rename_i hab
    cases hs
    have ev:=g (qd hab).symm ts (List.length m) rfl
    rw [ev]
    exact⟨0,any (qkl (show q8n G w (qc4 G w r ow) (.of r 0) ts m _ _ from hro))⟩
   ·cases hs
  |fro us n=>
   simp only at hs
   split at hs
   ·rename_i hab
    cases hs
    have ev:=g (qd hab).symm ts (List.length m) rfl
    rw [ev]
    exact⟨0,ofRo hro⟩
   ·cases hs
  |_=>cases hs
 |hd r a n=>
  obtain⟨q,hq,hle,g⟩:=hv
  simp only [q3u,hq]at hs
  obtain⟨k,ver,anc⟩:=q
  have hro:=hR r _ hq
  cases k with
  |row ow us mm=>
   simp only at hs
   split at hs
   ·rename_i hab
    cases hs
    obtain⟨h1,ev⟩:=g (qd hab).symm _ (List.length mm) rfl
    rw [ev]
    exact⟨0,any (q0i5 (qkl (show q8n G w (qc4 G w r ow) (.of r 0) _ mm _ _ from hro)) h1)⟩
   ·cases hs
  |fro us mm=>
   simp only at hs
   split at hs
   ·rename_i hab
    cases hs
    obtain⟨h1,ev⟩:=g (qd hab).symm _ (List.length mm) rfl
    rw [ev]
    exact⟨0,q0i5 (ofRo hro) h1⟩
   ·cases hs
  |_=>cases hs
 |tl r a n=>
  obtain⟨q,hq,hle,g⟩:=hv
  simp only [q3u,hq]at hs
  obtain⟨k,ver,anc⟩:=q
  have hro:=hR r _ hq
  cases k with
  |row ow us mm=>
   simp only at hs
   split at hs
   ·rename_i hab
    cases hs
    obtain⟨h1,ev⟩:=g (qd hab).symm _ (List.length mm) rfl
    rw [ev]
    have hrow:=(show q8n G w (qc4 G w r ow) (.of r 0) _ mm _ _ from hro)
    exact⟨_,any (q0i6 (qkl hrow) h1 hrow.1)⟩
   ·cases hs
  |fro us mm=>
   simp only at hs
   split at hs
   ·rename_i hab
    cases hs
    obtain⟨h1,ev⟩:=g (qd hab).symm _ (List.length mm) rfl
    rw [ev]
    have hc:List.length mm≤(G.anch r).2:=by obtain⟨a0,c0,e0,h0,_⟩:=hro;cases e0;exact h0
    exact⟨_,q0i6 (ofRo hro) h1 hc⟩
   ·cases hs
  |_=>cases hs
 |il r s i f=>
  have hil:=hv
  obtain⟨q,hq,hle,g⟩:=hv
  simp only [q3u,hq]at hs
  obtain⟨k,ver,anc⟩:=q
  cases k with
  |row ow us n=>
   cases ow with
   |false=>cases hs
   |true=>
    simp only at hs
    split at hs
    ·rename_i hab
     obtain⟨_,_,a1,n1,e1,e2⟩:=qkj hR hq (qd hab).symm hs hil
     rw [e1]
     exact⟨0,any (own:=false) (r:=0) (qkl e2)⟩
    ·cases hs
  |_=>cases hs
 |pd r s i f us n=>
  obtain⟨q,hq,hle,g⟩:=hv
  simp only [q3u,hq]at hs
  obtain⟨k,ver,anc⟩:=q
  cases k with
  |row ow vs n'=>
   cases ow with
   |false=>cases hs
   |true=>
    simp only at hs
    split at hs
    ·rename_i hab
     cases hs
     obtain⟨_,_,a1,n1,e1,e2⟩:=g (qd hab).symm true vs n' rfl
     rw [e1]
     exact⟨0,any (own:=false) (r:=0) (qkl e2)⟩
    ·cases hs
  |_=>cases hs
 |_=>cases hs
def tauA (own:Bool) (r2 r0 base:Nat):Nat→Nat→Lab:=fun s k=>if s=r2 then(match own with|true=>(match k with|0=> .of r2 0|k+1=> .of r0 (base+k+1))|false=> .free)else .of s k
theorem q0h7 (G:Gh):q1m G (fun r s=>Lab.of r s)=G:=by
 have:(q1m G (fun r s=>Lab.of r s)).own=G.own:=by
  funext b o
  simp only [q1m]
  cases G.own b o<;>rfl
 cases G
 simp only [q1m]at this ⊢
 rw [this]
theorem qp5 (hR:RelR G σ.roots w) {own:Bool} {ts:Ty} {av:AV} {m:List ts.den} {rs:List Nat} {v:Value} (h:q0fj σ own ts av=some (m,rs)) (hv:(avR G σ.roots w av).1 v) (r0 base:Nat):
  ∃τ:Nat→Nat→Lab,(∀s,s∉rs→∀k,τ s k= .of s k)∧RelR (q1m G τ) (eat own σ rs).roots w∧Evo G σ.roots w (q1m G τ) (eat own σ rs).roots w∧Elems w (qc4 (q1m G τ) w r0 own) ts m base v:=by
 have plain:∀(m':List ts.den),rs=[]→m'=m→Elems w (qc4 G w r0 own) ts m' base v→∃τ:Nat→Nat→Lab,(∀s,s∉rs→∀k,τ s k= .of s k)∧RelR (q1m G τ) (eat own σ rs).roots w∧Evo G σ.roots w (q1m G τ) (eat own σ rs).roots w∧Elems w (qc4 (q1m G τ) w r0 own) ts m base v:=by
  intro m' hrs hm hE
  subst hrs;subst hm
  refine⟨fun r s=> .of r s,fun _ _ _=>rfl,?_,?_,?_⟩<;>rw [q0h7]
  ·exact hR
  ·exact Evo.refl _ _ _
  ·exact hE
 have nil:∀(a0:Option Addr),v= .slice a0 0 0→(m=[])→rs=[]→∃τ:Nat→Nat→Lab,(∀s,s∉rs→∀k,τ s k= .of s k)∧RelR (q1m G τ) (eat own σ rs).roots w∧Evo G σ.roots w (q1m G τ) (eat own σ rs).roots w∧Elems w (qc4 (q1m G τ) w r0 own) ts m base v:=by
  intro a0 e hm hrs
  exact plain [] hrs hm.symm ⟨a0,0,by rw [e];rfl,fun i hi=>absurd hi (by simp)⟩
 unfold q0fj at h
 split at h
 ·rename_i hsl
  split at h
  ·rename_i l hl
   split at h
   ·rename_i m' hm'
    cases h
    obtain⟨ts',l⟩:=l
    obtain⟨e,g⟩:=q79 hm'
    cases e
    have g:m=l:=g
    have hl:q3u σ av=some ⟨_,m⟩:=by rw [hl,g]
    obtain⟨base',a1,c1,e1,h1⟩:=q0aj (tm:=σ.tmps) hR hl hv
    refine plain m rfl rfl ⟨a1,c1,e1,fun i hi=> ?_⟩
    obtain⟨b,p,ea,k'⟩:=h1 i hi
    exact⟨b,p,ea,q0oc (fun k k' t x v hs g=>q0sp own k' t x v hs g) _ _ b _ _ _ hsl k'⟩
   ·cases h
  ·cases h
 ·rename_i hsl
  split at h
  ·rename_i us
   split at h
   ·rename_i m' hm'
    cases h
    obtain⟨e,g⟩:=q79 hm'
    cases e
    obtain⟨a0,e0⟩:=hv
    exact nil a0 e0 g rfl
   ·cases h
  ·rename_i us l
   split at h
   ·cases h
   ·split at h
    ·rename_i m' hm'
     cases h
     obtain⟨e,g⟩:=q79 hm'
     cases e
     have g:m=l:=g
     subst g
     exact plain m rfl rfl ((qyw hv).mono (fun _ _ _ _ t x v g=>g))
    ·cases h
  ·rename_i r2 a2
   obtain⟨q,hq,hle,g⟩:=hv
   simp only [hq]at h
   obtain⟨kk,ver,anc⟩:=q
   have hro:=hR r2 _ hq
   cases kk with
   |row o us l=>
    simp only at h
    split at h
    ·rename_i m' hb hm'
     cases h
     obtain⟨hb1,hb2⟩:=and2 hb
     obtain⟨e,g'⟩:=q79 hm'
     cases e
     have g':m=l:=g'
     subst g'
     have ev:=g (qd hb1).symm ts (List.length m) rfl
     have hrow:q8n G w (qc4 G w r2 o) (.of r2 0) ts m _ _:=hro
     have hτ:∀s,s∉[r2]→∀k,tauA own r2 r0 base s k= .of s k:=fun s hs k=>by
      have:s≠r2:=by simpa using hs
      simp [tauA,this]
     obtain⟨g1,g2⟩:=qyx (own:=own) (rs:=[r2]) (τ:=tauA own r2 r0 base) hR (fun s hs q hq'=>by
      have:s=r2:=by simpa using hs
      subst this
      rw [hq]at hq';cases hq';rfl) hτ (fun e s hs k=>by
      have:s=r2:=by simpa using hs
      subst this;subst e;simp [tauA])
     refine⟨_,hτ,g1,g2,?_⟩
     cases own with
     |true=>
      have:o=true:=by simpa using hb2
      subst this
      rw [ev]
      refine(qkl hrow).mono (fun i hi j hj t x v g=> ?_)
      refine qmr true (qv3 g2) (fun _=> ?_) t x v g
      have:=ql7 (G:=G) (w:=w) (tauA true r2 r0 base) r2 (0+i*ts.size+j+1)
      simp only [tauA,if_true]at this
      rwa [show base+(0+i*ts.size+j)+1=base+i*ts.size+j+1 by omega]at this
     |false=>
      have hf:=qmh (G':=q1m G (tauA false r2 r0 base)) g2.free (fun s=>by
       have:=ql7 (G:=G) (w:=w) (tauA false r2 r0 base) r2 s
       simpa [tauA]using this) hrow
      rw [←ev]at hf
      exact(qyw hf).mono (fun _ _ _ _ t x v g=>g)
    ·cases h
   |fro us l=>
    simp only at h
    split at h
    ·rename_i m' hb hm'
     cases h
     obtain⟨hb1,hb2⟩:=and2 hb
     obtain⟨e,g'⟩:=q79 hm'
     cases e
     have g':m=l:=g'
     subst g'
     have ev:=g (qd hb1).symm ts (List.length m) rfl
     have:own=false:=by simpa using hb2
     subst this
     have hro':(ro (vw G w) (.slice ts)).1 m v:=by rw [ev];exact hro
     exact plain m rfl rfl ((qyw hro').mono (fun _ _ _ _ t x v g=>g))
    ·cases h
   |_=>cases h
  ·cases h
theorem q0i8 {w:World} {G:Gh} {r:Nat} (own:Bool) (k:Nat) (t:Ty) (x:t.den) (v:Value) (h:qc4 G w r own k t x v):v.oneCell'=true:=by
 cases own with
 |false=>exact q0re h
 |true=>
  cases t with
  |slice us=>obtain⟨a,n,e,_⟩:=h;subst e;rfl
  |bool=>cases h;rfl
  |int k=>cases h;rfl
  |str=>cases h;rfl
  |nil=>exact h.elim
  |cons _ _=>exact h.elim
theorem q0ob {c:Nat→Nat→Option Value} {cv:Nat→(t:Ty)→t.den→Value→Prop} (h1:∀k t x v,cv k t x v→v.oneCell'=true):∀(ts:Ty) (x:ts.den) (b o k:Nat),elG c cv ts x b o k→∀j,j<ts.size→∃v,c b (o+j)=some v∧v.oneCell'=true:=by
 intro ts
 induction ts with
 |cons t ts _ ih=>
  intro x b o k ⟨⟨v,e,g⟩,hk⟩ j hj
  cases j with
  |zero=>exact⟨v,e,h1 _ _ _ _ g⟩
  |succ j=>
   obtain⟨v,e,g⟩:=ih x.2 b (o+1) (k+1) hk j (by simpa [Ty.size]using hj)
   exact⟨v,by rw [show o+(j+1)=o+1+j by omega];exact e,g⟩
 |_=>intro x b o k _ j hj;simp [Ty.size]at hj
theorem q0p1 {cv:Nat→(t:Ty)→t.den→Value→Prop} (h1:∀k t x v,cv k t x v→v.oneCell'=true) {ts:Ty} {l:List ts.den} {T e base:Nat} (hu:P.underlying T=some (.slice e)) {v:Value} (h:Elems w cv ts l base v):
  ∃(a0:Option Addr) (c:Nat) (news:List Value),v= .slice a0 (List.length l) c∧Src P ts.size T v (List.length l) news w∧
   (∀(c':Nat→Nat→Option Value) (b' p':Nat),(∀j,j<news.length→c' b' (p'+j)=some (news.getD j undef))→∀i,i<List.length l→elG c' cv ts (rd ts l i) b' (p'+i*ts.size) (base+i*ts.size)):=by
 obtain⟨a0,c,ev,h⟩:=h
 subst ev
 rcases Nat.eq_zero_or_pos (List.length l)with h0|h0
 ·refine⟨a0,c,[],rfl,?_,fun _ _ _ _ i hi=>absurd hi (by omega)⟩
  rw [h0]
  cases a0 with
  |none=>exact Src.ofNil w hu c
  |some ad=>exact Src.ofSlice w hu ad 0 c [] (by simp) (by simp) (by simp)
 ·obtain⟨b,p,ea,_⟩:=h 0 h0
  subst ea
  have h':∀i,i<List.length l→elG (at_ w) cv ts (rd ts l i) b (p+i*ts.size) (base+i*ts.size):=by
   intro i hi
   obtain⟨b1,p1,e1,g⟩:=h i hi
   cases e1;exact g
  have key:∀j,j<List.length l*ts.size→∃v,at_ w b (p+j)=some v∧v.oneCell'=true:=by
   intro j hj
   have hpos:0<ts.size:=by
    rcases Nat.eq_zero_or_pos ts.size with e|e
    ·rw [e]at hj;omega
    ·exact e
   have hi:j / ts.size<List.length l:=by
    rw [Nat.div_lt_iff_lt_mul hpos];exact hj
   obtain⟨v,e,g⟩:=q0ob h1 ts _ b _ _ (h' (j / ts.size) hi) (j % ts.size) (Nat.mod_lt _ hpos)
   have:=Nat.div_add_mod j ts.size
   rw [Nat.mul_comm]at this
   exact⟨v,by rw [show p+j=p+j / ts.size*ts.size+j % ts.size by omega];exact e,g⟩
  obtain⟨news,hl,hc,hone⟩:∃news:List Value,news.length=List.length l*ts.size∧(∀j,j<news.length→at_ w b (p+j)=some (news.getD j undef))∧(∀v∈news,v.oneCell'=true):=by
   refine⟨(List.range (List.length l*ts.size)).map fun j=>(at_ w b (p+j)).getD undef,by simp,fun j hj=> ?_,fun v hv=> ?_⟩
   ·simp only [List.length_map,List.length_range]at hj
    obtain⟨v,e,_⟩:=key j hj
    simp [List.getD_eq_getElem?_getD,hj,e]
   ·obtain⟨j,hj,e⟩:=List.mem_map.1 hv
    obtain⟨v',e',g⟩:=key j (by simpa using hj)
    rw [e']at e
    simp at e;subst e;exact g
  refine⟨_,c,news,rfl,Src.ofSlice w hu ⟨b,p,none⟩ (List.length l) c news hl (fun j v hv=> ?_) hone,fun c' b' p' hc' i hi=> ?_⟩
  ·rw [qlc]
   have hj:j<news.length:=(List.getElem?_eq_some_iff.1 hv).1
   have:=hc j hj
   rw [List.getD_eq_getElem?_getD,hv]at this;exact this
  ·refine qga ts _ b _ _ b' _ _ (fun j v hj e=> ?_) (fun _ _ _ _ _ g=>g) (h' i hi)
   have hlt:i*ts.size+j<news.length:=by
    have:=qvf hi (Nat.le_refl _) hj
    omega
   rw [show p'+i*ts.size+j=p'+(i*ts.size+j) by omega,hc' _ hlt,←hc _ hlt,show p+(i*ts.size+j)=p+i*ts.size+j by omega];exact e
theorem q0lw {α:Type} {l m:List α} (h:q4x l m=true):List.length l+List.length m<68719476736:=by
 unfold q4x at h
 simp only [Bool.not_eq_true',Bool.eq_false_iff,ne_eq,Nat.ble_eq]at h
 omega
theorem q0es (n:Nat):∀(k c:Nat),c≤2*n+768→Builtin.growBy n k c≤4*n+4000
 |0,c,h=>by simp only [Builtin.growBy];omega
 |k+1,c,h=>by
  simp only [Builtin.growBy]
  split
  ·omega
  ·exact q0es n k _ (by omega)
theorem q0j6 {n c:Nat} (h:c<n):Builtin.nextslicecap n c≤4*n+4000:=by
 unfold Builtin.nextslicecap
 split
 ·omega
 ·split
  ·omega
  ·exact q0es n 4 c (by omega)
theorem q0km {ts:Ty} {l m:List ts.den} {i:Nat} (hi:i<List.length l):rd ts (app l m) i=rd ts l i:=by simp [rd,app,List.getD_eq_getElem?_getD,List.getElem?_append_left hi]
theorem q0kl {ts:Ty} {l m:List ts.den} {i:Nat} (hi:List.length l≤i):rd ts (app l m) i=rd ts m (i-List.length l):=by simp [rd,app,List.getD_eq_getElem?_getD,List.getElem?_append_right hi]
theorem qpe {T T':Nat} {us us':Bool×Ty} {xs xx:Operand} {Ts:Array TypeId} (hT:q7w P tab) (ho:o.op= .call ⟨.builtin .append,#[xs,xx],Ts⟩) (hTs:Ts= #[T,T']) (he:qa3 tab T=some us) (he':qa3 tab T'=some us')
  {cv:Nat→(t:Ty)→t.den→Value→Prop} (h1:∀k t x v,cv k t x v→v.oneCell'=true) {L:Lab} {ts:Ty} {l m:List ts.den} {a0:Option Addr} {c:Nat} (hsz:us.2.size=ts.size) (hrow:q8n G w cv L ts l a0 c) (hs:a.eval xs= .slice a0 (List.length l) c)
  (hx:Elems w cv ts m (List.length l*ts.size) (a.eval xx)) (hfit:q4x l m=true) (hL:∃r s,L= .of r s):
  ∃w' a' c' G',(execOp a.eval o).run P w= .ok (.value (.slice a' (List.length l+List.length m) c')) w'∧G'.anch=G.anch∧w'.os=w.os∧w'.tape=w.tape∧w'.output=w.output∧w.heap.size≤w'.heap.size∧(∀L',L'≠L→Lk G w G' w' L' L')∧
   (∀cv',(∀k t x v,cv k t x v→cv' k t x v)→q8n G' w' cv' L ts (app l m) a' c'∧q8n G' w' cv' L ts l a0 c):=by
 have front:∀ {G':Gh} {w':World} {cv':Nat→(t:Ty)→t.den→Value→Prop} {a':Option Addr} {c':Nat},q8n G' w' cv' L ts (app l m) a' c'→q8n G' w' cv' L ts l a' c':=by
  intro G' w' cv' a' c' h
  have:=qj9 h (m:=List.length l) (by simp [app])
  rwa [show tk (app l m) (List.length l)=l by simp [tk,app]]at this
 obtain⟨e,j,hu,hj,hjc,_⟩:=q3x hT he
 obtain⟨e',j',hu',_⟩:=q3x hT he'
 have hfit:=q0lw hfit
 obtain⟨I,i1,i2,i3⟩:=(hT e j hj).info
 obtain⟨I',z,z1,z2,z3⟩:=(hT e j hj).zero
 rw [i1]at z1;cases z1
 rw [hjc]at i2 z3
 have hsize:I.size=ts.size:=i2.trans hsz
 obtain⟨r1,r2⟩:=hrow
 obtain⟨ao,co,olds,eo,hso,hoc⟩:=q0p1 (P:=P) (v:=a.eval xs) h1 hu (base:=0) (by rw [hs];exact qkl ⟨r1,r2⟩)
 obtain⟨ax,cx,news,ex,hsn,hnc⟩:=q0p1 (P:=P) (v:=a.eval xx) h1 hu' hx
 rw [←hsize]at hso hsn
 have hlen:List.length (app l m)=List.length l+List.length m:=by simp [app]
 have hnl:news.length=List.length m*ts.size:=by rw [←hsize];exact hsn.newsLen
 have hol:olds.length=List.length l*ts.size:=by rw [←hsize];exact hso.newsLen
 have hrunOf:∀(v:Value) (w':World),(Builtin.append_ #[T,T'] o.type #[a.eval xs,a.eval xx]).run P w= .ok v w'→(execOp a.eval o).run P w= .ok (.value v) w':=by
  intro v w' hh
  simp [execOp,ho,hTs,resolve,invoke,builtin,hh]
 by_cases hroom:List.length l+List.length m≤c
 ·rcases r2 with h0|⟨b,p,ea,hc0,hel⟩
  ·-- no room is needed
   subst h0
   have hl0:List.length l=0:=by omega
   have hm0:List.length m=0:=by omega
   have hnews:news=[]:=List.eq_nil_of_length_eq_zero (by rw [hnl,hm0,Nat.zero_mul])
   subst hnews
   refine⟨w,a0,0,G,?_,rfl,rfl,rfl,rfl,Nat.le_refl _,fun L' _=>Lk.refl _ _ _,fun cv' _=>⟨⟨by rw [hlen];omega,.inl rfl⟩,⟨by omega,.inl rfl⟩⟩⟩
   rw [hl0,hm0]
   refine hrunOf (.slice a0 0 0) w ?_
   have e1:=hsn.len;have e2:=hsn.cells
   rw [hm0]at e1 e2
   rw [hs,hl0,ex,hm0]
   rw [ex,hm0]at e1 e2
   rcases hsn.kind with⟨e'',hk⟩|hk<;>cases a0<;>simp [Builtin.append_,run_underlying hu,run_underlying hk,sizeOf,typeInfo,i1,e1,e2,storeCells]
  ·have hmul:(List.length l+List.length m)*ts.size≤c*ts.size:=Nat.mul_le_mul_right _ hroom
   rw [Nat.add_mul]at hmul
   have hc:∀j,j<news.length→G.own b (p+List.length l*ts.size+j)=L∧w.frozen? ⟨b,p+List.length l*ts.size+j,none⟩=false∧(at_ w b (p+List.length l*ts.size+j)).isSome=true:=by
    intro j hj
    have:=hc0 (List.length l*ts.size+j) (by omega)
    rwa [←Nat.add_assoc]at this
   have hrun:=hrunOf _ _ (by rw [hs,ea,ex];rw [ex]at hsn;exact run_append_room_src (w:=w) T T' o.type e I hu i1 b p _ _ _ _ news hsn hroom (by rw [hsize];exact fun j hj=>(hc j hj).2.2) (by rw [hsize];exact fun j hj=>(hc j hj).2.1))
   rw [hsize]at hrun
   obtain⟨o1,o2,o3⟩:=qld b news (p+List.length l*ts.size) w
   refine⟨_,some ⟨b,p,none⟩,c,G,hrun,rfl,o1,o2,o3,by rw [qn3];exact Nat.le_refl _,fun L' hL'=>q0e0 (fun j hj=>(hc j hj).1) L' hL',fun cv' hcv=>(fun h=>⟨h,by rw [ea];exact front h⟩) ⟨by rw [hlen];exact hroom,.inr ⟨b,p,rfl,fun j hj=> ?_,fun i hi=> ?_⟩⟩⟩
   ·obtain⟨c1,c2,c3⟩:=hc0 j hj
    refine⟨c1,by rw [World.frozen?_setCells];exact c2,?_⟩
    by_cases hin:List.length l*ts.size≤j∧j<List.length l*ts.size+news.length
    ·have:=qkq (w:=w) (b:=b) (p:=p+List.length l*ts.size) (vs:=news) (fun j hj=>(hc j hj).2.2) (j-List.length l*ts.size) (by omega)
     rw [show p+List.length l*ts.size+(j-List.length l*ts.size)=p+j by omega]at this
     rw [this];rfl
    ·rw [q6n (by omega)];exact c3
   ·rw [hlen]at hi
    by_cases hi':i<List.length l
    ·rw [q0km hi']
     have hm2:(i+1)*ts.size≤List.length l*ts.size:=Nat.mul_le_mul_right _ (by omega)
     rw [Nat.add_mul,Nat.one_mul]at hm2
     exact q3c ts _ _ _ _ (fun j v hj e=>by rw [q6n (by omega)];exact e) hcv (hel i hi')
    ·rw [q0kl (by omega)]
     have:=hnc (at_ (w.setCells b (p+List.length l*ts.size) news)) b (p+List.length l*ts.size) (fun j hj=>qkq (fun j hj=>(hc j hj).2.2) j hj) (i-List.length l) (by omega)
     rw [show p+List.length l*ts.size+(i-List.length l)*ts.size=p+i*ts.size by
      rw [Nat.add_assoc,←Nat.add_mul];congr 2;omega,show List.length l*ts.size+(i-List.length l)*ts.size=i*ts.size by rw [←Nat.add_mul];congr 1;omega]at this
     exact q3c ts _ _ _ _ (fun _ _ _ e=>e) hcv this
 ·have hg:c<List.length l+List.length m:=Nat.lt_of_not_le hroom
  have hgc:=grownCap_ge w (List.length l+List.length m) c e
  have hcap:Builtin.nextslicecap (List.length l+List.length m) c*I.bytes≤281474976710656:=by
   have h1:=q0j6 hg
   exact Nat.le_trans (Nat.mul_le_mul h1 i3) (by omega)
  rw [hs]at eo hso
  cases eo
  rw [ex]at hsn
  have hrun:=run_append_grow_src (w:=w) T T' o.type e I z hu i1 z2 a0 (List.length l) c olds hso.cellsD _ _ news hsn hg (by omega) hcap
  rw [←ex,←hs]at hrun
  have hrun:=hrunOf _ _ hrun
  generalize grownCap w (List.length l+List.length m) c e=gc at hgc hrun
  obtain⟨vs,hvs⟩:∃vs:List Value,vs=olds++news++(Builtin.zeroCells z.cells (gc-(List.length l+List.length m))).toList:=⟨_,rfl⟩
  have hobj:(olds++news).toArray++Builtin.zeroCells z.cells (gc-(List.length l+List.length m))=vs.toArray:=by
   apply Array.ext'
   simp [hvs]
  rw [hobj]at hrun
  have hzs:z.cells.size=ts.size:=by rw [z3,←hsz];simpa using qyj us.2
  have hvl:vs.length=gc*ts.size:=by
   rw [hvs]
   simp only [List.length_append,Array.length_toList,size_zeroCells,hol,hnl,hzs]
   rw [←Nat.add_mul,←Nat.add_mul];congr 1;omega
  have hc:∀j,j<vs.length→at_ (w.drew.alloc (.cells vs.toArray e)) w.heap.size j=some (vs.getD j undef):=by
   intro j hj
   exact q0if (w1:=w.drew) hj
  have hsz':w.heap.size≤(w.drew.alloc (.cells vs.toArray e)).heap.size:=by
   have:w.drew.heap.size=w.heap.size:=rfl
   rw [←this];simp
  have hlk:∀L',Lk G w ⟨fun b o=>if b=w.heap.size then L else G.own b o,G.anch⟩ (w.drew.alloc (.cells vs.toArray e)) L' L':=fun L' b o hb h=>
   ⟨by simp [Nat.ne_of_lt hb,h],qlb (w:=w.drew) hb,qot (w:=w.drew) hb⟩
  refine⟨_,some ⟨w.heap.size,0,none⟩,gc,⟨fun b o=>if b=w.heap.size then L else G.own b o,G.anch⟩,hrun,rfl,rfl,rfl,rfl,hsz',fun L' _=>hlk L',fun cv' hcv=>⟨⟨by rw [hlen];exact hgc,.inr ⟨w.heap.size,0,rfl,fun j hj=> ?_,fun i hi=> ?_⟩⟩,q61 hcv (hlk L) ⟨r1,r2⟩⟩⟩
  ·rw [Nat.zero_add]
   have:=hc j (by omega)
   exact⟨by simp,q0lu (w1:=w.drew),by rw [this];rfl⟩
  ·rw [hlen]at hi
   have hc1:∀j,j<olds.length→at_ (w.drew.alloc (.cells vs.toArray e)) w.heap.size (0+j)=some (olds.getD j undef):=fun j hj=>by
    rw [Nat.zero_add,hc j (by rw [hvs];simp only [List.length_append];omega),hvs]
    simp [List.getD_eq_getElem?_getD,List.append_assoc,List.getElem?_append_left hj]
   have hc2:∀j,j<news.length→at_ (w.drew.alloc (.cells vs.toArray e)) w.heap.size (List.length l*ts.size+j)=some (news.getD j undef):=fun j hj=>by
    rw [←hol,hc (olds.length+j) (by rw [hvs];simp only [List.length_append];omega),hvs,List.getD_eq_getElem?_getD,List.getD_eq_getElem?_getD,List.append_assoc,List.getElem?_append_right (by omega),List.getElem?_append_left (by omega)]
    rw [show olds.length+j-olds.length=j by omega]
   by_cases hi':i<List.length l
   ·rw [q0km hi']
    have:=hoc _ _ _ hc1 i hi'
    rw [Nat.zero_add (i*ts.size)]at this
    rw [Nat.zero_add]
    exact q3c ts _ _ _ _ (fun _ _ _ e=>e) hcv this
   ·rw [q0kl (by omega)]
    have:=hnc _ _ _ hc2 (i-List.length l) (by omega)
    rw [show List.length l*ts.size+(i-List.length l)*ts.size=i*ts.size by rw [←Nat.add_mul];congr 1;omega]at this
    rw [Nat.zero_add]
    exact q3c ts _ _ _ _ (fun _ _ _ e=>e) hcv this
theorem q041 {G G':Gh} {w w':World} {r:Nat} (own:Bool) {L:Lab} (hL:∀k,L≠ .of r (k+1)) (hf:L≠ .free) (hc:∀L',L'≠L→Lk G w G' w' L' L') (k:Nat) (t:Ty) (x:t.den) (v:Value) (h:qc4 G w r own k t x v):qc4 G' w' r own k t x v:=
 qmr own (q6s (hc _ (Ne.symm hf))) (fun _=>hc _ (Ne.symm (hL k))) t x v h
theorem q0o3 {G G':Gh} {w w':World} {r s:Nat} {ex:Nat→Prop} (ha:∀r',¬ex r'→G'.anch r'=G.anch r') (hx:ex r) (h1:w'.os=w.os) (h2:w'.tape=w.tape) (h3:w'.output=w.output) (h4:w.heap.size≤w'.heap.size) (hc:∀L',L'≠ .of r s→Lk G w G' w' L' L'):Fr G w G' w' ex:=
 ⟨h1,h2,h3,h4,hc _ (fun e=>by cases e),hc _ (fun e=>by cases e),fun r' hr'=>⟨ha r' hr',fun s'=>hc _ (fun e=>by cases e;exact hr' hx)⟩⟩
theorem q0ma (t:Ty) (x:t.den):t.cast t x=some x:=by
 unfold Ty.cast
 have key:∀t:Ty,∃p,t.eq? t=some p:=by
  intro t
  induction t with
  |bool=>exact⟨_,rfl⟩
  |str=>exact⟨_,rfl⟩
  |nil=>exact⟨_,rfl⟩
  |int k=>exact⟨⟨rfl⟩,by simp [Ty.eq?]⟩
  |slice ts ih=>obtain⟨p,h⟩:=ih;exact⟨⟨rfl⟩,by simp [Ty.eq?,h]⟩
  |cons t ts h1 h2=>obtain⟨p,h⟩:=h1;obtain⟨q,g⟩:=h2;exact⟨⟨rfl⟩,by simp [Ty.eq?,h,g]⟩
 obtain⟨p,h⟩:=key t
 rw [h]
theorem qra:∀(ts:Ty) (x:ts.den) (f:Nat) (us:Ty) (m:List us.den),q2u ts x f=some ⟨us,m⟩→q5m ts x f us m=some x
 | .cons (.slice vs) ts,x,0,us,m,h=>by cases h;simp only [q5m,q0ma];rfl
 | .cons t ts,x,f+1,us,m,h=>by
  have h:q2u ts x.2 f=some ⟨us,m⟩:=by cases t<;>exact h
  have:=qra ts x.2 f us m h
  cases t<;>(simp only [q5m,this];rfl)
 | .cons .bool ts,x,0,us,m,h=>by cases h
 | .cons (.int _) ts,x,0,us,m,h=>by cases h
 | .cons .str ts,x,0,us,m,h=>by cases h
 | .cons .nil ts,x,0,us,m,h=>by cases h
 | .cons (.cons _ _) ts,x,0,us,m,h=>by cases h
 | .bool,_,_,_,_,h=>by cases h
 | .int _,_,_,_,_,h=>by cases h
 | .str,_,_,_,_,h=>by cases h
 | .slice _,_,_,_,_,h=>by cases h
 | .nil,_,_,_,_,h=>by cases h
theorem q0ky {xs xx:Operand} {Ts:Array TypeId} (hT:q7w P tab) (ho:o.op= .call ⟨.builtin .append,#[xs,xx],Ts⟩) (hR:Rel G σ a w) (hn:Nxt false G σ w a o.dst K r next)
  (h:q4r .append (q0gs tab .append Ts.toList) [σ.eval xs,σ.eval xx] σ K=some r):o.wp P a w next Q:=by
 have hxs:=hR.eval xs
 have hxx:=hR.eval xx
 cases hus:q0gs tab .append Ts.toList with
 |none=>rw [hus]at h;cases h
 |some us=>
  rw [hus]at h
  obtain⟨T,T',hTs,he,us',he'⟩:∃T T',Ts= #[T,T']∧qa3 tab T=some us∧∃us',qa3 tab T'=some us':=by
   simp only [q0gs]at hus
   split at hus
   ·rename_i T T' hTs
    split at hus
    ·rename_i us' hu';exact⟨T,T',Array.ext' hTs,hus,us',hu'⟩
    ·cases hus
   ·cases hus
  simp only [q4r]at h
  ·generalize hav:σ.eval xs=av at h hxs
   cases av with
   |nl ts=>
    obtain⟨hb,h⟩:=qw h
    obtain⟨hb1,hb2⟩:=and2 hb
    have hb1:=qd hb1
    split at h
    ·rename_i m rs hsrc
     rcases q44 h with⟨hfit,hK⟩|⟨_,hK⟩
     ·obtain⟨τ,hτ,g1,g2,g3⟩:=qp5 hR.roots hsrc hxx σ.roots.length (List.length ([]:List ts.den)*ts.size)
      obtain⟨a0,e0⟩:=hxs
      obtain⟨w',a',c',G',hrun,i1,i2,i3,i4,i5,i6,i7⟩:=qpe (G:=q1m G τ) hT ho hTs he he' (q0i8 us.1) (L:= .of σ.roots.length 0) (l:=[]) (a0:=a0) (c:=0) hb1 ⟨Nat.zero_le _,.inl rfl⟩ e0 g3 hfit ⟨_,_,rfl⟩
      have hlen:σ.roots.length=(eat us.1 σ rs).roots.length:=(quv _ _ _).symm
      obtain⟨h1,h2⟩:=q049 (G':=⟨G'.own,fun r=>if r=σ.roots.length then(a',c')else G'.anch r⟩) (w':=w') (N:=[⟨.row us.1 ts m,0,0⟩]) g1 (q0o3 (r:=σ.roots.length) (s:=0) (fun r' hr'=>by
        simp only
        rw [if_neg (by omega),i1]) (by omega) i2 i3 i4 i5 (fun L' hL'=>i6 L' hL')) (fun hE j q hj=>by
        have e:j=0:=by have:=(List.getElem?_eq_some_iff.1 hj).1;simpa using this
        subst e
        simp at hj;subst hj
        simp only [q8s,Nat.add_zero,←hlen,if_true]
        have:=(i7 (qc4 ⟨G'.own,fun r=>if r=σ.roots.length then(a',c')else G'.anch r⟩ w' σ.roots.length us.1) (fun k t x v g=>q041 (G':=⟨G'.own,fun r=>if r=σ.roots.length then(a',c')else G'.anch r⟩) us.1 (fun k e=>by cases e) (fun e=>by cases e) i6 k t x v g)).1
        exact q61 (G:=G') (fun k t x v g=>g) (fun _ _ _ h=>⟨h,rfl,rfl⟩) (by simpa [app]using this))
      have hK':K (.sl σ.roots.length 0) ⟨σ.tmps,(eat us.1 σ rs).roots++[⟨.row us.1 ts m,0,0⟩]⟩=some r:=by
       rw [←qnf us.1 rs σ];exact hK
      refine q4l hrun (hn _ _ _ _ _ hK' h1 ⟨⟨.row us.1 ts m,0,0⟩,by rw [hlen];simp,Nat.le_refl _,fun _ ts' n hh=> ?_⟩ (g2.trans h2) (fun e=>by cases e))
      cases hh
      simp
     ·cases hK
    ·cases h
   |sl rr aa=>
    obtain⟨q,hq,hle,g⟩:=hxs
    simp only [hq]at h
    obtain⟨kk,ver,anc⟩:=q
    cases kk with
    |row ow ts l=>
     obtain⟨hb,h⟩:=qw h
     obtain⟨hb1,hb2⟩:=and2 hb
     have hb1:=qd hb1
     have hb2:=qd hb2
     subst hb1
     split at h
     ·rename_i m rs hsrc
      obtain⟨hnm,h⟩:=qw h
      have hnm:rr∉rs:=fun hm=>by rw [q4v.2 hm]at hnm;cases hnm
      rcases q44 h with⟨hfit,hK⟩|⟨_,hK⟩
      ·obtain⟨τ,hτ,g1,g2,g3⟩:=qp5 hR.roots hsrc hxx rr (List.length l*ts.size)
       have hq1:(eat ow σ rs).roots[rr]? =some ⟨.row ow ts l,ver,aa⟩:=by rw [qng,if_neg hnm];exact hq
       have hrow:q8n (q1m G τ) w (qc4 (q1m G τ) w rr ow) (.of rr 0) ts l (G.anch rr).1 (G.anch rr).2:=g1 rr _ hq1
       obtain⟨w',a',c',G',hrun,i1,i2,i3,i4,i5,i6,i7⟩:=qpe (G:=q1m G τ) hT ho hTs he he' (q0i8 ow) hb2 hrow (g rfl ts (List.length l) rfl) g3 hfit ⟨_,_,rfl⟩
       obtain⟨h1,h2⟩:=qca (G':=⟨G'.own,fun r=>if r=rr then(a',c')else G'.anch r⟩) (w':=w') (q':=⟨.row ow ts (app l m),ver+1,aa+1⟩) g1 hq1 (q0o3 (r:=rr) (s:=0) (fun r' hr'=>by
         simp only
         rw [if_neg hr',i1]) rfl i2 i3 i4 i5 (fun L' hL'=>i6 L' hL'))
        (RLe.row' (fun _ _ e=>by cases e) (fun _ _ e=>by cases e) (Nat.lt_succ_self _) (Nat.le_succ _) (fun e=>absurd e (by simp))) (fun hE=>by
         simp only [q8s,if_true]
         have:=(i7 (qc4 ⟨G'.own,fun r=>if r=rr then(a',c')else G'.anch r⟩ w' rr ow) (fun k t x v g=>q041 (G':=⟨G'.own,fun r=>if r=rr then(a',c')else G'.anch r⟩) ow (fun k e=>by cases e) (fun e=>by cases e) i6 k t x v g)).1
         exact q61 (fun k t x v g=>g) (fun _ _ _ h=>⟨h,rfl,rfl⟩) this)
       have hK':K (.sl rr (aa+1)) ⟨σ.tmps,(eat ow σ rs).roots.set rr ⟨.row ow ts (app l m),ver+1,aa+1⟩⟩=some r:=by
        rw [←qnf ow rs σ];exact hK
       refine q4l hrun (hn _ _ _ _ _ hK' h1 ⟨⟨.row ow ts (app l m),ver+1,aa+1⟩,List.getElem?_set_self (List.getElem?_eq_some_iff.1 hq1).1,Nat.le_refl _,fun _ ts' n hh=> ?_⟩ (g2.trans h2) (fun e=>by cases e))
       cases hh
       simp [app]
      ·cases hK
     ·cases h
    |_=>cases h
   |hd rr aa n0=>
    obtain⟨q,hq,hle,g⟩:=hxs
    simp only [hq]at h
    obtain⟨kk,ver,anc⟩:=q
    cases kk with
    |row ow ts l=>
     obtain⟨hb,h⟩:=qw h
     obtain⟨hb1,hb2⟩:=and2 hb
     have hb1:=qd hb1
     have hb2:=qd hb2
     subst hb1
     obtain⟨hn0,ev0⟩:=g rfl ts (List.length l) rfl
     split at h
     ·rename_i m rs hsrc
      obtain⟨hnm,h⟩:=qw h
      have hnm:rr∉rs:=fun hm=>by rw [q4v.2 hm]at hnm;cases hnm
      rcases q44 h with⟨hfit,hK⟩|⟨_,hK⟩
      ·obtain⟨τ,hτ,g1,g2,g3⟩:=qp5 hR.roots hsrc hxx rr (List.length (tk l n0)*ts.size)
       have hq1:(eat ow σ rs).roots[rr]? =some ⟨.row ow ts l,ver,aa⟩:=by rw [qng,if_neg hnm];exact hq
       have hrow:q8n (q1m G τ) w (qc4 (q1m G τ) w rr ow) (.of rr 0) ts l (G.anch rr).1 (G.anch rr).2:=g1 rr _ hq1
       obtain⟨w',a',c',G',hrun,i1,i2,i3,i4,i5,i6,i7⟩:=qpe (G:=q1m G τ) hT ho hTs he he' (q0i8 ow) hb2 (qj9 hrow hn0) (by rw [qoj hn0];exact ev0) g3 hfit ⟨_,_,rfl⟩
       obtain⟨h1,h2⟩:=qca (G':=⟨G'.own,fun r=>if r=rr then(a',c')else G'.anch r⟩) (w':=w') (q':=⟨.row ow ts (app (tk l n0) m),ver+1,aa+1⟩) g1 hq1 (q0o3 (r:=rr) (s:=0) (fun r' hr'=>by
         simp only
         rw [if_neg hr',i1]) rfl i2 i3 i4 i5 (fun L' hL'=>i6 L' hL'))
        (RLe.row' (fun _ _ e=>by cases e) (fun _ _ e=>by cases e) (Nat.lt_succ_self _) (Nat.le_succ _) (fun e=>absurd e (by simp))) (fun hE=>by
         simp only [q8s,if_true]
         have:=(i7 (qc4 ⟨G'.own,fun r=>if r=rr then(a',c')else G'.anch r⟩ w' rr ow) (fun k t x v g=>q041 (G':=⟨G'.own,fun r=>if r=rr then(a',c')else G'.anch r⟩) ow (fun k e=>by cases e) (fun e=>by cases e) i6 k t x v g)).1
         exact q61 (fun k t x v g=>g) (fun _ _ _ h=>⟨h,rfl,rfl⟩) this)
       have hK':K (.sl rr (aa+1)) ⟨σ.tmps,(eat ow σ rs).roots.set rr ⟨.row ow ts (app (tk l n0) m),ver+1,aa+1⟩⟩=some r:=by
        rw [←qnf ow rs σ];exact hK
       refine q4l hrun (hn _ _ _ _ _ hK' h1 ⟨⟨.row ow ts (app (tk l n0) m),ver+1,aa+1⟩,List.getElem?_set_self (List.getElem?_eq_some_iff.1 hq1).1,Nat.le_refl _,fun _ ts' n hh=> ?_⟩ (g2.trans h2) (fun e=>by cases e))
       cases hh
       simp [app]
      ·cases hK
     ·cases h
    |_=>cases h
   |il rr s i f=>
    have hil:=hxs
    obtain⟨q,hq,hle,g⟩:=hxs
    simp only [hq]at h
    obtain⟨kk,ver,anc⟩:=q
    cases kk with
    |row ow ts l=>
     cases ow with
     |false=>cases h
     |true=>
      cases hin:q2u ts (rd ts l i) f with
      |none=>simp only [hin]at h;cases h
      |some pr=>
       obtain⟨vs,n⟩:=pr
       simp only [hin]at h
       obtain⟨hb,h⟩:=qw h
       obtain⟨hb,hb3⟩:=and2 hb
       obtain⟨hb1,hb2⟩:=and2 hb
       have hb1:=qd hb1
       have hb2:=qd hb2
       have hb3:vs.hasSl=false:=by simpa using hb3
       subst hb1
       obtain⟨j1,j2,a1,n1,e1,e2⟩:=qkj hR.roots hq rfl hin hil
       split at h
       ·rename_i m rs hsrc
        rcases q44 h with⟨hfit,hK⟩|⟨_,hK⟩
        ·have hrs:rs=[]:=by
          unfold q0fj at hsrc
          rw [hb3]at hsrc
          simp only at hsrc
          split at hsrc
          ·split at hsrc
           ·cases hsrc;rfl
           ·cases hsrc
          ·cases hsrc
         subst hrs
         have g3:Elems w (qea (vw G w)) vs m (List.length n*vs.size) (a.eval xx):=by
          obtain⟨τ,hτ,_,_,g3⟩:=qp5 hR.roots hsrc hxx 0 (List.length n*vs.size)
          have:q1m G τ=G:=by
           have:τ=fun r s=> .of r s:=by funext r s;exact hτ r (by simp) s
           rw [this,q0h7]
          rw [this]at g3;exact g3
         obtain⟨w',a',c',G',hrun,k1,k2,k3,k4,k5,k6,k7⟩:=qpe hT ho hTs he he' (fun k t x v g=>q0i8 (r:=0) (G:=G) (w:=w) false k t x v g) hb2 e2 e1 g3 hfit ⟨_,_,rfl⟩
         have hu:∀b o v,vw G w b o=some v→vw G' w' b o=some v:=q6s (k6 _ (fun e=>by cases e))
         have hrow:q8n G w (qim G w rr) (.of rr 0) ts l (G.anch rr).1 (G.anch rr).2:=hR.roots rr _ hq
         obtain⟨hnew,hold⟩:=k7 (qea (vw G' w')) (fun k t x v g=>q4j hu k k t x v g)
         obtain⟨h1,h2⟩:=qca (G':=G') (w':=w') (q':=⟨.row true ts l,s+1,anc⟩) hR.roots hq (q0o3 (r:=rr) (s:=i*ts.size+f+1) (fun r' hr'=>by rw [k1]) rfl k2 k3 k4 k5 k6)
          (RLe.row' (fun _ _ e=>by cases e) (fun _ _ e=>by cases e) (Nat.lt_succ_self _) (Nat.le_refl _) (fun _=> .inr ⟨rfl,by rw [k1]⟩)) (fun hE=>by
           show q8n G' w' (qim G' w' rr) (.of rr 0) ts l (G'.anch rr).1 (G'.anch rr).2
           rw [k1]
           have hrow':q8n G' w' (qim G w rr) (.of rr 0) ts l (G.anch rr).1 (G.anch rr).2:=q61 (fun _ _ _ _ g=>g) (k6 _ (fun e=>by cases e)) hrow
           obtain⟨q1,q2⟩:=hrow'
           refine⟨q1,q2.imp id ?_⟩
           rintro ⟨b4,p4,ea4,d1,d2⟩
           refine⟨b4,p4,ea4,d1,fun i' hi'=> ?_⟩
           have hkeep:∀k,k≠i*ts.size+f→∀t x v,qim G w rr k t x v→qim G' w' rr k t x v:=fun k hk t x v g=>qio hu (k6 _ (fun e=>by cases e;omega)) t x v g
           by_cases e:i'=i
           ·subst e
            have hdd:=d2 i' hi'
            obtain⟨_,vv,ee,a2,n2,e3,e4⟩:=quj ts _ _ _ f vs n hin hdd
            have hset:q5m ts (rd ts l i') f vs n=some (rd ts l i'):=qra ts _ f vs n hin
            obtain⟨_,_,b,o,g3,g4,g5⟩:=g rfl true ts l rfl
            rw [ea4]at g3;cases g3
            have ee':at_ w' b4 (p4+i'*ts.size+f)=some (a.eval xs):=by
             rw [(k6 (.of rr 0) (fun e=>by cases e) _ _ (q1z g5) g4).2.1];exact g5
            exact qcp ts _ _ f _ _ hset hdd (fun _ _ _ _ e=>e) (fun j hj hne t x v g=>hkeep _ (by omega) t x v g) ee' ⟨a1,n1,e1,hold⟩
           ·refine qga ts _ b4 _ _ b4 _ _ (fun _ _ _ e=>e) (fun k hk t x v g=>hkeep _ (fun e'=> ?_) t x v g) (d2 i' hi')
            have:=qsj (f:=f) (n:=1) e hk (by omega)
            omega)
         refine q4l hrun (hn _ _ _ _ _ hK h1 ⟨⟨.row true ts l,s+1,anc⟩,List.getElem?_set_self (List.getElem?_eq_some_iff.1 hq).1,Nat.le_refl _,fun _ ow' ts' l' hh=> ?_⟩ h2 (fun e=>by cases e))
         cases hh
         exact⟨j1,j2,a',c',by simp [app],hnew⟩
        ·cases hK
       ·cases h
    |_=>cases h
   |_=>cases h
end
end
end Go.Proofs.YtpmjopbgccajgaaGreat.Eng
namespace Go.Proofs.YtpmjopbgccajgaaGreat.Eng
open Go.RowKit
section
variable {P:Program}
section
variable {R:Type} {G:Gh} {σ:St} {a:Act} {w:World} {K:AV→St→Option R} {r:R} {next:Act→World→Prop} {Q:Exit→Act→World→Prop} {o:Oper} {tab:List (Nat×TI)}
variable {soft:Bool} {Γ:List (Nat×Ent)} {call:Nat→List AV→St→(AV→St→Option R)→Option R} {k:Nat} {qt:Bool}
theorem q09i {own:Bool} {r0:Nat} {c:Nat→Nat→Option Value} {b:Nat}:∀(ts:Ty) (p kk:Nat),ts.flat=true→(∀j,j<ts.size→c b (p+j)=(q17 ts)[j]?)→elG c (qc4 G w r0 own) ts ts.dflt b p kk:=by
 intro ts
 induction ts with
 |cons t ts _ ih=>
  intro p kk hf hc
  have rest:∀z,q17 (.cons t ts)=z::q17 ts→ts.flat=true→qc4 G w r0 own kk t t.dflt z→elG c (qc4 G w r0 own) (.cons t ts) (Ty.cons t ts).dflt b p kk:=by
   intro z hz hf hcv
   refine⟨⟨z,?_,hcv⟩,ih (p+1) (kk+1) hf (fun j hj=> ?_)⟩
   ·have:=hc 0 (by simp [Ty.size]);rw [hz]at this;simpa using this
   ·have:=hc (j+1) (by simp only [Ty.size];omega)
    rw [hz]at this
    rw [show p+1+j=p+(j+1) by omega];simpa using this
  cases t with
  |bool=>exact rest _ rfl hf (by cases own<;>rfl)
  |int k=>exact rest _ rfl hf (by cases own<;>rfl)
  |str=>exact rest _ rfl hf (by cases own<;>rfl)
  |slice us=>
   refine rest (.slice none 0 0) rfl hf ?_
   cases own with
   |true=>exact⟨none,0,rfl,Nat.le_refl _,.inl rfl⟩
   |false=>exact⟨none,0,rfl,Nat.le_refl _,fun i hi=>absurd hi (by simp [Ty.dflt])⟩
  |_=>cases hf
 |_=>intro p kk _ _;trivial
theorem q0l6 {T:Nat} {own:Bool} {ts:Ty} {l:List ts.den} {cells:List Value} {σ0:St} (hR:RelR G σ0.roots w) (hsz:cells.length=List.length l*ts.size)
  (hc:∀(G':Gh) (w':World),(∀L,Lk G w G' w' L L)→∀i,i<List.length l→elG (fun b o=>if b=w.heap.size then cells[o]? else none) (qc4 G' w' σ0.roots.length own) ts (rd ts l i) w.heap.size (i*ts.size) (i*ts.size)):
  ∃G',RelR G' (q8i σ0 (.row own ts l)).roots (w.alloc (.cells cells.toArray T))∧Evo G σ0.roots w G' (q8i σ0 (.row own ts l)).roots (w.alloc (.cells cells.toArray T))∧
   (avR G' (q8i σ0 (.row own ts l)).roots (w.alloc (.cells cells.toArray T)) (.sl σ0.roots.length 0)).1 (.slice (some ⟨w.heap.size,0,none⟩) (List.length l) (List.length l)):=by
 have hF:=q0i0 (G:=G) (w:=w) σ0.roots.length (List.length l) (.cells cells.toArray T) (ex:=fun r=>σ0.roots.length≤r) (Nat.le_refl _)
 obtain⟨h1,h2⟩:=q049 (G':=qgj G σ0.roots.length w (List.length l)) (w':=w.alloc (.cells cells.toArray T)) (N:=[⟨.row own ts l,0,0⟩]) hR hF (fun hE j q hj=>by
  have e:j=0:=by have:=(List.getElem?_eq_some_iff.1 hj).1;simpa using this
  subst e
  simp at hj;subst hj
  show q8n _ _ _ _ _ _ ((qgj G σ0.roots.length w (List.length l)).anch (σ0.roots.length+0)).1 ((qgj G σ0.roots.length w (List.length l)).anch (σ0.roots.length+0)).2
  have ha:(qgj G σ0.roots.length w (List.length l)).anch (σ0.roots.length+0)=(some ⟨w.heap.size,0,none⟩,List.length l):=by simp [qgj]
  rw [ha]
  refine⟨Nat.le_refl _,.inr ⟨w.heap.size,0,rfl,fun j hj=>⟨by simp [qgj],q0lu,?_⟩,fun i hi=> ?_⟩⟩
  ·have hj:j<List.length l*ts.size:=hj
   rw [Nat.zero_add,q0if (by omega)];rfl
  ·have:=hc _ _ (q0nq σ0.roots.length (List.length l) (.cells cells.toArray T)) i hi
   rw [Nat.zero_add]
   refine qga ts _ _ _ _ _ _ _ (fun j v hj e=> ?_) (fun j _ t x v g=>g) this
   simp only [if_true]at e
   have hlt:i*ts.size+j<cells.length:=(List.getElem?_eq_some_iff.1 e).1
   rw [q0if hlt,List.getD_eq_getElem?_getD,e];rfl)
 refine⟨_,h1,h2,⟨.row own ts l,0,0⟩,by simp [q8i,qz0],Nat.le_refl _,fun _ ts' n hh=> ?_⟩
 cases hh
 simp [qgj]
theorem q0hi (zs:List Value) (n s j:Nat) (hz:zs.length=s) (hs:s≠0) (hj:j<n*s):(madeCells zs.toArray (n*s)).toList[j]? =zs[j % s]? :=by
 have hm:j % s<zs.length:=by rw [hz];exact Nat.mod_lt _ (by omega)
 simp [madeCells,hj,hz,List.getElem?_eq_getElem hm,hm]
theorem q0ds {T:Nat} {l c:Operand} (hT:q7w P tab) (ho:o.op= .makeSlice T l c) (hR:Rel G σ a w) (hn:Nxt false G σ w a o.dst K r next) (h:qa1 tab soft Γ call k o σ K=some r):o.wp P a w next Q:=by
 have hl:=hR.eval l
 have hc:=hR.eval c
 simp only [qa1,ho]at h
 split at h
 ·rename_i ts he
  have main:∀(n m:Int),σ.eval l= .val (.int .i64) n→σ.eval c= .val (.int .i64) m→br (fitN n) (br (eqI n m) (K (.sl σ.roots.length 0) (q8i σ (.row ts.1 ts.2 (qmb (q6 n) ts.2.dflt)))) none) none=some r→o.wp P a w next Q:=by
   intro n m e1 e2 h
   rw [e1]at hl
   rw [e2]at hc
   have hl:a.eval l= .int .i64 n:=hl
   have hc:a.eval c= .int .i64 m:=hc
   rcases q44 h with⟨hfit,h⟩|⟨_,h⟩
   ·rcases q44 h with⟨heq,hKK⟩|⟨_,h⟩
    ·have heq:n=m:=of_decide_eq_true heq
     subst heq
     obtain⟨f1,f2⟩:=and2 hfit
     have f1:(0:Int)≤n:=of_decide_eq_true f1
     have f2:q6 n<68719476736:=by
      have f2:Nat.ble 68719476736 (Int.toNat n)=false:=by simpa using f2
      rcases Nat.lt_or_ge (Int.toNat n) 68719476736 with h|h
      ·exact h
      ·rw [Nat.ble_eq_true_of_le h]at f2;cases f2
     obtain⟨e,j,hu,hj,hjc,_⟩:=q3x hT he
     obtain⟨I,i1,i2,i3⟩:=(hT e j hj).info
     obtain⟨I',z,z1,z2,z3⟩:=(hT e j hj).zero
     rw [i1]at z1;cases z1
     have hnn:((q6 n:Nat):Int)=n:=Int.toNat_of_nonneg f1
     have hb:(I.bytes:Int)*n≤281474976710656:=by
      have:I.bytes*q6 n≤512*68719476736:=Nat.mul_le_mul i3 (Nat.le_of_lt f2)
      rw [←hnn]
      have h2:((I.bytes*q6 n:Nat):Int)≤281474976710656:=by omega
      rwa [Int.natCast_mul]at h2
     have hrun:=run_make (P:=P) w T e I z hu i1 z2 .i64 .i64 n n f1 (Int.le_refl _) hb (by omega)
     have hflat:ts.2.flat=true:=hjc▸(hT e j hj).flat
     have hzl:(q17 ts.2).length=ts.2.size:=qyj _
     have hpos:ts.2.size≠0:=hjc▸(hT e j hj).pos
     have hIs:I.size=ts.2.size:=by rw [i2,hjc]
     rw [z3,hjc,hIs]at hrun
     have hlen:List.length (qmb (q6 n) ts.2.dflt)=q6 n:=by simp [qmb]
     obtain⟨G',g1,g2,g3⟩:=q0l6 (T:=e) (own:=ts.1) (l:=qmb (q6 n) ts.2.dflt) (cells:=(madeCells (q17 ts.2).toArray (q6 n*ts.2.size)).toList) hR.roots (by rw [hlen];simp [size_madeCells]) (fun G' w' _ i hi=>by
      rw [hlen]at hi
      have hrd:rd ts.2 (qmb (q6 n) ts.2.dflt) i=ts.2.dflt:=by simp [rd,qmb,List.getD_eq_getElem?_getD,hi]
      rw [hrd]
      refine q09i ts.2 _ _ hflat (fun j hj=> ?_)
      simp only [if_true]
      have hlt:i*ts.2.size+j<q6 n*ts.2.size:=qvf hi (Nat.le_refl _) hj
      rw [q0hi _ _ _ _ hzl hpos hlt,Nat.mul_comm,Nat.mul_add_mod,Nat.mod_eq_of_lt hj])
     rw [hlen]at g3
     refine q4l (x:= .slice (some ⟨w.heap.size,0,none⟩) (q6 n) (q6 n)) ?_ (hn _ _ G' _ _ hKK g1 g3 g2 (fun e=>by cases e))
     simp only [execOp,ho,hl,hc,Sem.run_bind,hrun]
     rfl
    ·cases h
   ·cases h
  split at h
  ·rename_i n m e1 e2
   exact main n m e1 e2 h
  ·cases h
 ·cases h
theorem q09j (zs:List Value) (n s j:Nat) (hz:zs.length=s) (hs:s≠0) (hj:j<n*s):(Builtin.zeroCells zs.toArray n).toList[j]? =zs[j % s]? :=by
 have hm:j % s<zs.length:=by rw [hz];exact Nat.mod_lt _ (by omega)
 simp [Builtin.zeroCells,hj,hz,List.getElem?_eq_getElem hm,hm]
theorem q0ng {x:Operand} {Ts:Array TypeId} (hT:q7w P tab) (ho:o.op= .call ⟨.builtin .clear,#[x],Ts⟩) (hR:Rel G σ a w) (hn:Nxt false G σ w a o.dst K r next)
  (h:q4r .clear (q0gs tab .clear Ts.toList) [σ.eval x] σ K=some r):o.wp P a w next Q:=by
 have hx:=hR.eval x
 generalize σ.eval x=av at h hx
 cases av with
 |tl r' a' lo=>
  simp only [q4r]at h
  split at h
  ·rename_i us ts l ver anc hus hq
   obtain⟨hab,h⟩:=qw h
   have hab:=qd hab
   split at h
   ·rename_i y hy
    obtain⟨ey,gy⟩:=qsm hy
    obtain⟨T,hTs,he⟩:∃T,Ts= #[T]∧qa3 tab T=some us:=by
     simp only [q0gs]at hus
     split at hus
     ·rename_i T hTs;exact⟨T,Array.ext' hTs,hus⟩
     ·cases hus
    obtain⟨e,j,hu,hj,hjc,_⟩:=q3x hT he
    obtain⟨I,z,z1,z2,z3⟩:=(hT e j hj).zero
    have hflat:us.2.flat=true:=hjc▸(hT e j hj).flat
    have hpos:us.2.size≠0:=hjc▸(hT e j hj).pos
    rw [hjc]at z3
    obtain⟨ub,u2⟩:=us
    subst ey
    have gy:u2.dflt=y:=gy
    subst gy
    simp only at hflat hpos z3
    have hzl:(q17 u2).length=u2.size:=qyj _
    obtain⟨q,hq',_,g⟩:=hx
    rw [hq]at hq';cases hq'
    obtain⟨hlo,ev⟩:=g hab.symm u2 (List.length l) rfl
    have hrow:q8n G w (qea (vw G w)) (.of r' 0) u2 l (G.anch r').1 (G.anch r').2:=hR.roots r' _ hq
    have hdl:(dp l lo).length=List.length l-lo:=qeh
    by_cases h0:List.length l-lo=0
    ·have hl':app (tk l lo) (qmb (dp l lo).length u2.dflt)=l:=by
      rw [hdl,h0]
      have:List.length l≤lo:=by omega
      simp [app,tk,qmb,List.take_of_length_le this]
     rw [hl']at h
     obtain⟨h1,h2⟩:=qca (G':=G) (w':=w) (q':=⟨.row false u2 l,ver+1,anc⟩) hR.roots hq (Fr.refl _ _ _) (RLe.row' (fun _ _ e=>by cases e) (fun _ _ e=>by cases e) (Nat.lt_succ_self _) (Nat.le_refl _) (fun _=> .inr ⟨rfl,rfl⟩)) (fun _=>hrow)
     refine q4l (x:= .tuple #[]) (w':=w) ?_ (hn (.tup .nil) (σ.roots.set r' ⟨.row false u2 l,ver+1,anc⟩) G (.tuple #[]) w h h1 ⟨[],rfl,rfl⟩ h2 (fun e=>by cases e))
     rw [h0]at ev
     have hrun:(Builtin.clear_ #[T] o.type #[a.eval x]).run P w= .ok (.tuple #[]) w:=by
      rw [ev]
      generalize (if (G.anch r').2=lo then(G.anch r').1 else((G.anch r').1).map (·.add (lo*u2.size)))=ad
      cases ad<;>simp [Builtin.clear_,run_underlying hu]
     simp [execOp,ho,hTs,resolve,invoke,builtin,hrun]
    ·obtain⟨hr1,hr2⟩:=hrow
     rcases hr2 with hr2|⟨b,p,ea,hc,hel⟩
     ·omega
     ·have hcap:(G.anch r').2≠lo:=by omega
      rw [if_neg hcap,ea]at ev
      have ev:a.eval x= .slice (some ⟨b,p+lo*u2.size,none⟩) (List.length l-lo) ((G.anch r').2-lo):=by rw [ev];simp [qlc]
      have hbound:∀m,m<(List.length l-lo)*u2.size→lo*u2.size+m<List.length l*u2.size:=fun m hm=>by
       have:lo*u2.size+(List.length l-lo)*u2.size=List.length l*u2.size:=by rw [←Nat.add_mul];congr 1;omega
       omega
      have hle:List.length l*u2.size≤(G.anch r').2*u2.size:=Nat.mul_le_mul_right _ hr1
      have hzlen:(Builtin.zeroCells (q17 u2).toArray (List.length l-lo)).toList.length=(List.length l-lo)*u2.size:=by simp [Builtin.zeroCells,hzl]
      generalize hvs:(Builtin.zeroCells (q17 u2).toArray (List.length l-lo)).toList=vs at hzlen
      have hgetv:∀j,j<vs.length→vs[j]? =(q17 u2)[j % u2.size]? :=fun j hj=>by
       rw [←hvs];exact q09j _ _ _ _ hzl hpos (by omega)
      have hcc:∀j,j<vs.length→(at_ w b (p+lo*u2.size+j)).isSome=true∧w.frozen? ⟨b,p+lo*u2.size+j,none⟩=false∧G.own b (p+lo*u2.size+j)= .of r' 0:=fun j hj=>by
       have h1:=hbound j (by omega)
       obtain⟨c1,c2,c3⟩:=hc (lo*u2.size+j) (by omega)
       rw [←Nat.add_assoc]at c1 c2 c3
       exact⟨c3,c2,c1⟩
      have h1c:∀v∈vs,v.oneCell'=true:=by
       intro v hv
       obtain⟨j,hj,e⟩:=List.mem_iff_getElem.1 hv
       have hg:=hgetv j hj
       rw [List.getElem?_eq_getElem hj,e]at hg
       have hm:v∈q17 u2:=List.mem_of_getElem? hg.symm
       have:∀(ts:Ty),ts.flat=true→∀v∈q17 ts,v.oneCell'=true:=by
        intro ts
        induction ts with
        |cons t ts _ ih=>
         intro hf v hv
         cases t with
         |bool=>rcases List.mem_cons.1 hv with e|hv;(· subst e;rfl);(· exact ih hf v hv)
         |int k=>rcases List.mem_cons.1 hv with e|hv;(· subst e;rfl);(· exact ih hf v hv)
         |str=>rcases List.mem_cons.1 hv with e|hv;(· subst e;rfl);(· exact ih hf v hv)
         |slice us=>rcases List.mem_cons.1 hv with e|hv;(· subst e;rfl);(· exact ih hf v hv)
         |_=>cases hf
        |_=>intro _ v hv;cases hv
       exact this u2 hflat v hm
      have hst:=run_storeCells_cells (P:=P) b (p+lo*u2.size) vs 0 w (fun j hj=>by simpa [at_]using (hcc j hj).1) (fun j hj=>by simpa using (hcc j hj).2.1) h1c
      simp only [Nat.add_zero]at hst
      have hrun:(Builtin.clear_ #[T] o.type #[a.eval x]).run P w= .ok (.tuple #[]) (w.setCells b (p+lo*u2.size) vs):=by
       rw [ev]
       obtain⟨m,hm⟩:∃m,List.length l-lo=m+1:=⟨List.length l-lo-1,by omega⟩
       rw [hm]at hvs ⊢
       simp [Builtin.clear_,run_underlying hu,zeroValue,typeInfo,z1,z2,z3,hvs,hst]
      have hlen:List.length (app (tk l lo) (qmb (dp l lo).length u2.dflt))=List.length l:=by
       simp only [app,List.length_append,qoj hlo,qmb,List.length_replicate,qeh];omega
      have hlk:=q0e0 (w:=w) (G:=G) (L0:= .of r' 0) (b:=b) (p:=p+lo*u2.size) (vs:=vs) (fun j hj=>(hcc j hj).2.2)
      obtain⟨h1,h2⟩:=qca (G':=G) (w':=w.setCells b (p+lo*u2.size) vs) (q':=⟨.row false u2 (app (tk l lo) (qmb (dp l lo).length u2.dflt)),ver+1,anc⟩) hR.roots hq (q0et (fun m hm=>⟨0,(hcc m hm).2.2⟩))
       (RLe.row' (fun _ _ e=>by cases e) (fun _ _ e=>by cases e) (Nat.lt_succ_self _) (Nat.le_refl _) (fun _=> .inr ⟨by simp only [RK.hd,hlen],rfl⟩)) (fun hE=>by
        refine⟨by rw [hlen];exact hr1,.inr ⟨b,p,ea,fun m hm=> ?_,fun i hi=> ?_⟩⟩
        ·obtain⟨c1,c2,c3⟩:=hc m hm
         refine⟨c1,by rw [World.frozen?_setCells];exact c2,?_⟩
         by_cases hlt:lo*u2.size≤m∧m<lo*u2.size+vs.length
         ·have:=qkq (w:=w) (b:=b) (p:=p+lo*u2.size) (vs:=vs) (fun j hj=>(hcc j hj).1) (m-lo*u2.size) (by omega)
          rw [show p+lo*u2.size+(m-lo*u2.size)=p+m by omega]at this
          rw [this];rfl
         ·rw [q6n (by omega)];exact c3
        ·rw [hlen]at hi
         by_cases hil:i<lo
         ·have hrd:rd u2 (app (tk l lo) (qmb (dp l lo).length u2.dflt)) i=rd u2 l i:=by
           simp only [rd,app,tk,List.getD_eq_getElem?_getD]
           rw [List.getElem?_append_left (by simp;omega),List.getElem?_take_of_lt hil]
          rw [hrd]
          refine q3c u2 _ b _ _ (fun m v hm e'=> ?_) (fun k t x v g=>q4j (qv3 hE) k k t x v g) (hel i hi)
          have:=qvf hil (Nat.le_refl _) hm
          rw [q6n (by omega)];exact e'
         ·have hrd:rd u2 (app (tk l lo) (qmb (dp l lo).length u2.dflt)) i=u2.dflt:=by
           simp only [rd,app,tk,qmb,List.getD_eq_getElem?_getD]
           rw [List.getElem?_append_right (by simp;omega)]
           simp only [List.length_take,List.getElem?_replicate]
           split<;>rfl
          rw [hrd]
          have hz:=q09i (G:=G) (w:=w.setCells b (p+lo*u2.size) vs) (own:=false) (r0:=r') (c:=at_ (w.setCells b (p+lo*u2.size) vs)) (b:=b) u2 (p+i*u2.size) (i*u2.size) hflat (fun j hj=>by
           have e1:i*u2.size=lo*u2.size+(i-lo)*u2.size:=by rw [←Nat.add_mul];congr 1;omega
           have hlt:(i-lo)*u2.size+j<(List.length l-lo)*u2.size:=qvf (by omega) (Nat.le_refl _) hj
           have:=qkq (w:=w) (b:=b) (p:=p+lo*u2.size) (vs:=vs) (fun j hj=>(hcc j hj).1) ((i-lo)*u2.size+j) (by omega)
           rw [show p+lo*u2.size+((i-lo)*u2.size+j)=p+i*u2.size+j by omega]at this
           rw [this]
           have hg:=hgetv ((i-lo)*u2.size+j) (by omega)
           rw [Nat.mul_comm,Nat.mul_add_mod,Nat.mod_eq_of_lt hj,Nat.mul_comm]at hg
           rw [List.getD_eq_getElem?_getD,hg]
           have:j<(q17 u2).length:=by omega
           simp [List.getElem?_eq_getElem this])
          exact hz)
      refine q4l (x:= .tuple #[]) (w':=w.setCells b (p+lo*u2.size) vs) ?_ (hn (.tup .nil) (σ.roots.set r' ⟨.row false u2 (app (tk l lo) (qmb (dp l lo).length u2.dflt)),ver+1,anc⟩) G (.tuple #[]) _ h h1 ⟨[],rfl,rfl⟩ h2 (fun e=>by cases e))
      simp [execOp,ho,hTs,resolve,invoke,builtin,hrun]
   ·cases h
  ·cases h
 |_=>cases h
def q013 (σ:St) (s:Nat):List (Nat×Operand)→List (Nat×Nat)
 | []=>[]
 |(i,x)::ps=>q0fb σ.roots (cellsOf σ (σ.eval x)) (i*s)++q013 σ s ps
theorem qvg {s:Nat}:∀(ps:List (Nat×Operand)),(q013 σ s ps).map Prod.fst=q9m σ ps
 | []=>rfl
 |(i,x)::ps=>by
  have:=q08q (tm:=σ.tmps) (Rs:=σ.roots) (cellsOf σ (σ.eval x)) (i*s)
  simp only [q013,q9m,List.map_append,qvg ps]
  rw [this]
theorem qvc:∀(ps:List (Nat×Operand)) (r:Nat),r∈q9m σ ps→∀q,σ.roots[r]? =some q→q096 q.k=true
 |(i,x)::ps,r,h,q,hq=>by
  simp only [q9m,List.mem_append]at h
  rcases h with h|h
  ·exact q08v (tm:=σ.tmps) _ r h q hq
  ·exact qvc ps r h q hq
theorem q0at {T n:Nat} {ps:Array (Nat×Operand)} (hT:q7w P tab) (ho:o.op= .buildSlice T n ps) (hR:Rel G σ a w) (hn:Nxt false G σ w a o.dst K r next) (h:qa1 tab soft Γ call k o σ K=some r):o.wp P a w next Q:=by
 simp only [qa1,ho]at h
 split at h
 ·rename_i ts he
  split at h
  ·rename_i l hl
   obtain⟨hok,hKK⟩:=qw h
   obtain⟨hok1,hok2⟩:=and2 hok
   have hok2:=qab hok2
   obtain⟨e,j,hu,hj,hjc,_⟩:=q3x hT he
   obtain⟨I,i1,i2,i3⟩:=(hT e j hj).info
   obtain⟨I',z,z1,z2,z3⟩:=(hT e j hj).zero
   rw [i1]at z1;cases z1
   have hflat:ts.2.flat=true:=hjc▸(hT e j hj).flat
   have hzl:(q17 ts.2).length=ts.2.size:=qyj _
   have hpos:ts.2.size≠0:=hjc▸(hT e j hj).pos
   have hIs:I.size=ts.2.size:=by rw [i2,hjc]
   rw [hjc]at z3
   have htr:=qvg (σ:=σ) (s:=ts.2.size) ps.toList
   generalize hL:q013 σ ts.2.size ps.toList=L at htr
   have hnd:ts.1=true→(L.map Prod.fst).Nodup:=fun e=>by
    rw [htr]
    rw [e]at hok1
    exact qby.1 (by simpa [q0m1]using hok1)
   obtain⟨g1,g2⟩:=qyx (G:=G) (w:=w) (own:=ts.1) (rs:=q9m σ ps.toList) (τ:=qiq ts.1 σ.roots.length L) hR.roots (fun s hs q hq=>qvc _ s hs q hq) (fun s hs m=>by simp [qiq,q012 (htr▸hs)]) (fun e s hs m=>by
    obtain⟨k',hk'⟩:=qqg (htr▸hs)
    simp [qiq,hk',e])
   have key:∀(ps:List (Nat×Operand)) (l0 l:List ts.2.den) (c0:List Value),(∀p∈q013 σ ts.2.size ps,p∈L)→q0cl σ ts.1 ts.2 ps l0=some l→List.length l0=n→c0.length=n*ts.2.size→
     (∀i,i<n→elG (fun _ o=>c0[o]?) (qc4 (q1m G (qiq ts.1 σ.roots.length L)) w σ.roots.length ts.1) ts.2 (rd ts.2 l0 i) w.heap.size (i*ts.2.size) (i*ts.2.size))→
     ∃c1:List Value,Instr.fill (fun i=>some (i*ts.2.size,ts.2.size)) c0.toArray (ps.map fun (j,x)=>(j,a.eval x))=some c1.toArray∧List.length l=n∧c1.length=n*ts.2.size∧
      ∀i,i<n→elG (fun _ o=>c1[o]?) (qc4 (q1m G (qiq ts.1 σ.roots.length L)) w σ.roots.length ts.1) ts.2 (rd ts.2 l i) w.heap.size (i*ts.2.size) (i*ts.2.size):=by
    intro ps
    induction ps with
    |nil=>intro l0 l c0 _ h hl hc hel;cases h;exact⟨c0,rfl,hl,hc,hel⟩
    |cons p ps ih=>
     obtain⟨j,x⟩:=p
     intro l0 l c0 hp h hl hc hel
     simp only [q0cl]at h
     split at h
     ·rename_i y hy
      obtain⟨hb,h⟩:=qw h
      obtain⟨hb1,hb2⟩:=and2 hb
      have hb1:=qd hb1
      have hb2:j<List.length l0:=by
       have:Nat.blt j (List.length l0)=true:=hb2
       exact Nat.lt_of_lt_of_le (Nat.lt_succ_self j) (Nat.le_of_ble_eq_true this)
      obtain⟨vs,e1,e2,e3,e4⟩:=qc5 (tm:=σ.tmps) hR.roots (by rw [hb1];exact hpos) (hR.eval x)
      have hvl:vs.length=ts.2.size:=e2.trans hb1
      have hfit:j*ts.2.size+vs.length≤c0.length:=by
       rw [hc,hvl]
       have:(j+1)*ts.2.size≤n*ts.2.size:=Nat.mul_le_mul_right _ (by omega)
       rw [Nat.add_mul,Nat.one_mul]at this;omega
      have hel':∀i,i<n→elG (fun _ o=>(over c0 (j*ts.2.size) vs)[o]?) (qc4 (q1m G (qiq ts.1 σ.roots.length L)) w σ.roots.length ts.1) ts.2 (rd ts.2 (l0.set j y) i) w.heap.size (i*ts.2.size) (i*ts.2.size):=by
       intro i hi
       by_cases hij:i=j
       ·subst hij
        have hrd:rd ts.2 (l0.set i y) i=y:=by simp [rd,List.getD_eq_getElem?_getD,hb2]
        rw [hrd]
        have hT1:q08n σ.roots ts.1 σ.roots.length (qiq ts.1 σ.roots.length L) (cellsOf σ (σ.eval x)) (i*ts.2.size):=q0ra hnd _ _ (fun p hp'=>hp p (List.mem_append_left _ hp'))
        have hz:=q09i (G:=q1m G (qiq ts.1 σ.roots.length L)) (w:=w) (own:=ts.1) (r0:=σ.roots.length) (c:=fun _ o=>(q17 ts.2)[o-i*ts.2.size]?) (b:=w.heap.size) ts.2 (i*ts.2.size) (i*ts.2.size) hflat (fun j _=>by simp)
        refine qmi (tm:=σ.tmps) (c:=fun _ o=>(q17 ts.2)[o-i*ts.2.size]?) (c':=fun _ o=>(over c0 (i*ts.2.size) vs)[o]?) hR.roots ts.2 ts.2.dflt y 0 (i*ts.2.size) (i*ts.2.size) _ vs hy e3 hT1 hz (fun m hm=> ?_)
        rw [if_pos ⟨Nat.zero_le _,by omega⟩,q0ch hfit,if_pos (by omega),Nat.add_sub_cancel_left,Nat.sub_zero,List.getD_eq_getElem?_getD]
        have hm':m<vs.length:=by omega
        rw [List.getElem?_eq_getElem hm'];rfl
       ·have hrd:rd ts.2 (l0.set j y) i=rd ts.2 l0 i:=by simp [rd,List.getD_eq_getElem?_getD,List.getElem?_set_ne (Ne.symm hij)]
        rw [hrd]
        refine q3c ts.2 _ _ _ _ (fun m v hm e'=> ?_) (fun _ _ _ _ g=>g) (hel i hi)
        have:=qsj (f:=0) (n:=vs.length) hij hm (by omega)
        simp only [q0ch hfit]
        rw [if_neg (by omega)];exact e'
      obtain⟨c1,f1,f2,f3,f4⟩:=ih (l0.set j y) l (over c0 (j*ts.2.size) vs) (fun p hp'=>hp p (List.mem_append_right _ hp')) h (by simpa using hl) (by rw [q0nr hfit];exact hc) hel'
      ·refine⟨c1,?_,f2,f3,f4⟩
       simp only [List.map_cons,Instr.fill]
       rw [if_neg (by (simp [e1,hvl])<;>omega),e1,q0ey hfit]
       exact f1
     ·cases h
   have hlr:List.length (List.replicate n ts.2.dflt)=n:=by simp
   obtain⟨c1,f1,f2,f3,f4⟩:=key ps.toList (List.replicate n ts.2.dflt) l (madeCells (q17 ts.2).toArray (n*ts.2.size)).toList (fun p hp=>hL▸hp) hl hlr (by simp [size_madeCells]) (fun i hi=>by
    have hrd:rd ts.2 (List.replicate n ts.2.dflt) i=ts.2.dflt:=by simp [rd,List.getD_eq_getElem?_getD,hi]
    rw [hrd]
    refine q09i ts.2 _ _ hflat (fun j hj=> ?_)
    have hlt:i*ts.2.size+j<n*ts.2.size:=qvf hi (Nat.le_refl _) hj
    rw [q0hi _ _ _ _ hzl hpos hlt,Nat.mul_comm,Nat.mul_add_mod,Nat.mod_eq_of_lt hj])
   have hrun:(Instr.buildSlice T n (ps.map fun (i,x)=>(i,a.eval x))).run P w= .ok (.slice (some ⟨w.heap.size,0,none⟩) n n) (w.alloc (.cells c1.toArray e)):=by
    have hps:(ps.map fun (i,x)=>(i,a.eval x)).toList=ps.toList.map fun (j,x)=>(j,a.eval x):=by simp
    by_cases h0:n=0
    ·subst h0
     have f1':Instr.fill (fun i=>some (i*ts.2.size,ts.2.size)) #[] (ps.map fun (i,x)=>(i,a.eval x)).toList=some c1.toArray:=by
      rw [hps]
      have e0:(madeCells (q17 ts.2).toArray (0*ts.2.size)).toList.toArray= #[]:=by simp [madeCells]
      rw [e0]at f1;exact f1
     have e1:(Array.range 0:Array Nat)= #[]:=rfl
     have f1':Instr.fill (fun i=>some (i*ts.2.size,ts.2.size)) #[] (List.map (fun x=>(x.fst,a.eval x.snd)) ps.toList)=some c1.toArray:=by simpa using f1'
     simp [Instr.buildSlice,run_underlying hu,sizeOf,typeInfo,i1,hIs,newRow,e1,f1']
    ·have hne:¬n*I.size=0:=by rw [hIs];intro e0;rcases Nat.mul_eq_zero.1 e0 with e1|e1;(· exact h0 e1);(· exact hpos e1)
     refine run_buildSlice (P:=P) w T e n _ c1.toArray I z hu i1 z2 (by rw [hIs];omega) hne ?_
     rw [hps,hIs,z3]
     rw [Array.toArray_toList]at f1
     exact f1
   obtain⟨G',k1,k2,k3⟩:=q0l6 (G:=q1m G (qiq ts.1 σ.roots.length L)) (σ0:=eat ts.1 σ (q9m σ ps.toList)) (T:=e) (own:=ts.1) (l:=l) (cells:=c1) g1 (by rw [f2];exact f3) (fun G' w' hF i hi=>by
    rw [f2]at hi
    have hlen:(eat ts.1 σ (q9m σ ps.toList)).roots.length=σ.roots.length:=quv _ _ _
    rw [hlen]
    exact q3c ts.2 _ _ _ _ (fun m v hm e'=>by simpa using e') (fun k t x v g=>qmr ts.1 (q6s (hF .free)) (fun _=>hF _) t x v g) (f4 i hi))
   rw [quv,f2]at k3
   have hK':K (.sl σ.roots.length 0) ⟨σ.tmps,(q8i (eat ts.1 σ (q9m σ ps.toList)) (.row ts.1 ts.2 l)).roots⟩=some r:=by
    have e0:q8i (eat ts.1 σ (q9m σ ps.toList)) (.row ts.1 ts.2 l)=⟨σ.tmps,(q8i (eat ts.1 σ (q9m σ ps.toList)) (.row ts.1 ts.2 l)).roots⟩:=by simp [q8i,qz0,qnf]
    rw [←e0];exact hKK
   refine q4l (x:= .slice (some ⟨w.heap.size,0,none⟩) n n) ?_ (hn _ _ G' _ _ hK' k1 k3 (g2.trans k2) (fun e=>by cases e))
   simp only [execOp,ho,Sem.run_bind,hrun]
   rfl
  ·cases h
 ·cases h
end
end
end Go.Proofs.YtpmjopbgccajgaaGreat.Eng
namespace Go.Proofs.YtpmjopbgccajgaaGreat.Eng
open Go.RowKit
def qkk (G:Gh) (w:World) (sm:Nat) (t:Ty) (x:t.den) (v:Value) (p:Nat×Nat):Prop:=match q5f sm t with
 |false=>(ro (vw G w) t).1 x v
 |true=>match t,x with
  | .slice us,x=>∃a c,v= .slice a (List.length x) c∧q8n G w (qc4 G w p.1 (Nat.beq sm 2&&us.hasSl)) (.of p.1 p.2) us x a c∧((Nat.beq sm 2&&us.hasSl)=true→p.2=0)
  |_,_=>False
def qmp (G:Gh) (w:World) (sm:Nat):(ts:Ty)→ts.den→List Value→List (Nat×Nat)→Prop
 | .cons t ts,x,vs,L=>∃v vs',vs=v::vs'∧qkk G w sm t x.1 v (L.headD (0,0))∧qmp G w sm ts x.2 vs' (L.drop (q1w sm t))
 | .nil,_,vs,_=>vs=[]
 |_,_,_,_=>False
def hOne (G:Gh) (w:World) (m:Md) (t:Ty) (x:t.den) (v:Value) (L:List (Nat×Nat)):Prop:=match m.ptr with
 |true=>∃b o vs,v= .pointer (some ⟨b,o,none⟩)∧vs.length=t.size∧(L.headD (0,0)).2=0∧(∀f,f<t.size→G.own b (o+f)= .of (L.headD (0,0)).1 0∧w.frozen? ⟨b,o+f,none⟩=false∧at_ w b (o+f)=some (vs.getD f undef))∧qmp G w m.sm t x vs (L.drop 1)
 |false=>match qbz t with
  |true=>∃vs:List Value,v= .agg vs.toArray∧qmp G w m.sm t x vs L
  |false=>qkk G w m.sm t x v (L.headD (0,0))
def qyf (G:Gh) (w:World):(ts:Ty)→ts.den→List Md→List Value→List (Nat×Nat)→Prop
 | .cons t ts,x,m::ms,v::vs,L=>hOne G w m t x.1 v L∧qyf G w ts x.2 ms vs (L.drop (q0l m t))
 | .nil,_,[],[],_=>True
 |_,_,_,_,_=>False
def Tgt (G:Gh) (w:World) (R:List Root) (G':Gh):Sr→Nat×Nat→Prop
 | .nul,p=>p.2=0
 | .row r,p=>p.2=0∧∀s,Lk G w G' w (.of r s) (.of p.1 s)
 | .inn r i f,p=>∀o ts l v a,R[r]? =some ⟨.row o ts l,v,a⟩→Lk G w G' w (.of r (i*ts.size+f+1)) (.of p.1 p.2)
 | .box r f n,p=>p.2=0∧∀b o,(G.anch r).1=some ⟨b,o,none⟩→∀j,j<n→b<w.heap.size→G.own b (o+f+j)= .of r 0→G'.own b (o+f+j)= .of p.1 0
section
variable {G G':Gh} {w:World} {Rs:List Root} {tm:List AV}
theorem qte {r s:Nat} {us:Ty} {m:List us.den} {a:Option Addr} {n:Nat} (hf:Lk G w G' w .free .free) (hr:Lk G w G' w (.of r s) .free) (h:q8n G w (qea (vw G w)) (.of r s) us m a n):
  (ro (vw G' w) (.slice us)).1 m (.slice a (List.length m) n):=by
 refine⟨a,n,rfl,h.1,fun i hi=> ?_⟩
 obtain⟨b,p,ea,h1,h2⟩:=q4u h hi
 refine⟨b,p,ea,(q09a us _ b _ (i*us.size)).2 (q3c us _ b _ _ (fun j v hj e=> ?_) (fun k t x v g=>q4j (q6s hf) k k t x v g) h2)⟩
 exact qsu.2 ⟨(hr _ _ (q1z e) (h1 j hj).1).1,e⟩
theorem q0rd {u:Nat→Nat→Option Value} {ts:Ty} {l:List ts.den} {n:Nat} {a:Option Addr} {c:Nat} (hn:n≤List.length l) (h:(ro u (.slice ts)).1 l (.slice a (List.length l) c)):(ro u (.slice ts)).1 (tk l n) (.slice a n c):=by
 obtain⟨a0,c0,e0,hc,hh⟩:=h
 cases e0
 exact q0aq hn (by omega) hh
theorem q0rf {u:Nat→Nat→Option Value} {ts:Ty} {l:List ts.den} {n:Nat} {a:Option Addr} {c:Nat} (hn:n≤List.length l) (h:(ro u (.slice ts)).1 l (.slice a (List.length l) c)):
  (ro u (.slice ts)).1 (dp l n) (.slice (if c=n then a else a.map (·.add (n*ts.size))) (List.length l-n) (c-n)):=by
 obtain⟨a0,c0,e0,hc,hh⟩:=h
 cases e0
 exact q0kd hn hc hh
theorem q0n0 (hR:RelR G Rs w) (hf:Lk G w G' w .free .free) {av:AV} {l:(ts:Ty)×List ts.den} {v:Value} (h:q3u ⟨tm,Rs⟩ av=some l) (hv:(avR G Rs w av).1 v)
  (hro:∀r∈ql1 ⟨tm,Rs⟩ 0 (.slice .nil) av,∀s,Lk G w G' w (.of r s) .free):(ro (vw G' w) (.slice l.1)).1 l.2 v:=by
 have hu:=q6s hf
 cases av with
 |val t x=>
  cases t with
  |slice us=>cases h;exact(q8t hu (.slice us)).1 _ _ hv
  |_=>cases h
 |nl us=>cases h;obtain⟨a,e⟩:=hv;exact⟨a,0,e,Nat.le_refl _,fun i hi=>absurd hi (by simp)⟩
 |sl r a=>
  obtain⟨q,hq,hle,g⟩:=hv
  simp only [q3u,hq]at h
  obtain⟨k,ver,anc⟩:=q
  have hk:=hR r _ hq
  cases k with
  |row ow us m=>
   simp only at h
   split at h
   ·rename_i hab
    cases h
    rw [g (qd hab).symm us (List.length m) rfl]
    exact qmh hf (hro r (by simp [ql1,q5f,hq])) hk
   ·cases h
  |fro us m=>
   simp only at h
   split at h
   ·rename_i hab
    cases h
    rw [g (qd hab).symm us (List.length m) rfl]
    exact(q8t hu (.slice us)).1 _ _ hk
   ·cases h
  |_=>cases h
 |hd r a n=>
  obtain⟨q,hq,hle,g⟩:=hv
  simp only [q3u,hq]at h
  obtain⟨k,ver,anc⟩:=q
  have hk:=hR r _ hq
  cases k with
  |row ow us m=>
   simp only at h
   split at h
   ·rename_i hab
    cases h
    obtain⟨hn,e⟩:=g (qd hab).symm us (List.length m) rfl
    rw [e]
    exact q0rd hn (qmh hf (hro r (by simp [ql1,q5f,hq])) hk)
   ·cases h
  |fro us m=>
   simp only at h
   split at h
   ·rename_i hab
    cases h
    obtain⟨hn,e⟩:=g (qd hab).symm us (List.length m) rfl
    rw [e]
    exact q0rd hn ((q8t hu (.slice us)).1 _ _ hk)
   ·cases h
  |_=>cases h
 |tl r a n=>
  obtain⟨q,hq,hle,g⟩:=hv
  simp only [q3u,hq]at h
  obtain⟨k,ver,anc⟩:=q
  have hk:=hR r _ hq
  cases k with
  |row ow us m=>
   simp only at h
   split at h
   ·rename_i hab
    cases h
    obtain⟨hn,e⟩:=g (qd hab).symm us (List.length m) rfl
    rw [e]
    exact q0rf hn (qmh hf (hro r (by simp [ql1,q5f,hq])) hk)
   ·cases h
  |fro us m=>
   simp only at h
   split at h
   ·rename_i hab
    cases h
    obtain⟨hn,e⟩:=g (qd hab).symm us (List.length m) rfl
    rw [e]
    exact q0rf hn ((q8t hu (.slice us)).1 _ _ hk)
   ·cases h
  |_=>cases h
 |il r s i f=>
  have hil:=hv
  obtain⟨q,hq,hle,g⟩:=hv
  simp only [q3u,hq]at h
  obtain⟨k,ver,anc⟩:=q
  cases k with
  |row ow us m=>
   cases ow with
   |false=>cases h
   |true=>
    simp only at h
    split at h
    ·rename_i hab
     obtain⟨vs,n⟩:=l
     obtain⟨_,_,a1,n1,e1,e2⟩:=qkj hR hq (qd hab).symm h hil
     rw [e1]
     exact qte hf (hro r (by simp [ql1,q5f,hq]) _) e2
    ·cases h
  |_=>cases h
 |pd r s i f us m=>
  obtain⟨q,hq,hle,g⟩:=hv
  simp only [q3u,hq]at h
  obtain⟨k,ver,anc⟩:=q
  cases k with
  |row ow vs n=>
   cases ow with
   |false=>cases h
   |true=>
    simp only at h
    split at h
    ·rename_i hab
     cases h
     obtain⟨_,_,a1,n1,e1,e2⟩:=g (qd hab).symm true vs n rfl
     rw [e1]
     exact qte hf (hro r (by simp [ql1,q5f,hq]) _) e2
    ·cases h
  |_=>cases h
 |_=>cases h
theorem qmj {sm:Nat} {t:Ty} (h:q5f sm t=true):∃us,t= .slice us:=by
 cases t with
 |slice us=>exact⟨us,rfl⟩
 |_=>simp [q5f,Ty.isSl]at h
theorem q0dl {sm:Nat} {t:Ty} {av:AV} (h:q5f sm t=false):ql1 ⟨tm,Rs⟩ sm t av=ql1 ⟨tm,Rs⟩ 0 (.slice .nil) av:=by
 unfold ql1;rw [h];rfl
theorem q0hd (hR:RelR G Rs w) (hf:Lk G w G' w .free .free) {sm:Nat} {t:Ty} {av:AV} {x:t.den} {v:Value} (h:qof ⟨tm,Rs⟩ sm t av=some x) (hv:(avR G Rs w av).1 v)
  (hro:∀r∈ql1 ⟨tm,Rs⟩ sm t av,∀s,Lk G w G' w (.of r s) .free) (p:Nat×Nat) (hs:∀s∈q24 sm t av,Tgt G w Rs G' s p):qkk G' w sm t x v p:=by
 have hu:=q6s hf
 unfold qkk
 unfold qof at h
 cases ho:q5f sm t with
 |false=>
  rw [ho]at h
  rw [q0dl ho]at hro
  simp only at h ⊢
  have prim:∀(t:Ty) (x:t.den),(match av with| .val u x=>u.cast t x|_=>none)=some x→(ro (vw G' w) t).1 x v:=by
   intro t x h
   cases av with
   |val u y=>
    obtain⟨e,g⟩:=qsm h
    subst e;subst g
    exact(q8t hu _).1 _ _ hv
   |_=>cases h
  cases t with
  |slice us=>
   simp only at h
   split at h
   ·rename_i l hl
    obtain⟨ts',l⟩:=l
    obtain⟨e,g⟩:=q79 h
    cases e
    have g:x=l:=g
    rw [g]
    exact q0n0 hR hf hl hv hro
   ·cases h
  |bool=>exact prim _ _ (by cases av<;>exact h)
  |int k=>exact prim _ _ (by cases av<;>exact h)
  |str=>exact prim _ _ (by cases av<;>exact h)
  |nil=>exact prim _ _ (by cases av<;>exact h)
  |cons _ _=>exact prim _ _ (by cases av<;>exact h)
 |true=>
  rw [ho]at h
  obtain⟨us,e⟩:=qmj ho
  subst e
  have hs:∀s∈(match av with| .sl r _=>[Sr.row r]| .hd r _ _=>[Sr.row r]| .tl r _ _=>[Sr.row r]| .il r _ i f=>[Sr.inn r i f]|_=>[Sr.nul]),Tgt G w Rs G' s p:=by
   intro s hs'
   refine hs s ?_
   simp only [q24,ho]
   exact hs'
  show ∃a c,v= .slice a (List.length x) c∧q8n G' w (qc4 G' w p.1 (Nat.beq sm 2&&us.hasSl)) (.of p.1 p.2) us x a c∧((Nat.beq sm 2&&us.hasSl)=true→p.2=0)
  have fromRow:∀(r:Nat) (o:Bool) (ts:Ty) (l:List ts.den) (y:(Ty.slice us).den) (a:Option Addr) (c:Nat),(∀s∈[Sr.row r],Tgt G w Rs G' s p)→q05c sm o ts=true→(Ty.slice ts).cast (.slice us) l=some y→v= .slice a (List.length l) c→q8n G w (qc4 G w r o) (.of r 0) ts l a c→
    ∃a c,v= .slice a (List.length y) c∧q8n G' w (qc4 G' w p.1 (Nat.beq sm 2&&us.hasSl)) (.of p.1 p.2) us y a c∧((Nat.beq sm 2&&us.hasSl)=true→p.2=0):=by
   intro r o ts l y a c ht hok hc ev hrow
   obtain⟨e,g⟩:=q79 hc
   cases e
   have g:y=l:=g
   subst g
   have ht:=ht (.row r) (List.mem_singleton.2 rfl)
   have ho':o=(Nat.beq sm 2&&us.hasSl):=eq_of_beq hok
   obtain⟨t1,t2⟩:=ht
   refine⟨a,c,ev,?_,fun _=>t1⟩
   rw [←ho',t1]
   exact q61 (fun k t x v g=>qmr o hu (fun _=>t2 (k+1)) t x v g) (t2 0) hrow
  cases av with
  |nl ts=>
   obtain⟨a,e⟩:=hv
   obtain⟨e',g⟩:=q79 h
   cases e'
   have g:x=[]:=g
   subst g
   exact⟨a,0,e,⟨Nat.le_refl _,.inl rfl⟩,fun _=>hs .nul (List.mem_singleton.2 rfl)⟩
  |sl r a=>
   obtain⟨q,hq,hle,g⟩:=hv
   simp only [hq]at h
   obtain⟨k,ver,anc⟩:=q
   have hk:=hR r _ hq
   cases k with
   |row o ts l=>
    simp only at h
    split at h
    ·rename_i hab
     obtain⟨h1,h2⟩:=and2 hab
     exact fromRow r o ts l x _ _ hs h2 h (g (qd h1).symm ts (List.length l) rfl) hk
    ·cases h
   |_=>cases h
  |hd r a n=>
   obtain⟨q,hq,hle,g⟩:=hv
   simp only [hq]at h
   obtain⟨k,ver,anc⟩:=q
   have hk:=hR r _ hq
   cases k with
   |row o ts l=>
    simp only at h
    split at h
    ·rename_i hab
     obtain⟨h1,h2⟩:=and2 hab
     obtain⟨hn,ev⟩:=g (qd h1).symm ts (List.length l) rfl
     exact fromRow r o ts (tk l n) x _ _ hs h2 h (by rw [qoj hn];exact ev) (qj9 hk hn)
    ·cases h
   |_=>cases h
  |tl r a n=>
   obtain⟨q,hq,hle,g⟩:=hv
   simp only [hq]at h
   obtain⟨k,ver,anc⟩:=q
   have hk:=hR r _ hq
   cases k with
   |row o ts l=>
    simp only at h
    split at h
    ·rename_i hab
     obtain⟨h0,h3⟩:=and2 hab
     obtain⟨h1,h2⟩:=and2 h0
     have ho':o=false:=by simpa using h3
     subst ho'
     obtain⟨hn,ev⟩:=g (qd h1).symm ts (List.length l) rfl
     exact fromRow r false ts (dp l n) x _ _ hs h2 h (by rw [qeh];exact ev) (q00j hk hn)
    ·cases h
   |_=>cases h
  |il r s i f=>
   have hil:=hv
   obtain⟨q,hq,hle,g⟩:=hv
   simp only [hq]at h
   obtain⟨k,ver,anc⟩:=q
   cases k with
   |row o ts l=>
    cases o with
    |false=>cases h
    |true=>
     simp only at h
     split at h
     ·rename_i vs m hin
      split at h
      ·rename_i hab
       obtain⟨h1,h2⟩:=and2 hab
       obtain⟨e',g'⟩:=q79 h
       cases e'
       have g':x=m:=g'
       subst g'
       obtain⟨_,_,a1,n1,e1,e2⟩:=qkj hR hq (qd h1).symm hin hil
       have ht:Lk G w G' w (.of r (i*ts.size+f+1)) (.of p.1 p.2):=hs (.inn r i f) (List.mem_singleton.2 rfl) _ _ _ _ _ hq
       have ho':(Nat.beq sm 2&&us.hasSl)=false:=by
        have h2:(false==(Nat.beq sm 2&&us.hasSl))=true:=h2
        cases hb:(Nat.beq sm 2&&us.hasSl)with
        |false=>rfl
        |true=>rw [hb]at h2;cases h2
       refine⟨a1,n1,e1,?_,fun e=>by rw [ho']at e;cases e⟩
       rw [ho']
       exact q61 (fun k t x v g=>q4j hu k k t x v g) ht e2
      ·cases h
     ·cases h
   |_=>cases h
  |_=>cases h
def TgtL (G:Gh) (w:World) (R:List Root) (G':Gh):List Sr→List (Nat×Nat)→Prop
 | [],_=>True
 |s::ss,L=>Tgt G w R G' s (L.headD (0,0))∧TgtL G w R G' ss (L.drop 1)
theorem TgtL.append {ss ts:List Sr} {L:List (Nat×Nat)} (h:TgtL G w Rs G' (ss++ts) L):TgtL G w Rs G' ss L∧TgtL G w Rs G' ts (L.drop ss.length):=by
 induction ss generalizing L with
 |nil=>exact⟨trivial,by simpa using h⟩
 |cons s ss ih=>
  obtain⟨h1,h2⟩:=h
  obtain⟨h3,h4⟩:=ih h2
  refine⟨⟨h1,h3⟩,?_⟩
  rw [List.drop_drop]at h4
  rw [List.length_cons,Nat.add_comm];exact h4
theorem q8o (sm:Nat) (t:Ty) (av:AV):(q24 sm t av).length=q1w sm t:=by
 unfold q24 q1w
 cases q5f sm t with
 |false=>rfl
 |true=>cases av<;>rfl
theorem q0dq (hR:RelR G Rs w) (hf:Lk G w G' w .free .free) {sm:Nat}:∀ {ts:Ty} {a:AV} {x:ts.den} {vs:List Value} {L:List (Nat×Nat)},qb6 ⟨tm,Rs⟩ sm ts a=some x→(avR G Rs w a).2 vs→
  (∀r∈q00p ⟨tm,Rs⟩ sm ts a,∀s,Lk G w G' w (.of r s) .free)→TgtL G w Rs G' (q32 sm ts a) L→qmp G' w sm ts x vs L:=by
 intro ts
 induction ts with
 |nil=>
  intro a x vs L h hv _ _
  cases a with
  |nil=>exact hv
  |_=>cases h
 |cons t ts _ ih=>
  intro a x vs L h hv hro hs
  cases a with
  |cons v a=>
   obtain⟨v0,vs',e,h1,h2⟩:=hv
   simp only [qb6]at h
   split at h
   ·rename_i x0 y0 hx hy
    cases h
    obtain⟨s1,s2⟩:=TgtL.append hs
    rw [q8o]at s2
    refine⟨v0,vs',e,q0hd hR hf hx h1 (fun r hr=>hro r (List.mem_append_left _ hr)) _ (fun s hs'=> ?_),ih hy h2 (fun r hr=>hro r (List.mem_append_right _ hr)) s2⟩
    cases hsl:q24 sm t v with
    |nil=>rw [hsl]at hs';cases hs'
    |cons s0 ss=>
     have hlen:=q8o sm t v
     rw [hsl]at hs' s1 hlen
     have:ss=[]:=by
      have h1:q1w sm t≤1:=by unfold q1w;split<;>simp
      simp at hlen
      cases ss with
      |nil=>rfl
      |cons _ _=>simp at hlen;omega
     subst this
     have:s=s0:=by simpa using hs'
     subst this
     exact s1.1
   ·cases h
  |_=>cases h
 |_=>intro a x vs L h;cases a<;>cases h
theorem qvd {sm:Nat}:∀ {ts:Ty} {a:AV} {x:ts.den},qb6 ⟨tm,Rs⟩ sm ts a=some x→qgz a=ts.size:=by
 intro ts
 induction ts with
 |nil=>
  intro a x h
  cases a with
  |nil=>rfl
  |_=>cases h
 |cons t ts _ ih=>
  intro a x h
  cases a with
  |cons v a=>
   simp only [qb6]at h
   split at h
   ·rename_i x0 y0 hx hy
    simp only [qgz,Ty.size,ih hy]
   ·cases h
  |_=>cases h
 |_=>intro a x h;cases a<;>cases h
theorem q0lf:∀(cs:List AV) (f n:Nat),qgz (qei n (qi3 f (.ofList cs)))=min n (cs.length-f):=by
 have h0:∀(cs:List AV) (n:Nat),qgz (qei n (.ofList cs))=min n cs.length:=by
  intro cs
  induction cs with
  |nil=>intro n;cases n<;>simp [AV.ofList,qei,qgz]
  |cons c cs ih=>
   intro n
   cases n with
   |zero=>simp [AV.ofList,qei,qgz]
   |succ n=>simp only [AV.ofList,qei,qgz,ih,List.length_cons];omega
 intro cs
 induction cs with
 |nil=>intro f n;cases f<;>cases n<;>simp [AV.ofList,qi3,qei,qgz]
 |cons c cs ih=>
  intro f n
  cases f with
  |zero=>exact h0 (c::cs) n
  |succ f=>simp only [AV.ofList,qi3,ih,List.length_cons];omega
theorem qv5 (sm:Nat):∀ {ts:Ty} {a:AV} {x:ts.den},qb6 ⟨tm,Rs⟩ sm ts a=some x→(q32 sm ts a).length=q10 sm ts:=by
 intro ts
 induction ts with
 |nil=>intro a x h;cases a<;>first|rfl|cases h
 |cons t ts _ ih=>
  intro a x h
  cases a with
  |cons v a=>
   simp only [qb6]at h
   split at h
   ·rename_i x0 y0 hx hy
    simp only [q32,q10,List.length_append,q8o,ih hy]
   ·cases h
  |_=>cases h
 |_=>intro a x h;cases a<;>cases h
theorem qsx {m:Md} {t:Ty} {a:AV} {x:t.den} (h:qpu ⟨tm,Rs⟩ m t a=some x):(q5n ⟨tm,Rs⟩ m t a).length=q0l m t:=by
 unfold qpu at h
 unfold q5n q0l
 cases hp:m.ptr with
 |true=>
  rw [hp]at h
  cases a with
  |bp r f=>
   simp only at h
   split at h
   ·simp only [List.length_cons,qv5 m.sm h];omega
   ·cases h
  |_=>cases h
 |false=>
  rw [hp]at h
  simp only at h ⊢
  cases hc:qbz t with
  |true=>
   rw [hc]at h
   cases a with
   |agg cs=>exact qv5 m.sm h
   |_=>cases h
  |false=>exact q8o _ _ _
theorem q0ps (hR:RelR G Rs w) (hf:Lk G w G' w .free .free) {m:Md} {t:Ty} {a:AV} {x:t.den} {v:Value} {L:List (Nat×Nat)} (h:qpu ⟨tm,Rs⟩ m t a=some x) (hv:(avR G Rs w a).1 v)
  (hro:∀r∈q0kf ⟨tm,Rs⟩ m t a,∀s,Lk G w G' w (.of r s) .free) (hs:TgtL G w Rs G' (q5n ⟨tm,Rs⟩ m t a) L):hOne G' w m t x v L:=by
 unfold qpu at h
 unfold q5n at hs
 unfold q0kf at hro
 unfold hOne
 cases hp:m.ptr with
 |true=>
  rw [hp]at h hs hro
  cases a with
  |bp r f=>
   simp only at h hs hro ⊢
   obtain⟨⟨s0,s1⟩,s2⟩:=hs
   obtain⟨q,hq,g⟩:=hv
   obtain⟨kk,ver,anc⟩:=q
   cases hbx:q97 Rs r with
   |false=>rw [hbx]at h;cases h
   |true=>
   rw [hbx]at h
   simp only at h
   have hlen:=qvd h
   cases kk with
   |box cs ss=>
    obtain⟨b,p,ea,ev⟩:=g cs.length .nil rfl
    obtain⟨_,b',p',ea',hcs⟩:=hR r _ hq
    rw [ea]at ea';cases ea'
    have hbc:q7a ⟨tm,Rs⟩ r f t.size=qei t.size (qi3 f (.ofList cs)):=by simp [q7a,hq]
    rw [hbc]at h hlen s2 hro
    rw [q0lf]at hlen
    by_cases h0:t.size=0
    ·have hz:t= .nil∨∀c,qb6 ⟨tm,Rs⟩ m.sm t c=none:=by
      cases t with
      |nil=>exact .inl rfl
      |cons _ _=>simp [Ty.size]at h0
      |_=>exact .inr (fun c=>by cases c<;>rfl)
     rcases hz with e|e
     ·subst e
      exact⟨b,p+f,[],ev,rfl,s0,fun f hf=>by simp [Ty.size]at hf,rfl⟩
     ·rw [e]at h;cases h
    ·have hfit:f+t.size≤cs.length:=by omega
     obtain⟨vs,hl,hc,ha⟩:=qp2 (G:=G) (R':=Rs) (w:=w) (b:=b) cs p f t.size (fun f hf=>(hcs f hf).2.2) hfit
     refine⟨b,p+f,vs,ev,hl,s0,fun j hj=> ?_,q0dq hR hf h ha hro s2⟩
     obtain⟨c1,c2,u,c3,_⟩:=hcs (f+j) (by omega)
     have c4:=hc j (by omega)
     rw [show p+(f+j)=p+f+j by omega]at c1 c2 c3
     exact⟨s1 b p ea j hj (q1z c3) c1,c2,c4⟩
   |_=>
    simp [q97,hq]at hbx
  |_=>cases h
 |false=>
  rw [hp]at h hs hro
  simp only at h hs hro ⊢
  cases hc:qbz t with
  |true=>
   rw [hc]at h hs hro
   cases a with
   |agg cs=>
    obtain⟨vs,e,h2⟩:=hv
    exact⟨vs,e,q0dq hR hf h h2 hro hs⟩
   |_=>cases h
  |false=>
   rw [hc]at h hs hro
   refine q0hd hR hf h hv hro _ (fun s hs'=> ?_)
   cases hsl:q24 m.sm t a with
   |nil=>rw [hsl]at hs';cases hs'
   |cons s0 ss=>
    have hlen:=q8o m.sm t a
    simp only at hs
    rw [hsl]at hs' hs hlen
    have:ss=[]:=by
     have h1:q1w m.sm t≤1:=by unfold q1w;split<;>simp
     simp at hlen
     cases ss with
     |nil=>rfl
     |cons _ _=>simp at hlen;omega
    subst this
    have:s=s0:=by simpa using hs'
    subst this
    exact hs.1
theorem q0g0 (hR:RelR G Rs w) (hf:Lk G w G' w .free .free):∀ {ts:Ty} {ms:List Md} {as:List AV} {x:ts.den} {vs:List Value} {L:List (Nat×Nat)},ql4 ⟨tm,Rs⟩ ts ms as=some x→as.length=vs.length→(∀i,i<as.length→(avR G Rs w (as.getD i .undef)).1 (vs.getD i undef))→
  (∀r∈qwg ⟨tm,Rs⟩ ts ms as,∀s,Lk G w G' w (.of r s) .free)→TgtL G w Rs G' (q46 ⟨tm,Rs⟩ ts ms as) L→qyf G' w ts x ms vs L:=by
 intro ts
 induction ts with
 |nil=>
  intro ms as x vs L h hl _ _ _
  cases ms with
  |nil=>
   cases as with
   |nil=>cases vs with
    |nil=>trivial
    |cons _ _=>simp at hl
   |cons _ _=>cases h
  |cons _ _=>cases h
 |cons t ts _ ih=>
  intro ms as x vs L h hl hv hro hs
  cases ms with
  |nil=>cases h
  |cons m ms=>
   cases as with
   |nil=>cases h
   |cons a as=>
    cases vs with
    |nil=>simp at hl
    |cons v vs=>
     simp only [ql4]at h
     split at h
     ·rename_i x0 y0 hx hy
      cases h
      obtain⟨s1,s2⟩:=TgtL.append hs
      rw [qsx hx]at s2
      refine⟨q0ps hR hf hx (by simpa using hv 0 (by simp)) (fun r hr=>hro r (List.mem_append_left _ hr)) s1,ih hy (by simpa using hl) (fun i hi=> ?_) (fun r hr=>hro r (List.mem_append_right _ hr)) s2⟩
      simpa using hv (i+1) (by simpa using hi)
     ·cases h
 |_=>intro ms as x vs L h;cases ms<;>cases as<;>cases h
def consec (L:List (Nat×Nat)) (n k:Nat):Prop:=∀j,j<k→L.getD j (0,0)=(n+j,0)
theorem consec.head {L:List (Nat×Nat)} {n k:Nat} (h:consec L n k) (hk:0<k):L.headD (0,0)=(n,0):=by
 have:=h 0 hk
 cases L with
 |nil=>simpa using this
 |cons p L=>simpa using this
theorem consec.left {L:List (Nat×Nat)} {n k k':Nat} (h:consec L n (k+k')):consec L n k:=fun j hj=>h j (by omega)
theorem consec.right {L:List (Nat×Nat)} {n k k':Nat} (h:consec L n (k+k')):consec (L.drop k) (n+k) k':=fun j hj=>by
 have:=h (k+j) (by omega)
 rw [List.getD_eq_getElem?_getD]at this ⊢
 rw [List.getElem?_drop,this];congr 1;omega
def InOk (G:Gh) (w:World) (n k:Nat) (N:List Root) (C:Gh→List Root→Prop):Prop:=N.length=k∧∃A:List (Option Addr×Nat),A.length=k∧∀an:Nat→Option Addr×Nat,(∀j,j<k→an (n+j)=A.getD j (none,0))→
 ∀R',(∀j q,N[j]? =some q→R'[n+j]? =some q)→(∀j q,N[j]? =some q→q8s ⟨G.own,an⟩ R' w (n+j) q)∧C ⟨G.own,an⟩ R'
theorem InOk.append {n k k':Nat} {N N':List Root} {C C':Gh→List Root→Prop} (h:InOk G w n k N C) (h':InOk G w (n+k) k' N' C'):InOk G w n (k+k') (N++N') (fun G R=>C G R∧C' G R):=by
 obtain⟨hl,A,ha,h⟩:=h
 obtain⟨hl',A',ha',h'⟩:=h'
 refine⟨by simp [hl,hl'],A++A',by simp [ha,ha'],fun an han R' hR'=> ?_⟩
 obtain⟨g1,g2⟩:=h an (fun j hj=>by
  rw [han j (by omega),List.getD_eq_getElem?_getD,List.getElem?_append_left (by omega),List.getD_eq_getElem?_getD]) R' (fun j q hq=>hR' j q (by
   rw [List.getElem?_append_left (List.getElem?_eq_some_iff.1 hq).1];exact hq))
 obtain⟨g1',g2'⟩:=h' an (fun j hj=>by
  have:=han (k+j) (by omega)
  rw [List.getD_eq_getElem?_getD,List.getElem?_append_right (by omega),show k+j-A.length=j by omega,←Nat.add_assoc]at this
  rw [this,List.getD_eq_getElem?_getD]) R' (fun j q hq=>by
   have:=hR' (k+j) q (by rw [List.getElem?_append_right (by omega),show k+j-N.length=j by omega];exact hq)
   rwa [←Nat.add_assoc]at this)
 refine⟨fun j q hq=> ?_,g2,g2'⟩
 by_cases hj:j<N.length
 ·rw [List.getElem?_append_left hj]at hq;exact g1 j q hq
 ·rw [List.getElem?_append_right (by omega)]at hq
  have:=g1' _ q hq
  rwa [show n+k+(j-N.length)=n+j by omega]at this
theorem InOk.none {n:Nat} {C:Gh→List Root→Prop} (h:∀an R',C ⟨G.own,an⟩ R'):InOk G w n 0 [] C:=⟨rfl,[],rfl,fun an _ R' _=>⟨fun j q hq=>by simp at hq,h an R'⟩⟩
theorem q0lm {sm:Nat} {t:Ty} {x:t.den} {v:Value} {p:Nat×Nat} {n:Nat} (h:qkk G w sm t x v p) (hp:q5f sm t=true→p=(n,0)):InOk G w n (q1w sm t) (qtd sm t x) (fun G' R'=>(avR G' R' w (q0hv sm t x n)).1 v):=by
 unfold qkk at h
 unfold q1w qtd q0hv
 cases ho:q5f sm t with
 |false=>
  rw [ho]at h
  exact InOk.none (fun an R'=>h)
 |true=>
  rw [ho]at h
  have hp:=hp ho
  subst hp
  obtain⟨us,e⟩:=qmj ho
  subst e
  obtain⟨a,c,ev,hrow,_⟩:=h
  refine⟨rfl,[(a,c)],rfl,fun an han R' hR'=> ?_⟩
  have ha:an n=(a,c):=han 0 (by simp)
  refine⟨fun j q hq=> ?_,?_⟩
  ·have e:j=0:=by have:=(List.getElem?_eq_some_iff.1 hq).1;simpa using this
   subst e
   simp at hq;subst hq
   show q8n ⟨G.own,an⟩ w (qc4 ⟨G.own,an⟩ w n _) (.of n 0) us x (an n).1 (an n).2
   rw [ha];exact hrow
  ·have hq:=hR' 0 _ rfl
   refine⟨_,hq,Nat.le_refl _,fun _ ts m hh=> ?_⟩
   cases hh
   show v= .slice (an n).1 _ (an n).2
   rw [ha];exact ev
theorem q0bm {sm:Nat}:∀ {ts:Ty} {x:ts.den} {vs:List Value} {L:List (Nat×Nat)} {n:Nat},qmp G w sm ts x vs L→consec L n (q10 sm ts)→
  InOk G w n (q10 sm ts) (qn4 sm ts x) (fun G' R'=>(avR G' R' w (qol sm ts x n)).2 vs):=by
 intro ts
 induction ts with
 |nil=>intro x vs L n h _;exact InOk.none (fun an R'=>h)
 |cons t ts _ ih=>
  intro x vs L n h hL
  obtain⟨v,vs',e,h1,h2⟩:=h
  have i1:=q0lm (n:=n) h1 (fun ho=>hL.head (by simp [q10,q1w,ho];omega))
  have i2:=ih h2 hL.right
  obtain⟨k1,A,k2,k3⟩:=i1.append i2
  refine⟨k1,A,k2,fun an han R' hR'=> ?_⟩
  obtain⟨g1,g2,g3⟩:=k3 an han R' hR'
  exact⟨g1,v,vs',e,g2,g3⟩
 |_=>intro x vs L n h;exact h.elim
theorem qql {sm:Nat}:∀ {ts:Ty} {x:ts.den} {n:Nat},(qol sm ts x n).toList.length=ts.size:=by
 intro ts
 induction ts with
 |cons t ts _ ih=>intro x n;simp [qol,AV.toList,ih,Ty.size]
 |_=>intro x n;rfl
theorem q0ht {m:Md} {t:Ty} {x:t.den} {v:Value} {L:List (Nat×Nat)} {n:Nat} (h:hOne G w m t x v L) (hL:consec L n (q0l m t)):InOk G w n (q0l m t) (qrd m t x n) (fun G' R'=>(avR G' R' w (qxy m t x n)).1 v):=by
 unfold hOne at h
 unfold q0l at hL ⊢
 unfold qrd qxy
 cases hp:m.ptr with
 |true=>
  rw [hp]at h hL
  simp only at h hL ⊢
  obtain⟨b,o,vs,ev,hvl,h0,hc,hcs⟩:=h
  have hhead:=hL.head (by omega)
  rw [hhead]at hc
  obtain⟨k1,A,k2,k3⟩:=q0bm hcs hL.right
  refine⟨by simp [k1];omega,(some ⟨b,o,none⟩,0)::A,by simp [k2];omega,fun an han R' hR'=> ?_⟩
  have ha:an n=(some ⟨b,o,none⟩,0):=han 0 (by omega)
  obtain⟨g1,g2⟩:=k3 an (fun j hj=>by
   have:=han (1+j) (by omega)
   rw [←Nat.add_assoc]at this
   rw [this,Nat.add_comm 1 j];rfl) R' (fun j q hq=>by
    have:=hR' (1+j) q (by rw [Nat.add_comm 1 j];exact hq)
    rwa [←Nat.add_assoc]at this)
  refine⟨fun j q hq=> ?_,?_⟩
  ·cases j with
   |zero=>
    simp at hq;subst hq
    refine⟨by simp,b,o,by rw [show (⟨G.own,an⟩:Gh).anch (n+0)=an n from rfl,ha],fun f hf=> ?_⟩
    rw [qql]at hf
    obtain⟨c1,c2,c3⟩:=hc f hf
    obtain⟨l1,l2⟩:=q047 _ _ g2
    exact⟨c1,c2,_,c3,l2 f (by omega)⟩
   |succ j=>
    have:=g1 j q hq
    rwa [show n+1+j=n+(j+1) by omega]at this
  ·have hq:=hR' 0 _ rfl
   refine⟨_,hq,fun n' t' hh=>⟨b,o,?_,ev⟩⟩
   show (an n).1=_
   rw [ha]
 |false=>
  rw [hp]at h hL
  simp only at h hL ⊢
  cases hc:qbz t with
  |true=>
   rw [hc]at h hL
   obtain⟨vs,e,h⟩:=h
   obtain⟨k1,A,k2,k3⟩:=q0bm h hL
   refine⟨k1,A,k2,fun an han R' hR'=> ?_⟩
   obtain⟨g1,g2⟩:=k3 an han R' hR'
   exact⟨g1,vs,e,g2⟩
  |false=>
   rw [hc]at h hL
   exact q0lm h (fun ho=>hL.head (by simp [q1w,ho]))
def q40:Ty→List Md→Nat
 | .cons t ts,m::ms=>q0l m t+q40 ts ms
 |_,_=>0
theorem q0s4:∀ {ts:Ty} {x:ts.den} {ms:List Md} {vs:List Value} {L:List (Nat×Nat)} {n:Nat},qyf G w ts x ms vs L→consec L n (q40 ts ms)→
  InOk G w n (q40 ts ms) (q00l ts x ms n) (fun G' R'=>(q0ga ts x ms n).length=vs.length∧∀i,i<vs.length→(avR G' R' w ((q0ga ts x ms n).getD i .undef)).1 (vs.getD i undef)):=by
 intro ts
 induction ts with
 |nil=>
  intro x ms vs L n h _
  cases ms with
  |nil=>cases vs with
   |nil=>exact InOk.none (fun an R'=>⟨rfl,fun i hi=>by simp at hi⟩)
   |cons _ _=>exact h.elim
  |cons _ _=>exact h.elim
 |cons t ts _ ih=>
  intro x ms vs L n h hL
  cases ms with
  |nil=>exact h.elim
  |cons m ms=>
   cases vs with
   |nil=>exact h.elim
   |cons v vs=>
    obtain⟨h1,h2⟩:=h
    have i1:=q0ht h1 hL.left
    have i2:=ih h2 hL.right
    obtain⟨k1,A,k2,k3⟩:=i1.append i2
    refine⟨k1,A,k2,fun an han R' hR'=> ?_⟩
    obtain⟨g1,g2,g3,g4⟩:=k3 an han R' hR'
    refine⟨g1,by simp [q0ga,g3],fun i hi=> ?_⟩
    cases i with
    |zero=>exact g2
    |succ i=>simpa [q0ga]using g4 i (by simpa using hi)
 |_=>intro x ms vs L n h;exact h.elim
end
end Go.Proofs.YtpmjopbgccajgaaGreat.Eng
