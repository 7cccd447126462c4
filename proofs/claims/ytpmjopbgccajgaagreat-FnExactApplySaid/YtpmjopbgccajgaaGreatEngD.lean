/- The engine, in four texts: this one holds EngFn, EngBack, EngGive, EngSig, EngDone, EngTab, EngTop, EngSort, EngOpen. No condition. -/
import Derived.Test.YtpmjopbgccajgaaGreatEngC
import Derived.Test.YtpmjopbgccajgaaGreatEngA
import Derived.Sort.Grow
import Derived.Deep.Slices
import Derived.ChangeArms
import Derived.OpenShut
set_option linter.unusedVariables false
set_option linter.unusedSimpArgs false
namespace Go.Proofs.YtpmjopbgccajgaaGreat.Eng
open Go.RowKit
section
variable {P:Program} {tab:List (Nat×TI)} {soft:Bool} {Γ:List (Nat×Ent)}
def qva (a:Act):ResultVar→Sem Value
 | .tmp t=>pure (a.tmps.getD t undef)
 | .cell p t=>do loadVar t (←asAddr (a.tmps.getD p undef))
theorem q0fy (hT:q7w P tab) {G:Gh} {σ:St} {a:Act} {w:World} (hR:Rel G σ a w) {rv:ResultVar} (h:q0iv tab σ rv=true):∃x,(qva a rv).run P w= .ok x w∧(avR G σ.roots w (ql2 tab σ rv)).1 x:=by
 cases rv with
 |tmp t=>exact⟨_,rfl,hR.tmps t⟩
 |cell p T=>
  simp only [q0iv]at h
  split at h
  ·rename_i i r f hi hp
   split at h
   ·rename_i cs ss ver anc hq
    have hx:=hR.tmps p
    rw [hp]at hx
    obtain⟨q,hq',g⟩:=hx
    rw [hq]at hq';cases hq'
    obtain⟨b,o,ea,e⟩:=g cs.length .nil rfl
    obtain⟨_,b',o',ea',hcs⟩:=hR.roots r _ hq
    rw [ea]at ea';cases ea'
    obtain⟨vs,hl,hc,ha⟩:=qp2 cs o f i.cells.size (fun f hf=>let ⟨_,_,v,e,g⟩:=hcs f hf;⟨v,e,g⟩) (qab h)
    have hrun:=qlw hT hi (w:=w) (b:=b) (o:=o+f) vs hl (fun j hj=>hc j (hl▸hj))
    refine⟨if i.agg then .agg vs.toArray else vs.getD 0 undef,?_,?_⟩
    ·show (do loadVar T (←asAddr (a.tmps.getD p undef))).run P w=_
     rw [e]
     simp only [asAddr,Sem.run_bind,Sem.run_pure,Result.andThen_ok]
     exact hrun
    ·have hv:ql2 tab σ (.cell p T)=one i (qei i.cells.size (qi3 f (.ofList cs))):=by
      simp only [ql2,hi,hp,hq,h]
     rw [hv]
     exact q0p6 hl (hT T i hi).one ha
   ·cases h
  ·cases h
def tupV:List Value→Value
 | [v]=>v
 |vs=> .tuple vs.toArray
theorem q0oy {G:Gh} {Rs:List Root} {w:World} {as:List AV} {xs:List Value} (hl:as.length=xs.length) (h:∀i,i<as.length→(avR G Rs w (as.getD i .undef)).1 (xs.getD i undef)):(avR G Rs w (q0im as)).1 (tupV xs):=by
 have many:∀(as:List AV) (xs:List Value),as.length=xs.length→(∀i,i<as.length→(avR G Rs w (as.getD i .undef)).1 (xs.getD i undef))→(avR G Rs w (.ofList as)).2 xs:=by
  intro as
  induction as with
  |nil=>intro xs hl _;cases xs with
   |nil=>rfl
   |cons _ _=>simp at hl
  |cons a as ih=>
   intro xs hl h
   cases xs with
   |nil=>simp at hl
   |cons x xs=>exact⟨x,xs,rfl,h 0 (by simp),ih xs (by simpa using hl) (fun i hi=>by simpa using h (i+1) (by simpa using hi))⟩
 cases as with
 |nil=>
  cases xs with
  |nil=>exact⟨[],rfl,rfl⟩
  |cons _ _=>simp at hl
 |cons a as=>
  cases xs with
  |nil=>simp at hl
  |cons x xs=>
   cases as with
   |nil=>
    cases xs with
    |nil=>exact h 0 (by simp)
    |cons _ _=>simp at hl
   |cons a' as=>
    cases xs with
    |nil=>simp at hl
    |cons x' xs=>exact⟨_,rfl,many _ _ hl h⟩
theorem qqd {fn:Func} {a:Act} {w:World} {xs:List Value} (h:∀(rs:List ResultVar),rs=fn.results.toList→xs.length=rs.length∧∀i rv,rs[i]? =some rv→(qva a rv).run P w= .ok (xs.getD i undef) w):(results fn a.tmps).run P w= .ok (tupV xs) w:=by
 obtain⟨hl,hr⟩:=h _ rfl
 have key:∀(rs:List ResultVar) (xs:List Value),xs.length=rs.length→(∀i rv,rs[i]? =some rv→(qva a rv).run P w= .ok (xs.getD i undef) w)→(rs.mapM (qva a)).run P w= .ok xs w:=by
  intro rs
  induction rs with
  |nil=>intro xs hl _;cases xs with
   |nil=>rfl
   |cons _ _=>simp at hl
  |cons rv rs ih=>
   intro xs hl hr
   cases xs with
   |nil=>simp at hl
   |cons x xs=>
    have h1:=hr 0 rv rfl
    have h2:=ih xs (by simpa using hl) (fun i rv hi=>by simpa using hr (i+1) rv (by simpa using hi))
    simp only [List.mapM_cons,Sem.run_bind,h1,Result.andThen_ok,h2]
    rfl
 have hm:=key fn.results.toList xs hl hr
 have e:(results fn a.tmps)=(do let vs ←fn.results.mapM (qva a);pure (if h:vs.size=1 then vs[0]else .tuple vs)):=by
  unfold results
  congr 1
 rw [e,Array.mapM_eq_mapM_toList]
 have hmap:(List.toArray <$> fn.results.toList.mapM (qva a)).run P w= .ok xs.toArray w:=by
  rw [←bind_pure_comp]
  simp only [Sem.run_bind,hm,Result.andThen_ok]
  rfl
 simp only [Sem.run_bind,hmap,Result.andThen_ok]
 cases xs with
 |nil=>rfl
 |cons x xs=>cases xs with
  |nil=>rfl
  |cons x' xs=>simp [tupV]
theorem q0kh (hT:q7w P tab) {a:Act} {w:World}:∀(rs:List ResultVar) (G:Gh) (σ:St),Rel G σ a w→q0h5 tab σ rs=true→∃(xs:List Value) (G':Gh),xs.length=rs.length∧(∀i rv,rs[i]? =some rv→(qva a rv).run P w= .ok (xs.getD i undef) w)∧
  (qi4 tab σ rs).2.tmps=σ.tmps∧RelR G' (qi4 tab σ rs).2.roots w∧Evo G σ.roots w G' (qi4 tab σ rs).2.roots w∧(qi4 tab σ rs).1.length=xs.length∧
  ∀i,i<(qi4 tab σ rs).1.length→(avR G' (qi4 tab σ rs).2.roots w ((qi4 tab σ rs).1.getD i .undef)).1 (xs.getD i undef)
 | [],G,σ,hR,_=>⟨[],G,rfl,fun i rv h=>by simp at h,rfl,hR.roots,Evo.refl _ _ _,rfl,fun i hi=>by simp [qi4]at hi⟩
 |r::rs,G,σ,hR,h=>by
  obtain⟨h1,h2⟩:=and2 h
  obtain⟨x,hx,hv⟩:=q0fy hT hR h1
  obtain⟨ht,G1,g1,g2,g3⟩:=q0jl hR.roots hv
  have hR1:Rel G1 (qbs σ (ql2 tab σ r)).2 a w:=by
   have:=hR.evo g1 g2
   have e:(⟨σ.tmps,(qbs σ (ql2 tab σ r)).2.roots⟩:St)=(qbs σ (ql2 tab σ r)).2:=by rw [←ht]
   rwa [e]at this
  obtain⟨xs,G2,l1,l2,l3,l4,l5,l6,l7⟩:=q0kh hT rs G1 _ hR1 h2
  refine⟨x::xs,G2,by simp [l1],fun i rv hi=> ?_,l3.trans ht,l4,g2.trans l5,by simp [qi4,l6],fun i hi=> ?_⟩
  ·cases i with
   |zero=>simp at hi;subst hi;exact hx
   |succ i=>simpa using l2 i rv (by simpa using hi)
  ·cases i with
   |zero=>exact(qac l5 _).1 _ g3
   |succ i=>simpa [qi4]using l7 i (by simpa [qi4]using hi)
def q0r2 (P:Program) (f:Nat):Ent→Prop
 | .sig g=>qpj P f
 | .inl fn H=>P.funcs[f]? =some fn∧(fn.name== "runtime.NumGoroutine")=false
 | .cut F d=>qpj P f
theorem q03w {G:Gh} {Rs:List Root} {w:World} {as:List AV} {args:List Value} {n:Nat} (hI:Inv G w) (hR:RelR G Rs w) (hl:args.length=as.length) (hv:∀i,i<as.length→(avR G Rs w (as.getD i .undef)).1 (args.getD i undef)):
  Rel G ⟨as++List.replicate (n-as.length) .undef,Rs⟩ ⟨args.toArray++Array.replicate (n-args.toArray.size) undef,[]⟩ w:=by
 refine⟨hR,rfl,hI,by simp;omega,fun t=> ?_⟩
 show (avR G Rs w ((as++List.replicate (n-as.length) AV.undef).getD t .undef)).1 _
 by_cases ht:t<as.length
 ·have:=hv t ht
  have e1:(as++List.replicate (n-as.length) AV.undef).getD t .undef=as.getD t .undef:=by
   rw [List.getD_eq_getElem?_getD,List.getElem?_append_left ht,List.getD_eq_getElem?_getD]
  have e2:(args.toArray++Array.replicate (n-args.toArray.size) undef).getD t undef=args.getD t undef:=by
   simp [Array.getElem?_append,hl,ht,List.getD_eq_getElem?_getD]
  show (avR G Rs w _).1 ((args.toArray++Array.replicate (n-args.toArray.size) undef).getD t undef)
  rw [e1,e2];exact this
 ·have e1:(as++List.replicate (n-as.length) AV.undef).getD t .undef= .undef:=by
   rw [List.getD_eq_getElem?_getD,List.getElem?_append_right (by omega),List.getElem?_replicate]
   split<;>rfl
  rw [e1];exact trivial
theorem q0ib {R:Type} {k:Nat} (hT:q7w P tab) (hm:P.follows .mixedOrders=true) (hΓ:∀f e,qkt Γ f=some e→q0r2 P f e)
  (hG:∀f g,qkt Γ f=some (.sig g)→∀as σ (K:AV→St→Option R) (r:R),qqp soft k g as σ K=some r→qfq P f as σ K r)
  (hX:∀f F d,qkt Γ f=some (.cut F d)→∀as σ (K:AV→St→Option R) (r:R),qqq soft k F d as σ K=some r→qfq P f as σ K r):
  ∀(n f:Nat) (as:List AV) (σ:St) (K:AV→St→Option R) (r:R),q0f4 tab soft Γ k n f as σ K=some r→qfq P f as σ K r∧qpj P f:=by
 have hΓ':∀f e,qkt Γ f=some e→(∃g,e= .sig g)→qpj P f:=fun f e h ⟨g,hg⟩=>by subst hg;exact hΓ f _ h
 intro n
 induction n with
 |zero=>intro f as σ K r h;cases h
 |succ n ih=>
  intro f as σ K r h
  simp only [q0f4]at h
  split at h
  ·rename_i fn H hf
   split at h
   ·rename_i c hb
    obtain⟨hfn,hnm⟩:=hΓ f _ hf
    have hhas:qpj P f:=⟨fn,hfn,hnm,by rw [hb];rfl⟩
    refine⟨fun G w args hI hR hl hv=> ?_,hhas⟩
    have hO:q0cy P tab soft Γ R (q0f4 tab soft Γ k n) k:=q0ku hT hΓ' hG (fun f F d h=>⟨hΓ f _ h,hX f F d h⟩) (fun f as σ K r h=>ih f as σ K r h)
    refine calls_of_wp hfn hb ?_
    refine qeb hO (qov hm hO (qyn hT)) H c _ _ r h G _ w _ (q03w hI hR hl hv) (fun e σ' G' a' w' h1 h2 h3 h4=> ?_)
    have fin:chk (q0h5 tab σ' fn.results.toList) (K (q0im (qi4 tab σ' fn.results.toList).1) ⟨σ.tmps,(qi4 tab σ' fn.results.toList).2.roots⟩)=some r→a'.defers=[]∧∃v,(results fn a'.tmps).run P w'= .ok v w'∧
      ∃v' R' G',K v' ⟨σ.tmps,R'⟩=some r∧RelR G' R' w'∧(avR G' R' w' v').1 v∧Evo G σ.roots w G' R' w':=by
     intro h1
     obtain⟨hok,hK⟩:=qw h1
     obtain⟨xs,G2,l1,l2,l3,l4,l5,l6,l7⟩:=q0kh hT fn.results.toList G' σ' h2 hok
     exact⟨h2.defers,tupV xs,qqd (fun rs e=>by subst e;exact⟨l1,l2⟩),_,_,G2,hK,l4,q0oy l6 l7,h3.trans l5⟩
    cases e with
    |normal=>exact fin h1
    |ret=>exact fin h1
    |exit j=>cases h1
   ·cases h
  ·cases h
def qnm (n k:Nat):List (Nat×Nat):=(List.range' n k).map (fun j=>(j,0))
theorem q5k (n k:Nat):consec (qnm n k) n k:=by
 have:=qoz (n:=n) (k:=k) (L:=[])
 rwa [List.append_nil]at this
theorem q0lj (n k:Nat):∀p∈qnm n k,p.2=0:=fun p hp=>by
 obtain⟨j,_,e⟩:=List.mem_map.1 hp
 rw [←e]
def qlx:List Md→List Value→List Value
 |m::ms,v::vs=>match qnn m with|true=>v::qlx ms vs|false=>qlx ms vs
 |_,_=>[]
def qq4 (fs:List Nat):List Value:=fs.map fun f=> .func (.func f) #[] #[]
theorem q0lv {G:Gh} {Rs:List Root} {w:World}:∀(fs:List Nat),(qq4 fs).length=(q0cj fs).length∧∀i,i<(q0cj fs).length→(avR G Rs w ((q0cj fs).getD i .undef)).1 ((qq4 fs).getD i undef)
 | []=>⟨rfl,fun i hi=>by simp [q0cj]at hi⟩
 |f::fs=>by
  obtain⟨h1,h2⟩:=q0lv (G:=G) (Rs:=Rs) (w:=w) fs
  refine⟨by simp [qq4,q0cj],fun i hi=> ?_⟩
  cases i with
  |zero=>exact⟨[],rfl,rfl⟩
  |succ i=>exact h2 i (by simpa [q0cj]using hi)
theorem q0qu {G:Gh} {Rs:List Root} {w:World} {as bs:List AV} {xs ys:List Value} (hl:xs.length=as.length) (h:∀i,i<as.length→(avR G Rs w (as.getD i .undef)).1 (xs.getD i undef)) (hl2:ys.length=bs.length) (h2:∀i,i<bs.length→(avR G Rs w (bs.getD i .undef)).1 (ys.getD i undef)):
  (xs++ys).length=(as++bs).length∧∀i,i<(as++bs).length→(avR G Rs w ((as++bs).getD i .undef)).1 ((xs++ys).getD i undef):=by
 refine⟨by simp [hl,hl2],fun i hi=> ?_⟩
 by_cases hlt:i<as.length
 ·rw [List.getD_eq_getElem?_getD,List.getElem?_append_left hlt,List.getD_eq_getElem?_getD,List.getElem?_append_left (by omega)]
  have:=h i hlt
  rwa [List.getD_eq_getElem?_getD,List.getD_eq_getElem?_getD]at this
 ·rw [List.getD_eq_getElem?_getD,List.getElem?_append_right (by omega),List.getD_eq_getElem?_getD,List.getElem?_append_right (by omega),hl]
  have:=h2 (i-as.length) (by rw [List.length_append]at hi;omega)
  rwa [List.getD_eq_getElem?_getD,List.getD_eq_getElem?_getD]at this
theorem q097 {G:Gh} {Rs:List Root} {w:World}:∀(fs:List Nat) (as:List AV) (xs:List Value),q0nw fs as=true→xs.length=as.length→(∀i,i<as.length→(avR G Rs w (as.getD i .undef)).1 (xs.getD i undef))→xs=qq4 fs
 | [],as,xs,h,hl,_=>by
  cases as with
  |nil=>cases xs with
   |nil=>rfl
   |cons _ _=>simp at hl
  |cons _ _=>cases h
 |f::fs,as,xs,h,hl,hv=>by
  unfold q0nw at h
  split at h
  ·rename_i h0;cases h0
  ·rename_i f0 fs0 g as' h0
   cases h0
   obtain⟨h1,h2⟩:=and2 h
   cases xs with
   |nil=>simp at hl
   |cons x xs=>
    have h3:=q097 fs as' xs h2 (by simpa using hl) (fun i hi=>by simpa using hv (i+1) (by simpa using hi))
    obtain⟨vs,e1,e2⟩:=hv 0 (by simp)
    have e2:vs=[]:=e2
    have e1:x= .func (.func g) #[] vs.toArray:=e1
    rw [h3,e1,e2,←qd h1]
    rfl
  ·cases h
def FnOk (P:Program) (fid:Nat) (g:Sig):Prop:=qpj P fid∧∀(k:Nat) (x:g.params.den) (y:g.res.den),g.f k x=some y→∀(G:Gh) (w:World) (vals:List Value),Inv G w→qyf G w g.params x g.pm vals (qnm 0 (q40 g.params g.pm))→
 Calls P fid (vals++qq4 g.fns).toArray w (fun| .returned out,w'=>∃(outs:List Value) (G':Gh),out=tupV outs∧outs.length=g.n∧qyf G' w' g.res y g.rm (outs++qlx g.pm vals) (qnm 0 (q40 g.res g.rm))∧Out G w G' w'|_,_=>False)
def q0hz:Value→Int→Value
 | .slice a _ c,m=> .slice a m.toNat c
 |v,_=>v
def q0js (P:Program) (fid c:Nat) (F:CutF):Prop:=qpj P fid∧∀(k:Nat) (x:List (Int×Unit)×(Int×Unit)×Unit) (y:Int×List (Int×Unit)×(Int×Unit)×Unit),F k x=some y→
 ∀(G:Gh) (w:World) (v0 v1:Value),Inv G w→qyf G w (qyg F).params x (qyg F).pm [v0,v1] (qnm 0 (q40 (qyg F).params (qyg F).pm))→
  Calls P fid #[v0,.func (.func c) #[] #[v1]] w (fun| .returned out,w'=>∃(outs:List Value) (G':Gh),(∃m:Int,outs=[.int .i64 m]∧out=q0hz v0 m)∧qyf G' w' (qyg F).res y (qyg F).rm (outs++qlx (qyg F).pm [v0,v1]) (qnm 0 (q40 (qyg F).res (qyg F).rm))∧Out G w G' w'|_,_=>False)
theorem q0q7 {G:Gh} {Rs:List Root} {w:World}:∀(ts:Ty) (ms:List Md) (as:List AV) (vals:List Value) (x:ts.den) (G0:Gh) (w0:World) (L:List (Nat×Nat)),qyf G0 w0 ts x ms vals L→as.length=vals.length→(∀i,i<as.length→(avR G Rs w (as.getD i .undef)).1 (vals.getD i undef))→
  (qly (q4m ts ms as)).length=(qlx ms vals).length∧∀i,i<(qly (q4m ts ms as)).length→(avR G Rs w ((qly (q4m ts ms as)).getD i .undef)).1 ((qlx ms vals).getD i undef):=by
 intro ts
 induction ts with
 |nil=>
  intro ms as vals x G0 w0 L h hl hv
  cases ms with
  |nil=>exact⟨by cases as<;>rfl,fun i hi=>by cases as<;>simp [q4m,qly]at hi⟩
  |cons _ _=>cases vals<;>exact h.elim
 |cons t ts _ ih=>
  intro ms as vals x G0 w0 L h hl hv
  cases ms with
  |nil=>exact h.elim
  |cons m ms=>
   cases vals with
   |nil=>exact h.elim
   |cons v vals=>
    cases as with
    |nil=>simp at hl
    |cons a as=>
     obtain⟨i1,i2⟩:=ih ms as vals x.2 G0 w0 _ h.2 (by simpa using hl) (fun i hi=>by simpa using hv (i+1) (by simpa using hi))
     have h0:=hv 0 (by simp)
     simp only [q4m,qly,qlx]
     cases qnn m with
     |false=>exact⟨i1,i2⟩
     |true=>
      refine⟨by simp [i1],fun i hi=> ?_⟩
      cases i with
      |zero=>exact h0
      |succ i=>simpa using i2 i (by simpa using hi)
 |_=>intro ms as vals x G0 w0 L h;cases ms<;>cases vals<;>exact h.elim
theorem q0qg (hT:q7w P tab) (hm:P.follows .mixedOrders=true) (hΓ:∀f e,qkt Γ f=some e→q0r2 P f e)
  (hG:∀(R:Type) f g,qkt Γ f=some (.sig g)→∀k as σ (K:AV→St→Option R) (r:R),qqp soft k g as σ K=some r→qfq P f as σ K r)
  (hX:∀(R:Type) f F d,qkt Γ f=some (.cut F d)→∀k as σ (K:AV→St→Option R) (r:R),qqq soft k F d as σ K=some r→qfq P f as σ K r)
  {fid:Nat} {fn:Func} {g:Sig} {H:List Hint} {c:Code} (hfn:P.funcs[fid]? =some fn) (hnm:(fn.name== "runtime.NumGoroutine")=false) (hb:fn.body=some c) (heq:∀k x,q03 tab soft Γ H fn g k x=g.f k x):FnOk P fid g:=by
 refine⟨⟨fn,hfn,hnm,by rw [hb];rfl⟩,fun k x y hy G w vals hI hall=> ?_⟩
 rw [←heq]at hy
 unfold q03 at hy
 rw [hb]at hy
 simp only at hy
 obtain⟨hNl,A,hAl,hin⟩:=q0s4 hall (q5k 0 _)
 let an:Nat→Option Addr×Nat:=fun r=>A.getD r (none,0)
 obtain⟨g1,g2,g3⟩:=hin an (fun j hj=>by rw [Nat.zero_add]) (q00l g.params x g.pm 0) (fun j q hq=>by rw [Nat.zero_add];exact hq)
 have hR0:RelR ⟨G.own,an⟩ (q00l g.params x g.pm 0) w:=fun r q hq=>by
  have:=g1 r q hq
  rwa [Nat.zero_add]at this
 generalize has:q0ga g.params x g.pm 0=as at hy g2 g3
 have hbs:q0jx as g.fns=as++q0cj g.fns:=by cases g.fns<;>simp [q0cj]
 rw [hbs]at hy
 obtain⟨q1,q2⟩:=q0qu (G:=⟨G.own,an⟩) (Rs:=q00l g.params x g.pm 0) (w:=w) g2.symm (fun i hi=>g3 i (by omega)) (q0lv (G:=⟨G.own,an⟩) (Rs:=q00l g.params x g.pm 0) (w:=w) g.fns).1 (q0lv g.fns).2
 have hΓ':∀f e,qkt Γ f=some e→(∃g,e= .sig g)→qpj P f:=fun f e h ⟨g,hg⟩=>by subst hg;exact hΓ f _ h
 have hO:q0cy P tab soft Γ g.res.den (q0f4 tab soft Γ k 8) k:=q0ku hT hΓ' (fun f g hg as σ K r h=>hG _ f g hg k as σ K r h) (fun f F d h=>⟨hΓ f _ h,fun as σ K r=>hX _ f F d h k as σ K r⟩) (fun f as σ K r h=>q0ib hT hm hΓ (fun f g hg as σ K r h=>hG _ f g hg k as σ K r h) (fun f F d h as σ K r=>hX _ f F d h k as σ K r) 8 f as σ K r h)
 refine calls_of_wp hfn hb ?_
 refine qeb hO (qov hm hO (qyn hT)) H c _ _ y hy ⟨G.own,an⟩ _ w _ (q03w hI hR0 q1 q2) (fun e σ' G' a' w' h1 h2 h3 h4=> ?_)
 have fin:q0pt tab g as fn.results.toList σ'=some y→a'.defers=[]∧∃v,(results fn a'.tmps).run P w'= .ok v w'∧
   ∃(outs:List Value) (G':Gh),v=tupV outs∧outs.length=g.n∧qyf G' w' g.res y g.rm (outs++qlx g.pm vals) (qnm 0 (q40 g.res g.rm))∧Out G w G' w':=by
  intro h1
  unfold q0pt at h1
  obtain⟨hok,hout⟩:=qw h1
  obtain⟨hok,hlen⟩:=and2 hok
  obtain⟨hok,hap⟩:=and2 hok
  obtain⟨hres,hnd⟩:=and2 hok
  have hres:=List.all_eq_true.1 hres
  have hnd:=qby.1 hnd
  have hap:=qgi.1 hap
  have hlen:=qd hlen
  have hxs:∀rs:List ResultVar,(∀r∈rs,q0iv tab σ' r=true)→∃xs:List Value,xs.length=rs.length∧(∀i rv,rs[i]? =some rv→(qva a' rv).run P w'= .ok (xs.getD i undef) w')∧
    ∀i,i<(rs.map (ql2 tab σ')).length→(avR G' σ'.roots w' ((rs.map (ql2 tab σ')).getD i .undef)).1 (xs.getD i undef):=by
   intro rs
   induction rs with
   |nil=>intro _;exact⟨[],rfl,fun i rv h=>by simp at h,fun i hi=>by simp at hi⟩
   |cons r rs ih=>
    intro hr
    obtain⟨x,hx,hv⟩:=q0fy hT h2 (hr r (by simp))
    obtain⟨xs,l1,l2,l3⟩:=ih (fun r hr'=>hr r (List.mem_cons_of_mem _ hr'))
    refine⟨x::xs,by simp [l1],fun i rv hi=> ?_,fun i hi=> ?_⟩
    ·cases i with
     |zero=>simp at hi;subst hi;exact hx
     |succ i=>simpa using l2 i rv (by simpa using hi)
    ·cases i with
     |zero=>exact hv
     |succ i=>exact l3 i (by simpa using hi)
  obtain⟨xs,l1,l2,l3⟩:=hxs fn.results.toList hres
  obtain⟨m1,m2⟩:=q0q7 (G:=G') (Rs:=σ'.roots) (w:=w') g.params g.pm as vals x G w _ hall g2 (fun i hi=>(qac h3 _).1 _ (g3 i (by omega)))
  refine⟨h2.defers,tupV xs,qqd (fun rs e=>by subst e;exact⟨l1,l2⟩),xs,?_⟩
  generalize hvs:fn.results.toList.map (ql2 tab σ')++qly (q4m g.params g.pm as)=vs at hout hnd hap
  have hvl:vs.length=(xs++qlx g.pm vals).length:=by rw [←hvs];simp [l1,m1]
  have hva:∀i,i<vs.length→(avR G' σ'.roots w' (vs.getD i .undef)).1 ((xs++qlx g.pm vals).getD i undef):=fun i hi=>by
   rw [←hvs]
   have e0:(fn.results.toList.map (ql2 tab σ')).length=xs.length:=by rw [List.length_map,l1]
   by_cases hlt:i<xs.length
   ·have:=l3 i (by rw [e0];exact hlt)
    rw [List.getD_eq_getElem?_getD,List.getElem?_append_left (by rw [e0];exact hlt),List.getD_eq_getElem?_getD,List.getElem?_append_left hlt]
    simpa [List.getD_eq_getElem?_getD]using this
   ·have hi':i-xs.length<(qly (q4m g.params g.pm as)).length:=by rw [hvl]at hi;simp at hi;omega
    have:=m2 _ hi'
    rw [List.getD_eq_getElem?_getD,List.getElem?_append_right (by omega),e0,List.getD_eq_getElem?_getD,List.getElem?_append_right (by omega)]
    simpa [List.getD_eq_getElem?_getD]using this
  let τ:Nat→Nat→Lab:=fun r s=>match tauS σ'.roots (q46 σ' g.res g.rm vs) (qnm 0 (q40 g.res g.rm)) r s with
   |some l=>l
   |none=> .free
  have hlk:∀r s,Lk G' w' (q1m G' τ) w' (.of r s) (τ r s):=fun r s=>ql7 τ r s
  have hfr:Fr G' w' (q1m G' τ) w' (fun _=>True):=qsh (fun r hr=>absurd trivial hr)
  refine⟨q1m G' τ,rfl,by rw [l1,hlen],?_,⟨h3.os,h3.tape,h3.output,h3.size,?_,?_⟩⟩
  ·refine q0g0 (tm:=σ'.tmps) h2.roots hfr.free hout hvl hva (fun r hr s=> ?_) ?_
   ·have e:τ r s= .free:=by
     show (match tauS σ'.roots (q46 σ' g.res g.rm vs) (qnm 0 (q40 g.res g.rm)) r s with|some l=>l|none=>Lab.free)=_
     rw [qqy (hap r hr)]
    have:=hlk r s
    rwa [e]at this
   ·refine q09o hlk hnd (q0lj 0 _) (fun r hr s=> ?_)
    obtain⟨l,hl⟩:=qz4 (R:=σ'.roots) (L:=qnm 0 (q40 g.res g.rm)) (s:=s) hr
    show _=some (match tauS σ'.roots (q46 σ' g.res g.rm vs) (qnm 0 (q40 g.res g.rm)) r s with|some l=>l|none=>Lab.free)
    rw [hl]
  ·exact Lk.trans (G':=G') (w':=w') (L':= .free) h3.size (fun b o hb e=>h3.free b o hb e) hfr.free
  ·exact Lk.trans (G':=G') (w':=w') (L':= .hid) h3.size (fun b o hb e=>h3.hid b o hb e) hfr.hid
 cases e with
 |normal=>exact fin h1
 |ret=>exact fin h1
 |exit j=>cases h1
theorem q0o6 (hT:q7w P tab) (hm:P.follows .mixedOrders=true) (hΓ:∀f e,qkt Γ f=some e→q0r2 P f e)
  (hG:∀(R:Type) f g,qkt Γ f=some (.sig g)→∀k as σ (K:AV→St→Option R) (r:R),qqp soft k g as σ K=some r→qfq P f as σ K r)
  (hX:∀(R:Type) f F d,qkt Γ f=some (.cut F d)→∀k as σ (K:AV→St→Option R) (r:R),qqq soft k F d as σ K=some r→qfq P f as σ K r)
  {fid d:Nat} {fn:Func} {F:CutF} {H:List Hint} {c:Code} (hfn:P.funcs[fid]? =some fn) (hnm:(fn.name== "runtime.NumGoroutine")=false) (hb:fn.body=some c) (heq:∀k x,q0o7 tab soft Γ H fn d k x=F k x):q0js P fid d F:=by
 refine⟨⟨fn,hfn,hnm,by rw [hb];rfl⟩,fun k x y hy G w v0 v1 hI hall=> ?_⟩
 rw [←heq]at hy
 unfold q0o7 at hy
 rw [hb]at hy
 simp only at hy
 obtain⟨⟨a0,c0,ev0,hrow,_⟩,⟨b1,o1,vs1,ev1,hl1,_,hc1,hv1⟩,_⟩:=hall
 have ev0:v0= .slice a0 (List.length x.1) c0:=ev0
 obtain⟨z1,vs1',evs1,hz1,hz2⟩:=hv1
 have hz2:vs1'=[]:=hz2
 subst hz2;subst evs1
 have hz1:z1= .int .i64 x.2.1.1:=hz1
 subst hz1
 have hc1:=hc1 0 (by simp [Ty.size])
 let an:Nat→Option Addr×Nat:=fun r=>match r with|0=>(a0,c0)|_=>(some ⟨b1,o1,none⟩,0)
 have hR0:RelR ⟨G.own,an⟩ [⟨.row false tI x.1,0,0⟩,⟨.box [.val (.int .i64) x.2.1.1] [0],0,0⟩] w:=fun r q hq=>by
  cases r with
  |zero=>cases hq;exact hrow
  |succ r=>
   cases r with
   |zero=>
    cases hq
    refine⟨rfl,b1,o1,rfl,fun f hf=> ?_⟩
    obtain rfl:f=0:=by simp at hf;exact hf
    exact⟨hc1.1,hc1.2.1,_,hc1.2.2,rfl⟩
   |succ r=>simp at hq
 have hΓ':∀f e,qkt Γ f=some e→(∃g,e= .sig g)→qpj P f:=fun f e h ⟨g,hg⟩=>by subst hg;exact hΓ f _ h
 have hO:q0cy P tab soft Γ (Int×List (Int×Unit)×(Int×Unit)×Unit) (q0f4 tab soft Γ k 8) k:=q0ku hT hΓ' (fun f g hg as σ K r h=>hG _ f g hg k as σ K r h) (fun f F d h=>⟨hΓ f _ h,fun as σ K r=>hX _ f F d h k as σ K r⟩) (fun f as σ K r h=>q0ib hT hm hΓ (fun f g hg as σ K r h=>hG _ f g hg k as σ K r h) (fun f F d h as σ K r=>hX _ f F d h k as σ K r) 8 f as σ K r h)
 refine calls_of_wp hfn hb ?_
 refine qeb hO (qov hm hO (qyn hT)) H c _ _ y hy ⟨G.own,an⟩ _ w _ (q03w (as:=[.sl 0 0,.fn d (.cons (.bp 1 0) .nil)]) (args:=[v0,.func (.func d) #[] #[v1]]) hI hR0 rfl (fun i hi=> ?_)) (fun e σ' G' a' w' h1 h2 h3 h4=> ?_)
 ·cases i with
  |zero=>exact⟨_,rfl,Nat.le_refl _,fun _ ts n hd=>by cases hd;exact ev0⟩
  |succ i=>
   cases i with
   |zero=>exact⟨[v1],rfl,v1,[],rfl,⟨_,rfl,fun n t hd=>⟨b1,o1,rfl,ev1⟩⟩,rfl⟩
   |succ i=>exact absurd hi (by show ¬(i+1+1<2);omega)
 have fin:q0p5 tab σ' fn.results.toList=some y→a'.defers=[]∧∃v,(results fn a'.tmps).run P w'= .ok v w'∧
   ∃(outs:List Value) (G':Gh),(∃m:Int,outs=[.int .i64 m]∧v=q0hz v0 m)∧qyf G' w' (qyg F).res y (qyg F).rm (outs++qlx (qyg F).pm [v0,v1]) (qnm 0 (q40 (qyg F).res (qyg F).rm))∧Out G w G' w':=by
  intro h1
  cases hrs:fn.results.toList with
  |nil=>rw [hrs]at h1;cases h1
  |cons rv rs=>
   cases rs with
   |cons _ _=>rw [hrs]at h1;cases h1
   |nil=>
    rw [hrs]at h1
    obtain⟨hok,h1⟩:=qw h1
    obtain⟨xv,hx,hv⟩:=q0fy hT h2 hok
    refine⟨h2.defers,xv,qqd (xs:=[xv]) (fun rs e=>by
     rw [e,hrs]
     refine⟨rfl,fun i rv' hi=> ?_⟩
     cases i with
     |zero=>simp at hi;subst hi;exact hx
     |succ i=>simp at hi),?_⟩
    obtain⟨q',hq',hle⟩:=h3.root 0 _ rfl
    obtain⟨p',hp',hle1⟩:=h3.root 1 _ rfl
    have key:∀(l:List (Int×Unit)) (ver anc:Nat) (m:Nat) (z:Int) (ss:List Nat) (vb ab:Nat),q'=⟨.row false tI l,ver,anc⟩→anc=0→p'=⟨.box [.val (.int .i64) z] ss,vb,ab⟩→y=(Int.ofNat m,l,(z,()),())→xv= .slice (G'.anch 0).1 m (G'.anch 0).2→
      ∃(outs:List Value) (G':Gh),(∃m:Int,outs=[.int .i64 m]∧xv=q0hz v0 m)∧qyf G' w' (qyg F).res y (qyg F).rm (outs++qlx (qyg F).pm [v0,v1]) (qnm 0 (q40 (qyg F).res (qyg F).rm))∧Out G w G' w':=by
     intro l ver anc m z ss vb ab eq ea ep ey ex
     subst eq;subst ea;subst ep
     have hd:=hle.hd rfl
     rcases hd with hd|⟨hd,ha⟩
     ·cases hd
     have hlen:List.length l=List.length x.1:=by
      have:=Option.some.inj hd
      exact(Prod.mk.inj (Prod.mk.inj this).2).2
     have ha:G'.anch 0=(a0,c0):=ha
     obtain⟨_,hb⟩:=hle1.box .nil 1 rfl
     have hb:G'.anch 1=(some ⟨b1,o1,none⟩,0):=hb
     obtain⟨_,b',o',eb,hcs⟩:=(show q8s G' σ'.roots w' 1 ⟨.box [.val (.int .i64) z] ss,vb,ab⟩from h2.roots 1 _ hp')
     rw [hb]at eb
     cases eb
     obtain⟨k1,k2,v,k3,k4⟩:=hcs 0 (by simp)
     have k4:v= .int .i64 z:=k4
     subst k4
     refine⟨[.int .i64 (Int.ofNat m)],G',⟨_,rfl,?_⟩,?_,⟨h3.os,h3.tape,h3.output,h3.size,h3.free,h3.hid⟩⟩
     ·rw [ex,ha,ev0];rfl
     ·subst ey
      have hro:=h2.roots 0 _ hq'
      have hro:q8n G' w' (qea (vw G' w')) (.of 0 0) tI l (G'.anch 0).1 (G'.anch 0).2:=hro
      rw [ha]at hro
      refine⟨rfl,⟨a0,c0,by rw [ev0,←hlen];rfl,hro,fun z=>by cases z⟩,⟨b1,o1,[.int .i64 z],ev1,rfl,rfl,fun f hf=> ?_,⟨_,_,rfl,rfl,rfl⟩⟩,trivial⟩
      obtain rfl:f=0:=by simp [Ty.size]at hf;exact hf
      exact⟨k1,k2,k3⟩
    split at h1
    ·rename_i a l ver b z ss vb ab hrv hroot hbox
     obtain⟨hc,h1⟩:=qw h1
     obtain⟨c1,c2⟩:=and2 hc
     have c1:=qd c1
     have c2:=qd c2
     cases h1
     rw [hq']at hroot
     rw [hp']at hbox
     have hq:=Option.some.inj hroot
     rw [hrv]at hv
     obtain⟨q2,hq2,_,g⟩:=hv
     rw [hq']at hq2;cases hq2
     refine key l ver b (List.length l) z ss vb ab hq c2 (Option.some.inj hbox) rfl ?_
     subst hq
     exact g (by rw [c1];exact c2) _ _ rfl
    ·rename_i a m l ver b z ss vb ab hrv hroot hbox
     obtain⟨hc,h1⟩:=qw h1
     obtain⟨c1,c2⟩:=and2 hc
     have c1:=qd c1
     have c2:=qd c2
     cases h1
     rw [hq']at hroot
     rw [hp']at hbox
     have hq:=Option.some.inj hroot
     rw [hrv]at hv
     obtain⟨q2,hq2,_,g⟩:=hv
     rw [hq']at hq2;cases hq2
     refine key l ver b m z ss vb ab hq c2 (Option.some.inj hbox) rfl ?_
     subst hq
     exact(g (by rw [c1];exact c2) _ _ rfl).2
    ·cases h1
 cases e with
 |normal=>exact fin h1
 |ret=>exact fin h1
 |exit j=>cases h1
end
end Go.Proofs.YtpmjopbgccajgaaGreat.Eng
namespace Go.Proofs.YtpmjopbgccajgaaGreat.Eng
open Go.RowKit
section
variable {soft:Bool} {R:Type}
theorem q02o (n k k':Nat):(qnm n (k+k')).drop k=qnm (n+k) k':=by
 unfold qnm
 rw [←List.map_drop,List.drop_range']
 congr 1
 rw [show k+k'-k=k' by omega];simp
theorem q00k {sm:Nat} {t:Ty} {x:t.den}:(qtd sm t x).length=q1w sm t:=by
 unfold qtd q1w
 cases ho:q5f sm t with
 |false=>rfl
 |true=>
  obtain⟨us,e⟩:=qmj ho
  subst e
  rfl
theorem qod {sm:Nat}:∀ {ts:Ty} {x:ts.den},(qn4 sm ts x).length=q10 sm ts:=by
 intro ts
 induction ts with
 |cons t ts _ ih=>intro x;simp only [qn4,q10,List.length_append,q00k,ih]
 |_=>intro x;rfl
theorem q0it {m:Md} {t:Ty} {x:t.den} {n:Nat}:(qrd m t x n).length=q0l m t:=by
 unfold qrd q0l
 cases m.ptr with
 |true=>simp only [List.length_cons,qod];omega
 |false=>
  cases qbz t with
  |true=>exact qod
  |false=>exact q00k
theorem q0ok {Gl:Gh} {w':World} {vs:List (Md×Ty×AV)} {K:AV→St→Option R} {r:R} {σ:St}:∀(n:Nat) (ts:Ty) (y:ts.den) (ms:List Md) (acc:List AV) (N:List Root) (vals:List Value) (j:Nat),
  qso soft vs K σ n ts y ms acc N=some r→qyf Gl w' ts y ms vals (qnm j (q40 ts ms))→
  ∃(ts2:Ty) (y2:ts2.den) (ms2:List Md) (vals1 vals2:List Value) (rv:List AV) (N1:List Root),vals=vals1++vals2∧vals1.length=n∧rv.length=n∧qyf Gl w' ts2 y2 ms2 vals2 (qnm (j+N1.length) (q40 ts2 ms2))∧
   (qse ts2 ms2=true→qse ts ms=true)∧
   q0gq vs K σ ts2 y2 ms2 (acc++rv) (N++N1)=some r∧
   ∀G',(qse ts ms=true→Lk Gl w' G' w' .free .free)→(∀i,i<N1.length→Ren soft Gl w' G' (j+i,0) (σ.roots.length+N.length+i,0))→
    InOk G' w' (σ.roots.length+N.length) N1.length N1 (fun G R=>∀i,i<n→(avR G R w' (rv.getD i .undef)).1 (vals1.getD i undef)):=by
 intro n
 induction n with
 |zero=>
  intro ts y ms acc N vals j h hall
  refine⟨ts,y,ms,[],vals,[],[],rfl,rfl,rfl,by simpa using hall,id,(by simp only [List.append_nil];exact h),fun G' _ _=>InOk.none (fun an R' i hi=>by omega)⟩
 |succ n ih=>
  intro ts y ms acc N vals j h hall
  cases ts with
  |cons t ts=>
   cases ms with
   |nil=>exact hall.elim
   |cons m ms=>
    cases vals with
    |nil=>exact hall.elim
    |cons v vals=>
     obtain⟨h1,h2⟩:=hall
     have hL:(qnm j (q40 (.cons t ts) (m::ms))).drop (q0l m t)=qnm (j+q0l m t) (q40 ts ms):=by
      show (qnm j (q0l m t+q40 ts ms)).drop _=_
      rw [q02o]
     rw [hL]at h2
     simp only [qso]at h
     have hrl:(qrd (qpw soft m) t y.1 (σ.roots.length+N.length)).length=q0l m t:=by rw [q0it,qui]
     obtain⟨ts2,y2,ms2,vals1,vals2,rv,N1,e1,e2,e3,e4,e5,e6,e7⟩:=ih ts y.2 ms _ _ vals (j+q0l m t) h h2
     refine⟨ts2,y2,ms2,v::vals1,vals2,qxy (qpw soft m) t y.1 (σ.roots.length+N.length)::rv,qrd (qpw soft m) t y.1 (σ.roots.length+N.length)++N1,by rw [e1];rfl,by simp [e2],by simp [e3],?_,fun hh=> ?_,?_,fun G' hf hr=> ?_⟩
     ·rw [List.length_append,hrl,←Nat.add_assoc];exact e4
     ·simp only [qse];rw [e5 hh];simp
     ·rw [List.append_assoc,List.append_assoc]at e6;exact e6
     ·rw [List.length_append,hrl]at hr ⊢
      have hone:hOne G' w' (qpw soft m) t y.1 v (qnm (σ.roots.length+N.length) (q0l m t)):=q0pz h1 (fun hh=>hf (by simp [qse,hh])) (fun i hi=>by
       have a1:=q5k j (q40 (.cons t ts) (m::ms)) i (by show i<q0l m t+_;omega)
       have a2:=q5k (σ.roots.length+N.length) (q0l m t) i hi
       rw [a1,a2]
       exact hr i (by omega))
      have i1:=q0ht hone (n:=σ.roots.length+N.length) (by rw [qui];exact q5k _ _)
      rw [qui]at i1
      have i2:=e7 G' (fun hh=>hf (by simp [qse,hh])) (fun i hi=>by
       have:=hr (q0l m t+i) (by omega)
       rw [List.length_append,hrl,←Nat.add_assoc,Nat.add_assoc j]
       rw [show σ.roots.length+N.length+(q0l m t+i)=σ.roots.length+N.length+q0l m t+i by omega]at this
       exact this)
      rw [List.length_append,hrl,←Nat.add_assoc]at i2
      obtain⟨k1,A,k2,k3⟩:=i1.append i2
      refine⟨k1,A,k2,fun an han R' hR'=> ?_⟩
      obtain⟨g1,g2,g3⟩:=k3 an han R' hR'
      refine⟨g1,fun i hi=> ?_⟩
      cases i with
      |zero=>exact g2
      |succ i=>exact g3 i (by omega)
  |_=>cases h
theorem qp9 {r:Nat}:∀(PS:List Put) (q:Root),(∀cs ss,q.k≠ .box cs ss)→(∀q',Put.root r q'∈PS→∀cs ss,q'.k≠ .box cs ss)→
  (Put.root r (q8v r PS q)∈PS)∨((∀q',Put.root r q'∉PS)∧q8v r PS q=q)
 | [],q,_,_=> .inr ⟨fun q' h=>(by cases h),rfl⟩
 | .cell r' f v::PS,q,hb,hP=>by
  have e:q8v r (.cell r' f v::PS) q=q8v r PS q:=by
   show q8v r PS (match Nat.beq r' r with|true=>setCell q f v|false=>q)=_
   rw [qrb hb]
   cases Nat.beq r' r<;>rfl
  rw [e]
  rcases qp9 PS q hb (fun q' h=>hP q' (List.mem_cons_of_mem _ h))with h|⟨h1,h2⟩
  ·exact .inl (List.mem_cons_of_mem _ h)
  ·exact .inr ⟨fun q' h=>by rcases List.mem_cons.1 h with e|h;(· cases e);(· exact h1 q' h),h2⟩
 | .root r' q1::PS,q,hb,hP=>by
  have e:q8v r (.root r' q1::PS) q=q8v r PS (match Nat.beq r' r with|true=>q1|false=>q):=rfl
  rw [e]
  cases hbq:Nat.beq r' r with
  |true=>
   have er:=qd hbq
   subst er
   rcases qp9 PS q1 (hP q1 (by simp)) (fun q' h=>hP q' (List.mem_cons_of_mem _ h))with h|⟨h1,h2⟩
   ·exact .inl (List.mem_cons_of_mem _ h)
   ·exact .inl (by simp only [h2];simp)
  |false=>
   rcases qp9 PS q hb (fun q' h=>hP q' (List.mem_cons_of_mem _ h))with h|⟨h1,h2⟩
   ·exact .inl (List.mem_cons_of_mem _ h)
   ·refine .inr ⟨fun q' h=> ?_,h2⟩
    rcases List.mem_cons.1 h with e|h
    ·cases e;rw [Nat.beq_refl]at hbq;cases hbq
    ·exact h1 q' h
theorem qn6 {r ver anc:Nat}:∀(PS:List Put) (cs:List AV) (ss:List Nat),ss.length=cs.length→(∀q',Put.root r q'∉PS)→
  ∃cs' ss',q8v r PS ⟨.box cs ss,ver,anc⟩=⟨.box cs' ss',ver,anc⟩∧cs'.length=cs.length∧ss'.length=ss.length∧
   ∀f,(cs'.getD f .undef=cs.getD f .undef∧ss'.getD f 0=ss.getD f 0∧¬((∃v,Put.cell r f v∈PS)∧f<cs.length))∨(f<cs.length∧ss.getD f 0<ss'.getD f 0∧Put.cell r f (cs'.getD f .undef)∈PS)
 | [],cs,ss,hl,_=>⟨cs,ss,rfl,rfl,rfl,fun f=> .inl ⟨rfl,rfl,fun h=>(by obtain⟨⟨v,hv⟩,_⟩:=h;cases hv)⟩⟩
 | .root r' q1::PS,cs,ss,hl,hP=>by
  have er:Nat.beq r' r=false:=by
   cases h:Nat.beq r' r with
   |false=>rfl
   |true=>have e:=qd h;subst e;exact absurd (by simp) (hP q1)
  obtain⟨cs',ss',e,l1,l2,h⟩:=qn6 (ver:=ver) (anc:=anc) PS cs ss hl (fun q' h=>hP q' (List.mem_cons_of_mem _ h))
  refine⟨cs',ss',?_,l1,l2,fun f=> ?_⟩
  ·show q8v r PS (match Nat.beq r' r with|true=>q1|false=>_)=_
   rw [er];exact e
  ·rcases h f with⟨h1,h2,h3⟩|⟨h1,h2,h3⟩
   ·refine .inl ⟨h1,h2,fun ⟨⟨v,hv⟩,hf⟩=>h3 ⟨⟨v,?_⟩,hf⟩⟩
    rcases List.mem_cons.1 hv with e|hv
    ·cases e
    ·exact hv
   ·exact .inr ⟨h1,h2,List.mem_cons_of_mem _ h3⟩
 | .cell r' f' v::PS,cs,ss,hl,hP=>by
  cases er:Nat.beq r' r with
  |false=>
   obtain⟨cs',ss',e,l1,l2,h⟩:=qn6 (ver:=ver) (anc:=anc) PS cs ss hl (fun q' h=>hP q' (List.mem_cons_of_mem _ h))
   refine⟨cs',ss',?_,l1,l2,fun f=> ?_⟩
   ·show q8v r PS (match Nat.beq r' r with|true=>_|false=>_)=_
    rw [er];exact e
   ·rcases h f with⟨h1,h2,h3⟩|⟨h1,h2,h3⟩
    ·refine .inl ⟨h1,h2,fun ⟨⟨v',hv⟩,hf⟩=>h3 ⟨⟨v',?_⟩,hf⟩⟩
     rcases List.mem_cons.1 hv with e|hv
     ·cases e;rw [Nat.beq_refl]at er;cases er
     ·exact hv
    ·exact .inr ⟨h1,h2,List.mem_cons_of_mem _ h3⟩
  |true=>
   have e':=qd er
   subst e'
   obtain⟨cs',ss',e,l1,l2,h⟩:=qn6 (ver:=ver) (anc:=anc) PS (cs.set f' v) (ss.set f' (ss.getD f' 0+1)) (by simp [hl]) (fun q' h=>hP q' (List.mem_cons_of_mem _ h))
   rw [List.length_set]at l1 l2 h
   refine⟨cs',ss',?_,l1,l2,fun f=> ?_⟩
   ·show q8v r' PS (match Nat.beq r' r' with|true=>setCell _ f' v|false=>_)=_
    rw [er];exact e
   ·by_cases hf:f'=f
    ·subst hf
     by_cases hlt:f'<cs.length
     ·right
      have e1:(cs.set f' v).getD f' .undef=v:=q77 hlt
      have e2:(ss.set f' (ss.getD f' 0+1)).getD f' 0=ss.getD f' 0+1:=q77 (by omega)
      rcases h f' with⟨h1,h2,_⟩|⟨_,h2,h3⟩
      ·exact⟨hlt,by rw [h2,e2];omega,by rw [h1,e1];simp⟩
      ·exact⟨hlt,by rw [e2]at h2;omega,List.mem_cons_of_mem _ h3⟩
     ·left
      rcases h f' with⟨h1,h2,_⟩|⟨h0,_⟩
      ·exact⟨by rw [h1,List.set_eq_of_length_le (by omega)],by rw [h2,List.set_eq_of_length_le (by omega)],fun h=>hlt h.2⟩
      ·exact absurd h0 hlt
    ·have hh:=h f
     rw [getD_set_ne hf,getD_set_ne hf]at hh
     rcases hh with⟨h1,h2,h3⟩|⟨h1,h2,h3⟩
     ·refine .inl ⟨h1,h2,fun ⟨⟨v',hv⟩,hl'⟩=>h3 ⟨⟨v',?_⟩,hl'⟩⟩
      rcases List.mem_cons.1 hv with e|hv
      ·cases e;exact absurd rfl hf
      ·exact hv
     ·exact .inr ⟨h1,h2,List.mem_cons_of_mem _ h3⟩
theorem q0o4 {Gl G':Gh} {w':World} {sm:Nat} {us:Ty} {l:List us.den} {a:Option Addr} {n:Nat} {L L':Lab} (hd:(Nat.beq sm 2&&us.hasSl)=false) (hsm:sm≠0) (hf:qos sm (.slice us)=true→Lk Gl w' G' w' .free .free) (hl:Lk Gl w' G' w' L L')
  (h:q8n Gl w' (qea (vw Gl w')) L us l a n):q8n G' w' (qea (vw G' w')) L' us l a n:=by
 refine q0ap hl (fun x b o k hel=> ?_) h
 cases hsl:us.hasSl with
 |false=>exact q03y (fun k t x v hs g=>q00n hs g) us x b o k hsl hel
 |true=>
  have hro:qos sm (.slice us)=true:=by
   rcases sm with _|_|_|n
   ·rfl
   ·exact hsl
   ·rw [hsl]at hd;cases hd
   ·rfl
  exact q3c us x b o k (fun _ _ _ e=>e) (fun k t x v g=>q4j (q6s (hf hro)) k k t x v g) hel
theorem q0on {G1 Gl G':Gh} {w w':World} {R1 Rf:List Root} {sm:Nat} {us:Ty} {y:List us.den} {val:Value} {r a ver anc j:Nat} {o:Bool} {ts:Ty} {l:List ts.den} {y':List ts.den} (hq:R1[r]? =some ⟨.row o ts l,ver,anc⟩) (hab:Nat.beq a anc=true) (hok:q05c sm o ts=true)
  (hy:(Ty.slice us).cast (.slice ts) y=some y') (hsm:q5f sm (.slice us)=true) (hv:(avR G1 R1 w (.sl r a)).1 val) (hc:qkk Gl w' sm (.slice us) y val (j,0)) (ha:G'.anch r=G1.anch r) (hl:∀u,Lk Gl w' G' w' (.of j u) (.of r u))
  (hf:qos sm (.slice us)=true→Lk Gl w' G' w' .free .free):Chg G1 w G' Rf w' r ⟨.row o ts l,ver,anc⟩ ⟨.row o ts y',ver+1,anc⟩:=by
 obtain⟨e,g⟩:=q79 hy
 cases e
 have g:y'=y:=g
 subst g
 have hc':=q0ct (soft:=false) (G':=G') (p':=(r,0)) hc hf (fun _=>⟨rfl,rfl,hl 0,fun s=>hl (s+1)⟩)
 unfold qkk at hc'
 rw [q0fo,hsm]at hc'
 obtain⟨a0,c,ev,hrow,_⟩:=hc'
 obtain⟨q,hq',_,hg⟩:=hv
 rw [hq]at hq';cases hq'
 have ev':=hg (qd hab).symm _ (List.length l) rfl
 rw [ev]at ev'
 simp only [Value.slice.injEq]at ev'
 obtain⟨e1,e2,e3⟩:=ev'
 have ho:o=(Nat.beq sm 2&&us.hasSl):=eq_of_beq hok
 refine .row o _ l y' (ver+1) rfl e2 (Nat.lt_succ_self _) ha ?_
 rw [ha,←e1,←e3,ho]
 exact hrow
theorem q0jo {G1 Gl G':Gh} {w w':World} {R1 Rf:List Root} {sm:Nat} {us:Ty} {y:List us.den} {val:Value} {r s i f ver anc j:Nat} {ts:Ty} {l:List ts.den} {z:ts.den} (hR:RelR G1 R1 w) (hq:R1[r]? =some ⟨.row true ts l,ver,anc⟩) (hab:Nat.beq s ver=true) (hok:q05c sm false us=true)
  (hz:q5m ts (rd ts l i) f us y=some z) (hsm:q5f sm (.slice us)=true) (hv:(avR G1 R1 w (.il r s i f)).1 val) (hc:qkk Gl w' sm (.slice us) y val (j,0)) (ha:G'.anch r=G1.anch r) (hl:Lk Gl w' G' w' (.of j 0) (.of r (i*ts.size+f+1)))
  (ho:∀s,s≠i*ts.size+f+1→Lk G1 w G' w' (.of r s) (.of r s)) (hff:Lk G1 w G' w' .free .free) (hf:qos sm (.slice us)=true→Lk Gl w' G' w' .free .free):Chg G1 w G' Rf w' r ⟨.row true ts l,ver,anc⟩ ⟨.row true ts (upd l i z),ver+1,anc⟩:=by
 have hu:∀b o v,vw G1 w b o=some v→vw G' w' b o=some v:=q6s hff
 have hd:(Nat.beq sm 2&&us.hasSl)=false:=(eq_of_beq hok).symm
 have hsm0:sm≠0:=fun e=>by subst e;simp [q5f]at hsm
 unfold qkk at hc
 rw [hsm]at hc
 obtain⟨a0,c,ev,hin,_⟩:=hc
 rw [hd]at hin
 have hin':=q0o4 (G':=G') hd hsm0 hf hl hin
 obtain⟨q,hq',_,hg⟩:=hv
 rw [hq]at hq';cases hq'
 obtain⟨h1,h2,b,o,h3,h4,h5⟩:=hg (qd hab).symm true ts l rfl
 have hrow:q8n G1 w (qim G1 w r) (.of r 0) ts l (G1.anch r).1 (G1.anch r).2:=hR r _ hq
 refine .row true ts l (upd l i z) (ver+1) rfl qjd (Nat.lt_succ_self _) ha ?_
 rw [ha]
 obtain⟨q1,q2⟩:=hrow
 refine⟨by rw [qjd];exact q1,q2.imp id ?_⟩
 rintro ⟨b4,p4,ea4,d1,d2⟩
 rw [h3]at ea4;cases ea4
 have h0:=ho 0 (by omega)
 have hkeep:∀k,k≠i*ts.size+f→∀t x v,qim G1 w r k t x v→qim G' w' r k t x v:=fun k hk t x v g=>qio hu (ho (k+1) (by omega)) t x v g
 have hcell:∀i' m v,i'<List.length l→m<ts.size→at_ w b (o+i'*ts.size+m)=some v→at_ w' b (o+i'*ts.size+m)=some v:=fun i' m v hi' hm e=>by
  have hlt:=qvf hi' q1 hm
  have:=(d1 _ hlt).1
  rw [←Nat.add_assoc]at this
  rw [(h0 _ _ (q1z e) this).2.1];exact e
 refine⟨b,o,h3,fun m hm=> ?_,fun i' hi'=> ?_⟩
 ·obtain⟨c1,c2,c3⟩:=d1 m hm
  obtain⟨k1,k2,k3⟩:=h0 _ _ (qth c3) c1
  exact⟨k1,(q0o2 k3).trans c2,by rw [k2];exact c3⟩
 ·rw [qjd]at hi'
  by_cases e:i'=i
  ·subst e
   rw [q00r hi']
   exact qcp ts _ z f _ _ hz (d2 i' hi') (fun m u hm _ e=>hcell i' m u hi' hm e) (fun m hm hne t x v g=>hkeep _ (by omega) t x v g) (hcell i' f val hi' h2 h5) ⟨a0,c,ev,hin'⟩
  ·rw [q00q e]
   refine qga ts _ b _ _ b _ _ (fun m v hm e'=>hcell i' m v hi' hm e') (fun k hk t x v g=>hkeep _ (fun e'=> ?_) t x v g) (d2 i' hi')
   have:=qsj (f:=f) (n:=1) e hk (by omega)
   omega
def q0mo (G1:Gh) (w:World) (Gl G':Gh) (w':World) (R1:List Root) (j:Nat):Sr→Prop
 | .row r=>G'.anch r=G1.anch r∧∀u,Lk Gl w' G' w' (.of j u) (.of r u)
 | .inn r i f=>G'.anch r=G1.anch r∧∀ts l ver a,R1[r]? =some ⟨.row true ts l,ver,a⟩→Lk Gl w' G' w' (.of j 0) (.of r (i*ts.size+f+1))∧∀s,s≠i*ts.size+f+1→Lk G1 w G' w' (.of r s) (.of r s)
 |_=>True
def PutOk (G1:Gh) (w:World) (G':Gh) (Rf:List Root) (w':World) (R1:List Root) (ids:List Nat) (p:Put):Prop:=
 ∃r q q',p= .root r q'∧R1[r]? =some q∧(∀cs ss,q.k≠ .box cs ss)∧(∀cs ss,q'.k≠ .box cs ss)∧r∈ids∧Chg G1 w G' Rf w' r q q'
theorem q0f2 {G1 Gl G':Gh} {w w':World} {R1 Rf:List Root} {tm:List AV} {sm:Nat} {t:Ty} {y:t.den} {v:AV} {val:Value} {j:Nat} {ps:List Put} (hR:RelR G1 R1 w) (h:qpd ⟨tm,R1⟩ sm t y v=some ps) (hv:(avR G1 R1 w v).1 val) (hc:qkk Gl w' sm t y val (j,0))
  (hb:∀s∈q24 sm t v,q0mo G1 w Gl G' w' R1 j s) (hff:Lk G1 w G' w' .free .free) (hf:qos sm t=true→Lk Gl w' G' w' .free .free):∀p∈ps,PutOk G1 w G' Rf w' R1 (q11 (q24 sm t v)) p:=by
 unfold qpd at h
 cases ho:q5f sm t with
 |false=>rw [ho]at h;cases h;intro p hp;cases hp
 |true=>
  rw [ho]at h
  obtain⟨us,e⟩:=qmj ho
  subst e
  cases v with
  |nl ts=>cases h;intro p hp;cases hp
  |sl r a=>
   simp only at h
   split at h
   ·rename_i o ts l ver b hq
    split at h
    ·rename_i y' hcond hy'
     cases h
     intro p hp
     obtain⟨c1,c2⟩:=and2 hcond
     have hsrc:q24 sm (.slice us) (.sl r a)=[.row r]:=by simp [q24,ho]
     obtain⟨l1,l2⟩:=hb (.row r) (by rw [hsrc];simp)
     have e:a=b:=qd c1
     subst e
     refine⟨r,_,_,List.mem_singleton.1 hp,hq,fun _ _ e=>(by cases e),fun _ _ e=>(by cases e),(by rw [hsrc];simp [q11,Sr.id]),q0on hq c1 c2 hy' ho hv hc l1 l2 hf⟩
    ·cases h
   ·cases h
  |il r s i f=>
   simp only at h
   split at h
   ·rename_i ts l ver b hq
    split at h
    ·rename_i z hcond hz
     cases h
     intro p hp
     obtain⟨c1,c2⟩:=and2 hcond
     have hsrc:q24 sm (.slice us) (.il r s i f)=[.inn r i f]:=by simp [q24,ho]
     obtain⟨l1,l2⟩:=hb (.inn r i f) (by rw [hsrc];simp)
     obtain⟨l3,l4⟩:=l2 ts l ver b hq
     exact⟨r,_,_,List.mem_singleton.1 hp,hq,fun _ _ e=>(by cases e),fun _ _ e=>(by cases e),(by rw [hsrc];simp [q11,Sr.id]),q0jo hR hq c1 c2 hz ho hv hc l1 l3 l4 hff hf⟩
    ·cases h
   ·cases h
  |_=>cases h
def BackLabs (G1:Gh) (w:World) (Gl G':Gh) (w':World) (R1:List Root):Nat→List Sr→Prop
 |_,[]=>True
 |j,s::ss=>q0mo G1 w Gl G' w' R1 j s∧BackLabs G1 w Gl G' w' R1 (j+1) ss
theorem BackLabs.append {G1 Gl G':Gh} {w w':World} {R1:List Root}:∀ {ss ts:List Sr} {j:Nat},BackLabs G1 w Gl G' w' R1 j (ss++ts)→BackLabs G1 w Gl G' w' R1 j ss∧BackLabs G1 w Gl G' w' R1 (j+ss.length) ts
 | [],ts,j,h=>⟨trivial,by simpa using h⟩
 |s::ss,ts,j,h=>by
  obtain⟨h1,h2⟩:=h
  obtain⟨h3,h4⟩:=BackLabs.append h2
  exact⟨⟨h1,h3⟩,by rw [List.length_cons,show j+(ss.length+1)=j+1+ss.length by omega];exact h4⟩
theorem PutOk.mono {G1 G':Gh} {w w':World} {R1 Rf:List Root} {ids ids':List Nat} {p:Put} (h:PutOk G1 w G' Rf w' R1 ids p) (hi:∀r∈ids,r∈ids'):PutOk G1 w G' Rf w' R1 ids' p:=by
 obtain⟨r,q,q',h1,h2,h3,h4,h5,h6⟩:=h
 exact⟨r,q,q',h1,h2,h3,h4,hi r h5,h6⟩
theorem qi5:∀(ss ts:List Sr),q11 (ss++ts)=q11 ss++q11 ts
 | [],_=>rfl
 |s::ss,ts=>by simp [q11,qi5 ss ts]
theorem q0jm {G1 Gl G':Gh} {w w':World} {R1 Rf:List Root} {tm:List AV} {sm:Nat} (hR:RelR G1 R1 w) (hff:Lk G1 w G' w' .free .free):∀ {ts:Ty} {y:ts.den} {a:AV} {vals:List Value} {j:Nat} {ps:List Put},qmu ⟨tm,R1⟩ sm ts y a=some ps→(avR G1 R1 w a).2 vals→
  qmp Gl w' sm ts y vals (qnm j (q10 sm ts))→BackLabs G1 w Gl G' w' R1 j (q32 sm ts a)→(qi0 sm ts=true→Lk Gl w' G' w' .free .free)→∀p∈ps,PutOk G1 w G' Rf w' R1 (q11 (q32 sm ts a)) p:=by
 intro ts
 induction ts with
 |nil=>
  intro y a vals j ps h _ _ _ _
  cases a with
  |nil=>cases h;intro p hp;cases hp
  |_=>cases h
 |cons t ts _ ih=>
  intro y a vals j ps h hv hc hb hf
  cases a with
  |cons v a=>
   obtain⟨v0,vs',e,g1,g2⟩:=hv
   subst e
   obtain⟨v1,vs1,e1,c1,c2⟩:=hc
   cases e1
   simp only [qmu]at h
   split at h
   ·rename_i p1 p2 h1 h2
    cases h
    obtain⟨b1,b2⟩:=BackLabs.append hb
    rw [q8o]at b2
    have hd:(qnm j (q10 sm (.cons t ts))).drop (q1w sm t)=qnm (j+q1w sm t) (q10 sm ts):=q02o j _ _
    rw [hd]at c2
    intro p hp
    simp only [q32,qi5]
    rcases List.mem_append.1 hp with hp|hp
    ·have hc1:q5f sm t=true→(qnm j (q10 sm (.cons t ts))).headD (0,0)=(j,0):=fun ho=>(q5k j _).head (by simp [q10,q1w,ho];omega)
     have hcell:qkk Gl w' sm t y.1 v0 (j,0):=by
      cases ho:q5f sm t with
      |true=>rw [hc1 ho]at c1;exact c1
      |false=>unfold qkk at c1 ⊢;rw [ho]at c1 ⊢;exact c1
     refine(q0f2 hR h1 g1 hcell (fun s hs=> ?_) hff (fun hh=>hf (by simp [qi0,hh])) p hp).mono (fun r hr=>List.mem_append_left _ hr)
     cases hsl:q24 sm t v with
     |nil=>rw [hsl]at hs;cases hs
     |cons s0 ss=>
      have hlen:=q8o sm t v
      rw [hsl]at hs b1 hlen
      have:ss=[]:=by
       have h1:q1w sm t≤1:=by unfold q1w;split<;>simp
       simp at hlen
       cases ss with
       |nil=>rfl
       |cons _ _=>simp at hlen;omega
      subst this
      rw [List.mem_singleton.1 hs];exact b1.1
    ·refine(ih h2 g2 c2 b2 (fun hh=> ?_) p hp).mono (fun r hr=>List.mem_append_right _ hr)
     cases ts with
     |nil=>exact hf (by simp only [qi0]at hh ⊢;rw [hh];simp)
     |cons _ _=>exact hf (by simp only [qi0]at hh ⊢;rw [hh];simp)
     |_=>exact c2.elim
   ·cases h
  |_=>cases h
 |_=>intro y a vals j ps h;cases a<;>cases h
theorem q0e4 {G1 G':Gh} {w w':World} {R1 Rf:List Root} {tm:List AV}:∀(rs:List Nat),(∀r∈rs,∀q,R1[r]? =some q→∀cs ss,q.k≠ .box cs ss)→∀p∈qg7 ⟨tm,R1⟩ rs,PutOk G1 w G' Rf w' R1 rs p
 | [],_,p,hp=>by cases hp
 |r::rs,hb,p,hp=>by
  have ih:=q0e4 (G1:=G1) (G':=G') (w:=w) (w':=w') (Rf:=Rf) (tm:=tm) rs (fun r' hr=>hb r' (List.mem_cons_of_mem _ hr))
  simp only [qg7]at hp
  split at hp
  ·rename_i q hq
   rcases List.mem_cons.1 hp with e|hp
   ·have hnb:=hb r (by simp) q hq
    refine⟨r,q,q30 q,e,hq,hnb,?_,by simp,?_⟩
    ·intro cs ss e'
     unfold q30 at e'
     cases hk:q.k with
     |box _ _=>exact hnb _ _ hk
     |_=>rw [hk]at e';first|exact hnb _ _ e'|cases e'
    ·cases hk:q.k with
     |dead=>
      have e:q30 q=q:=by unfold q30;rw [hk]
      rw [e]
      exact .kept (fun h=>absurd (by rw [hk];rfl) h) (fun _ h=>absurd (by rw [hk];rfl) h)
     |box cs ss=>exact absurd hk (hnb cs ss)
     |row o ts l=>
      have e:q30 q=⟨.dead,q.ver+1,q.anc+1⟩:=by unfold q30;rw [hk]
      rw [e]
      exact .dead _ hnb rfl (Nat.lt_succ_self _) (Nat.lt_succ_self _)
     |fro ts l=>
      have e:q30 q=⟨.dead,q.ver+1,q.anc+1⟩:=by unfold q30;rw [hk]
      rw [e]
      exact .dead _ hnb rfl (Nat.lt_succ_self _) (Nat.lt_succ_self _)
   ·exact(ih p hp).mono (fun r hr=>List.mem_cons_of_mem _ hr)
  ·exact(ih p hp).mono (fun r hr=>List.mem_cons_of_mem _ hr)
end
end Go.Proofs.YtpmjopbgccajgaaGreat.Eng
namespace Go.Proofs.YtpmjopbgccajgaaGreat.Eng
open Go.RowKit
section
def q0d0 (G1:Gh) (w:World) (Gl G':Gh) (w':World) (R1:List Root) (tm:List AV) (m:Md) (t:Ty) (v:AV) (j n:Nat):Prop:=match m.ptr with
 |true=>(∀r f,v= .bp r f→Lk Gl w' G' w' (.of j 0) (.of r 0))∧∀i,i<q10 m.sm t→Ren false Gl w' G' (j+1+i,0) (n+i,0)
 |false=>BackLabs G1 w Gl G' w' R1 j (q5n ⟨tm,R1⟩ m t v)
def q0hg (m:Md) (t:Ty):Nat:=match m.ptr with|true=>q10 m.sm t|false=>0
def qqs (G1:Gh) (w:World) (Gl G':Gh) (w':World) (R1:List Root) (tm:List AV):List (Md×Ty×AV)→Nat→Nat→Prop
 | [],_,_=>True
 |(m,t,v)::vs,j,n=>match qnn m with
  |false=>qqs G1 w Gl G' w' R1 tm vs j n
  |true=>q0d0 G1 w Gl G' w' R1 tm m t v j n∧qqs G1 w Gl G' w' R1 tm vs (j+q0l m t) (n+q0hg m t)
def q0mm (G1 G':Gh) (R:List Root) (w':World) (ps:List Put):Prop:=
 ∀r f v,Put.cell r f v∈ps→∃b o val,(G1.anch r).1=some ⟨b,o,none⟩∧G'.own b (o+f)= .of r 0∧w'.frozen? ⟨b,o+f,none⟩=false∧at_ w' b (o+f)=some val∧(avR G' R w' v).1 val
def RootPuts (G1:Gh) (w:World) (G':Gh) (Rf:List Root) (w':World) (R1:List Root) (ps:List Put):Prop:=
 ∀p∈ps,(∃r f v,p= .cell r f v)∨∃ids,PutOk G1 w G' Rf w' R1 ids p
def Put1 (ps:List Put):Sr→Prop
 | .nul=>True
 | .row r=>∃q,Put.root r q∈ps
 | .inn r _ _=>∃q,Put.root r q∈ps
 | .box r f n=>∀i,i<n→∃v,Put.cell r (f+i) v∈ps
theorem Put1.left {ps ps':List Put} {s:Sr} (h:Put1 ps s):Put1 (ps++ps') s:=by
 cases s with
 |nul=>trivial
 |row r=>obtain⟨q,h⟩:=h;exact⟨q,List.mem_append_left _ h⟩
 |inn r i f=>obtain⟨q,h⟩:=h;exact⟨q,List.mem_append_left _ h⟩
 |box r f n=>intro i hi;obtain⟨v,h⟩:=h i hi;exact⟨v,List.mem_append_left _ h⟩
theorem Put1.right {ps ps':List Put} {s:Sr} (h:Put1 ps' s):Put1 (ps++ps') s:=by
 cases s with
 |nul=>trivial
 |row r=>obtain⟨q,h⟩:=h;exact⟨q,List.mem_append_right _ h⟩
 |inn r i f=>obtain⟨q,h⟩:=h;exact⟨q,List.mem_append_right _ h⟩
 |box r f n=>intro i hi;obtain⟨v,h⟩:=h i hi;exact⟨v,List.mem_append_right _ h⟩
theorem q0ia {tm:List AV} {R1:List Root} {sm:Nat} {t:Ty} {y:t.den} {v:AV} {ps:List Put} (h:qpd ⟨tm,R1⟩ sm t y v=some ps):
  (∀s∈q24 sm t v,Put1 ps s)∧∀p∈ps,p.at∈q11 (q24 sm t v):=by
 unfold qpd at h
 cases ho:q5f sm t with
 |false=>rw [ho]at h;cases h;refine⟨fun s hs=> ?_,fun p hp=>(by cases hp)⟩;simp [q24,ho]at hs
 |true=>
  rw [ho]at h
  obtain⟨us,e⟩:=qmj ho
  subst e
  cases v with
  |nl ts=>
   cases h
   refine⟨fun s hs=> ?_,fun p hp=>(by cases hp)⟩
   simp [q24,ho]at hs;subst hs;trivial
  |sl r a=>
   simp only at h
   split at h
   ·split at h
    ·cases h
     refine⟨fun s hs=> ?_,fun p hp=> ?_⟩
     ·simp [q24,ho]at hs;subst hs;exact⟨_,List.mem_singleton.2 rfl⟩
     ·rw [List.mem_singleton.1 hp];simp [q24,ho,q11,Sr.id,Put.at]
    ·cases h
   ·cases h
  |il r s i f=>
   simp only at h
   split at h
   ·split at h
    ·cases h
     refine⟨fun s hs=> ?_,fun p hp=> ?_⟩
     ·simp [q24,ho]at hs;subst hs;exact⟨_,List.mem_singleton.2 rfl⟩
     ·rw [List.mem_singleton.1 hp];simp [q24,ho,q11,Sr.id,Put.at]
    ·cases h
   ·cases h
  |_=>cases h
theorem q0m9 {tm:List AV} {R1:List Root} {sm:Nat}:∀ {ts:Ty} {y:ts.den} {a:AV} {ps:List Put},qmu ⟨tm,R1⟩ sm ts y a=some ps→
  (∀s∈q32 sm ts a,Put1 ps s)∧∀p∈ps,p.at∈q11 (q32 sm ts a):=by
 intro ts
 induction ts with
 |nil=>
  intro y a ps h
  cases a with
  |nil=>cases h;exact⟨fun s hs=>(by cases hs),fun p hp=>(by cases hp)⟩
  |_=>cases h
 |cons t ts _ ih=>
  intro y a ps h
  cases a with
  |cons v a=>
   simp only [qmu]at h
   split at h
   ·rename_i p1 p2 h1 h2
    cases h
    obtain⟨a1,a2⟩:=q0ia h1
    obtain⟨b1,b2⟩:=ih h2
    refine⟨fun s hs=> ?_,fun p hp=> ?_⟩
    ·rcases List.mem_append.1 hs with hs|hs
     ·exact(a1 s hs).left
     ·exact(b1 s hs).right
    ·simp only [q32,qi5]
     rcases List.mem_append.1 hp with hp|hp
     ·exact List.mem_append_left _ (a2 p hp)
     ·exact List.mem_append_right _ (b2 p hp)
   ·cases h
  |_=>cases h
 |_=>intro y a ps h;cases a<;>cases h
theorem q0p9 {G1 G':Gh} {w w':World} {R R1 Rf:List Root} {ids:List Nat} {ps:List Put} (h:∀p∈ps,PutOk G1 w G' Rf w' R1 ids p) (G2:Gh) (R2:List Root):q0mm G1 G2 R2 w' ps:=by
 intro r f v hm
 obtain⟨_,_,_,e,_⟩:=h _ hm
 cases e
theorem qp0 {r:Nat}:∀ {a:AV} {f:Nat} {p:Put},p∈qni r f a→∃i,i<a.toList.length∧p= .cell r (f+i) (a.toList.getD i .undef):=by
 intro a
 induction a with
 |cons v a _ ih=>
  intro f p hp
  simp only [qni,List.mem_cons]at hp
  rcases hp with e|hp
  ·exact⟨0,by simp [AV.toList],by simpa [AV.toList]using e⟩
  ·obtain⟨i,hi,e⟩:=ih hp
   refine⟨i+1,by simpa [AV.toList]using hi,?_⟩
   rw [e,show f+1+i=f+(i+1) by omega]
   simp [AV.toList]
 |_=>intro f p hp;cases hp
theorem q0dx {r:Nat}:∀ {a:AV} {f i:Nat},i<a.toList.length→∃v,Put.cell r (f+i) v∈qni r f a:=by
 intro a
 induction a with
 |cons v a _ ih=>
  intro f i hi
  cases i with
  |zero=>exact⟨v,by simp [qni]⟩
  |succ i=>
   obtain⟨v',h⟩:=ih (f:=f+1) (i:=i) (by simpa [AV.toList]using hi)
   exact⟨v',by simp only [qni,List.mem_cons];right;rwa [show f+(i+1)=f+1+i by omega]⟩
 |_=>intro f i hi;simp [AV.toList]at hi
theorem qla {tm:List AV} {R1:List Root}:∀ {rs:List Nat} {p:Put},p∈qg7 ⟨tm,R1⟩ rs→∃r q,p= .root r q∧r∈rs
 | [],p,hp=>by cases hp
 |r::rs,p,hp=>by
  simp only [qg7]at hp
  split at hp
  ·rcases List.mem_cons.1 hp with e|hp
   ·exact⟨_,_,e,by simp⟩
   ·obtain⟨r',q',e,h⟩:=qla hp;exact⟨r',q',e,List.mem_cons_of_mem _ h⟩
  ·obtain⟨r',q',e,h⟩:=qla hp;exact⟨r',q',e,List.mem_cons_of_mem _ h⟩
theorem qoh {tm:List AV} {R1:List Root}:∀ {rs:List Nat} {r:Nat} {q:Root},r∈rs→R1[r]? =some q→∃q',Put.root r q'∈qg7 ⟨tm,R1⟩ rs
 |r'::rs,r,q,h,hq=>by
  rcases List.mem_cons.1 h with e|h
  ·subst e;simp only [qg7,hq];exact⟨_,List.mem_cons_self⟩
  ·obtain⟨q',h'⟩:=qoh (tm:=tm) h hq
   simp only [qg7]
   split
   ·exact⟨q',List.mem_cons_of_mem _ h'⟩
   ·exact⟨q',h'⟩
theorem q87:∀ {ss:List Sr} {r:Nat},r∈q2q ss↔(Sr.row r∈ss∨∃i f,Sr.inn r i f∈ss)
 | [],r=>by simp [q2q]
 | .row r'::ss,r=>by
  simp only [q2q,List.mem_cons,q87 (ss:=ss),Sr.row.injEq]
  constructor
  ·rintro (e|h|⟨i,f,h⟩)
   ·exact .inl (.inl e)
   ·exact .inl (.inr h)
   ·exact .inr ⟨i,f,.inr h⟩
  ·rintro ((e|h)|⟨i,f,(h|h)⟩)
   ·exact .inl e
   ·exact .inr (.inl h)
   ·cases h
   ·exact .inr (.inr ⟨i,f,h⟩)
 | .inn r' i' f'::ss,r=>by
  simp only [q2q,List.mem_cons,q87 (ss:=ss),Sr.inn.injEq]
  constructor
  ·rintro (e|h|⟨i,f,h⟩)
   ·exact .inr ⟨i',f',.inl ⟨e,rfl,rfl⟩⟩
   ·exact .inl (.inr h)
   ·exact .inr ⟨i,f,.inr h⟩
  ·rintro ((e|h)|⟨i,f,(h|h)⟩)
   ·cases e
   ·exact .inr (.inl h)
   ·exact .inl h.1
   ·exact .inr (.inr ⟨i,f,h⟩)
 | .nul::ss,r=>by simp [q2q,q87 (ss:=ss)]
 | .box r' f' n'::ss,r=>by simp [q2q,q87 (ss:=ss)]
theorem qin:∀ {ss:List Sr} {r:Nat},r∈q2q ss→r∈q11 ss
 | .row r'::ss,r,h=>by
  simp only [q2q,List.mem_cons]at h
  simp only [q11,Sr.id,List.mem_append,List.mem_singleton]
  exact h.imp id qin
 | .inn r' _ _::ss,r,h=>by
  simp only [q2q,List.mem_cons]at h
  simp only [q11,Sr.id,List.mem_append,List.mem_singleton]
  exact h.imp id qin
 | .nul::ss,r,h=>by
  simp only [q2q]at h
  simp only [q11,List.mem_append]
  exact .inr (qin h)
 | .box r' _ _::ss,r,h=>by
  simp only [q2q]at h
  simp only [q11,List.mem_append]
  exact .inr (qin h)
theorem qlf {sm:Nat}:∀ {ts:Ty} {a:AV} {s:Sr},s∈q32 sm ts a→∀r f n,s≠ .box r f n:=by
 intro ts
 induction ts with
 |cons t ts _ ih=>
  intro a s hs r f n e
  cases a with
  |cons v a=>
   rcases List.mem_append.1 hs with hs|hs
   ·subst e
    unfold q24 at hs
    split at hs
    ·cases hs
    ·cases v<;>simp at hs
   ·exact ih hs r f n e
  |_=>cases hs
 |_=>intro a s hs;cases a<;>cases hs
theorem q0iq {R:List Root} {tm:List AV} {m:Md} {t:Ty} {a:AV} {x:t.den} (h:qpu ⟨tm,R⟩ m t a=some x) (h1:m.ptr=false) (R1:List Root):(q5n ⟨tm,R1⟩ m t a).length=q0l m t:=by
 have:=qsx h
 unfold q5n at this ⊢
 rw [h1]at this ⊢
 exact this
theorem q0ip {R:List Root} {tm:List AV} {m:Md} {t:Ty} {cs:AV} (hp:m.ptr=false) (hc:qbz t=true):q5n ⟨tm,R⟩ m t (.agg cs)=q32 m.sm t cs:=by unfold q5n;rw [hp,hc]
theorem q0fi {R:List Root} {tm:List AV} {m:Md} {t:Ty} {v:AV} (hp:m.ptr=false) (hc:qbz t=false):q5n ⟨tm,R⟩ m t v=q24 m.sm t v:=by unfold q5n;rw [hp,hc]
theorem q0nk {G1 Gl G':Gh} {w w':World} {R0 R1 Rf:List Root} {tm:List AV} {m:Md} {t:Ty} {y:t.den} {v:AV} {val:Value} {j n:Nat} {L:List (Nat×Nat)} {ps:List Put} {N:List Root} {x:t.den} (hR:RelR G1 R1 w) (hff:Lk G1 w G' w' .free .free)
  (h:q0gp ⟨tm,R1⟩ m t y v n=some (ps,N)) (hout:qpu ⟨tm,R0⟩ m t v=some x) (hv:(avR G1 R1 w v).1 val) (hL:consec L j (q0l m t)) (hc:hOne Gl w' m t y val L) (hb:q0d0 G1 w Gl G' w' R1 tm m t v j n)
  (hrow:∀r∈q2q (q5n ⟨tm,R1⟩ m t v),∃q,R1[r]? =some q∧∀cs ss,q.k≠ .box cs ss) (hf:qi0 m.sm t=true→Lk Gl w' G' w' .free .free):
  N.length=q0hg m t∧InOk G' w' n N.length N (fun G R=>q0mm G1 G R w' ps)∧RootPuts G1 w G' Rf w' R1 ps∧(∀s∈q5n ⟨tm,R1⟩ m t v,Put1 ps s)∧(∀p∈ps,p.at∈q11 (q5n ⟨tm,R1⟩ m t v)):=by
 unfold q0gp at h
 unfold hOne at hc
 unfold q0d0 at hb
 unfold q0l at hL
 unfold q0hg
 cases hp:m.ptr with
 |true=>
  rw [hp]at h hc hb hL
  simp only at h hc hb hL ⊢
  cases v with
  |bp r f=>
   simp only at h
   cases hbx:q97 R1 r with
   |false=>rw [hbx]at h;cases h
   |true=>
    rw [hbx]at h
    simp only [Option.some.injEq,Prod.mk.injEq]at h
    obtain⟨e1,e2⟩:=h
    have hsrc:q5n ⟨tm,R1⟩ m t (.bp r f)= .box r f t.size::q32 m.sm t (q7a ⟨tm,R1⟩ r f t.size):=by unfold q5n;rw [hp]
    rw [hsrc]at hrow ⊢
    generalize hS:q32 m.sm t (q7a ⟨tm,R1⟩ r f t.size)=S at e1 hrow
    have hSb:∀s∈S,∀r f n,s≠ .box r f n:=by rw [←hS];exact fun s hs=>qlf hs
    have hkill:=q0e4 (G1:=G1) (G':=G') (w:=w) (w':=w') (R1:=R1) (Rf:=Rf) (tm:=tm) (q2q S) (fun r hr q hq=>by
     obtain⟨q',h1,h2⟩:=hrow r hr
     rw [hq]at h1;cases h1;exact h2)
    obtain⟨b,o,vs,ev,hvl,h0,hcs,hcells⟩:=hc
    obtain⟨b1,b2⟩:=hb
    have hhead:=hL.head (by omega)
    rw [hhead]at hcs
    have hlk:=b1 r f rfl
    obtain⟨q,hq,g⟩:=hv
    obtain⟨kk,ver,anc⟩:=q
    have hk:∃cs ss,kk= .box cs ss:=by
     simp only [q97,hq]at hbx
     cases kk with
     |box cs ss=>exact⟨cs,ss,rfl⟩
     |_=>cases hbx
    obtain⟨cs,ss,hk⟩:=hk
    subst hk
    obtain⟨b0,o0,ea,ev'⟩:=g cs.length .nil rfl
    rw [ev]at ev'
    have ebo:b=b0∧o=o0+f:=by simpa using ev'
    obtain⟨eb,eo⟩:=ebo
    subst eb;subst eo
    have hcells':qmp G' w' m.sm t y vs (qnm n (q10 m.sm t)):=q043 (soft:=false) hcells hf (fun i hi=>by
     have a1:(L.drop 1).getD i (0,0)=(j+1+i,0):=hL.right i hi
     have a2:=q5k n (q10 m.sm t) i hi
     rw [a1,a2];exact b2 i hi)
    have hin:=q0bm hcells' (q5k n _)
    have hNl:N.length=q10 m.sm t:=by rw [←e2,qod]
    refine⟨hNl,?_,?_,?_,?_⟩
    ·rw [hNl,←e2]
     obtain⟨k1,A,k2,k3⟩:=hin
     refine⟨k1,A,k2,fun an han R' hR'=> ?_⟩
     obtain⟨g1,g2⟩:=k3 an han R' hR'
     refine⟨g1,fun r' f' v' hm=> ?_⟩
     rw [←e1]at hm
     rcases List.mem_append.1 hm with hm|hm
     ·obtain⟨_,_,e,_⟩:=qla hm;cases e
     ·obtain⟨i,hi,e⟩:=qp0 hm
      cases e
      rw [qql]at hi
      obtain⟨l1,l2⟩:=q047 _ _ g2
      obtain⟨c1,c2,c3⟩:=hcs i hi
      refine⟨b,o0,vs.getD i undef,ea,?_,?_,?_,l2 i (by omega)⟩
      ·rw [←Nat.add_assoc];exact(hlk _ _ (q1z c3) c1).1
      ·rw [←Nat.add_assoc];exact c2
      ·rw [←Nat.add_assoc];exact c3
    ·intro p hp'
     rw [←e1]at hp'
     rcases List.mem_append.1 hp' with h|h
     ·exact .inr ⟨_,hkill p h⟩
     ·obtain⟨i,_,e⟩:=qp0 h;exact .inl ⟨_,_,_,e⟩
    ·intro s hs
     rw [←e1]
     rcases List.mem_cons.1 hs with e|hs
     ·subst e
      intro i hi
      obtain⟨v',h⟩:=q0dx (r:=r) (f:=f) (a:=qol m.sm t y n) (i:=i) (by rw [qql];exact hi)
      exact⟨v',List.mem_append_right _ h⟩
     ·refine Put1.left ?_
      have hs':=hs
      cases s with
      |nul=>trivial
      |row r'=>
       have hm:r'∈q2q S:=q87.2 (.inl hs')
       obtain⟨q',hq',_⟩:=hrow r' hm
       exact qoh hm hq'
      |inn r' i f'=>
       have hm:r'∈q2q S:=q87.2 (.inr ⟨i,f',hs'⟩)
       obtain⟨q',hq',_⟩:=hrow r' hm
       exact qoh hm hq'
      |box r' f' n'=>exact absurd rfl (hSb _ hs' r' f' n')
    ·intro p hp'
     rw [←e1]at hp'
     simp only [q11,Sr.id,List.mem_append,List.mem_singleton]
     rcases List.mem_append.1 hp' with h|h
     ·obtain⟨r',q',e,hm⟩:=qla h
      subst e;exact .inr (qin hm)
     ·obtain⟨i,_,e⟩:=qp0 h;subst e;exact .inl rfl
  |_=>cases h
 |false=>
  rw [hp]at h hc hb hL
  simp only at h hc hb hL ⊢
  cases hcn:qbz t with
  |true=>
   rw [hcn]at h hc hL
   simp only at h hc hL
   cases v with
   |agg cs=>
    simp only at h
    have hso:=q0ip (R:=R1) (tm:=tm) (cs:=cs) hp hcn
    rw [hso]at hb ⊢
    split at h
    ·rename_i ps' hps
     cases h
     obtain⟨vs,ev,hc⟩:=hc
     obtain⟨vs',ev',hv'⟩:=hv
     rw [ev]at ev'
     have:vs=vs':=by simpa using ev'
     subst this
     have hc':qmp Gl w' m.sm t y vs (qnm j (q10 m.sm t)):=by
      have key:∀(ts:Ty) (y:ts.den) (vs:List Value) (L L':List (Nat×Nat)),(∀i,i<q10 m.sm ts→L.getD i (0,0)=L'.getD i (0,0))→qmp Gl w' m.sm ts y vs L→qmp Gl w' m.sm ts y vs L':=by
       intro ts
       induction ts with
       |nil=>intro y vs L L' _ h;exact h
       |cons t ts _ ih=>
        intro y vs L L' hl h
        obtain⟨v,vs',e,h1,h2⟩:=h
        refine⟨v,vs',e,?_,ih _ _ _ _ (fun i hi=> ?_) h2⟩
        ·cases ho:q5f m.sm t with
         |false=>unfold qkk at h1 ⊢;rw [ho]at h1 ⊢;exact h1
         |true=>
          have:=hl 0 (by simp [q10,q1w,ho];omega)
          rw [←qmo,←qmo]at this
          rw [←this];exact h1
        ·have:=hl (q1w m.sm t+i) (by simp only [q10];omega)
         simp only [List.getD_eq_getElem?_getD,List.getElem?_drop]at this ⊢
         exact this
       |_=>intro y vs L L' _ h;exact h.elim
      exact key t y vs L _ (fun i hi=>by rw [hL i hi,q5k j _ i hi]) hc
     have hP:=q0jm (Rf:=Rf) hR hff hps hv' hc' hb hf
     obtain⟨p1,p2⟩:=q0m9 hps
     exact⟨rfl,InOk.none (fun an R'=>q0p9 (R:=R1) hP _ _),fun p hp=> .inr ⟨_,hP p hp⟩,p1,p2⟩
    ·cases h
   |_=>cases h
  |false=>
   rw [hcn]at h hc hL
   simp only at h hc hL
   have hso:=q0fi (R:=R1) (tm:=tm) (v:=v) hp hcn
   rw [hso]at hb ⊢
   split at h
   ·rename_i ps' hps
    cases h
    have hc':qkk Gl w' m.sm t y val (j,0):=by
     cases ho:q5f m.sm t with
     |true=>rw [hL.head (by simp [q1w,ho])]at hc;exact hc
     |false=>unfold qkk at hc ⊢;rw [ho]at hc ⊢;exact hc
    have hP:=q0f2 (Rf:=Rf) hR hps hv hc' (fun s hs=>by
     cases hsl:q24 m.sm t v with
     |nil=>rw [hsl]at hs;cases hs
     |cons s0 ss=>
      have hlen:=q8o m.sm t v
      rw [hsl]at hs hb hlen
      have:ss=[]:=by
       have h1:q1w m.sm t≤1:=by unfold q1w;split<;>simp
       simp at hlen
       cases ss with
       |nil=>rfl
       |cons _ _=>simp at hlen;omega
      subst this
      rw [List.mem_singleton.1 hs];exact hb.1) hff (fun hh=>hf (by
       cases t with
       |cons _ _=>cases hcn
       |nil=>cases hcn
       |_=>exact hh))
    obtain⟨p1,p2⟩:=q0ia hps
    exact⟨rfl,InOk.none (fun an R'=>q0p9 (R:=R1) hP _ _),fun p hp=> .inr ⟨_,hP p hp⟩,p1,p2⟩
   ·cases h
theorem q6x:∀(ss ts:List Sr),q2q (ss++ts)=q2q ss++q2q ts
 | [],_=>rfl
 | .row r::ss,ts=>by simp [q2q,q6x ss ts]
 | .inn r _ _::ss,ts=>by simp [q2q,q6x ss ts]
 | .nul::ss,ts=>by simp [q2q,q6x ss ts]
 | .box _ _ _::ss,ts=>by simp [q2q,q6x ss ts]
theorem q0io {R:List Root} {tm:List AV} {m:Md} {t:Ty} {v:AV} (h:qnn m=false):q5n ⟨tm,R⟩ m t v=[]:=by
 unfold qnn at h
 obtain⟨h1,h2⟩:=Bool.or_eq_false_iff.1 h
 have hsm:m.sm=0:=qd (by simpa using h2)
 have h3:∀(t:Ty) (v:AV),q24 m.sm t v=[]:=fun t v=>by rw [hsm];simp [q24,q5f]
 have h4:∀(t:Ty) (a:AV),q32 m.sm t a=[]:=by
  intro t
  induction t with
  |cons t ts _ ih=>
   intro a
   cases a with
   |cons v a=>simp [q32,h3,ih]
   |_=>rfl
  |_=>intro a;cases a<;>rfl
 unfold q5n
 rw [h1]
 simp only
 cases qbz t with
 |true=>cases v<;>simp [h4]
 |false=>exact h3 _ _
theorem RootPuts.append {G1:Gh} {w:World} {G':Gh} {Rf:List Root} {w':World} {R1:List Root} {ps ps':List Put} (h:RootPuts G1 w G' Rf w' R1 ps) (h':RootPuts G1 w G' Rf w' R1 ps'):RootPuts G1 w G' Rf w' R1 (ps++ps'):=fun p hp=>by
 rcases List.mem_append.1 hp with hp|hp
 ·exact h p hp
 ·exact h' p hp
theorem q0ih {G1 Gl G':Gh} {w w':World} {R0 R1 Rf:List Root} {tm:List AV} (hR:RelR G1 R1 w) (hff:Lk G1 w G' w' .free .free):∀ {PT:Ty} {pm:List Md} {as:List AV} {x:PT.den} {args:List Value} {ts:Ty} {y:ts.den} {ms:List Md} {j n:Nat} {ps:List Put} {N:List Root},
  ql4 ⟨tm,R0⟩ PT pm as=some x→as.length=args.length→(∀i,i<as.length→(avR G1 R1 w (as.getD i .undef)).1 (args.getD i undef))→q046 ⟨tm,R1⟩ (q4m PT pm as) ts y ms n=some (ps,N)→qyf Gl w' ts y ms (qlx pm args) (qnm j (q40 ts ms))→
  qqs G1 w Gl G' w' R1 tm (q4m PT pm as) j n→(∀r∈q2q (q46 ⟨tm,R1⟩ PT pm as),∃q,R1[r]? =some q∧∀cs ss,q.k≠ .box cs ss)→(qse ts ms=true→Lk Gl w' G' w' .free .free)→
  InOk G' w' n N.length N (fun G R=>q0mm G1 G R w' ps)∧RootPuts G1 w G' Rf w' R1 ps∧(∀s∈q46 ⟨tm,R1⟩ PT pm as,Put1 ps s)∧(∀p∈ps,p.at∈q11 (q46 ⟨tm,R1⟩ PT pm as)):=by
 intro PT
 induction PT with
 |nil=>
  intro pm as x args ts y ms j n ps N hout hlen hv hb hall hB hrow hro
  cases pm with
  |cons _ _=>cases as<;>cases hout
  |nil=>
   cases as with
   |cons _ _=>cases hout
   |nil=>
    simp only [q4m]at hb
    cases ts with
    |nil=>
     cases ms with
     |nil=>cases hb;exact⟨InOk.none (fun an R' r f v hm=>by cases hm),fun p hp=>(by cases hp),fun s hs=>(by cases hs),fun p hp=>(by cases hp)⟩
     |cons _ _=>cases hb
    |_=>cases ms<;>cases hb
 |cons t PT _ ih=>
  intro pm as x args ts y ms j n ps N hout hlen hv hb hall hB hrow hro
  cases pm with
  |nil=>cases as<;>cases hout
  |cons m pm=>
   cases as with
   |nil=>cases hout
   |cons v as=>
    cases args with
    |nil=>simp at hlen
    |cons a args=>
     simp only [ql4]at hout
     split at hout
     ·rename_i x0 y0 ho1 ho2
      simp only [q4m,q046]at hb
      simp only [q4m,qqs]at hB
      simp only [qlx]at hall
      simp only [q46,qi5,q6x]at hrow ⊢
      cases hl:qnn m with
      |false=>
       rw [hl]at hb hB hall
       simp only at hb hB hall
       rw [q0io hl]at hrow ⊢
       exact ih ho2 (by simpa using hlen) (fun i hi=>by simpa using hv (i+1) (by simpa using hi)) hb hall hB hrow hro
      |true=>
       rw [hl]at hb hB hall
       simp only at hb hB hall
       obtain⟨B1,B2⟩:=hB
       split at hb
       ·rename_i t' ts' y' m' ms'
        split at hb
        ·rename_i ps1 rs1 hcond hone
         split at hb
         ·rename_i ps2 rs2 hrest
          cases hb
          obtain⟨hc12,hc3⟩:=and2 hcond
          obtain⟨hc1,hc2⟩:=and2 hc12
          have et:t=t':=q0i4 hc3
          subst et
          have em:m'=m:=by
           obtain⟨p1,s1⟩:=m
           obtain⟨p2,s2⟩:=m'
           have h1:p2=p1:=eq_of_beq hc1
           have h2:s2=s1:=qd hc2
           rw [h1,h2]
          subst em
          obtain⟨hall1,hall2⟩:=hall
          have hd:(qnm j (q40 (.cons t ts') (m'::ms'))).drop (q0l m' t)=qnm (j+q0l m' t) (q40 ts' ms'):=q02o j _ _
          rw [hd]at hall2
          obtain⟨o1,o2,o3,o4,o5⟩:=q0nk (Rf:=Rf) hR hff hone ho1 (by simpa using hv 0 (by simp)) (q5k j _).left hall1 B1 (fun r hr=>hrow r (List.mem_append_left _ hr)) (fun hh=>hro (by simp [qse,hh]))
          rw [←o1]at B2
          obtain⟨i1,i2,i3,i4⟩:=ih ho2 (by simpa using hlen) (fun i hi=>by simpa using hv (i+1) (by simpa using hi)) hrest hall2 B2 (fun r hr=>hrow r (List.mem_append_right _ hr)) (fun hh=>hro (by simp [qse,hh]))
          refine⟨?_,i2 |> RootPuts.append o3,fun s hs=> ?_,fun p hp=> ?_⟩
          ·obtain⟨k1,A,k2,k3⟩:=o2.append i1
           refine⟨by rw [List.length_append],A,by rw [List.length_append];exact k2,fun an han R' hR'=> ?_⟩
           obtain⟨g1,g2,g3⟩:=k3 an (by rw [List.length_append]at han;exact han) R' hR'
           refine⟨g1,fun r f v hm=> ?_⟩
           rcases List.mem_append.1 hm with hm|hm
           ·exact g2 r f v hm
           ·exact g3 r f v hm
          ·rcases List.mem_append.1 hs with hs|hs
           ·exact(o4 s hs).left
           ·exact(i3 s hs).right
          ·rcases List.mem_append.1 hp with hp|hp
           ·exact List.mem_append_left _ (o5 p hp)
           ·exact List.mem_append_right _ (i4 p hp)
         ·cases hb
        ·cases hb
       ·cases hb
     ·cases hout
 |_=>intro pm as x args ts y ms j n ps N hout;cases pm<;>cases as<;>cases hout
end
end Go.Proofs.YtpmjopbgccajgaaGreat.Eng
namespace Go.Proofs.YtpmjopbgccajgaaGreat.Eng
open Go.RowKit
section
def q0ex:List Sr→Nat→Nat→Option (Nat×Sr)
 | [],_,_=>none
 |x::ss,j,r=>if r∈x.id then some (j,x)else q0ex ss (j+1) r
theorem qut:∀ {ss:List Sr} {j r:Nat},r∉q11 ss→q0ex ss j r=none
 | [],_,_,_=>rfl
 |x::ss,j,r,h=>by
  simp only [q11,List.mem_append,not_or]at h
  simp only [q0ex,if_neg h.1]
  exact qut h.2
theorem qmk:∀ {ss:List Sr} {r:Nat},r∈q11 ss↔∃(k:Nat) (x:Sr),ss[k]? =some x∧r∈x.id
 | [],r=>by simp [q11]
 |x::ss,r=>by
  simp only [q11,List.mem_append,qmk (ss:=ss)]
  constructor
  ·rintro (h|⟨k,y,h1,h2⟩)
   ·exact⟨0,x,rfl,h⟩
   ·exact⟨k+1,y,h1,h2⟩
  ·rintro ⟨k,y,h1,h2⟩
   cases k with
   |zero=>simp at h1;subst h1;exact .inl h2
   |succ k=>exact .inr ⟨k,y,h1,h2⟩
theorem q0i3:∀ {ss:List Sr} {j k r:Nat} {x:Sr},(q11 ss).Nodup→ss[k]? =some x→r∈x.id→q0ex ss j r=some (j+k,x)
 | [],_,_,_,_,_,h,_=>by simp at h
 |y::ss,j,k,r,x,hn,h,hr=>by
  simp only [q11,List.nodup_append]at hn
  obtain⟨n1,n2,n3⟩:=hn
  cases k with
  |zero=>simp at h;subst h;simp [q0ex,hr]
  |succ k=>
   have hm:r∈q11 ss:=qmk.2 ⟨k,x,h,hr⟩
   have hy:r∉y.id:=fun hy=>n3 r hy r hm rfl
   simp only [q0ex,if_neg hy]
   rw [q0i3 n2 (by simpa using h) hr,show j+1+k=j+(k+1) by omega]
def q0qa (G:Gh) (r b o f n:Nat):Prop:=∃O,(G.anch r).1=some ⟨b,O,none⟩∧∃j,j<n∧o=O+f+j
open Classical in
noncomputable def qkn (G:Gh) (R:List Root) (ss:List Sr) (ro:List Nat) (r s b o:Nat):Lab:=match q0ex ss 0 r with
 |none=>if r∈ro then .free else .hid
 |some (j,.row _)=> .of j s
 |some (j,.inn _ i f)=>match R[r]? with|some ⟨.row _ ts _,_,_⟩=>if s=i*ts.size+f+1 then .of j 0 else .hid|_=> .hid
 |some (j,.box _ f n)=>if q0qa G r b o f n then .of j s else .hid
 |some (_,.nul)=> .hid
noncomputable def qp1 (G:Gh) (R:List Root) (ss:List Sr) (ro:List Nat):Gh:=⟨fun b o=>match G.own b o with| .of r s=>qkn G R ss ro r s b o|l=>l,G.anch⟩
theorem q0f5 {G:Gh} {R:List Root} {ss:List Sr} {ro:List Nat} {r s b o:Nat} (h:qkn G R ss ro r s b o= .free):r∈ro:=by
 unfold qkn at h
 split at h
 ·split at h
  ·assumption
  ·cases h
 ·cases h
 ·split at h
  ·split at h<;>cases h
  ·cases h
 ·split at h<;>cases h
 ·cases h
open Classical in
noncomputable def q0oo (G1 Gc Gl:Gh) (w:World) (T:Nat→Nat→Lab) (an:Nat→Option Addr×Nat):Gh:=
 ⟨fun b o=>if b<w.heap.size∧(Gc.own b o= .free∨Gc.own b o= .hid)then G1.own b o else match Gl.own b o with| .of j s=>T j s|l=>l,an⟩
section
variable {G1 Gc Gl:Gh} {w w':World} {T:Nat→Nat→Lab} {an:Nat→Option Addr×Nat}
open Classical in
theorem q0qs (hO:Out Gc w Gl w') (j s:Nat):Lk Gl w' (q0oo G1 Gc Gl w T an) w' (.of j s) (T j s):=fun b o hb e=>by
 refine⟨?_,rfl,rfl⟩
 show (if _ then _ else _)=_
 rw [if_neg]
 ·rw [e]
 ·rintro ⟨h1,h2|h2⟩
  ·have:=(hO.free b o h1 h2).1;rw [e]at this;cases this
  ·have:=(hO.hid b o h1 h2).1;rw [e]at this;cases this
open Classical in
theorem q0f7 (hO:Out Gc w Gl w') {b o:Nat} (hb:b<w.heap.size) (h:Gc.own b o= .free∨Gc.own b o= .hid):
  (q0oo G1 Gc Gl w T an).own b o=G1.own b o∧at_ w' b o=at_ w b o∧fz w' b o=fz w b o:=by
 refine⟨if_pos ⟨hb,h⟩,?_⟩
 rcases h with h|h
 ·exact(hO.free b o hb h).2
 ·exact(hO.hid b o hb h).2
open Classical in
theorem q0mg (hO:Out Gc w Gl w') {L:Lab} (h:∀b o,b<w.heap.size→G1.own b o=L→Gc.own b o= .free∨Gc.own b o= .hid):Lk G1 w (q0oo G1 Gc Gl w T an) w' L L:=fun b o hb e=>by
 obtain⟨h1,h2⟩:=q0f7 (G1:=G1) (T:=T) (an:=an) hO hb (h b o hb e)
 exact⟨h1.trans e,h2⟩
end
def q0qt (R1:List Root):Sr→Nat→Lab
 | .row r,s=> .of r s
 | .inn r i f,_=>match R1[r]? with|some ⟨.row _ ts _,_,_⟩=> .of r (i*ts.size+f+1)|_=> .free
 |_,_=> .free
def boxL:AV→Nat→Lab
 | .bp r _,s=> .of r s
 |_,_=> .free
def oneL (R1:List Root) (tm:List AV) (m:Md) (t:Ty) (v:AV) (n:Nat):List (Nat→Lab):=match m.ptr with
 |true=>boxL v::(List.range (q10 m.sm t)).map (fun i s=>Lab.of (n+i) s)
 |false=>(q5n ⟨tm,R1⟩ m t v).map (q0qt R1)
def q0ja (R1:List Root) (tm:List AV):List (Md×Ty×AV)→Nat→List (Nat→Lab)
 | [],_=>[]
 |(m,t,v)::vs,n=>match qnn m with
  |false=>q0ja R1 tm vs n
  |true=>oneL R1 tm m t v n++q0ja R1 tm vs (n+q0hg m t)
def q02p (l:List (Nat→Lab)) (i s:Nat):Lab:=(l.getD i (fun _=> .free)) s
theorem q0jb {l l':List (Nat→Lab)} {i s:Nat} (h:i<l.length):q02p (l++l') i s=q02p l i s:=by
 unfold q02p;rw [List.getD_eq_getElem?_getD,List.getElem?_append_left h,List.getD_eq_getElem?_getD]
theorem q0g6 {l l':List (Nat→Lab)} {i s:Nat}:q02p (l++l') (l.length+i) s=q02p l' i s:=by
 unfold q02p;rw [List.getD_eq_getElem?_getD,List.getElem?_append_right (by omega),List.getD_eq_getElem?_getD,show l.length+i-l.length=i by omega]
def SrcF (G1:Gh) (w:World) (G':Gh) (w':World) (R1:List Root):Sr→Prop
 | .row r=>G'.anch r=G1.anch r
 | .inn r i f=>G'.anch r=G1.anch r∧∀ts l ver a,R1[r]? =some ⟨.row true ts l,ver,a⟩→∀s,s≠i*ts.size+f+1→Lk G1 w G' w' (.of r s) (.of r s)
 |_=>True
theorem q045 {G1 Gl G':Gh} {w w':World} {R1:List Root} {T:Nat→Nat→Lab} (hl:∀j s,Lk Gl w' G' w' (.of j s) (T j s)):∀(ss:List Sr) (j:Nat),(∀x∈ss,SrcF G1 w G' w' R1 x)→(∀i,i<ss.length→∀s,T (j+i) s=q02p (ss.map (q0qt R1)) i s)→BackLabs G1 w Gl G' w' R1 j ss
 | [],_,_,_=>trivial
 |x::ss,j,hx,hT=>by
  refine⟨?_,q045 hl ss (j+1) (fun x h=>hx x (List.mem_cons_of_mem _ h)) (fun i hi s=> ?_)⟩
  ·have h0:=hT 0 (by simp)
   have hx0:=hx x (by simp)
   cases x with
   |row r=>
    refine⟨hx0,fun u=> ?_⟩
    have:=hl j u
    rw [show T j u= .of r u from h0 u]at this
    exact this
   |inn r i f=>
    refine⟨hx0.1,fun ts l ver a hq=>⟨?_,hx0.2 ts l ver a hq⟩⟩
    have:=hl j 0
    have e:T j 0= .of r (i*ts.size+f+1):=by
     have:=h0 0
     rw [show j+0=j from rfl]at this
     rw [this]
     show (match R1[r]? with|some ⟨.row _ ts _,_,_⟩=>Lab.of r (i*ts.size+f+1)|_=> .free)=_
     rw [hq]
    rw [e]at this
    exact this
   |_=>trivial
  ·have:=hT (i+1) (by simpa using hi) s
   rw [show j+1+i=j+(i+1) by omega,this]
   rfl
theorem q0jp {G1 Gl G':Gh} {w w':World} {R0 R1:List Root} {tm:List AV} {T:Nat→Nat→Lab} (hl:∀j s,Lk Gl w' G' w' (.of j s) (T j s)):∀ {PT:Ty} {pm:List Md} {as:List AV} {x:PT.den} {j n:Nat},ql4 ⟨tm,R0⟩ PT pm as=some x→
  (∀x∈q46 ⟨tm,R1⟩ PT pm as,SrcF G1 w G' w' R1 x)→(∀i,i<(q0ja R1 tm (q4m PT pm as) n).length→∀s,T (j+i) s=q02p (q0ja R1 tm (q4m PT pm as) n) i s)→qqs G1 w Gl G' w' R1 tm (q4m PT pm as) j n:=by
 intro PT
 induction PT with
 |nil=>
  intro pm as x j n hout _ _
  cases pm with
  |nil=>cases as with
   |nil=>trivial
   |cons _ _=>cases hout
  |cons _ _=>cases as<;>cases hout
 |cons t PT _ ih=>
  intro pm as x j n hout hS hT
  cases pm with
  |nil=>cases as<;>cases hout
  |cons m pm=>
   cases as with
   |nil=>cases hout
   |cons v as=>
    simp only [ql4]at hout
    split at hout
    ·rename_i x0 y0 ho1 ho2
     simp only [q4m,q0ja]at hT
     simp only [q4m,qqs]
     have hS2:∀x∈q46 ⟨tm,R1⟩ PT pm as,SrcF G1 w G' w' R1 x:=fun x hx=>hS x (List.mem_append_right _ hx)
     cases hlm:qnn m with
     |false=>rw [hlm]at hT;exact ih ho2 hS2 hT
     |true=>
      rw [hlm]at hT
      simp only at hT ⊢
      have hlen:(oneL R1 tm m t v n).length=q0l m t:=by
       unfold oneL
       cases hp:m.ptr with
       |true=>unfold q0l;rw [hp];simp;omega
       |false=>simp only [List.length_map];exact q0iq ho1 hp R1
      refine⟨?_,ih ho2 hS2 (fun i hi s=> ?_)⟩
      ·have hT1:∀i,i<(oneL R1 tm m t v n).length→∀s,T (j+i) s=q02p (oneL R1 tm m t v n) i s:=fun i hi s=>by
        rw [hT i (by rw [List.length_append];omega) s,q0jb hi]
       unfold q0d0
       cases hp:m.ptr with
       |true=>
        have e:oneL R1 tm m t v n=boxL v::(List.range (q10 m.sm t)).map (fun i s=>Lab.of (n+i) s):=by unfold oneL;rw [hp]
        rw [e]at hT1
        refine⟨fun r f ev=> ?_,fun i hi=> ?_⟩
        ·have h0:=hT1 0 (by simp) 0
         subst ev
         have:=hl j 0
         rw [show T j 0= .of r 0 from h0]at this
         exact this
        ·have h1:∀s,T (j+1+i) s= .of (n+i) s:=fun s=>by
          have:=hT1 (i+1) (by simp [hi]) s
          rw [show j+1+i=j+(i+1) by omega,this]
          simp [q02p,List.getD_eq_getElem?_getD,hi]
         refine⟨rfl,rfl,?_,fun s=> ?_⟩
         ·have:=hl (j+1+i) 0
          rw [h1 0]at this;exact this
         ·have:=hl (j+1+i) (s+1)
          rw [h1 (s+1)]at this;exact this
       |false=>
        have e:oneL R1 tm m t v n=(q5n ⟨tm,R1⟩ m t v).map (q0qt R1):=by unfold oneL;rw [hp]
        rw [e]at hT1
        exact q045 hl _ _ (fun x hx=>hS x (List.mem_append_left _ hx)) (fun i hi s=>hT1 i (by simpa using hi) s)
      ·have:=hT (q0l m t+i) (by rw [List.length_append,hlen];omega) s
       rw [show j+q0l m t+i=j+(q0l m t+i) by omega,this,←hlen,q0g6]
    ·cases hout
 |_=>intro pm as x j n hout;cases pm<;>cases as<;>cases hout
def newT (soft:Bool) (n i:Nat):Nat→Lab
 |0=> .of (n+i) 0
 |s+1=>match soft with|true=> .free|false=> .of (n+i) (s+1)
theorem q0rh {soft:Bool} {Gl G':Gh} {w':World} {T:Nat→Nat→Lab} {j n i:Nat} (hl:∀j s,Lk Gl w' G' w' (.of j s) (T j s)) (h:∀s,T j s=newT soft n i s):Ren soft Gl w' G' (j,0) (n+i,0):=by
 refine⟨rfl,rfl,?_,?_⟩
 ·have:=hl j 0
  rw [h 0]at this;exact this
 ·cases soft with
  |true=>intro s;have:=hl j (s+1);rw [h (s+1)]at this;exact this
  |false=>intro s;have:=hl j (s+1);rw [h (s+1)]at this;exact this
theorem qzb {R:List Root} {tm:List AV} {sm:Nat} {t:Ty} {v:AV} {x:t.den} (h:qof ⟨tm,R⟩ sm t v=some x) {r:Nat} (hr:r∈q2q (q24 sm t v)):∃o ts l ver a,R[r]? =some ⟨.row o ts l,ver,a⟩:=by
 unfold q24 at hr
 unfold qof at h
 cases ho:q5f sm t with
 |false=>rw [ho]at hr;cases hr
 |true=>
  rw [ho]at hr h
  have row1:∀(r':Nat),r∈q2q [Sr.row r']→r=r':=fun r' h=>by simpa [q2q]using h
  cases v with
  |sl r' a=>
   have e:=row1 r' hr
   subst e
   simp only at h
   split at h
   ·rename_i o ts l ver b hq;exact⟨o,ts,l,ver,b,hq⟩
   ·cases h
  |hd r' a n=>
   have e:=row1 r' hr
   subst e
   simp only at h
   split at h
   ·rename_i o ts l ver b hq;exact⟨o,ts,l,ver,b,hq⟩
   ·cases h
  |tl r' a n=>
   have e:=row1 r' hr
   subst e
   simp only at h
   split at h
   ·rename_i o ts l ver b hq;exact⟨o,ts,l,ver,b,hq⟩
   ·cases h
  |il r' s i f=>
   have e:r=r':=by simpa [q2q]using hr
   subst e
   simp only at h
   split at h
   ·rename_i ts l ver b hq;exact⟨true,ts,l,ver,b,hq⟩
   ·cases h
  |_=>simp [q2q]at hr
theorem qv4 {R:List Root} {tm:List AV} {sm:Nat}:∀ {ts:Ty} {a:AV} {x:ts.den},qb6 ⟨tm,R⟩ sm ts a=some x→∀ {r:Nat},r∈q2q (q32 sm ts a)→∃o ts l ver a,R[r]? =some ⟨.row o ts l,ver,a⟩:=by
 intro ts
 induction ts with
 |cons t ts _ ih=>
  intro a x h r hr
  cases a with
  |cons v a=>
   simp only [qb6]at h
   split at h
   ·rename_i x0 y0 h1 h2
    simp only [q32,q6x,List.mem_append]at hr
    rcases hr with hr|hr
    ·exact qzb h1 hr
    ·exact ih h2 hr
   ·cases h
  |_=>cases h
 |_=>intro a x h r hr;cases a<;>cases hr
def BoxF (R:List Root) (r f n:Nat):Prop:=∃cs ss ver a,R[r]? =some ⟨.box cs ss,ver,a⟩∧(n=0∨f+n≤cs.length)
theorem q0pl {R:List Root} {tm:List AV} {m:Md} {t:Ty} {v:AV} {x:t.den} (h:qpu ⟨tm,R⟩ m t v=some x):
  (∀r,r∈q2q (q5n ⟨tm,R⟩ m t v)→∃o ts l ver a,R[r]? =some ⟨.row o ts l,ver,a⟩)∧(∀r f n,Sr.box r f n∈q5n ⟨tm,R⟩ m t v→BoxF R r f n):=by
 unfold qpu at h
 unfold q5n
 cases hp:m.ptr with
 |true=>
  rw [hp]at h
  cases v with
  |bp r f=>
   simp only at h ⊢
   cases hbx:q97 R r with
   |false=>rw [hbx]at h;cases h
   |true=>
    rw [hbx]at h
    simp only at h
    refine⟨fun r' hr=> ?_,fun r' f' n' hm=> ?_⟩
    ·simp only [q2q]at hr;exact qv4 h hr
    ·rcases List.mem_cons.1 hm with e|hm
     ·cases e
      simp only [q97]at hbx
      split at hbx
      ·rename_i cs ss ver a hq
       refine⟨cs,ss,ver,a,hq,?_⟩
       have hlen:=qvd h
       have hbc:q7a ⟨tm,R⟩ r f t.size=qei t.size (qi3 f (.ofList cs)):=by simp [q7a,hq]
       rw [hbc,q0lf]at hlen
       omega
      ·cases hbx
     ·exact absurd rfl (qlf hm r' f' n')
  |_=>cases h
 |false=>
  rw [hp]at h
  simp only at h ⊢
  cases hc:qbz t with
  |true=>
   rw [hc]at h
   cases v with
   |agg cs=>exact⟨fun r hr=>qv4 h hr,fun r f n hm=>absurd rfl (qlf hm r f n)⟩
   |_=>cases h
  |false=>
   rw [hc]at h
   refine⟨fun r hr=>qzb h hr,fun r f n hm=> ?_⟩
   unfold q24 at hm
   simp only at hm
   split at hm
   ·cases hm
   ·cases v<;>simp at hm
theorem q0pm {R:List Root} {tm:List AV}:∀ {PT:Ty} {pm:List Md} {as:List AV} {x:PT.den},ql4 ⟨tm,R⟩ PT pm as=some x→
  (∀r,r∈q2q (q46 ⟨tm,R⟩ PT pm as)→∃o ts l ver a,R[r]? =some ⟨.row o ts l,ver,a⟩)∧(∀r f n,Sr.box r f n∈q46 ⟨tm,R⟩ PT pm as→BoxF R r f n)∧(q46 ⟨tm,R⟩ PT pm as).length=q40 PT pm∧as.length=pm.length:=by
 intro PT
 induction PT with
 |nil=>
  intro pm as x h
  cases pm with
  |nil=>cases as with
   |nil=>exact⟨fun r hr=>(by cases hr),fun r f n hm=>(by cases hm),rfl,rfl⟩
   |cons _ _=>cases h
  |cons _ _=>cases as<;>cases h
 |cons t PT _ ih=>
  intro pm as x h
  cases pm with
  |nil=>cases as<;>cases h
  |cons m pm=>
   cases as with
   |nil=>cases h
   |cons v as=>
    simp only [ql4]at h
    split at h
    ·rename_i x0 y0 h1 h2
     obtain⟨a1,a2⟩:=q0pl h1
     obtain⟨b1,b2,b3,b4⟩:=ih h2
     refine⟨fun r hr=> ?_,fun r f n hm=> ?_,?_,by simp [b4]⟩
     ·simp only [q46,q6x,List.mem_append]at hr
      exact hr.elim (a1 r) (b1 r)
     ·simp only [q46,List.mem_append]at hm
      exact hm.elim (a2 r f n) (b2 r f n)
     ·simp only [q46,List.length_append,q40,qsx h1,b3]
    ·cases h
 |_=>intro pm as x h;cases pm<;>cases as<;>cases h
theorem q08w {R:List Root} {tm:List AV} {sm:Nat} {t:Ty} {v:AV} {r:Nat} (h:r∈ql1 ⟨tm,R⟩ sm t v):∃o ts l ver a,R[r]? =some ⟨.row o ts l,ver,a⟩:=by
 unfold ql1 at h
 split at h
 ·cases h
 ·split at h<;>first|(cases h;done)|(split at h<;>first|(cases h;done)|(rename_i hq;rw [List.mem_singleton.1 h];exact⟨_,_,_,_,_,hq⟩))
theorem q00o {R:List Root} {tm:List AV} {sm:Nat}:∀ {ts:Ty} {a:AV} {r:Nat},r∈q00p ⟨tm,R⟩ sm ts a→∃o ts l ver a,R[r]? =some ⟨.row o ts l,ver,a⟩:=by
 intro ts
 induction ts with
 |cons t ts _ ih=>
  intro a r h
  cases a with
  |cons v a=>
   rcases List.mem_append.1 h with h|h
   ·exact q08w h
   ·exact ih h
  |_=>cases h
 |_=>intro a r h;cases a<;>cases h
theorem q0ke {R:List Root} {tm:List AV} {m:Md} {t:Ty} {v:AV} {r:Nat} (h:r∈q0kf ⟨tm,R⟩ m t v):∃o ts l ver a,R[r]? =some ⟨.row o ts l,ver,a⟩:=by
 unfold q0kf at h
 split at h
 ·split at h
  ·exact q00o h
  ·cases h
 ·split at h
  ·split at h
   ·exact q00o h
   ·cases h
  ·exact q08w h
theorem q0kg {R:List Root} {tm:List AV}:∀ {PT:Ty} {pm:List Md} {as:List AV} {r:Nat},r∈qwg ⟨tm,R⟩ PT pm as→∃o ts l ver a,R[r]? =some ⟨.row o ts l,ver,a⟩:=by
 intro PT
 induction PT with
 |cons t PT _ ih=>
  intro pm as r h
  cases pm with
  |nil=>cases as<;>cases h
  |cons m pm=>
   cases as with
   |nil=>cases h
   |cons v as=>
    rcases List.mem_append.1 h with h|h
    ·exact q0ke h
    ·exact ih h
 |_=>intro pm as r h;cases pm<;>cases as<;>cases h
theorem q0ir {R R1:List Root} {tm:List AV} (hb:∀r f n,q7a ⟨tm,R1⟩ r f n=q7a ⟨tm,R⟩ r f n):∀ {PT:Ty} {pm:List Md} {as:List AV},q46 ⟨tm,R1⟩ PT pm as=q46 ⟨tm,R⟩ PT pm as:=by
 intro PT
 have one:∀(m:Md) (t:Ty) (v:AV),q5n ⟨tm,R1⟩ m t v=q5n ⟨tm,R⟩ m t v:=fun m t v=>by
  unfold q5n
  cases m.ptr with
  |true=>cases v<;>simp [hb]
  |false=>rfl
 induction PT with
 |cons t PT _ ih=>
  intro pm as
  cases pm with
  |nil=>cases as<;>rfl
  |cons m pm=>cases as with
   |nil=>rfl
   |cons v as=>simp only [q46,one,ih]
 |_=>intro pm as;cases pm<;>cases as<;>rfl
theorem q0k2 {G:Gh} {w:World} {R:List Root} {G':Gh}:∀ {ss:List Sr} {L:List (Nat×Nat)},(∀k x,ss[k]? =some x→Tgt G w R G' x (L.getD k (0,0)))→TgtL G w R G' ss L
 | [],_,_=>trivial
 |x::ss,L,h=>by
  refine⟨?_,q0k2 (fun k y hk=> ?_)⟩
  ·rw [qmo];exact h 0 x rfl
  ·have:=h (k+1) y hk
   simp only [List.getD_eq_getElem?_getD,List.getElem?_drop]at this ⊢
   rw [Nat.add_comm 1 k];exact this
end
end Go.Proofs.YtpmjopbgccajgaaGreat.Eng
namespace Go.Proofs.YtpmjopbgccajgaaGreat.Eng
open Go.RowKit
section
variable {P:Program} {soft:Bool} {R:Type}
theorem q0t6 {G:Gh} {σ:St} {w:World} (hR:RelR G σ.roots w) (b:Bool) (ro:List Nat) (hrow:∀r∈ro,∀q,σ.roots[r]? =some q→q096 q.k=true):
  ∃G1,RelR G1 (match b with|true=>eat false σ ro|false=>σ).roots w∧Evo G σ.roots w G1 (match b with|true=>eat false σ ro|false=>σ).roots w∧G1.anch=G.anch∧(∀p o r s,G1.own p o= .of r s→G.own p o= .of r s)∧
   (∀p o,G1.own p o= .free→G.own p o= .free∨∃r s,G.own p o= .of r s∧r∈ro)∧(∀p o,G1.own p o= .hid→G.own p o= .hid)∧(b=true→∀p o r s,G.own p o= .of r s→r∈ro→G1.own p o= .free)∧(∀p o,G.own p o= .free→G1.own p o= .free)∧
   (match b with|true=>eat false σ ro|false=>σ).tmps=σ.tmps∧(match b with|true=>eat false σ ro|false=>σ).roots.length=σ.roots.length∧(∀r,r∉ro→(match b with|true=>eat false σ ro|false=>σ).roots[r]? =σ.roots[r]?)∧
   (∀r f n,q7a (match b with|true=>eat false σ ro|false=>σ) r f n=q7a σ r f n):=by
 cases b with
 |false=>exact⟨G,hR,Evo.refl _ _ _,rfl,fun _ _ _ _ h=>h,fun _ _ h=> .inl h,fun _ _ h=>h,fun h=>(by cases h),fun _ _ h=>h,rfl,rfl,fun _ _=>rfl,fun _ _ _=>rfl⟩
 |true=>
  let τ:Nat→Nat→Lab:=fun r s=>if qsr r ro then .free else .of r s
  obtain⟨h1,h2⟩:=qyx (own:=false) (rs:=ro) (τ:=τ) hR hrow (fun r hr s=>by
   have:qsr r ro=false:=by
    cases e:qsr r ro with
    |false=>rfl
    |true=>exact absurd (q4v.1 e) hr
   simp [τ,this]) (fun _ r hr s=>by simp [τ,q4v.2 hr])
  have key:∀p o,(q1m G τ).own p o=match G.own p o with| .of r s=>if qsr r ro then .free else .of r s|l=>l:=fun p o=>by
   simp only [q1m]
   cases G.own p o<;>rfl
  refine⟨q1m G τ,h1,h2,rfl,fun p o r s h=> ?_,fun p o h=> ?_,fun p o h=> ?_,fun _ p o r s h hr=> ?_,fun p o h=> ?_,qnf _ _ _,quv _ _ _,fun r hr=> ?_,fun r f n=> ?_⟩
  ·rw [key]at h
   cases e:G.own p o with
   |of r' s'=>
    rw [e]at h
    simp only at h
    split at h
    ·cases h
    ·exact h
   |_=>rw [e]at h;cases h
  ·rw [key]at h
   cases e:G.own p o with
   |of r' s'=>
    rw [e]at h
    simp only at h
    split at h
    ·rename_i hm;exact .inr ⟨r',s',rfl,q4v.1 hm⟩
    ·cases h
   |free=>exact .inl rfl
   |hid=>rw [e]at h;cases h
  ·rw [key]at h
   cases e:G.own p o with
   |of r' s'=>
    rw [e]at h
    simp only at h
    split at h<;>cases h
   |free=>rw [e]at h;cases h
   |hid=>rfl
  ·rw [key,h]
   simp [q4v.2 hr]
  ·rw [key,h]
  ·simp only;rw [qng,if_neg hr]
  ·unfold q7a
   simp only
   rw [qng]
   by_cases hr:r∈ro
   ·rw [if_pos hr]
    cases hq:σ.roots[r]? with
    |none=>rfl
    |some q=>
     have:=hrow r hr q hq
     obtain⟨k,ver,anc⟩:=q
     cases k with
     |row o ts l=>rfl
     |_=>cases this
   ·rw [if_neg hr]
open Classical in
theorem qsn {f:Nat} {g:Sig} {X:Array Value} {wrap:List Value→Value→Prop} {k:Nat} {as:List AV} {σ:St} {K:AV→St→Option R} {r:R} (h:qnj soft k g as σ K=some r)
  (G:Gh) (w:World) (args:List Value) (hI:Inv G w) (hR:RelR G σ.roots w) (hlen:args.length=as.length) (hv:∀i,i<as.length→(avR G σ.roots w (as.getD i .undef)).1 (args.getD i undef))
  (hC:∀(x:g.params.den) (y:g.res.den),g.f k x=some y→∀G0:Gh,Inv G0 w→qyf G0 w g.params x g.pm args (qnm 0 (q40 g.params g.pm))→
   Calls P f X w (fun| .returned out,w'=>∃(outs:List Value) (G':Gh),wrap outs out∧outs.length=g.n∧qyf G' w' g.res y g.rm (outs++qlx g.pm args) (qnm 0 (q40 g.res g.rm))∧Out G0 w G' w'|_,_=>False)):
   Calls P f X w (fun| .returned x,w'=>∃outs rv R' G',wrap outs x∧rv.length=outs.length∧(∀i,i<rv.length→(avR G' R' w' (rv.getD i .undef)).1 (outs.getD i undef))∧K (q0im rv) ⟨σ.tmps,R'⟩=some r∧RelR G' R' w'∧Evo G σ.roots w G' R' w'∧
    ∀(k r i f:Nat),(q46 σ g.params g.pm as)[k]? =some (Sr.inn r i f)→∀ts l ver a,σ.roots[r]? =some ⟨.row true ts l,ver,a⟩→∀s,s≠i*ts.size+f+1→Lk G w G' w' (.of r s) (.of r s)|_,_=>False):=by
 unfold qnj at h
 split at h
 case h_2=>cases h
 rename_i x hout
 obtain⟨hcond,h⟩:=qw h
 obtain⟨c1,c2⟩:=and2 hcond
 have c1:=qby.1 c1
 have c2:=qgi.1 c2
 obtain⟨y,hy,h⟩:=Option.bind_eq_some_iff.1 h
 obtain⟨tm,Rs⟩:=σ
 obtain⟨s1,s2,s3,s4⟩:=q0pm hout
 obtain⟨G1,hR1,hE1,hA1,f1,f2,f3,f4,f5,ht1,hl1,hr1,hbx1⟩:=q0t6 hR (qse g.res g.rm) (qwg ⟨tm,Rs⟩ g.params g.pm as) (fun r hr q hq=>by
  obtain⟨o,ts,l,ver,a,e⟩:=q0kg hr
  rw [hq]at e;cases e;rfl)
 generalize hσ1:(match qse g.res g.rm with|true=>eat false ⟨tm,Rs⟩ (qwg ⟨tm,Rs⟩ g.params g.pm as)|false=>⟨tm,Rs⟩)=σ1 at hR1 hE1 ht1 hl1 hr1 hbx1
 have h:qso soft (q4m g.params g.pm as) K σ1 g.n g.res y g.rm [] []=some r:=by rw [←hσ1];exact h
 obtain⟨tm1,R1⟩:=σ1
 simp only at ht1 hl1 hr1 hbx1 hR1 hE1
 have ht1:=ht1.symm
 subst ht1
 have hsrc1:q46 ⟨tm,R1⟩ g.params g.pm as=q46 ⟨tm,Rs⟩ g.params g.pm as:=q0ir hbx1
 generalize hro:qwg ⟨tm,Rs⟩ g.params g.pm as=ro at c2 f2 f4 hr1
 generalize hss:q46 ⟨tm,Rs⟩ g.params g.pm as=ss at c1 c2 s1 s2 s3 hsrc1
 have hnro:∀r,r∈q11 ss→r∉ro:=fun r h1 h2=>c2 r h2 h1
 have hfnd:∀(k:Nat) (x:Sr) (r:Nat),ss[k]? =some x→r∈x.id→q0ex ss 0 r=some (k,x):=fun k x r h1 h2=>by
  have:=q0i3 (j:=0) c1 h1 h2
  rwa [Nat.zero_add]at this
 have hcfree:∀b o,G.own b o= .free→(qp1 G Rs ss ro).own b o= .free:=fun b o h=>by simp only [qp1,h]
 have hchid:∀b o,G.own b o= .hid→(qp1 G Rs ss ro).own b o= .hid:=fun b o h=>by simp only [qp1,h]
 have hcof:∀b o r s,G.own b o= .of r s→(qp1 G Rs ss ro).own b o=qkn G Rs ss ro r s b o:=fun b o r s h=>by simp only [qp1,h]
 have hcro:∀b o r s,G.own b o= .of r s→r∈ro→(qp1 G Rs ss ro).own b o= .free:=fun b o r s h hr=>by
  rw [hcof b o r s h]
  unfold qkn
  rw [qut (fun h=>hnro r h hr)]
  simp [hr]
 have hcout:∀b o r s,G.own b o= .of r s→r∉q11 ss→(qp1 G Rs ss ro).own b o= .free∨(qp1 G Rs ss ro).own b o= .hid:=fun b o r s h hr=>by
  rw [hcof b o r s h]
  unfold qkn
  rw [qut hr]
  simp only
  split
  ·exact .inl rfl
  ·exact .inr rfl
 have hall:qyf (qp1 G Rs ss ro) w g.params x g.pm args (qnm 0 (q40 g.params g.pm)):=by
  refine q0g0 (tm:=tm) hR (fun b o _ e=>⟨hcfree b o e,rfl,rfl⟩) hout hlen.symm hv (fun r hr s b o _ e=>⟨hcro b o r s e (hro▸hr),rfl,rfl⟩) ?_
  rw [hss]
  refine q0k2 (fun k x hk=> ?_)
  have hlt:k<ss.length:=(List.getElem?_eq_some_iff.1 hk).1
  have hlab:(qnm 0 (q40 g.params g.pm)).getD k (0,0)=(k,0):=by
   have:=q5k 0 (q40 g.params g.pm) k (by omega)
   rwa [Nat.zero_add]at this
  rw [hlab]
  cases x with
  |nul=>rfl
  |row r=>
   refine⟨rfl,fun s b o _ e=>⟨?_,rfl,rfl⟩⟩
   rw [hcof b o r s e]
   unfold qkn
   rw [hfnd k _ r hk (by simp [Sr.id])]
  |inn r i f=>
   intro o ts l v a hq b p _ e
   refine⟨?_,rfl,rfl⟩
   rw [hcof b p r _ e]
   unfold qkn
   rw [hfnd k _ r hk (by simp [Sr.id])]
   simp [hq]
  |box r f n=>
   refine⟨rfl,fun b o ha j hj _ e=> ?_⟩
   rw [hcof b _ r 0 e]
   unfold qkn
   rw [hfnd k _ r hk (by simp [Sr.id])]
   simp only
   rw [if_pos ⟨o,ha,j,hj,rfl⟩]
 refine(hC x y hy (qp1 G Rs ss ro) (hI.keep (fun b o _ e=>⟨hcfree b o e,rfl,rfl⟩)) hall).mono (fun e w' he=> ?_)
 cases e with
 |returned out=>
  obtain⟨outs,Gl,eout,hol,hall',hO⟩:=he
  obtain⟨ts2,y2,ms2,vals1,vals2,rv,N1,e1,e2,e3,e4,e5,e6,e7⟩:=q0ok g.n g.res y g.rm [] [] (outs++qlx g.pm args) 0 h hall'
  obtain⟨ev1,ev2⟩:=List.append_inj e1 (by rw [hol,e2])
  subst ev1;subst ev2
  simp only [List.nil_append,Nat.zero_add]at e4 e6
  unfold q0gq at e6
  split at e6
  case h_2=>cases e6
  rename_i ps N2 hback
  simp only [List.length_nil,Nat.add_zero]at e7
  let T:Nat→Nat→Lab:=fun j s=>if j<N1.length then newT soft R1.length j s else q02p (q0ja R1 tm (q4m g.params g.pm as) (R1.length+N1.length)) (j-N1.length) s
  let GG:(Nat→Option Addr×Nat)→Gh:=fun an=>q0oo G1 (qp1 G Rs ss ro) Gl w T an
  have hlk:∀an j s,Lk Gl w' (GG an) w' (.of j s) (T j s):=fun an j s=>q0qs hO j s
  have hkeep:∀an L,(∀b o,b<w.heap.size→G1.own b o=L→(qp1 G Rs ss ro).own b o= .free∨(qp1 G Rs ss ro).own b o= .hid)→Lk G1 w (GG an) w' L L:=fun an L h=>q0mg hO h
  have kfree:∀an,Lk G1 w (GG an) w' .free .free:=fun an=>hkeep an .free (fun b o _ e=>by
   rcases f2 b o e with h|⟨r,s,h,hr⟩
   ·exact .inl (hcfree b o h)
   ·exact .inl (hcro b o r s h hr))
  have khid:∀an,Lk G1 w (GG an) w' .hid .hid:=fun an=>hkeep an .hid (fun b o _ e=> .inr (hchid b o (f3 b o e)))
  have kout:∀an r,r∉q11 ss→∀s,Lk G1 w (GG an) w' (.of r s) (.of r s):=fun an r hr s=>hkeep an _ (fun b o _ e=>hcout b o r s (f1 b o r s e) hr)
  have kro:∀an,qse g.res g.rm=true→Lk Gl w' (GG an) w' .free .free:=fun an hh b o hb e=>by
   refine⟨?_,rfl,rfl⟩
   show (if _ then _ else _)=_
   by_cases hc:b<w.heap.size∧((qp1 G Rs ss ro).own b o= .free∨(qp1 G Rs ss ro).own b o= .hid)
   ·rw [if_pos hc]
    obtain⟨h1,h2|h2⟩:=hc
    ·cases hg:G.own b o with
     |free=>exact f5 b o hg
     |hid=>rw [hchid b o hg]at h2;cases h2
     |of r s=>
      rw [hcof b o r s hg]at h2
      exact f4 hh b o r s hg (q0f5 h2)
    ·have:=(hO.hid b o h1 h2).1
     rw [e]at this;cases this
   ·rw [if_neg hc,e]
  have kinn:∀an (k r i f:Nat),ss[k]? =some (Sr.inn r i f)→∀ts l ver a,R1[r]? =some ⟨.row true ts l,ver,a⟩→∀s,s≠i*ts.size+f+1→Lk G1 w (GG an) w' (.of r s) (.of r s):=fun an k r i f hk ts l ver a hq s hs=>hkeep an _ (fun b o _ e=>by
   have hm:r∈q11 ss:=qmk.2 ⟨k,_,hk,by simp [Sr.id]⟩
   rw [hr1 r (hnro r hm)]at hq
   rw [hcof b o r s (f1 b o r s e)]
   unfold qkn
   rw [hfnd k _ r hk (by simp [Sr.id])]
   simp [hq,hs])
  have kbox:∀an (k r f n:Nat),ss[k]? =some (Sr.box r f n)→∀b o,b<w.heap.size→G1.own b o= .of r 0→¬q0qa G r b o f n→(GG an).own b o= .of r 0∧at_ w' b o=at_ w b o∧fz w' b o=fz w b o:=fun an k r f n hk b o hb e hn=>by
   have hc:(qp1 G Rs ss ro).own b o= .hid:=by
    rw [hcof b o r 0 (f1 b o r 0 e)]
    unfold qkn
    rw [hfnd k _ r hk (by simp [Sr.id])]
    simp only
    rw [if_neg hn]
   obtain⟨g1,g2⟩:=q0f7 (G1:=G1) (T:=T) (an:=an) hO hb (.inr hc)
   exact⟨g1.trans e,g2⟩
  have hvR:∀i,i<as.length→(avR G1 R1 w (as.getD i .undef)).1 (args.getD i undef):=fun i hi=>(qac hE1 _).1 _ (hv i hi)
  have hsrow:∀r∈q2q ss,∃q,R1[r]? =some q∧∀cs ss,q.k≠ .box cs ss:=fun r hr=>by
   obtain⟨o,ts,l,ver,a,hq⟩:=s1 r hr
   refine⟨_,by rw [hr1 r (hnro r (qin hr))];exact hq,fun cs ss e=>(by cases e)⟩
  have hback':∀an,(∀r,r<R1.length→an r=G1.anch r)→qqs G1 w Gl (GG an) w' R1 tm (q4m g.params g.pm as) N1.length (R1.length+N1.length):=fun an han=>by
   refine q0jp (R0:=Rs) (T:=T) (hlk an) hout (fun x hx=> ?_) (fun i hi s=> ?_)
   ·rw [hsrc1]at hx
    obtain⟨k,hk⟩:=List.mem_iff_getElem?.1 hx
    cases x with
    |row r=>
     obtain⟨q,hq,_⟩:=hsrow r (q87.2 (.inl hx))
     exact han r (List.getElem?_eq_some_iff.1 hq).1
    |inn r i f=>
     obtain⟨q,hq,_⟩:=hsrow r (q87.2 (.inr ⟨i,f,hx⟩))
     exact⟨han r (List.getElem?_eq_some_iff.1 hq).1,kinn an k r i f hk⟩
    |_=>trivial
   ·show (if _ then _ else _)=_
    rw [if_neg (by omega),Nat.add_sub_cancel_left]
  obtain⟨i2,_,_,_⟩:=q0ih (Rf:=[]) hR1 (kfree G1.anch) hout hlen.symm hvR hback e4 (hback' G1.anch (fun _ _=>rfl)) (by rw [hsrc1];exact hsrow) (fun hh=>kro _ (e5 hh))
  have i1:=e7 (GG G1.anch) (kro _) (fun i hi=>by
   rw [Nat.zero_add]
   refine q0rh (T:=T) (hlk G1.anch) (fun s=> ?_)
   show (if _ then _ else _)=_
   rw [if_pos hi])
  obtain⟨k1,A,k2,k3⟩:=i1.append i2
  let an:Nat→Option Addr×Nat:=fun r=>if r<R1.length then G1.anch r else A.getD (r-R1.length) (none,0)
  have han:∀r,r<R1.length→an r=G1.anch r:=fun r hr=>if_pos hr
  obtain⟨Rf,hRf⟩:∃Rf,Rf=puts ps R1++(N1++N2):=⟨_,rfl⟩
  have hfin:∀j q,(N1++N2)[j]? =some q→Rf[R1.length+j]? =some q:=fun j q hq=>by
   rw [hRf,List.getElem?_append_right (by rw [qfw];omega),qfw,Nat.add_sub_cancel_left];exact hq
  obtain⟨g1,g2,g3⟩:=k3 an (fun j hj=>by
   show (if _ then _ else _)=_
   rw [if_neg (by omega),Nat.add_sub_cancel_left]) Rf hfin
  have hGG:(⟨(GG G1.anch).own,an⟩:Gh)=GG an:=rfl
  rw [hGG]at g1 g2 g3
  obtain⟨_,p1,p2,p3⟩:=q0ih (Rf:=Rf) hR1 (kfree an) hout hlen.symm hvR hback e4 (hback' an han) (by rw [hsrc1];exact hsrow) (fun hh=>kro _ (e5 hh))
  rw [hsrc1]at p2 p3
  have hget:∀r q,R1[r]? =some q→Rf[r]? =some (q8v r ps q):=fun r q hq=>by
   have hlt:=(List.getElem?_eq_some_iff.1 hq).1
   rw [hRf,List.getElem?_append_left (by rw [qfw];exact hlt),q0h8,hq];rfl
  have proot:∀r q',Put.root r q'∈ps→∃q,R1[r]? =some q∧(∀cs ss,q.k≠ .box cs ss)∧(∀cs ss,q'.k≠ .box cs ss)∧Chg G1 w (GG an) Rf w' r q q':=fun r q' hm=>by
   rcases p1 _ hm with⟨_,_,_,e⟩|⟨ids,r0,q0,q0',e,h1,h2,h3,_,h4⟩
   ·cases e
   ·cases e;exact⟨q0,h1,h2,h3,h4⟩
  obtain⟨m1,m2⟩:=q0i9 (G':=GG an) (Rf:=Rf) (w':=w') hR1 ⟨hO.os,hO.tape,hO.output,hO.size,kfree an,khid an⟩ (fun r q hq=>by
   have hlt:=(List.getElem?_eq_some_iff.1 hq).1
   refine⟨_,hget r q hq,?_⟩
   by_cases hrs:r∈q11 ss
   ·obtain⟨k,z,hk,hz⟩:=qmk.1 hrs
    have hzm:z∈ss:=List.mem_of_getElem? hk
    have rowCase:r∈q2q ss→(∃q',Put.root r q'∈ps)→Chg G1 w (GG an) Rf w' r q (q8v r ps q):=fun hrow hput=>by
     obtain⟨q0,hq0,hnb⟩:=hsrow r hrow
     rw [hq]at hq0;cases hq0
     rcases qp9 ps q hnb (fun q' hm=>(proot r q' hm).choose_spec.2.2.1)with hm|⟨hm,_⟩
     ·obtain⟨q0,h1,_,_,h4⟩:=proot _ _ hm
      rw [hq]at h1;cases h1;exact h4
     ·obtain⟨q',hm'⟩:=hput;exact absurd hm' (hm q')
    cases z with
    |nul=>cases hz
    |row r'=>
     have e:r=r':=by simpa [Sr.id]using hz
     subst e
     exact rowCase (q87.2 (.inl hzm)) (p2 _ hzm)
    |inn r' i f=>
     have e:r=r':=by simpa [Sr.id]using hz
     subst e
     exact rowCase (q87.2 (.inr ⟨i,f,hzm⟩)) (p2 _ hzm)
    |box r' f n=>
     have e:r=r':=by simpa [Sr.id]using hz
     subst e
     obtain⟨cs,sts,ver,a,hqb,hfn⟩:=s2 r f n hzm
     rw [←hr1 r (hnro r hrs),hq]at hqb
     cases hqb
     have hro:=hR1 r _ hq
     obtain⟨hl0,b,o,ea,hcs⟩:=hro
     obtain⟨cs',ss',eput,l1,l2,hf⟩:=qn6 (r:=r) (ver:=ver) (anc:=a) ps cs sts hl0 (fun q' hm=>by
      obtain⟨q0,h1,h2,_⟩:=proot r q' hm
      rw [hq]at h1;cases h1;exact h2 _ _ rfl)
     rw [eput]
     refine .box cs cs' sts ss' rfl l1 l2 (han r hlt) (fun b' o' ea' f'=> ?_)
     rw [ea]at ea';cases ea'
     have hnin:¬(f≤f'∧f'<f+n)→¬q0qa G r b (o+f') f n:=fun hn hin=>by
      obtain⟨O,h1,j,hj,e⟩:=hin
      rw [←hA1,ea]at h1;cases h1
      exact hn ⟨by omega,by omega⟩
     have hput:∀v,Put.cell r f' v∈ps→(GG an).own b (o+f')= .of r 0∧w'.frozen? ⟨b,o+f',none⟩=false∧∃val,at_ w' b (o+f')=some val∧(avR (GG an) Rf w' v).1 val:=fun v hm=>by
      obtain⟨b1,o1,val,d1,d2,d3,d4,d5⟩:=g3 r f' v hm
      rw [ea]at d1;cases d1
      exact⟨d2,d3,val,d4,d5⟩
     refine⟨fun hlt'=> ?_,?_⟩
     ·by_cases hin:f≤f'∧f'<f+n
      ·obtain⟨v,hm⟩:=p2 _ hzm (f'-f) (by omega)
       rw [show f+(f'-f)=f' by omega]at hm
       exact⟨(hput v hm).1,(hput v hm).2.1⟩
      ·obtain⟨d1,d2,v,d3,d4⟩:=hcs f' hlt'
       obtain⟨n1,n2,n3⟩:=kbox an k r f n hk b (o+f') (q1z d3) d1 (hnin hin)
       exact⟨n1,(q0o2 n3).trans d2⟩
     ·rcases hf f' with⟨d1,d2,d3⟩|⟨d1,d2,d3⟩
      ·refine .inl ⟨d2,d1,fun ho hb=> ?_⟩
       by_cases hin:f≤f'∧f'<f+n
       ·exfalso
        obtain⟨v,hm⟩:=p2 _ hzm (f'-f) (by omega)
        rw [show f+(f'-f)=f' by omega]at hm
        exact d3 ⟨⟨v,hm⟩,by omega⟩
       ·obtain⟨n1,n2,_⟩:=kbox an k r f n hk b (o+f') hb ho (hnin hin)
        exact⟨n1,n2⟩
      ·exact .inr ⟨d2,(hput _ d3).2.2⟩
   ·rw [qqe (fun p hp e=>hrs (by have:=p3 p hp;rwa [e]at this))]
    exact .kept (fun _=>han r hlt) (fun _ _ s=>kout an r hrs s)) (fun r q hr hq=>by
   rw [hRf,List.getElem?_append_right (by rw [qfw];exact hr),qfw]at hq
   have:=g1 _ q hq
   rwa [show R1.length+(r-R1.length)=r by omega]at this)
  refine⟨_,rv,Rf,GG an,eout,by rw [e3,hol],fun i hi=>g2 i (by omega),by rw [hRf];exact e6,m1,hE1.trans m2,fun k r i f hk ts l ver a hq s hs=> ?_⟩
  have hm:r∈q11 ss:=qmk.2 ⟨k,_,hk,by simp [Sr.id]⟩
  have hnr:=hnro r hm
  have hq1:R1[r]? =some ⟨.row true ts l,ver,a⟩:=by rw [hr1 r hnr];exact hq
  have l1:Lk G w G1 w (.of r s) (.of r s):=fun b o _ e=>by
   refine⟨?_,rfl,rfl⟩
   cases hg:G1.own b o with
   |free=>
    rcases f2 b o hg with h|⟨r',s',h,hr'⟩
    ·rw [e]at h;cases h
    ·rw [e]at h;cases h;exact absurd hr' hnr
   |hid=>have:=f3 b o hg;rw [e]at this;cases this
   |of r' s'=>have:=f1 b o r' s' hg;rw [e]at this;rw [this]
  exact l1.trans (Nat.le_refl _) (kinn an k r i f hk ts l ver a hq1 s hs)
 |_=>exact he.elim
theorem q044 {f:Nat} {g:Sig} (hF:FnOk P f g) {k:Nat} {as:List AV} {σ:St} {K:AV→St→Option R} {r:R} (h:qnj soft k g as σ K=some r):
  ∀(G:Gh) (w:World) (args:List Value),Inv G w→RelR G σ.roots w→args.length=as.length→(∀i,i<as.length→(avR G σ.roots w (as.getD i .undef)).1 (args.getD i undef))→
   Calls P f (args++qq4 g.fns).toArray w (fun| .returned x,w'=>∃v R' G',K v ⟨σ.tmps,R'⟩=some r∧RelR G' R' w'∧(avR G' R' w' v).1 x∧Evo G σ.roots w G' R' w'|_,_=>False):=by
 intro G w args hI hR hlen hv
 refine(qsn (wrap:=fun outs x=>x=tupV outs) h G w args hI hR hlen hv (fun x y hy G0 hI0 hall=>hF.2 k x y hy G0 w args hI0 hall)).mono (fun e w' he=> ?_)
 cases e with
 |returned out=>
  obtain⟨outs,rv,R',G',e1,e2,e3,e4,e5,e6,_⟩:=he
  refine⟨q0im rv,R',G',e4,e5,?_,e6⟩
  rw [e1]
  exact q0oy e2 e3
 |_=>exact he.elim
theorem q09e {f c:Nat} {F:CutF} (hF:q0js P f c F) {k:Nat} {as:List AV} {σ:St} {K:AV→St→Option R} {r:R} (h:qqq soft k F c as σ K=some r):qfq P f as σ K r:=by
 intro G w args hI hR hl hv
 unfold qqq at h
 split at h
 case h_2=>cases h
 rename_i rr v i fl d cv
 obtain⟨hd,h9⟩:=qw h
 have hd:=qd hd
 subst hd
 clear h
 obtain⟨x0,xf,eargs⟩:∃x0 xf,args=[x0,xf]:=by
  cases args with
  |nil=>simp at hl
  |cons a args=>cases args with
   |nil=>simp at hl
   |cons b args=>cases args with
    |nil=>exact⟨a,b,rfl⟩
    |cons _ _=>simp at hl
 subst eargs
 have h0:=hv 0 (by simp)
 obtain⟨vs,exf,v1,vs',evs,hv1,hvs'⟩:=hv 1 (by simp)
 have hvs':vs'=[]:=hvs'
 subst hvs';subst evs
 have exf:xf= .func (.func d) #[] #[v1]:=exf
 have h0:(avR G σ.roots w (.il rr v i fl)).1 x0:=h0
 have eX:([x0,xf]:List Value).toArray= #[x0,.func (.func d) #[] #[v1]]:=by rw [exf]
 rw [eX]
 refine(qsn (g:=qyg F) (wrap:=fun outs x=>∃m:Int,outs=[.int .i64 m]∧x=q0hz x0 m) h9 G w [x0,v1] hI hR rfl (fun j hj=> ?_) (fun x y hy G0 hI0 hall=> ?_)).mono (fun e w' he=> ?_)
 ·cases j with
  |zero=>exact h0
  |succ j=>cases j with
   |zero=>exact hv1
   |succ j=>exact absurd hj (by show ¬(j+1+1<2);omega)
 ·refine(hF.2 k x y hy G0 w x0 v1 hI0 hall).mono (fun e w' he=> ?_)
  cases e with
  |returned out=>
   obtain⟨outs,G',⟨m,e1,e2⟩,e3,e4⟩:=he
   exact⟨outs,G',⟨m,e1,e2⟩,by rw [e1];rfl,e3,e4⟩
  |_=>exact he.elim
 cases e with
 |returned out=>
  obtain⟨outs,rv,R',G',⟨m,eo,ex⟩,el,ea,hK,hR',hE,hlk⟩:=he
  subst eo
  split at hK
  case h_2=>cases hK
  rename_i u mm ts0 l0 ver0 a0 ts l ver a1 hu hq0 hq1
  cases hin:q2u ts (rd ts l i) fl with
  |none=>rw [hin]at hK;cases hK
  |some p=>
   obtain⟨us,n⟩:=p
   rw [hin]at hK
   simp only at hK
   obtain⟨ha01,hK⟩:=qw hK
   have ha01:=qd ha01
   rcases q44 hK with⟨hup,hK⟩|⟨_,hK⟩
   case inr=>cases hK
   have hm:m=mm:=by
    cases rv with
    |nil=>simp at el
    |cons v0 rv=>
     cases rv with
     |cons _ _=>simp at el
     |nil=>
      have hu:v0= .val (.int .i64) mm:=hu
      have:=ea 0 (by simp)
      have this:(avR G' R' w' v0).1 (.int .i64 m):=this
      rw [hu]at this
      have this:Value.int .i64 m= .int .i64 mm:=this
      cases this;rfl
   subst hm
   obtain⟨q,hq,hle,hil⟩:=h0
   rw [hq0]at hq;cases hq
   have hsrc:(q46 σ (qyg F).params (qyg F).pm [.il rr v i fl,cv])[0]? =some (Sr.inn rr i fl):=rfl
   obtain⟨q1,hq1',hrle⟩:=hE.root rr _ hq0
   have hq1:R'[rr]? =some ⟨.row true ts l,ver,a1⟩:=hq1
   rw [hq1]at hq1';cases hq1'
   have hh:=hrle.hd ha01.symm
   rcases hh with hh|⟨hh,han⟩
   ·cases hh
   have hts:ts=ts0∧List.length l=List.length l0:=by
    have:=Option.some.inj hh
    have:=(Prod.mk.inj this).2
    exact⟨(Prod.mk.inj this).1,(Prod.mk.inj this).2⟩
   obtain⟨hts,hll⟩:=hts
   subst hts
   have hver:ver0=v:=by
    unfold qnj at h9
    cases hout:ql4 σ (qyg F).params (qyg F).pm [.il rr v i fl,cv]with
    |none=>rw [hout]at h9;cases h9
    |some xx=>
     cases hb:Nat.beq v ver0 with
     |true=>exact(qd hb).symm
     |false=>
      exfalso
      have e0:qpu σ ⟨false,2⟩ (.slice tI) (.il rr v i fl)=none:=by
       show qof σ 2 (.slice tI) (.il rr v i fl)=none
       unfold qof
       simp only [q5f,Ty.isSl,show (!Nat.beq 2 0)=true from rfl,Bool.and_true,hq0,hb,Bool.false_and]
       cases q2u ts (rd ts l0 i) fl<;>rfl
      simp only [ql4,e0]at hout
      cases hout
   obtain⟨i1,i2,b,o,i3,i4,i5⟩:=hil hver true ts l0 rfl
   have hkeep:=hlk 0 rr i fl hsrc ts l0 ver0 a0 hq0 0 (by omega)
   obtain⟨j1,j2,_⟩:=hkeep b (o+i*ts.size+fl) (q1z i5) i4
   have hil':(avR G' R' w' (.il rr ver i fl)).1 x0:=⟨_,hq1,Nat.le_refl _,fun _ own ts' l' hk=>by
    cases hk
    exact⟨by rw [hll];exact i1,i2,b,o,by rw [han];exact i3,j1,by rw [j2];exact i5⟩⟩
   obtain⟨k1,k2,aa,nn,k3,k4⟩:=qkj hR' hq1 rfl hin hil'
   have hmn:q6 m≤List.length n:=by
    unfold upR ln at hup
    obtain⟨u1,u2⟩:=and2 hup
    have u1:=of_decide_eq_true u1
    have u2:=of_decide_eq_true u2
    unfold q6;omega
   refine⟨.pd rr ver i fl us (tk n (q6 m)),R',G',hK,hR',?_,hE⟩
   refine⟨_,hq1,Nat.le_refl _,fun _ own ts' l' hk=> ?_⟩
   cases hk
   refine⟨k1,k2,aa,nn,?_,qj9 k4 hmn⟩
   rw [ex,k3,qoj hmn];rfl
 |_=>exact he.elim
theorem q09d {f:Nat} {g:Sig} (hF:FnOk P f g) {k:Nat} {as:List AV} {σ:St} {K:AV→St→Option R} {r:R} (h:qqp soft k g as σ K=some r):qfq P f as σ K r:=by
 intro G w args hI hR hl hv
 unfold qqp at h
 cases hfs:g.fns with
 |nil=>
  simp only [hfs]at h
  have:=q044 hF h G w args hI hR hl hv
  rw [hfs,show qq4 []=[]from rfl,List.append_nil]at this
  exact this
 |cons f0 fs=>
  simp only [hfs]at h
  obtain⟨h1,h2⟩:=qw h
  generalize g.pm.length=n at h1 h2
  have e:=q097 (G:=G) (Rs:=σ.roots) (w:=w) (f0::fs) (as.drop n) (args.drop n) h1 (by simp [hl]) (fun i hi=>by
   rw [List.getD_eq_getElem?_getD,List.getElem?_drop,List.getD_eq_getElem?_getD,List.getElem?_drop]
   have:=hv (n+i) (by rw [List.length_drop]at hi;omega)
   rwa [List.getD_eq_getElem?_getD,List.getD_eq_getElem?_getD]at this)
  have:=q044 hF h2 G w (args.take n) hI hR (by simp [hl]) (fun i hi=>by
   rw [List.length_take]at hi
   rw [List.getD_eq_getElem?_getD,List.getElem?_take,if_pos (by omega),List.getD_eq_getElem?_getD,List.getElem?_take,if_pos (by omega)]
   have:=hv i (by omega)
   rwa [List.getD_eq_getElem?_getD,List.getD_eq_getElem?_getD]at this)
  rw [hfs,←e,List.take_append_drop]at this
  exact this
end
end Go.Proofs.YtpmjopbgccajgaaGreat.Eng
namespace Go.Proofs.YtpmjopbgccajgaaGreat.Eng
open Go.RowKit
def qpk:List Value→Ty→Bool
 | [],.nil=>true
 | .bool b::vs,.cons .bool ts=> !b&&qpk vs ts
 | .int j n::vs,.cons (.int k) ts=>decide (j=k)&&decide (n=0)&&qpk vs ts
 | .string s::vs,.cons .str ts=>(match s.data.toList with| []=>true|_=>false)&&qpk vs ts
 | .slice none l c::vs,.cons (.slice _) ts=>Nat.beq l 0&&Nat.beq c 0&&qpk vs ts
 |_,_=>false
def q0jh (P:Program):List Field→List (Nat×Nat×Bool)→Bool
 | [],[]=>true
 |fl::fs,off::os=>Nat.beq fl.offset off.1&&(match P.info? fl.type with|some I=>Nat.beq I.size off.2.1&&Nat.blt 0 off.2.1|none=>false)&&(off.2.2||Nat.beq off.2.1 1)&&
   (match P.underlying fl.type with|some d=>aggD d==off.2.2|none=>false)&&q0jh P fs os
 |_,_=>false
def q0in:Nat→Ty→Ty
 |n+1,.cons t ts=> .cons t (q0in n ts)
 |_,_=> .nil
def q0m4:Nat→Ty→Ty
 |n+1,.cons _ ts=>q0m4 n ts
 |_,ts=>ts
theorem q0f3:∀(n:Nat) (ts:Ty),catT (q0in n ts) (q0m4 n ts)=ts
 |0,ts=>rfl
 |n+1,.cons t ts=>by simp only [q0in,q0m4,catT,q0f3 n ts]
 |n+1,.nil=>rfl
 |n+1,.bool=>rfl
 |n+1,.int _=>rfl
 |n+1,.str=>rfl
 |n+1,.slice _=>rfl
def eqFB (P:Program):Nat→Ty→List Field→Nat→Bool
 |_,ts,[],_=>(match ts with| .nil=>true|_=>false)
 |0,_,_::_,_=>false
 |d+1,ts,f::fs,off=> !(f.name== "_")&&(Nat.beq f.offset off&&(match P.underlying f.type with
  |some .bool=>(match ts with| .cons .bool ts'=>eqFB P d ts' fs (off+1)|_=>false)
  |some (.int j)=>(match ts with| .cons (.int k) ts'=>decide (j=k)&&eqFB P d ts' fs (off+1)|_=>false)
  |some (.struct gs)=> !P.stoodInHeld f.type&&(match P.info? f.type with
   |some I=>Nat.beq I.size (q0in I.size ts).size&&(eqFB P d (q0in I.size ts) gs.toList 0&&eqFB P d (q0m4 I.size ts) fs (off+I.size))
   |none=>false)
  |_=>false))
def q0kz (i:TI) (d:TypeDesc):Bool:=match i.cells,d with
 | .cons .bool .nil,.bool=>true
 | .cons (.int k) .nil,.int j=>decide (j=k)
 | .cons (.slice _) .nil,.slice e=>Nat.beq e i.elem
 | .cons .str .nil,.string=>true
 |_,_=>false
def tyB (P:Program) (T:Nat) (i:TI):Bool:=
 (match P.info? T with|some I=>Nat.beq I.size i.cells.size&&Nat.ble I.bytes 512&&(match I.zero with|some z=>qpk z.cells.toList i.cells|none=>false)|none=>false)&&
 (i.cells.flat&& !Nat.beq i.cells.size 0&&
 (match P.underlying T with
  |some d=>(aggD d==i.agg)&&(match i.agg with
   |true=>(match d with| .struct fs=>q0jh P fs.toList i.offs|_=>false)&&(!i.eq||(!P.stoodInHeld T&&(!P.eqGuardType P.depth T&&eqFB P 64 i.cells (P.fieldsOf T).toList 0)))
   |false=>Nat.beq i.cells.size 1&&i.offs.isEmpty&&q0kz i d)
  |none=>false))
def tabB (P:Program):List (Nat×TI)→Bool
 | []=>true
 |(T,i)::l=>tyB P T i&&tabB P l
theorem qnz:∀ {vs:List Value} {ts:Ty},qpk vs ts=true→vs=q17 ts
 | [],.nil,_=>rfl
 | .bool b::vs,.cons .bool ts,h=>by
  simp only [qpk,Bool.and_eq_true,Bool.not_eq_true']at h
  rw [h.1,qnz h.2];rfl
 | .int j n::vs,.cons (.int k) ts,h=>by
  simp only [qpk,Bool.and_eq_true,decide_eq_true_eq]at h
  rw [h.1.1,h.1.2,qnz h.2];rfl
 | .string s::vs,.cons .str ts,h=>by
  simp only [qpk,Bool.and_eq_true]at h
  have e:s=ByteArray.empty:=by
   have h1:=h.1
   split at h1
   ·rename_i hs
    apply ByteArray.ext
    apply Array.ext'
    rw [hs];rfl
   ·cases h1
  rw [e,qnz h.2];rfl
 | .slice none l c::vs,.cons (.slice _) ts,h=>by
  simp only [qpk,Bool.and_eq_true]at h
  rw [Nat.eq_of_beq_eq_true h.1.1,Nat.eq_of_beq_eq_true h.1.2,qnz h.2];rfl
theorem q0ew {P:Program}:∀ {fs:List Field} {os:List (Nat×Nat×Bool)},q0jh P fs os=true→∀(f:Nat) off,os[f]? =some off→∃fl:Field,fs[f]? =some fl∧fl.offset=off.1∧(∃I,P.info? fl.type=some I∧I.size=off.2.1∧0<off.2.1)∧
  (off.2.2=false→off.2.1=1)∧∃d,P.underlying fl.type=some d∧aggD d=off.2.2
 | [],[],_,f,off,h=>by simp at h
 |fl::fs,o::os,h,f,off,hf=>by
  simp only [q0jh,Bool.and_eq_true]at h
  obtain⟨⟨⟨⟨h1,h2⟩,h3⟩,h4⟩,h5⟩:=h
  cases f with
  |zero=>
   simp at hf;subst hf
   refine⟨fl,rfl,Nat.eq_of_beq_eq_true h1,?_,fun e=> ?_,?_⟩
   ·split at h2
    ·rename_i I hI
     obtain⟨a,b⟩:=Bool.and_eq_true_iff.1 h2
     exact⟨I,hI,Nat.eq_of_beq_eq_true a,Nat.le_of_ble_eq_true b⟩
    ·cases h2
   ·rw [e]at h3;exact Nat.eq_of_beq_eq_true (by simpa using h3)
   ·split at h4
    ·rename_i d hd;exact⟨d,hd,eq_of_beq h4⟩
    ·cases h4
  |succ f=>exact q0ew h5 f off (by simpa using hf)
theorem q0ev {P:Program}:∀ {fs:List Field} {os:List (Nat×Nat×Bool)},q0jh P fs os=true→fs.mapM (fun f=>(P.info? f.type).map fun j=>(f.offset,j.size))=some (os.map fun o=>(o.1,o.2.1))
 | [],[],_=>rfl
 |fl::fs,o::os,h=>by
  simp only [q0jh,Bool.and_eq_true]at h
  obtain⟨⟨⟨⟨h1,h2⟩,h3⟩,h4⟩,h5⟩:=h
  have ih:=q0ev h5
  split at h2
  ·rename_i I hI
   obtain⟨a,b⟩:=Bool.and_eq_true_iff.1 h2
   simp only [List.mapM_cons,ih,hI,List.map_cons]
   simp only [Option.map_some,Nat.eq_of_beq_eq_true h1,Nat.eq_of_beq_eq_true a];rfl
  ·cases h2
theorem q0qh {P:Program}:∀ {d:Nat} {ts:Ty} {fs:List Field} {off:Nat},eqFB P d ts fs off=true→eqF P d ts fs off:=by
 intro d
 induction d with
 |zero=>
  intro ts fs off h
  cases fs with
  |nil=>cases ts<;>first|rfl|cases h
  |cons f fs=>cases h
 |succ d ih=>
  intro ts fs off h
  cases fs with
  |nil=>cases ts<;>first|rfl|cases h
  |cons f fs=>
   simp only [eqFB,Bool.and_eq_true]at h
   obtain⟨h1,h2,h3⟩:=h
   refine⟨by simpa using h1,Nat.eq_of_beq_eq_true h2,?_⟩
   split at h3
   ·rename_i hu
    split at h3
    ·exact .inl ⟨_,_,rfl,.inl ⟨rfl,hu⟩,ih h3⟩
    ·cases h3
   ·rename_i j hu
    split at h3
    ·obtain⟨e,h4⟩:=Bool.and_eq_true_iff.1 h3
     exact .inl ⟨_,_,rfl,.inr ⟨_,rfl,by rw [hu,of_decide_eq_true e]⟩,ih h4⟩
    ·cases h3
   ·rename_i gs hu
    obtain⟨hs,h4⟩:=Bool.and_eq_true_iff.1 h3
    have hg:P.fieldsOf f.type=gs:=by simp [Program.fieldsOf,hu]
    split at h4
    ·rename_i I hI
     obtain⟨h5,h6⟩:=Bool.and_eq_true_iff.1 h4
     obtain⟨h7,h8⟩:=Bool.and_eq_true_iff.1 h6
     have h5:=Nat.eq_of_beq_eq_true h5
     refine .inr ⟨q0in I.size ts,q0m4 I.size ts,I,(q0f3 _ _).symm,by rw [hg];exact hu,by simpa using hs,hI,h5,by rw [hg];exact ih h7,?_⟩
     rw [←h5];exact ih h8
    ·cases h4
   ·cases h3
theorem q0r8 {P:Program} {T:Nat} {i:TI} (h:tyB P T i=true):TyOk P T i:=by
 unfold tyB at h
 obtain⟨h1,h⟩:=Bool.and_eq_true_iff.1 h
 obtain⟨h23,h⟩:=Bool.and_eq_true_iff.1 h
 obtain⟨h2,h3⟩:=Bool.and_eq_true_iff.1 h23
 split at h1
 case h_2=>cases h1
 rename_i I hI
 obtain⟨h11,h12⟩:=Bool.and_eq_true_iff.1 h1
 obtain⟨ha,hb⟩:=Bool.and_eq_true_iff.1 h11
 split at h12
 case h_2=>cases h12
 rename_i z hz
 have hzc:=qnz h12
 split at h
 case h_2=>cases h
 rename_i d hd
 obtain⟨h4,h⟩:=Bool.and_eq_true_iff.1 h
 have h4:=eq_of_beq h4
 have hinfo:∃I,P.info? T=some I∧I.size=i.cells.size∧I.bytes≤512:=⟨I,hI,Nat.eq_of_beq_eq_true ha,Nat.le_of_ble_eq_true hb⟩
 have hzero:∃I z,P.info? T=some I∧I.zero=some z∧z.cells=(q17 i.cells).toArray:=⟨I,z,hI,hz,by rw [←hzc]⟩
 have hpos:i.cells.size≠0:=fun e=>by rw [e]at h3;cases h3
 cases hag:i.agg with
 |true=>
  rw [hag]at h
  simp only at h
  obtain⟨h5,h6⟩:=Bool.and_eq_true_iff.1 h
  obtain⟨fs,hfs⟩:∃fs,d= .struct fs:=by cases d<;>first|exact⟨_,rfl⟩|(simp at h5;done)
  subst hfs
  simp only at h5
  refine { info:=hinfo,zero:=hzero,flat:=h2,pos:=hpos,und:=⟨_,hd,h4⟩,offs:=fun f off hf=> ?_,bool:=fun e=> ?_,int:=fun k e=> ?_,str:=fun e=> ?_,one:=fun e=> ?_,slice:=fun us e=> ?_,places:=fun _=>⟨fs,hd,q0ev h5⟩,eq:=fun _ he=> ?_ }
  ·obtain⟨fl,g1,g2⟩:=q0ew h5 f off hf
   exact⟨fs,hd,fl,by rw [←g1];simp,g2⟩
  ·rw [hag]at e;cases e
  ·rw [hag]at e;cases e
  ·rw [hag]at e;cases e
  ·rw [hag]at e;cases e
  ·rw [hag]at e;cases e
  ·rw [he]at h6
   simp only [Bool.not_true,Bool.false_or,Bool.and_eq_true,Bool.not_eq_true']at h6
   refine⟨?_,h6.1,h6.2.1,q0qh h6.2.2⟩
   rw [hd]
   simp [Program.fieldsOf,hd]
 |false=>
  rw [hag]at h
  simp only [Bool.and_eq_true]at h
  obtain⟨⟨h5,h6⟩,h7⟩:=h
  refine { info:=hinfo,zero:=hzero,flat:=h2,pos:=hpos,und:=⟨_,hd,h4⟩,offs:=fun f off hf=> ?_,bool:=fun _ e=> ?_,int:=fun k _ e=> ?_,str:=fun _ e=> ?_,one:=fun _=>Nat.eq_of_beq_eq_true h5,slice:=fun us _ e=> ?_,places:=fun e=> ?_,eq:=fun e=> ?_ }
  ·rw [List.isEmpty_iff.1 h6]at hf;simp at hf
  ·unfold q0kz at h7
   rw [e]at h7
   cases d<;>first|exact hd|(simp at h7;done)
  ·unfold q0kz at h7
   rw [e]at h7
   cases d<;>first|(rw [hd,of_decide_eq_true h7];done)|(simp at h7;done)
  ·unfold q0kz at h7
   rw [e]at h7
   cases d<;>first|exact hd|(simp at h7;done)
  ·unfold q0kz at h7
   rw [e]at h7
   cases d<;>first|(rw [hd,Nat.eq_of_beq_eq_true h7];done)|(simp at h7;done)
  ·rw [hag]at e;cases e
  ·rw [hag]at e;cases e
theorem q0fd {P:Program}:∀ {tab:List (Nat×TI)},tabB P tab=true→q7w P tab
 | [],_=>fun T i h=>by cases h
 |(T,i)::l,h=>fun T' i' h'=>by
  obtain⟨h1,h2⟩:=Bool.and_eq_true_iff.1 h
  simp only [qkt]at h'
  split at h'
  ·rename_i hb
   cases h'
   rw [←Nat.eq_of_beq_eq_true hb]
   exact q0r8 h1
  ·exact q0fd h2 T' i' h'
end Go.Proofs.YtpmjopbgccajgaaGreat.Eng
namespace Go.Proofs.YtpmjopbgccajgaaGreat.Eng
open Go.RowKit
def GOk (P:Program):List (Nat×Ent)→Prop
 | []=>True
 |(f,e)::l=>(match e with| .sig g=>FnOk P f g| .inl fn H=>P.funcs[f]? =some fn∧(fn.name== "runtime.NumGoroutine")=false| .cut F d=>q0js P f d F)∧GOk P l
theorem GOk.get {P:Program}:∀ {Γ:List (Nat×Ent)},GOk P Γ→∀f e,qkt Γ f=some e→(match e with| .sig g=>FnOk P f g| .inl fn H=>P.funcs[f]? =some fn∧(fn.name== "runtime.NumGoroutine")=false| .cut F d=>q0js P f d F)
 | [],_,f,e,h=>by cases h
 |(f',e')::l,⟨h1,h2⟩,f,e,h=>by
  simp only [qkt]at h
  split at h
  ·rename_i hb
   cases h
   rw [←qd hb];exact h1
  ·exact GOk.get h2 f e h
theorem qe {P:Program} {tab:List (Nat×TI)} {soft:Bool} {Γ:List (Nat×Ent)} {fid:Nat} {fn:Func} {g:Sig} {H:List Hint} (heq:∀k x,q03 tab soft Γ H fn g k x=g.f k x) (hfn:P.funcs[fid]? =some fn) (hT:q7w P tab) (hm:P.follows .mixedOrders=true) (hnm:(fn.name== "runtime.NumGoroutine")=false)
  (hb:fn.body.isSome=true) (hG:GOk P Γ):FnOk P fid g:=by
 obtain⟨c,hc⟩:=Option.isSome_iff_exists.1 hb
 refine q0qg hT hm (fun f e h=> ?_) (fun R f g h k as σ K r hk=>q09d (hG.get f _ h) hk) (fun R f F d h k as σ K r hk=>q09e (hG.get f _ h) hk) hfn hnm hc heq
 have:=hG.get f e h
 cases e with
 |sig g=>exact this.1
 |inl fn H=>exact this
 |cut F d=>exact this.1
theorem q0si {P:Program} {tab:List (Nat×TI)} {soft:Bool} {Γ:List (Nat×Ent)} {fid d:Nat} {fn:Func} {F:CutF} {H:List Hint} (heq:∀k x,q0o7 tab soft Γ H fn d k x=F k x) (hfn:P.funcs[fid]? =some fn) (hT:q7w P tab) (hm:P.follows .mixedOrders=true) (hnm:(fn.name== "runtime.NumGoroutine")=false)
  (hb:fn.body.isSome=true) (hG:GOk P Γ):q0js P fid d F:=by
 obtain⟨c,hc⟩:=Option.isSome_iff_exists.1 hb
 refine q0o6 hT hm (fun f e h=> ?_) (fun R f g h k as σ K r hk=>q09d (hG.get f _ h) hk) (fun R f F d h k as σ K r hk=>q09e (hG.get f _ h) hk) hfn hnm hc heq
 have:=hG.get f e h
 cases e with
 |sig g=>exact this.1
 |inl fn H=>exact this
 |cut F d=>exact this.1
theorem q0ri {P:Program} {fid:Nat} {g:Sig} {F:Nat→Nat→g.params.den→Option g.res.den} (h0:∀k x,F 0 k x=none) (hHas:qpj P fid) (hs:∀n,FnOk P fid (g.re (F n))→FnOk P fid (g.re (F (n+1)))):FnOk P fid (g.re fun k x=>F k k x):=by
 have key:∀n,FnOk P fid (g.re (F n)):=by
  intro n
  induction n with
  |zero=>exact⟨hHas,fun k x y h=>by rw [show (g.re (F 0)).f k x=none from h0 k x]at h;cases h⟩
  |succ n ih=>exact hs n ih
 exact⟨hHas,fun k x y h=>(key k).2 k x y h⟩
end Go.Proofs.YtpmjopbgccajgaaGreat.Eng
namespace Go.Proofs.YtpmjopbgccajgaaGreat.Eng
open Go.RowKit
theorem q00c (l:List (Int×Unit)):(q4f l).length=l.length:=by simp [q4f]
theorem q0pn {P:Program} {f:Nat} (hHas:qpj P f)
  (hS:∀(blk off cap:Nat) (zs:List Int) (w:World),Go.Sort.Holds (Value.int .i64) w blk off zs.toArray→blk<w.heap.size→zs.length<4611686018427387904→Calls P f #[.slice (some ⟨blk,off,none⟩) zs.length cap] w fun e w'=>
   e= .returned (.tuple #[])∧∃n os,w'=Go.Sort.grow (Go.Sort.putRow (Value.int .i64) (Go.Sort.ahead w n) blk off (zs.mergeSort fun x y=>decide (x≤y)).toArray) os)
  (hE:∀(p:Option Addr) (cap:Nat) (w:World),Calls P f #[.slice p 0 cap] w fun e w'=>e= .returned (.tuple #[])∧w'=w):FnOk P f sortSig:=by
 refine⟨hHas,fun k x y hy G w vals _ hall=> ?_⟩
 rw [show qq4 sortSig.fns=[]from rfl,List.append_nil]
 obtain⟨l,u⟩:=x
 change List (Int×Unit)at l
 have hy:q0fm k l=some y:=hy
 unfold q0fm at hy
 split at hy
 case isFalse=>cases hy
 rename_i hsz
 cases hy
 cases vals with
 |nil=>exact hall.elim
 |cons v vals=>
  cases vals with
  |cons _ _=>exact hall.2.elim
  |nil=>
   obtain⟨a,c,ev,hrow,_⟩:∃a c,v= .slice a (List.length l) c∧q8n G w (qea (vw G w)) (.of 0 0) (.cons (.int .i64) .nil) l a c∧(false=true→(0:Nat)=0):=hall.1
   have hrow0:=hrow
   obtain⟨hlc,hrow⟩:=hrow
   have hlc:l.length≤c:=hlc
   have fin:∀(G':Gh) (w':World),q8n G' w' (qea (vw G' w')) (.of 0 0) (.cons (.int .i64) .nil) (q4f l) a c→qyf G' w' sortSig.res (q4f l,()) sortSig.rm ([]++qlx sortSig.pm [v]) (qnm 0 (q40 sortSig.res sortSig.rm)):=fun G' w' h=>⟨⟨a,c,by rw [ev];show Value.slice a (List.length l) c=Value.slice a (List.length (q4f l)) c;rw [q00c],h,fun e=>by cases e⟩,trivial⟩
   cases hl:l with
   |nil=>
    have hc0:Calls P f #[v] w fun e w'=>e= .returned (.tuple #[])∧w'=w:=by rw [ev,hl];exact hE a c w
    refine hc0.mono ?_
    rintro e w' ⟨e1,e2⟩
    subst e1;subst e2
    have hs:q4f []=[]:=by simp [q4f]
    refine⟨[],G,rfl,rfl,?_,Out.refl _ _⟩
    have:=fin G w' (by rw [hl,hs];rw [hl]at hrow0;exact hrow0)
    rw [hl]at this;exact this
   |cons z zs=>
    have hpos:0<l.length:=by rw [hl];simp
    rcases hrow with h0|⟨b,o,ea,h1,h2⟩
    ·omega
    ·rw [←hl]
     have h2:∀i,i<l.length→elG (at_ w) (qea (vw G w)) (.cons (.int .i64) .nil) (rd (.cons (.int .i64) .nil) l i) b (o+i*(Ty.cons (.int .i64) .nil).size) (i*(Ty.cons (.int .i64) .nil).size):=h2
     have hel:∀i,i<l.length→at_ w b (o+i)=some (.int .i64 (l.getD i (0,())).1):=fun i hi=>by
      obtain⟨⟨v',e1,e2⟩,_⟩:=h2 i hi
      have e2:v'= .int .i64 (rd (.cons (.int .i64) .nil) l i).1:=e2
      rw [show i*(Ty.cons (.int .i64) .nil).size=i by simp [Ty.size]]at e1
      rw [e1,e2];rfl
     have hcell:∀j,j<c→G.own b (o+j)= .of 0 0∧w.frozen? ⟨b,o+j,none⟩=false∧(at_ w b (o+j)).isSome=true:=fun j hj=>h1 j (by simpa [Ty.size]using hj)
     have hblt:b<w.heap.size:=q1z (hel 0 hpos)
     have hH:Go.Sort.Holds (Value.int .i64) w b o (l.map Prod.fst).toArray:=fun j hj=>by
      have hj':j<l.length:=by simpa using hj
      refine⟨?_,(hcell j (by omega)).2.1⟩
      have:=hel j hj'
      rw [show w.cell? ⟨b,o+j,none⟩=at_ w b (o+j)from rfl,this]
      simp [List.getD_eq_getElem?_getD,hj',getElem!_pos]
     have hS':=hS b o c (l.map Prod.fst) w hH hblt (by simpa using hsz)
     rw [List.length_map,←ea]at hS'
     have ev2:([v]:List Value).toArray= #[.slice a l.length c]:=by rw [ev]
     rw [←ev2]at hS'
     refine hS'.mono ?_
     rintro e w' ⟨e1,q,os,ew⟩
     subst e1
     generalize hd:((l.map Prod.fst).mergeSort fun x y=>decide (x≤y))=d at ew
     have hdl:d.length=l.length:=by rw [←hd];simp
     have hwsz:(Go.Sort.putRow (Value.int .i64) (Go.Sort.ahead w q) b o d.toArray).heap.size=w.heap.size:=by simp [Go.Sort.putRow,Go.Sort.mapBlock,Go.Sort.ahead]
     have hsz':w'.heap.size=w.heap.size+os.size:=by rw [ew,Go.Sort.size_grow,hwsz]
     have hblk:∀k,k<w.heap.size→w'.heap[k]? =if k=b then(w.heap[b]?).map (Go.Sort.onCells (Go.Sort.putCells (Value.int .i64) o d.toArray))else w.heap[k]? :=fun k hk=>by
      rw [ew,Go.Sort.heap_grow_old _ _ (by rw [hwsz];exact hk)]
      simp only [Go.Sort.putRow,Go.Sort.mapBlock,Go.Sort.ahead,Array.getElem?_modify]
      by_cases e:b=k
      ·subst e;simp
      ·rw [if_neg e,if_neg (Ne.symm e)]
     have hshp:∀k,k<w.heap.size→shp w' k=shp w k:=fun k hk=>by
      unfold shp
      rw [hblk k hk]
      split
      ·rename_i e
       subst e
       cases w.heap[k]? with
       |none=>rfl
       |some x=>cases x<;>simp [Go.Sort.onCells,shpO,Go.Sort.putCells]
      ·rfl
     have hfr:∀k p,k<w.heap.size→w'.frozen? ⟨k,p,none⟩=w.frozen? ⟨k,p,none⟩:=fun k p hk=>by
      unfold World.frozen?
      simp only [hblk k hk]
      by_cases e:k=b
      ·subst e
       rw [if_pos rfl]
       cases w.heap[k]? with
       |none=>rfl
       |some x=>cases x<;>simp [Go.Sort.onCells]
      ·rw [if_neg e]
     have hfz:∀k p,k<w.heap.size→fz w' k p=fz w k p:=fun k p hk=>by unfold fz;rw [hfr k p hk,hshp k hk]
     have hat:∀k p,k<w.heap.size→¬(k=b∧o≤p∧p<o+d.length)→at_ w' k p=at_ w k p:=fun k p hk hn=>by
      unfold at_ World.cell?
      simp only [hblk k hk]
      by_cases e:k=b
      ·subst e
       rw [if_pos rfl]
       cases hw:w.heap[k]? with
       |none=>simp
       |some x=>
        cases x with
        |cells cs t fr=>
         simp only [Option.map_some,Go.Sort.onCells,Go.Sort.putCells,Array.getElem?_mapIdx,Option.isSome_none,Bool.false_eq_true,if_false]
         cases hc:cs[p]? with
         |none=>rfl
         |some z=>simp only [Option.map_some,List.size_toArray];rw [if_neg (fun h=>hn ⟨rfl,h⟩)]
        |_=>rfl
      ·rw [if_neg e]
     have hat2:∀j,j<l.length→at_ w' b (o+j)=some (.int .i64 (d.getD j 0)):=fun j hj=>by
      have h0:=hel j hj
      unfold at_ World.cell? at h0 ⊢
      simp only at h0 ⊢
      rw [hblk b hblt,if_pos rfl]
      cases hw:w.heap[b]? with
      |none=>rw [hw]at h0;cases h0
      |some x=>
       rw [hw]at h0
       cases x with
       |cells cs t fr=>
        simp only [Option.isSome_none,Bool.false_eq_true,if_false]at h0
        simp only [Option.map_some,Go.Sort.onCells,Go.Sort.putCells,Array.getElem?_mapIdx,Option.isSome_none,Bool.false_eq_true,if_false,h0,List.size_toArray]
        rw [if_pos ⟨by omega,by omega⟩]
        have hj':j<d.length:=by omega
        simp [List.getD_eq_getElem?_getD,hj',getElem!_pos]
       |_=>cases h0
     let G':Gh:=⟨fun b o=>if b<w.heap.size then G.own b o else .hid,G.anch⟩
     have hlk:∀L,L≠ .of 0 0→Lk G w G' w' L L:=fun L hL b' o' hb' e=>by
      refine⟨by show (if _ then _ else _)=_;rw [if_pos hb'];exact e,hat b' o' hb' (fun ⟨e1,e2,e3⟩=> ?_),hfz b' o' hb'⟩
      subst e1
      have:=(hcell (o'-o) (by omega)).1
      rw [show o+(o'-o)=o' by omega,e]at this
      exact hL this
     have hsl:q4f l=d.map fun x=>(x,()):=by unfold q4f;rw [hd]
     have:=fin G' w' ⟨by show (q4f l).length≤c;rw [q00c l];exact hlc,.inr ⟨b,o,ea,fun j hj=> ?_,fun i hi=> ?_⟩⟩
     ·refine⟨[],G',rfl,rfl,this,⟨?_,?_,?_,by omega,hlk _ (fun e=>by cases e),hlk _ (fun e=>by cases e)⟩⟩
      ·rw [ew];rfl
      ·rw [ew];rfl
      ·rw [ew];rfl
     ·have hj:j<c:=by simpa [Ty.size]using hj
      obtain⟨c1,c2,c3⟩:=hcell j hj
      refine⟨by show (if _ then _ else _)=_;rw [if_pos hblt];exact c1,by rw [hfr b _ hblt];exact c2,?_⟩
      by_cases hjl:j<l.length
      ·rw [hat2 j hjl];rfl
      ·rw [hat b _ hblt (fun h=>by omega)];exact c3
     ·have hi:i<(q4f l).length:=hi
      rw [q00c]at hi
      rw [show i*(Ty.cons (.int .i64) .nil).size=i by simp [Ty.size]]
      refine⟨⟨_,hat2 i hi,?_⟩,trivial⟩
      have hi':i<d.length:=by omega
      have e0:∀z:Int×Unit,(d.map fun x=>(x,())).getD i z=(d[i],()):=fun z=>by
       rw [List.getD_eq_getElem?_getD,List.getElem?_map,List.getElem?_eq_getElem hi'];rfl
      show Value.int .i64 (d.getD i 0)= .int .i64 ((q4f l).getD i ((0:Int),())).1
      rw [hsl,e0,List.getD_eq_getElem?_getD,List.getElem?_eq_getElem hi'];rfl
end Go.Proofs.YtpmjopbgccajgaaGreat.Eng
namespace Go.Proofs.YtpmjopbgccajgaaGreat.Eng
open Go.RowKit Go.ChangeShapes Go.WideShapes
def Wf:(t:Ty)→t.den→Prop
 | .bool=>fun _=>True
 | .int k=>fun n=>(Lit.int k n).wf=true
 | .str=>fun s=>ByteArray.size s≤maxLen
 | .slice ts=>fun (l:List ts.den)=>l.length≤maxLen∧∀x∈l,Wf ts x
 | .nil=>fun _=>True
 | .cons t ts=>fun x=>Wf t x.1∧Wf ts x.2
def readC (u:Nat→Nat→Option Value):(ts:Ty)→ts.den→List Value→Prop
 | .nil,_,vs=>vs=[]
 | .cons t ts,x,vs=>∃v vs',vs=v::vs'∧(ro u t).1 x.1 v∧readC u ts x.2 vs'
 |_,_,_=>False
theorem q0dm {u:Nat→Nat→Option Value}:∀ {ts:Ty} {x:ts.den} {vs:List Value} {b o:Nat},readC u ts x vs→(∀i v,vs[i]? =some v→u b (o+i)=some v)→(ro u ts).2 x b o
 | .nil,_,_,_,_,_,_=>trivial
 | .cons t ts,x,vs,b,o,⟨v,vs',e,h1,h2⟩,h=>by
  subst e
  refine⟨⟨v,h 0 v rfl,h1⟩,q0dm h2 (fun i v' hi=> ?_)⟩
  have:=h (i+1) v' hi
  rwa [show o+(i+1)=o+1+i by omega]at this
 | .bool,_,_,_,_,h,_=>h.elim
 | .int _,_,_,_,_,h,_=>h.elim
 | .str,_,_,_,_,h,_=>h.elim
 | .slice _,_,_,_,_,h,_=>h.elim
structure OpE (P:Program) (T:Nat) (ts:Ty):Prop where
 sz:P.cellsOf T=ts.size
 op:∀ {H:Type} {enc:TypeId×Value→H} {w:World} {base:Nat} {spare:Nat→Bool} {held:Bool} {fuel:Nat} {cs:List Value} {x:DataW H×List MemPlace},
  DataW.trod enc P w base spare held fuel T cs=some x→∃v:ts.den,readC (at_ w) ts v cs∧Wf ts v
theorem opE_int {P:Program} {T:Nat} {k:IntKind} (hu:P.underlying T=some (.int k)) (hs:P.cellsOf T=1):OpE P T (.cons (.int k) .nil) where
 sz:=hs
 op:=by
  intro H enc w base spare held fuel cs x h
  obtain⟨n,rfl,_,hw⟩:=DataW.trod_int hu h
  exact⟨(n,()),⟨_,_,rfl,rfl,rfl⟩,hw,trivial⟩
theorem opE_bool {P:Program} {T:Nat} (hu:P.underlying T=some .bool) (hs:P.cellsOf T=1):OpE P T (.cons .bool .nil) where
 sz:=hs
 op:=by
  intro H enc w base spare held fuel cs x h
  obtain⟨b,rfl,_⟩:=DataW.trod_bool hu h
  exact⟨(b,()),⟨_,_,rfl,rfl,rfl⟩,trivial,trivial⟩
theorem q0n5 {H:Type} {enc:TypeId×Value→H} {P:Program} {w:World} {base:Nat} {spare:Nat→Bool} {held:Bool} {e:TypeId} {us:Ty} (he:OpE P e us) (hpos:us.size≠0) (a:Addr) {fuel:Nat} (D:Nat→DataW H) (Pl:Nat→List MemPlace):
  ∀n,(∀i,i<n→∃cs',w.cells? base (a.add (i*P.cellsOf e)) (P.cellsOf e)=some cs'∧DataW.trod enc P w base spare held fuel e cs'=some (D i,Pl i))→
   ∃l:List us.den,l.length=n∧(∀x,x∈l→Wf us x)∧∀i,i<n→∃b o,some a=some (⟨b,o,none⟩:Addr)∧(ro (at_ w) us).2 (rd us l i) b (o+i*us.size):=by
 intro n
 induction n with
 |zero=>intro _;exact⟨[],rfl,fun x h=>(by cases h),fun i hi=>by omega⟩
 |succ n ih=>
  intro h
  obtain⟨l,hl,hok,hr⟩:=ih (fun i hi=>h i (by omega))
  obtain⟨cs',hc,ht⟩:=h n (by omega)
  obtain⟨v,hK,hO⟩:=he.op ht
  obtain⟨_,hcl,hat⟩:=World.cells?_some hc
  have hsp:a.spot=none:=by
   obtain⟨cs0,hc0,ht0⟩:=h 0 (by omega)
   obtain⟨_,hcl0,hat0⟩:=World.cells?_some hc0
   have h0:=hat0 0 (by rw [he.sz];omega)
   have hlt:0<cs0.length:=by rw [hcl0,he.sz];omega
   rw [List.getElem?_eq_getElem hlt]at h0
   have:w.cell? a=some cs0[0]:=by simpa [Addr.add]using h0
   unfold World.cell? at this
   split at this
   ·cases hsp:a.spot with
    |none=>rfl
    |some s=>rw [hsp]at this;simp at this
   ·cases this
  have ha:a=⟨a.block,a.off,none⟩:=by cases a;simp_all
  refine⟨l++[v],by simp [hl],fun x hx=> ?_,fun i hi=> ?_⟩
  ·rcases List.mem_append.1 hx with hx|hx
   ·exact hok x hx
   ·rw [List.mem_singleton.1 hx];exact hO
  ·rcases Nat.lt_or_ge i l.length with hlt|hge
   ·obtain⟨b,o,e1,e2⟩:=hr i (by omega)
    refine⟨b,o,e1,?_⟩
    have:rd us (l++[v]) i=rd us l i:=by
     unfold rd
     rw [List.getD_eq_getElem?_getD,List.getElem?_append_left hlt,List.getD_eq_getElem?_getD]
    rw [this];exact e2
   ·have hin:i=n:=by omega
    subst hin
    refine⟨a.block,a.off,by rw [←ha],?_⟩
    have:rd us (l++[v]) i=v:=by
     unfold rd
     rw [List.getD_eq_getElem?_getD,List.getElem?_append_right (by omega),hl];simp
    rw [this]
    refine q0dm hK (fun j u hj=> ?_)
    have hjl:=(List.getElem?_eq_some_iff.1 hj).1
    have h1:=hat j (by omega)
    rw [hj,Go.Deep.add_add,he.sz]at h1
    have e:a.add (i*us.size+j)=⟨a.block,a.off+i*us.size+j,none⟩:=by
     unfold Addr.add
     split
     ·rename_i hz
      rw [show a.off+i*us.size+j=a.off by omega];exact ha
     ·rw [Nat.add_assoc]
    rw [e]at h1
    exact h1
theorem opE_slice {P:Program} {T e:Nat} {us:Ty} (hu:P.underlying T=some (.slice e)) (hs:P.cellsOf T=1) (he:OpE P e us) (hpos:us.size≠0):OpE P T (.cons (.slice us) .nil) where
 sz:=hs
 op:=by
  intro H enc w base spare held fuel cs x h
  rcases Go.Deep.open_slice hu h with⟨rfl,_⟩|⟨a,len,cap,m,n,D,Pl,rfl,_,hl,hm,hmm,_,hi⟩
  ·exact⟨(([]:List us.den),()),⟨_,_,rfl,⟨none,0,rfl,Nat.le_refl _,fun i hi=>absurd hi (by simp)⟩,rfl⟩,⟨Nat.zero_le _,fun x hx=>(by cases hx)⟩,trivial⟩
  ·have hle:len≤m:=by rw [hmm];split<;>omega
   obtain⟨l,hll,hok,hr⟩:=q0n5 he hpos a D Pl len (fun i hi'=>hi i (by omega))
   subst hll
   exact⟨(l,()),⟨_,_,rfl,⟨some a,cap,rfl,hl,fun i hi=>hr i hi⟩,rfl⟩,⟨Nat.le_trans hl hm,hok⟩,trivial⟩
def Ty.app:Ty→Ty→Ty
 | .cons t us,ts=> .cons t (us.app ts)
 |_,ts=>ts
def q0nv:(us ts:Ty)→us.den→ts.den→(us.app ts).den
 | .cons t us,ts,x,y=>(x.1,q0nv us ts x.2 y)
 | .nil,_,_,y=>y
 | .bool,_,_,y=>y
 | .int _,_,_,y=>y
 | .str,_,_,y=>y
 | .slice _,_,_,y=>y
theorem q08y {u:Nat→Nat→Option Value}:∀ {us ts:Ty} {x:us.den} {y:ts.den} {vs vs':List Value},readC u us x vs→readC u ts y vs'→readC u (us.app ts) (q0nv us ts x y) (vs++vs')
 | .cons t us,ts,x,y,vs,vs',⟨v,w,e,h1,h2⟩,h=>by subst e;exact⟨v,w++vs',rfl,h1,q08y h2 h⟩
 | .nil,ts,x,y,vs,vs',h0,h=>by rw [show vs=[]from h0];exact h
 | .bool,_,_,_,_,_,h,_=>h.elim
 | .int _,_,_,_,_,_,h,_=>h.elim
 | .str,_,_,_,_,_,h,_=>h.elim
 | .slice _,_,_,_,_,_,h,_=>h.elim
theorem q0jz:∀ {us ts:Ty} {x:us.den} {y:ts.den},Wf us x→Wf ts y→Wf (us.app ts) (q0nv us ts x y)
 | .cons t us,ts,x,y,⟨h1,h2⟩,h=>⟨h1,q0jz h2 h⟩
 | .nil,_,_,_,_,h=>h
 | .bool,_,_,_,_,h=>h
 | .int _,_,_,_,_,h=>h
 | .str,_,_,_,_,h=>h
 | .slice _,_,_,_,_,h=>h
theorem q0ig:∀ {us ts:Ty},(us.app ts).size=us.size+ts.size
 | .cons t us,ts=>by simp only [Ty.app,Ty.size,q0ig (us:=us)];omega
 | .nil,_=>by simp [Ty.app,Ty.size]
 | .bool,_=>by simp [Ty.app,Ty.size]
 | .int _,_=>by simp [Ty.app,Ty.size]
 | .str,_=>by simp [Ty.app,Ty.size]
 | .slice _,_=>by simp [Ty.app,Ty.size]
inductive FldsE (P:Program):List Field→Nat→Ty→Prop where
 |nil {o:Nat}:FldsE P [] o .nil
 |cons {f:Field} {fs:List Field} {o:Nat} {us ts:Ty}:f.offset=o→OpE P f.type us→FldsE P fs (o+us.size) ts→FldsE P (f::fs) o (us.app ts)
theorem FldsE.op {P:Program} {fs:List Field} {o:Nat} {ts:Ty} (h:FldsE P fs o ts) {H:Type} {enc:TypeId×Value→H} {w:World} {base:Nat} {spare:Nat→Bool} {held:Bool} {n:Nat} {cs:List Value}
  (hc:cs.length=o+ts.size) (hf:∀f∈fs,∃x,DataW.trod enc P w base spare held n f.type ((cs.drop f.offset).take (P.cellsOf f.type))=some x):∃v:ts.den,readC (at_ w) ts v (cs.drop o)∧Wf ts v:=by
 induction h with
 | @nil o=>
  have:cs.length=o:=hc
  exact⟨(),by show cs.drop o=[];exact List.drop_eq_nil_of_le (by omega),trivial⟩
 | @cons f fs o us ts ho he hr ih=>
  obtain⟨x,hx⟩:=hf f (List.mem_cons_self ..)
  rw [q0ig]at hc
  obtain⟨v',hK',hO'⟩:=ih (by omega) (fun g hg=>hf g (List.mem_cons_of_mem _ hg))
  subst ho
  obtain⟨v,hK,hO⟩:=he.op hx
  refine⟨q0nv us ts v v',?_,q0jz hO hO'⟩
  have:=q08y hK hK'
  rwa [he.sz,←List.drop_drop,List.take_append_drop]at this
theorem opE_struct {P:Program} {T:Nat} {fs:Array Field} {ts ts':Ty} (hu:P.underlying T=some (.struct fs)) (hs:P.cellsOf T=ts.size) (hF:FldsE P fs.toList 0 ts') (he:ts'=ts):OpE P T ts where
 sz:=hs
 op:=by
  subst he
  intro H enc w base spare held fuel cs x h
  obtain⟨xs,n,_,_,hl,hxl,hf⟩:=DataW.trod_struct hu h
  exact hF.op (enc:=enc) (w:=w) (base:=base) (spare:=spare) (held:=held) (n:=n) (cs:=cs) (by rw [hl,hs];omega) (fun f' hf'=>by
   obtain⟨i,hi,rfl⟩:=List.getElem_of_mem hf'
   have h1:=hf i (fs.toList[i]) (by rw [←Array.getElem?_toList];exact List.getElem?_eq_getElem hi)
   have hi2:i<xs.length:=by rw [hxl];simpa using hi
   exact⟨_,h1.trans (List.getElem?_eq_getElem hi2)⟩)
def G0:Gh:=⟨fun _ _=> .free,fun _=>(none,0)⟩
theorem q0kt {W w':World} {G':Gh} (h:Out G0 W G' w'):Below W.heap.size W w' where
 os:=h.os
 tape:=h.tape
 output:=h.output
 size:=h.size
 block:=fun k hk=>q0ic (congrArg Prod.snd (h.free k 0 hk rfl).2.2) (fun o=>(h.free k o hk rfl).2.1)
theorem one_struct {W:World} {ts:Ty} {x:ts.den} {s:Array Value} (hc:qbz ts=true) (h:readC (at_ W) ts x s.toList) (L:List (Nat×Nat)):hOne G0 W ⟨false,0⟩ ts x (.agg s) L:=by
 unfold hOne
 simp only [hc]
 refine⟨s.toList,by simp,?_⟩
 have key:∀(ts:Ty) (x:ts.den) (vs:List Value) (L:List (Nat×Nat)),readC (at_ W) ts x vs→qmp G0 W 0 ts x vs L:=by
  intro ts
  induction ts with
  |nil=>intro x vs L h;exact h
  |cons t ts _ ih=>
   intro x vs L h
   obtain⟨v,vs',e,h1,h2⟩:=h
   exact⟨v,vs',e,h1,ih _ _ _ h2⟩
  |_=>intro x vs L h;exact h
 exact key ts x _ L h
theorem lent0:∀ {pm:List Md},(pm.all fun m=> !qnn m)=true→∀vs:List Value,qlx pm vs=[]
 | [],_,vs=>by cases vs<;>rfl
 |m::ms,h,[]=>rfl
 |m::ms,h,v::vs=>by
  simp only [List.all_cons,Bool.and_eq_true,Bool.not_eq_true']at h
  simp only [qlx,h.1]
  exact lent0 h.2 vs
theorem law_end {P:Program} {f:Nat} {W:World} {vals:List Value} {params:Ty} {pm:List Md} {F:Nat→params.den→Option (Ty.cons .bool .nil).den} (hok:FnOk P f ⟨params,pm,.cons .bool .nil,[⟨false,0⟩],1,F,[]⟩) (x:params.den) (hpm:∀vs:List Value,qlx pm vs=[])
  {k:Nat} (hp:F k x=some (true,())) (hI:Inv G0 W) (hall:qyf G0 W params x pm vals (qnm 0 (q40 params pm))):Calls P f vals.toArray W (fun e w'=>e= .returned (.bool true)∧Below W.heap.size W w'):=by
 have hok2:=hok.2 k x (true,()) hp G0 W vals hI hall
 rw [show qq4 ([]:List Nat)=[]from rfl,List.append_nil]at hok2
 refine hok2.mono (fun e w' he=> ?_)
 cases e with
 |returned out=>
  obtain⟨outs,G',e1,e2,h3,h4⟩:=he
  rw [hpm,List.append_nil]at h3
  cases outs with
  |nil=>cases e2
  |cons o outs=>
   cases outs with
   |cons _ _=>simp at e2
   |nil=>
    refine⟨?_,q0kt h4⟩
    have h5:o= .bool true:=h3.1
    rw [e1,h5];rfl
 |_=>exact he.elim
end Go.Proofs.YtpmjopbgccajgaaGreat.Eng
