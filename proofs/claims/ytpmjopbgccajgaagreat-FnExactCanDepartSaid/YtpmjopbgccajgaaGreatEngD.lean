/- The engine, in four texts: this one holds EngFn, EngBack, EngGive, EngSig, EngDone, EngTab, EngTop, EngSort, EngOpen. No condition. -/
import Derived.Test.YtpmjopbgccajgaaGreatEngC
import Derived.Test.YtpmjopbgccajgaaGreatEngA
import Derived.Sort.Grow
import Derived.Deep.Slices
import Derived.ChangeArms
import Derived.OpenShut
set_option linter.unusedVariables false
set_option linter.unusedSimpArgs false
namespace Go.Proofs.YtpmjopbgccajgaaGreat.Eng
open Go.RowKit
section
variable {P:Program} {tab:List (Nat×TI)} {soft:Bool} {Γ:List (Nat×Ent)}
def resRun (a:Act):ResultVar→Sem Value
 | .tmp t=>pure (a.tmps.getD t undef)
 | .cell p t=>do loadVar t (←asAddr (a.tmps.getD p undef))
theorem res_one (hT:TabOk P tab) {G:Gh} {σ:St} {a:Act} {w:World} (hR:Rel G σ a w) {rv:ResultVar} (h:resOk tab σ rv=true):∃x,(resRun a rv).run P w= .ok x w∧(avR G σ.roots w (resVar tab σ rv)).1 x:=by
 cases rv with
 |tmp t=>exact⟨_,rfl,hR.tmps t⟩
 |cell p T=>
  simp only [resOk]at h
  split at h
  ·rename_i i r f hi hp
   split at h
   ·rename_i cs ss ver anc hq
    have hx:=hR.tmps p
    rw [hp]at hx
    obtain⟨q,hq',g⟩:=hx
    rw [hq]at hq';cases hq'
    obtain⟨b,o,ea,e⟩:=g cs.length .nil rfl
    obtain⟨_,b',o',ea',hcs⟩:=hR.roots r _ hq
    rw [ea]at ea';cases ea'
    obtain⟨vs,hl,hc,ha⟩:=box_cells cs o f i.cells.size (fun f hf=>let ⟨_,_,v,e,g⟩:=hcs f hf;⟨v,e,g⟩) (ble_nat h)
    have hrun:=run_load_cells hT hi (w:=w) (b:=b) (o:=o+f) vs hl (fun j hj=>hc j (hl▸hj))
    refine⟨if i.agg then .agg vs.toArray else vs.getD 0 undef,?_,?_⟩
    ·show (do loadVar T (←asAddr (a.tmps.getD p undef))).run P w=_
     rw [e]
     simp only [asAddr,Sem.run_bind,Sem.run_pure,Result.andThen_ok]
     exact hrun
    ·have hv:resVar tab σ (.cell p T)=one i (headAV i.cells.size (dropAV f (.ofList cs))):=by
      simp only [resVar,hi,hp,hq,h]
     rw [hv]
     exact one_av hl (hT T i hi).one ha
   ·cases h
  ·cases h
def tupV:List Value→Value
 | [v]=>v
 |vs=> .tuple vs.toArray
theorem tup_av {G:Gh} {Rs:List Root} {w:World} {as:List AV} {xs:List Value} (hl:as.length=xs.length) (h:∀i,i<as.length→(avR G Rs w (as.getD i .undef)).1 (xs.getD i undef)):(avR G Rs w (tupAV as)).1 (tupV xs):=by
 have many:∀(as:List AV) (xs:List Value),as.length=xs.length→(∀i,i<as.length→(avR G Rs w (as.getD i .undef)).1 (xs.getD i undef))→(avR G Rs w (.ofList as)).2 xs:=by
  intro as
  induction as with
  |nil=>intro xs hl _;cases xs with
   |nil=>rfl
   |cons _ _=>simp at hl
  |cons a as ih=>
   intro xs hl h
   cases xs with
   |nil=>simp at hl
   |cons x xs=>exact⟨x,xs,rfl,h 0 (by simp),ih xs (by simpa using hl) (fun i hi=>by simpa using h (i+1) (by simpa using hi))⟩
 cases as with
 |nil=>
  cases xs with
  |nil=>exact⟨[],rfl,rfl⟩
  |cons _ _=>simp at hl
 |cons a as=>
  cases xs with
  |nil=>simp at hl
  |cons x xs=>
   cases as with
   |nil=>
    cases xs with
    |nil=>exact h 0 (by simp)
    |cons _ _=>simp at hl
   |cons a' as=>
    cases xs with
    |nil=>simp at hl
    |cons x' xs=>exact⟨_,rfl,many _ _ hl h⟩
theorem results_run {fn:Func} {a:Act} {w:World} {xs:List Value} (h:∀(rs:List ResultVar),rs=fn.results.toList→xs.length=rs.length∧∀i rv,rs[i]? =some rv→(resRun a rv).run P w= .ok (xs.getD i undef) w):(results fn a.tmps).run P w= .ok (tupV xs) w:=by
 obtain⟨hl,hr⟩:=h _ rfl
 have key:∀(rs:List ResultVar) (xs:List Value),xs.length=rs.length→(∀i rv,rs[i]? =some rv→(resRun a rv).run P w= .ok (xs.getD i undef) w)→(rs.mapM (resRun a)).run P w= .ok xs w:=by
  intro rs
  induction rs with
  |nil=>intro xs hl _;cases xs with
   |nil=>rfl
   |cons _ _=>simp at hl
  |cons rv rs ih=>
   intro xs hl hr
   cases xs with
   |nil=>simp at hl
   |cons x xs=>
    have h1:=hr 0 rv rfl
    have h2:=ih xs (by simpa using hl) (fun i rv hi=>by simpa using hr (i+1) rv (by simpa using hi))
    simp only [List.mapM_cons,Sem.run_bind,h1,Result.andThen_ok,h2]
    rfl
 have hm:=key fn.results.toList xs hl hr
 have e:(results fn a.tmps)=(do let vs ←fn.results.mapM (resRun a);pure (if h:vs.size=1 then vs[0]else .tuple vs)):=by
  unfold results
  congr 1
 rw [e,Array.mapM_eq_mapM_toList]
 have hmap:(List.toArray <$> fn.results.toList.mapM (resRun a)).run P w= .ok xs.toArray w:=by
  rw [←bind_pure_comp]
  simp only [Sem.run_bind,hm,Result.andThen_ok]
  rfl
 simp only [Sem.run_bind,hmap,Result.andThen_ok]
 cases xs with
 |nil=>rfl
 |cons x xs=>cases xs with
  |nil=>rfl
  |cons x' xs=>simp [tupV]
theorem res_all (hT:TabOk P tab) {a:Act} {w:World}:∀(rs:List ResultVar) (G:Gh) (σ:St),Rel G σ a w→resOks tab σ rs=true→∃(xs:List Value) (G':Gh),xs.length=rs.length∧(∀i rv,rs[i]? =some rv→(resRun a rv).run P w= .ok (xs.getD i undef) w)∧
  (cutRes tab σ rs).2.tmps=σ.tmps∧RelR G' (cutRes tab σ rs).2.roots w∧Evo G σ.roots w G' (cutRes tab σ rs).2.roots w∧(cutRes tab σ rs).1.length=xs.length∧
  ∀i,i<(cutRes tab σ rs).1.length→(avR G' (cutRes tab σ rs).2.roots w ((cutRes tab σ rs).1.getD i .undef)).1 (xs.getD i undef)
 | [],G,σ,hR,_=>⟨[],G,rfl,fun i rv h=>by simp at h,rfl,hR.roots,Evo.refl _ _ _,rfl,fun i hi=>by simp [cutRes]at hi⟩
 |r::rs,G,σ,hR,h=>by
  obtain⟨h1,h2⟩:=and2 h
  obtain⟨x,hx,hv⟩:=res_one hT hR h1
  obtain⟨ht,G1,g1,g2,g3⟩:=cutTl_spec hR.roots hv
  have hR1:Rel G1 (cutTl σ (resVar tab σ r)).2 a w:=by
   have:=hR.evo g1 g2
   have e:(⟨σ.tmps,(cutTl σ (resVar tab σ r)).2.roots⟩:St)=(cutTl σ (resVar tab σ r)).2:=by rw [←ht]
   rwa [e]at this
  obtain⟨xs,G2,l1,l2,l3,l4,l5,l6,l7⟩:=res_all hT rs G1 _ hR1 h2
  refine⟨x::xs,G2,by simp [l1],fun i rv hi=> ?_,l3.trans ht,l4,g2.trans l5,by simp [cutRes,l6],fun i hi=> ?_⟩
  ·cases i with
   |zero=>simp at hi;subst hi;exact hx
   |succ i=>simpa using l2 i rv (by simpa using hi)
  ·cases i with
   |zero=>exact(avR_evo l5 _).1 _ g3
   |succ i=>simpa [cutRes]using l7 i (by simpa [cutRes]using hi)
def EntOk (P:Program) (f:Nat):Ent→Prop
 | .sig g=>FnHas P f
 | .inl fn H=>P.funcs[f]? =some fn∧(fn.name== "runtime.NumGoroutine")=false
theorem entry_rel {G:Gh} {Rs:List Root} {w:World} {as:List AV} {args:List Value} {n:Nat} (hI:Inv G w) (hR:RelR G Rs w) (hl:args.length=as.length) (hv:∀i,i<as.length→(avR G Rs w (as.getD i .undef)).1 (args.getD i undef)):
  Rel G ⟨as++List.replicate (n-as.length) .undef,Rs⟩ ⟨args.toArray++Array.replicate (n-args.toArray.size) undef,[]⟩ w:=by
 refine⟨hR,rfl,hI,by simp;omega,fun t=> ?_⟩
 show (avR G Rs w ((as++List.replicate (n-as.length) AV.undef).getD t .undef)).1 _
 by_cases ht:t<as.length
 ·have:=hv t ht
  have e1:(as++List.replicate (n-as.length) AV.undef).getD t .undef=as.getD t .undef:=by
   rw [List.getD_eq_getElem?_getD,List.getElem?_append_left ht,List.getD_eq_getElem?_getD]
  have e2:(args.toArray++Array.replicate (n-args.toArray.size) undef).getD t undef=args.getD t undef:=by
   simp [Array.getElem?_append,hl,ht,List.getD_eq_getElem?_getD]
  show (avR G Rs w _).1 ((args.toArray++Array.replicate (n-args.toArray.size) undef).getD t undef)
  rw [e1,e2];exact this
 ·have e1:(as++List.replicate (n-as.length) AV.undef).getD t .undef= .undef:=by
   rw [List.getD_eq_getElem?_getD,List.getElem?_append_right (by omega),List.getElem?_replicate]
   split<;>rfl
  rw [e1];exact trivial
theorem callN_ok {R:Type} {k:Nat} (hT:TabOk P tab) (hm:P.follows .mixedOrders=true) (hΓ:∀f e,look Γ f=some e→EntOk P f e)
  (hG:∀f g,look Γ f=some (.sig g)→∀as σ (K:AV→St→Option R) (r:R),callSig soft k g as σ K=some r→CallsTo P f as σ K r):
  ∀(n f:Nat) (as:List AV) (σ:St) (K:AV→St→Option R) (r:R),callN tab soft Γ k n f as σ K=some r→CallsTo P f as σ K r∧FnHas P f:=by
 have hΓ':∀f e,look Γ f=some e→(∃g,e= .sig g)→FnHas P f:=fun f e h ⟨g,hg⟩=>by subst hg;exact hΓ f _ h
 intro n
 induction n with
 |zero=>intro f as σ K r h;cases h
 |succ n ih=>
  intro f as σ K r h
  simp only [callN]at h
  split at h
  ·rename_i fn H hf
   split at h
   ·rename_i c hb
    obtain⟨hfn,hnm⟩:=hΓ f _ hf
    have hhas:FnHas P f:=⟨fn,hfn,hnm,by rw [hb];rfl⟩
    refine⟨fun G w args hI hR hl hv=> ?_,hhas⟩
    have hall:∀f e,look Γ f=some e→FnHas P f∨∃fn H,e= .inl fn H:=fun f e he=>by
     cases e with
     |sig g=>exact .inl (hΓ f _ he)
     |inl fn H=>exact .inr ⟨fn,H,rfl⟩
    have hO:OpsOk P tab soft Γ R (callN tab soft Γ k n) k:=ops_ok hT hΓ' hG (fun f as σ K r h=>ih f as σ K r h)
    refine calls_of_wp hfn hb ?_
    refine ev_sound hO (evDraw_sound hm hO (reads_ok hT)) H c _ _ r h G _ w _ (entry_rel hI hR hl hv) (fun e σ' G' a' w' h1 h2 h3 h4=> ?_)
    have fin:chk (resOks tab σ' fn.results.toList) (K (tupAV (cutRes tab σ' fn.results.toList).1) ⟨σ.tmps,(cutRes tab σ' fn.results.toList).2.roots⟩)=some r→a'.defers=[]∧∃v,(results fn a'.tmps).run P w'= .ok v w'∧
      ∃v' R' G',K v' ⟨σ.tmps,R'⟩=some r∧RelR G' R' w'∧(avR G' R' w' v').1 v∧Evo G σ.roots w G' R' w':=by
     intro h1
     obtain⟨hok,hK⟩:=chk_some h1
     obtain⟨xs,G2,l1,l2,l3,l4,l5,l6,l7⟩:=res_all hT fn.results.toList G' σ' h2 hok
     exact⟨h2.defers,tupV xs,results_run (fun rs e=>by subst e;exact⟨l1,l2⟩),_,_,G2,hK,l4,tup_av l6 l7,h3.trans l5⟩
    cases e with
    |normal=>exact fin h1
    |ret=>exact fin h1
    |exit j=>cases h1
   ·cases h
  ·cases h
def labs (n k:Nat):List (Nat×Nat):=(List.range' n k).map (fun j=>(j,0))
theorem labs_consec (n k:Nat):consec (labs n k) n k:=by
 have:=consec_range (n:=n) (k:=k) (L:=[])
 rwa [List.append_nil]at this
theorem labs_zero (n k:Nat):∀p∈labs n k,p.2=0:=fun p hp=>by
 obtain⟨j,_,e⟩:=List.mem_map.1 hp
 rw [←e]
def lentV:List Md→List Value→List Value
 |m::ms,v::vs=>match isLent m with|true=>v::lentV ms vs|false=>lentV ms vs
 |_,_=>[]
def fnVals (fs:List Nat):List Value:=fs.map fun f=> .func (.func f) #[] #[]
theorem fns_av {G:Gh} {Rs:List Root} {w:World}:∀(fs:List Nat),(fnVals fs).length=(fnAVs fs).length∧∀i,i<(fnAVs fs).length→(avR G Rs w ((fnAVs fs).getD i .undef)).1 ((fnVals fs).getD i undef)
 | []=>⟨rfl,fun i hi=>by simp [fnAVs]at hi⟩
 |f::fs=>by
  obtain⟨h1,h2⟩:=fns_av (G:=G) (Rs:=Rs) (w:=w) fs
  refine⟨by simp [fnVals,fnAVs],fun i hi=> ?_⟩
  cases i with
  |zero=>exact⟨[],rfl,rfl⟩
  |succ i=>exact h2 i (by simpa [fnAVs]using hi)
theorem avs_app {G:Gh} {Rs:List Root} {w:World} {as bs:List AV} {xs ys:List Value} (hl:xs.length=as.length) (h:∀i,i<as.length→(avR G Rs w (as.getD i .undef)).1 (xs.getD i undef)) (hl2:ys.length=bs.length) (h2:∀i,i<bs.length→(avR G Rs w (bs.getD i .undef)).1 (ys.getD i undef)):
  (xs++ys).length=(as++bs).length∧∀i,i<(as++bs).length→(avR G Rs w ((as++bs).getD i .undef)).1 ((xs++ys).getD i undef):=by
 refine⟨by simp [hl,hl2],fun i hi=> ?_⟩
 by_cases hlt:i<as.length
 ·rw [List.getD_eq_getElem?_getD,List.getElem?_append_left hlt,List.getD_eq_getElem?_getD,List.getElem?_append_left (by omega)]
  have:=h i hlt
  rwa [List.getD_eq_getElem?_getD,List.getD_eq_getElem?_getD]at this
 ·rw [List.getD_eq_getElem?_getD,List.getElem?_append_right (by omega),List.getD_eq_getElem?_getD,List.getElem?_append_right (by omega),hl]
  have:=h2 (i-as.length) (by rw [List.length_append]at hi;omega)
  rwa [List.getD_eq_getElem?_getD,List.getD_eq_getElem?_getD]at this
theorem isFns_vals {G:Gh} {Rs:List Root} {w:World}:∀(fs:List Nat) (as:List AV) (xs:List Value),isFns fs as=true→xs.length=as.length→(∀i,i<as.length→(avR G Rs w (as.getD i .undef)).1 (xs.getD i undef))→xs=fnVals fs
 | [],as,xs,h,hl,_=>by
  cases as with
  |nil=>cases xs with
   |nil=>rfl
   |cons _ _=>simp at hl
  |cons _ _=>cases h
 |f::fs,as,xs,h,hl,hv=>by
  unfold isFns at h
  split at h
  ·rename_i h0;cases h0
  ·rename_i f0 fs0 g as' h0
   cases h0
   obtain⟨h1,h2⟩:=and2 h
   cases xs with
   |nil=>simp at hl
   |cons x xs=>
    have h3:=isFns_vals fs as' xs h2 (by simpa using hl) (fun i hi=>by simpa using hv (i+1) (by simpa using hi))
    obtain⟨vs,e1,e2⟩:=hv 0 (by simp)
    have e2:vs=[]:=e2
    have e1:x= .func (.func g) #[] vs.toArray:=e1
    rw [h3,e1,e2,←beq_nat h1]
    rfl
  ·cases h
def FnOk (P:Program) (fid:Nat) (g:Sig):Prop:=FnHas P fid∧∀(k:Nat) (x:g.params.den) (y:g.res.den),g.f k x=some y→∀(G:Gh) (w:World) (vals:List Value),Inv G w→hAll G w g.params x g.pm vals (labs 0 (idsAll g.params g.pm))→
 Calls P fid (vals++fnVals g.fns).toArray w (fun| .returned out,w'=>∃(outs:List Value) (G':Gh),out=tupV outs∧outs.length=g.n∧hAll G' w' g.res y g.rm (outs++lentV g.pm vals) (labs 0 (idsAll g.res g.rm))∧Out G w G' w'|_,_=>False)
theorem lent_av {G:Gh} {Rs:List Root} {w:World}:∀(ts:Ty) (ms:List Md) (as:List AV) (vals:List Value) (x:ts.den) (G0:Gh) (w0:World) (L:List (Nat×Nat)),hAll G0 w0 ts x ms vals L→as.length=vals.length→(∀i,i<as.length→(avR G Rs w (as.getD i .undef)).1 (vals.getD i undef))→
  (lentAVs (withTys ts ms as)).length=(lentV ms vals).length∧∀i,i<(lentAVs (withTys ts ms as)).length→(avR G Rs w ((lentAVs (withTys ts ms as)).getD i .undef)).1 ((lentV ms vals).getD i undef):=by
 intro ts
 induction ts with
 |nil=>
  intro ms as vals x G0 w0 L h hl hv
  cases ms with
  |nil=>exact⟨by cases as<;>rfl,fun i hi=>by cases as<;>simp [withTys,lentAVs]at hi⟩
  |cons _ _=>cases vals<;>exact h.elim
 |cons t ts _ ih=>
  intro ms as vals x G0 w0 L h hl hv
  cases ms with
  |nil=>exact h.elim
  |cons m ms=>
   cases vals with
   |nil=>exact h.elim
   |cons v vals=>
    cases as with
    |nil=>simp at hl
    |cons a as=>
     obtain⟨i1,i2⟩:=ih ms as vals x.2 G0 w0 _ h.2 (by simpa using hl) (fun i hi=>by simpa using hv (i+1) (by simpa using hi))
     have h0:=hv 0 (by simp)
     simp only [withTys,lentAVs,lentV]
     cases isLent m with
     |false=>exact⟨i1,i2⟩
     |true=>
      refine⟨by simp [i1],fun i hi=> ?_⟩
      cases i with
      |zero=>exact h0
      |succ i=>simpa using i2 i (by simpa using hi)
 |_=>intro ms as vals x G0 w0 L h;cases ms<;>cases vals<;>exact h.elim
theorem evFn_ok (hT:TabOk P tab) (hm:P.follows .mixedOrders=true) (hΓ:∀f e,look Γ f=some e→EntOk P f e)
  (hG:∀(R:Type) f g,look Γ f=some (.sig g)→∀k as σ (K:AV→St→Option R) (r:R),callSig soft k g as σ K=some r→CallsTo P f as σ K r)
  {fid:Nat} {fn:Func} {g:Sig} {H:List Hint} {c:Code} (hfn:P.funcs[fid]? =some fn) (hnm:(fn.name== "runtime.NumGoroutine")=false) (hb:fn.body=some c) (heq:∀k x,evFn tab soft Γ H fn g k x=g.f k x):FnOk P fid g:=by
 refine⟨⟨fn,hfn,hnm,by rw [hb];rfl⟩,fun k x y hy G w vals hI hall=> ?_⟩
 rw [←heq]at hy
 unfold evFn at hy
 rw [hb]at hy
 simp only at hy
 obtain⟨hNl,A,hAl,hin⟩:=in_all hall (labs_consec 0 _)
 let an:Nat→Option Addr×Nat:=fun r=>A.getD r (none,0)
 obtain⟨g1,g2,g3⟩:=hin an (fun j hj=>by rw [Nat.zero_add]) (rowAll g.params x g.pm 0) (fun j q hq=>by rw [Nat.zero_add];exact hq)
 have hR0:RelR ⟨G.own,an⟩ (rowAll g.params x g.pm 0) w:=fun r q hq=>by
  have:=g1 r q hq
  rwa [Nat.zero_add]at this
 generalize has:inAll g.params x g.pm 0=as at hy g2 g3
 have hbs:withFns as g.fns=as++fnAVs g.fns:=by cases g.fns<;>simp [fnAVs]
 rw [hbs]at hy
 obtain⟨q1,q2⟩:=avs_app (G:=⟨G.own,an⟩) (Rs:=rowAll g.params x g.pm 0) (w:=w) g2.symm (fun i hi=>g3 i (by omega)) (fns_av (G:=⟨G.own,an⟩) (Rs:=rowAll g.params x g.pm 0) (w:=w) g.fns).1 (fns_av g.fns).2
 have hΓ':∀f e,look Γ f=some e→(∃g,e= .sig g)→FnHas P f:=fun f e h ⟨g,hg⟩=>by subst hg;exact hΓ f _ h
 have hO:OpsOk P tab soft Γ g.res.den (callN tab soft Γ k 8) k:=ops_ok hT hΓ' (fun f g hg as σ K r h=>hG _ f g hg k as σ K r h) (fun f as σ K r h=>callN_ok hT hm hΓ (fun f g hg as σ K r h=>hG _ f g hg k as σ K r h) 8 f as σ K r h)
 refine calls_of_wp hfn hb ?_
 refine ev_sound hO (evDraw_sound hm hO (reads_ok hT)) H c _ _ y hy ⟨G.own,an⟩ _ w _ (entry_rel hI hR0 q1 q2) (fun e σ' G' a' w' h1 h2 h3 h4=> ?_)
 have fin:outFn tab g as fn.results.toList σ'=some y→a'.defers=[]∧∃v,(results fn a'.tmps).run P w'= .ok v w'∧
   ∃(outs:List Value) (G':Gh),v=tupV outs∧outs.length=g.n∧hAll G' w' g.res y g.rm (outs++lentV g.pm vals) (labs 0 (idsAll g.res g.rm))∧Out G w G' w':=by
  intro h1
  unfold outFn at h1
  obtain⟨hok,hout⟩:=chk_some h1
  obtain⟨hok,hlen⟩:=and2 hok
  obtain⟨hok,hap⟩:=and2 hok
  obtain⟨hres,hnd⟩:=and2 hok
  have hres:=List.all_eq_true.1 hres
  have hnd:=nodup_nodupN.1 hnd
  have hap:=apart_apartN.1 hap
  have hlen:=beq_nat hlen
  have hxs:∀rs:List ResultVar,(∀r∈rs,resOk tab σ' r=true)→∃xs:List Value,xs.length=rs.length∧(∀i rv,rs[i]? =some rv→(resRun a' rv).run P w'= .ok (xs.getD i undef) w')∧
    ∀i,i<(rs.map (resVar tab σ')).length→(avR G' σ'.roots w' ((rs.map (resVar tab σ')).getD i .undef)).1 (xs.getD i undef):=by
   intro rs
   induction rs with
   |nil=>intro _;exact⟨[],rfl,fun i rv h=>by simp at h,fun i hi=>by simp at hi⟩
   |cons r rs ih=>
    intro hr
    obtain⟨x,hx,hv⟩:=res_one hT h2 (hr r (by simp))
    obtain⟨xs,l1,l2,l3⟩:=ih (fun r hr'=>hr r (List.mem_cons_of_mem _ hr'))
    refine⟨x::xs,by simp [l1],fun i rv hi=> ?_,fun i hi=> ?_⟩
    ·cases i with
     |zero=>simp at hi;subst hi;exact hx
     |succ i=>simpa using l2 i rv (by simpa using hi)
    ·cases i with
     |zero=>exact hv
     |succ i=>exact l3 i (by simpa using hi)
  obtain⟨xs,l1,l2,l3⟩:=hxs fn.results.toList hres
  obtain⟨m1,m2⟩:=lent_av (G:=G') (Rs:=σ'.roots) (w:=w') g.params g.pm as vals x G w _ hall g2 (fun i hi=>(avR_evo h3 _).1 _ (g3 i (by omega)))
  refine⟨h2.defers,tupV xs,results_run (fun rs e=>by subst e;exact⟨l1,l2⟩),xs,?_⟩
  generalize hvs:fn.results.toList.map (resVar tab σ')++lentAVs (withTys g.params g.pm as)=vs at hout hnd hap
  have hvl:vs.length=(xs++lentV g.pm vals).length:=by rw [←hvs];simp [l1,m1]
  have hva:∀i,i<vs.length→(avR G' σ'.roots w' (vs.getD i .undef)).1 ((xs++lentV g.pm vals).getD i undef):=fun i hi=>by
   rw [←hvs]
   have e0:(fn.results.toList.map (resVar tab σ')).length=xs.length:=by rw [List.length_map,l1]
   by_cases hlt:i<xs.length
   ·have:=l3 i (by rw [e0];exact hlt)
    rw [List.getD_eq_getElem?_getD,List.getElem?_append_left (by rw [e0];exact hlt),List.getD_eq_getElem?_getD,List.getElem?_append_left hlt]
    simpa [List.getD_eq_getElem?_getD]using this
   ·have hi':i-xs.length<(lentAVs (withTys g.params g.pm as)).length:=by rw [hvl]at hi;simp at hi;omega
    have:=m2 _ hi'
    rw [List.getD_eq_getElem?_getD,List.getElem?_append_right (by omega),e0,List.getD_eq_getElem?_getD,List.getElem?_append_right (by omega)]
    simpa [List.getD_eq_getElem?_getD]using this
  let τ:Nat→Nat→Lab:=fun r s=>match tauS σ'.roots (srcAll σ' g.res g.rm vs) (labs 0 (idsAll g.res g.rm)) r s with
   |some l=>l
   |none=> .free
  have hlk:∀r s,Lk G' w' (relab G' τ) w' (.of r s) (τ r s):=fun r s=>lk_relab τ r s
  have hfr:Fr G' w' (relab G' τ) w' (fun _=>True):=fr_relab (fun r hr=>absurd trivial hr)
  refine⟨relab G' τ,rfl,by rw [l1,hlen],?_,⟨h3.os,h3.tape,h3.output,h3.size,?_,?_⟩⟩
  ·refine out_all (tm:=σ'.tmps) h2.roots hfr.free hout hvl hva (fun r hr s=> ?_) ?_
   ·have e:τ r s= .free:=by
     show (match tauS σ'.roots (srcAll σ' g.res g.rm vs) (labs 0 (idsAll g.res g.rm)) r s with|some l=>l|none=>Lab.free)=_
     rw [tauS_none (hap r hr)]
    have:=hlk r s
    rwa [e]at this
   ·refine tgtL_tau hlk hnd (labs_zero 0 _) (fun r hr s=> ?_)
    obtain⟨l,hl⟩:=tauS_some (R:=σ'.roots) (L:=labs 0 (idsAll g.res g.rm)) (s:=s) hr
    show _=some (match tauS σ'.roots (srcAll σ' g.res g.rm vs) (labs 0 (idsAll g.res g.rm)) r s with|some l=>l|none=>Lab.free)
    rw [hl]
  ·exact Lk.trans (G':=G') (w':=w') (L':= .free) h3.size (fun b o hb e=>h3.free b o hb e) hfr.free
  ·exact Lk.trans (G':=G') (w':=w') (L':= .hid) h3.size (fun b o hb e=>h3.hid b o hb e) hfr.hid
 cases e with
 |normal=>exact fin h1
 |ret=>exact fin h1
 |exit j=>cases h1
end
end Go.Proofs.YtpmjopbgccajgaaGreat.Eng
namespace Go.Proofs.YtpmjopbgccajgaaGreat.Eng
open Go.RowKit
section
variable {soft:Bool} {R:Type}
theorem labs_drop (n k k':Nat):(labs n (k+k')).drop k=labs (n+k) k':=by
 unfold labs
 rw [←List.map_drop,List.drop_range']
 congr 1
 rw [show k+k'-k=k' by omega];simp
theorem rowCell_len {sm:Nat} {t:Ty} {x:t.den}:(rowCell sm t x).length=idsCell sm t:=by
 unfold rowCell idsCell
 cases ho:isOwn sm t with
 |false=>rfl
 |true=>
  obtain⟨us,e⟩:=own_slice ho
  subst e
  rfl
theorem rowCells_len {sm:Nat}:∀ {ts:Ty} {x:ts.den},(rowCells sm ts x).length=idsCells sm ts:=by
 intro ts
 induction ts with
 |cons t ts _ ih=>intro x;simp only [rowCells,idsCells,List.length_append,rowCell_len,ih]
 |_=>intro x;rfl
theorem rowOne_len {m:Md} {t:Ty} {x:t.den} {n:Nat}:(rowOne m t x n).length=idsOne m t:=by
 unfold rowOne idsOne
 cases m.ptr with
 |true=>simp only [List.length_cons,rowCells_len];omega
 |false=>
  cases isCons t with
  |true=>exact rowCells_len
  |false=>exact rowCell_len
theorem cb_split {Gl:Gh} {w':World} {vs:List (Md×Ty×AV)} {K:AV→St→Option R} {r:R} {σ:St}:∀(n:Nat) (ts:Ty) (y:ts.den) (ms:List Md) (acc:List AV) (N:List Root) (vals:List Value) (j:Nat),
  callBack soft vs K σ n ts y ms acc N=some r→hAll Gl w' ts y ms vals (labs j (idsAll ts ms))→
  ∃(ts2:Ty) (y2:ts2.den) (ms2:List Md) (vals1 vals2:List Value) (rv:List AV) (N1:List Root),vals=vals1++vals2∧vals1.length=n∧rv.length=n∧hAll Gl w' ts2 y2 ms2 vals2 (labs (j+N1.length) (idsAll ts2 ms2))∧
   (hasRo ts2 ms2=true→hasRo ts ms=true)∧
   backEnd vs K σ ts2 y2 ms2 (acc++rv) (N++N1)=some r∧
   ∀G',(hasRo ts ms=true→Lk Gl w' G' w' .free .free)→(∀i,i<N1.length→Ren soft Gl w' G' (j+i,0) (σ.roots.length+N.length+i,0))→
    InOk G' w' (σ.roots.length+N.length) N1.length N1 (fun G R=>∀i,i<n→(avR G R w' (rv.getD i .undef)).1 (vals1.getD i undef)):=by
 intro n
 induction n with
 |zero=>
  intro ts y ms acc N vals j h hall
  refine⟨ts,y,ms,[],vals,[],[],rfl,rfl,rfl,by simpa using hall,id,(by simp only [List.append_nil];exact h),fun G' _ _=>InOk.none (fun an R' i hi=>by omega)⟩
 |succ n ih=>
  intro ts y ms acc N vals j h hall
  cases ts with
  |cons t ts=>
   cases ms with
   |nil=>exact hall.elim
   |cons m ms=>
    cases vals with
    |nil=>exact hall.elim
    |cons v vals=>
     obtain⟨h1,h2⟩:=hall
     have hL:(labs j (idsAll (.cons t ts) (m::ms))).drop (idsOne m t)=labs (j+idsOne m t) (idsAll ts ms):=by
      show (labs j (idsOne m t+idsAll ts ms)).drop _=_
      rw [labs_drop]
     rw [hL]at h2
     simp only [callBack]at h
     have hrl:(rowOne (intake soft m) t y.1 (σ.roots.length+N.length)).length=idsOne m t:=by rw [rowOne_len,intake_ids]
     obtain⟨ts2,y2,ms2,vals1,vals2,rv,N1,e1,e2,e3,e4,e5,e6,e7⟩:=ih ts y.2 ms _ _ vals (j+idsOne m t) h h2
     refine⟨ts2,y2,ms2,v::vals1,vals2,inOne (intake soft m) t y.1 (σ.roots.length+N.length)::rv,rowOne (intake soft m) t y.1 (σ.roots.length+N.length)++N1,by rw [e1];rfl,by simp [e2],by simp [e3],?_,fun hh=> ?_,?_,fun G' hf hr=> ?_⟩
     ·rw [List.length_append,hrl,←Nat.add_assoc];exact e4
     ·simp only [hasRo];rw [e5 hh];simp
     ·rw [List.append_assoc,List.append_assoc]at e6;exact e6
     ·rw [List.length_append,hrl]at hr ⊢
      have hone:hOne G' w' (intake soft m) t y.1 v (labs (σ.roots.length+N.length) (idsOne m t)):=one_ren h1 (fun hh=>hf (by simp [hasRo,hh])) (fun i hi=>by
       have a1:=labs_consec j (idsAll (.cons t ts) (m::ms)) i (by show i<idsOne m t+_;omega)
       have a2:=labs_consec (σ.roots.length+N.length) (idsOne m t) i hi
       rw [a1,a2]
       exact hr i (by omega))
      have i1:=in_one hone (n:=σ.roots.length+N.length) (by rw [intake_ids];exact labs_consec _ _)
      rw [intake_ids]at i1
      have i2:=e7 G' (fun hh=>hf (by simp [hasRo,hh])) (fun i hi=>by
       have:=hr (idsOne m t+i) (by omega)
       rw [List.length_append,hrl,←Nat.add_assoc,Nat.add_assoc j]
       rw [show σ.roots.length+N.length+(idsOne m t+i)=σ.roots.length+N.length+idsOne m t+i by omega]at this
       exact this)
      rw [List.length_append,hrl,←Nat.add_assoc]at i2
      obtain⟨k1,A,k2,k3⟩:=i1.append i2
      refine⟨k1,A,k2,fun an han R' hR'=> ?_⟩
      obtain⟨g1,g2,g3⟩:=k3 an han R' hR'
      refine⟨g1,fun i hi=> ?_⟩
      cases i with
      |zero=>exact g2
      |succ i=>exact g3 i (by omega)
  |_=>cases h
theorem putAt_root {r:Nat}:∀(PS:List Put) (q:Root),(∀cs ss,q.k≠ .box cs ss)→(∀q',Put.root r q'∈PS→∀cs ss,q'.k≠ .box cs ss)→
  (Put.root r (putAt r PS q)∈PS)∨((∀q',Put.root r q'∉PS)∧putAt r PS q=q)
 | [],q,_,_=> .inr ⟨fun q' h=>(by cases h),rfl⟩
 | .cell r' f v::PS,q,hb,hP=>by
  have e:putAt r (.cell r' f v::PS) q=putAt r PS q:=by
   show putAt r PS (match Nat.beq r' r with|true=>setCell q f v|false=>q)=_
   rw [setCell_other hb]
   cases Nat.beq r' r<;>rfl
  rw [e]
  rcases putAt_root PS q hb (fun q' h=>hP q' (List.mem_cons_of_mem _ h))with h|⟨h1,h2⟩
  ·exact .inl (List.mem_cons_of_mem _ h)
  ·exact .inr ⟨fun q' h=>by rcases List.mem_cons.1 h with e|h;(· cases e);(· exact h1 q' h),h2⟩
 | .root r' q1::PS,q,hb,hP=>by
  have e:putAt r (.root r' q1::PS) q=putAt r PS (match Nat.beq r' r with|true=>q1|false=>q):=rfl
  rw [e]
  cases hbq:Nat.beq r' r with
  |true=>
   have er:=beq_nat hbq
   subst er
   rcases putAt_root PS q1 (hP q1 (by simp)) (fun q' h=>hP q' (List.mem_cons_of_mem _ h))with h|⟨h1,h2⟩
   ·exact .inl (List.mem_cons_of_mem _ h)
   ·exact .inl (by simp only [h2];simp)
  |false=>
   rcases putAt_root PS q hb (fun q' h=>hP q' (List.mem_cons_of_mem _ h))with h|⟨h1,h2⟩
   ·exact .inl (List.mem_cons_of_mem _ h)
   ·refine .inr ⟨fun q' h=> ?_,h2⟩
    rcases List.mem_cons.1 h with e|h
    ·cases e;rw [Nat.beq_refl]at hbq;cases hbq
    ·exact h1 q' h
theorem putAt_cells {r ver anc:Nat}:∀(PS:List Put) (cs:List AV) (ss:List Nat),ss.length=cs.length→(∀q',Put.root r q'∉PS)→
  ∃cs' ss',putAt r PS ⟨.box cs ss,ver,anc⟩=⟨.box cs' ss',ver,anc⟩∧cs'.length=cs.length∧ss'.length=ss.length∧
   ∀f,(cs'.getD f .undef=cs.getD f .undef∧ss'.getD f 0=ss.getD f 0∧¬((∃v,Put.cell r f v∈PS)∧f<cs.length))∨(f<cs.length∧ss.getD f 0<ss'.getD f 0∧Put.cell r f (cs'.getD f .undef)∈PS)
 | [],cs,ss,hl,_=>⟨cs,ss,rfl,rfl,rfl,fun f=> .inl ⟨rfl,rfl,fun h=>(by obtain⟨⟨v,hv⟩,_⟩:=h;cases hv)⟩⟩
 | .root r' q1::PS,cs,ss,hl,hP=>by
  have er:Nat.beq r' r=false:=by
   cases h:Nat.beq r' r with
   |false=>rfl
   |true=>have e:=beq_nat h;subst e;exact absurd (by simp) (hP q1)
  obtain⟨cs',ss',e,l1,l2,h⟩:=putAt_cells (ver:=ver) (anc:=anc) PS cs ss hl (fun q' h=>hP q' (List.mem_cons_of_mem _ h))
  refine⟨cs',ss',?_,l1,l2,fun f=> ?_⟩
  ·show putAt r PS (match Nat.beq r' r with|true=>q1|false=>_)=_
   rw [er];exact e
  ·rcases h f with⟨h1,h2,h3⟩|⟨h1,h2,h3⟩
   ·refine .inl ⟨h1,h2,fun ⟨⟨v,hv⟩,hf⟩=>h3 ⟨⟨v,?_⟩,hf⟩⟩
    rcases List.mem_cons.1 hv with e|hv
    ·cases e
    ·exact hv
   ·exact .inr ⟨h1,h2,List.mem_cons_of_mem _ h3⟩
 | .cell r' f' v::PS,cs,ss,hl,hP=>by
  cases er:Nat.beq r' r with
  |false=>
   obtain⟨cs',ss',e,l1,l2,h⟩:=putAt_cells (ver:=ver) (anc:=anc) PS cs ss hl (fun q' h=>hP q' (List.mem_cons_of_mem _ h))
   refine⟨cs',ss',?_,l1,l2,fun f=> ?_⟩
   ·show putAt r PS (match Nat.beq r' r with|true=>_|false=>_)=_
    rw [er];exact e
   ·rcases h f with⟨h1,h2,h3⟩|⟨h1,h2,h3⟩
    ·refine .inl ⟨h1,h2,fun ⟨⟨v',hv⟩,hf⟩=>h3 ⟨⟨v',?_⟩,hf⟩⟩
     rcases List.mem_cons.1 hv with e|hv
     ·cases e;rw [Nat.beq_refl]at er;cases er
     ·exact hv
    ·exact .inr ⟨h1,h2,List.mem_cons_of_mem _ h3⟩
  |true=>
   have e':=beq_nat er
   subst e'
   obtain⟨cs',ss',e,l1,l2,h⟩:=putAt_cells (ver:=ver) (anc:=anc) PS (cs.set f' v) (ss.set f' (ss.getD f' 0+1)) (by simp [hl]) (fun q' h=>hP q' (List.mem_cons_of_mem _ h))
   rw [List.length_set]at l1 l2 h
   refine⟨cs',ss',?_,l1,l2,fun f=> ?_⟩
   ·show putAt r' PS (match Nat.beq r' r' with|true=>setCell _ f' v|false=>_)=_
    rw [er];exact e
   ·by_cases hf:f'=f
    ·subst hf
     by_cases hlt:f'<cs.length
     ·right
      have e1:(cs.set f' v).getD f' .undef=v:=getD_set_eq hlt
      have e2:(ss.set f' (ss.getD f' 0+1)).getD f' 0=ss.getD f' 0+1:=getD_set_eq (by omega)
      rcases h f' with⟨h1,h2,_⟩|⟨_,h2,h3⟩
      ·exact⟨hlt,by rw [h2,e2];omega,by rw [h1,e1];simp⟩
      ·exact⟨hlt,by rw [e2]at h2;omega,List.mem_cons_of_mem _ h3⟩
     ·left
      rcases h f' with⟨h1,h2,_⟩|⟨h0,_⟩
      ·exact⟨by rw [h1,List.set_eq_of_length_le (by omega)],by rw [h2,List.set_eq_of_length_le (by omega)],fun h=>hlt h.2⟩
      ·exact absurd h0 hlt
    ·have hh:=h f
     rw [getD_set_ne hf,getD_set_ne hf]at hh
     rcases hh with⟨h1,h2,h3⟩|⟨h1,h2,h3⟩
     ·refine .inl ⟨h1,h2,fun ⟨⟨v',hv⟩,hl'⟩=>h3 ⟨⟨v',?_⟩,hl'⟩⟩
      rcases List.mem_cons.1 hv with e|hv
      ·cases e;exact absurd rfl hf
      ·exact hv
     ·exact .inr ⟨h1,h2,List.mem_cons_of_mem _ h3⟩
theorem flat_ren {Gl G':Gh} {w':World} {sm:Nat} {us:Ty} {l:List us.den} {a:Option Addr} {n:Nat} {L L':Lab} (hd:(Nat.beq sm 2&&us.hasSl)=false) (hsm:sm≠0) (hf:hasRoC sm (.slice us)=true→Lk Gl w' G' w' .free .free) (hl:Lk Gl w' G' w' L L')
  (h:rowG Gl w' (flatV (vw Gl w')) L us l a n):rowG G' w' (flatV (vw G' w')) L' us l a n:=by
 refine rowG_ren hl (fun x b o k hel=> ?_) h
 cases hsl:us.hasSl with
 |false=>exact el_noSl (fun k t x v hs g=>ro_prim hs g) us x b o k hsl hel
 |true=>
  have hro:hasRoC sm (.slice us)=true:=by
   rcases sm with _|_|_|n
   ·rfl
   ·exact hsl
   ·rw [hsl]at hd;cases hd
   ·rfl
  exact elG_mono us x b o k (fun _ _ _ e=>e) (fun k t x v g=>flatV_keep (vw_free (hf hro)) k k t x v g) hel
theorem back_row {G1 Gl G':Gh} {w w':World} {R1 Rf:List Root} {sm:Nat} {us:Ty} {y:List us.den} {val:Value} {r a ver anc j:Nat} {o:Bool} {ts:Ty} {l:List ts.den} {y':List ts.den} (hq:R1[r]? =some ⟨.row o ts l,ver,anc⟩) (hab:Nat.beq a anc=true) (hok:okOwn sm o ts=true)
  (hy:(Ty.slice us).cast (.slice ts) y=some y') (hsm:isOwn sm (.slice us)=true) (hv:(avR G1 R1 w (.sl r a)).1 val) (hc:hCell Gl w' sm (.slice us) y val (j,0)) (ha:G'.anch r=G1.anch r) (hl:∀u,Lk Gl w' G' w' (.of j u) (.of r u))
  (hf:hasRoC sm (.slice us)=true→Lk Gl w' G' w' .free .free):Chg G1 w G' Rf w' r ⟨.row o ts l,ver,anc⟩ ⟨.row o ts y',ver+1,anc⟩:=by
 obtain⟨e,g⟩:=cast_sl hy
 cases e
 have g:y'=y:=g
 subst g
 have hc':=cell_ren (soft:=false) (G':=G') (p':=(r,0)) hc hf (fun _=>⟨rfl,rfl,hl 0,fun s=>hl (s+1)⟩)
 unfold hCell at hc'
 rw [sft_own,hsm]at hc'
 obtain⟨a0,c,ev,hrow,_⟩:=hc'
 obtain⟨q,hq',_,hg⟩:=hv
 rw [hq]at hq';cases hq'
 have ev':=hg (beq_nat hab).symm _ (List.length l) rfl
 rw [ev]at ev'
 simp only [Value.slice.injEq]at ev'
 obtain⟨e1,e2,e3⟩:=ev'
 have ho:o=(Nat.beq sm 2&&us.hasSl):=eq_of_beq hok
 refine .row o _ l y' (ver+1) rfl e2 (Nat.lt_succ_self _) ha ?_
 rw [ha,←e1,←e3,ho]
 exact hrow
theorem back_inner {G1 Gl G':Gh} {w w':World} {R1 Rf:List Root} {sm:Nat} {us:Ty} {y:List us.den} {val:Value} {r s i f ver anc j:Nat} {ts:Ty} {l:List ts.den} {z:ts.den} (hR:RelR G1 R1 w) (hq:R1[r]? =some ⟨.row true ts l,ver,anc⟩) (hab:Nat.beq s ver=true) (hok:okOwn sm false us=true)
  (hz:setInner ts (rd ts l i) f us y=some z) (hsm:isOwn sm (.slice us)=true) (hv:(avR G1 R1 w (.il r s i f)).1 val) (hc:hCell Gl w' sm (.slice us) y val (j,0)) (ha:G'.anch r=G1.anch r) (hl:Lk Gl w' G' w' (.of j 0) (.of r (i*ts.size+f+1)))
  (ho:∀s,s≠i*ts.size+f+1→Lk G1 w G' w' (.of r s) (.of r s)) (hff:Lk G1 w G' w' .free .free) (hf:hasRoC sm (.slice us)=true→Lk Gl w' G' w' .free .free):Chg G1 w G' Rf w' r ⟨.row true ts l,ver,anc⟩ ⟨.row true ts (upd l i z),ver+1,anc⟩:=by
 have hu:∀b o v,vw G1 w b o=some v→vw G' w' b o=some v:=vw_free hff
 have hd:(Nat.beq sm 2&&us.hasSl)=false:=(eq_of_beq hok).symm
 have hsm0:sm≠0:=fun e=>by subst e;simp [isOwn]at hsm
 unfold hCell at hc
 rw [hsm]at hc
 obtain⟨a0,c,ev,hin,_⟩:=hc
 rw [hd]at hin
 have hin':=flat_ren (G':=G') hd hsm0 hf hl hin
 obtain⟨q,hq',_,hg⟩:=hv
 rw [hq]at hq';cases hq'
 obtain⟨h1,h2,b,o,h3,h4,h5⟩:=hg (beq_nat hab).symm true ts l rfl
 have hrow:rowG G1 w (deepV G1 w r) (.of r 0) ts l (G1.anch r).1 (G1.anch r).2:=hR r _ hq
 refine .row true ts l (upd l i z) (ver+1) rfl len_upd (Nat.lt_succ_self _) ha ?_
 rw [ha]
 obtain⟨q1,q2⟩:=hrow
 refine⟨by rw [len_upd];exact q1,q2.imp id ?_⟩
 rintro ⟨b4,p4,ea4,d1,d2⟩
 rw [h3]at ea4;cases ea4
 have h0:=ho 0 (by omega)
 have hkeep:∀k,k≠i*ts.size+f→∀t x v,deepV G1 w r k t x v→deepV G' w' r k t x v:=fun k hk t x v g=>deepV_keep hu (ho (k+1) (by omega)) t x v g
 have hcell:∀i' m v,i'<List.length l→m<ts.size→at_ w b (o+i'*ts.size+m)=some v→at_ w' b (o+i'*ts.size+m)=some v:=fun i' m v hi' hm e=>by
  have hlt:=lt_row hi' q1 hm
  have:=(d1 _ hlt).1
  rw [←Nat.add_assoc]at this
  rw [(h0 _ _ (lt_of_at e) this).2.1];exact e
 refine⟨b,o,h3,fun m hm=> ?_,fun i' hi'=> ?_⟩
 ·obtain⟨c1,c2,c3⟩:=d1 m hm
  obtain⟨k1,k2,k3⟩:=h0 _ _ (lt_of_some c3) c1
  exact⟨k1,(fz_fr k3).trans c2,by rw [k2];exact c3⟩
 ·rw [len_upd]at hi'
  by_cases e:i'=i
  ·subst e
   rw [rd_upd_eq hi']
   exact setInner_spec ts _ z f _ _ hz (d2 i' hi') (fun m u hm _ e=>hcell i' m u hi' hm e) (fun m hm hne t x v g=>hkeep _ (by omega) t x v g) (hcell i' f val hi' h2 h5) ⟨a0,c,ev,hin'⟩
  ·rw [rd_upd_ne e]
   refine elG_move ts _ b _ _ b _ _ (fun m v hm e'=>hcell i' m v hi' hm e') (fun k hk t x v g=>hkeep _ (fun e'=> ?_) t x v g) (d2 i' hi')
   have:=el_apart (f:=f) (n:=1) e hk (by omega)
   omega
def BackLab (G1:Gh) (w:World) (Gl G':Gh) (w':World) (R1:List Root) (j:Nat):Sr→Prop
 | .row r=>G'.anch r=G1.anch r∧∀u,Lk Gl w' G' w' (.of j u) (.of r u)
 | .inn r i f=>G'.anch r=G1.anch r∧∀ts l ver a,R1[r]? =some ⟨.row true ts l,ver,a⟩→Lk Gl w' G' w' (.of j 0) (.of r (i*ts.size+f+1))∧∀s,s≠i*ts.size+f+1→Lk G1 w G' w' (.of r s) (.of r s)
 |_=>True
def PutOk (G1:Gh) (w:World) (G':Gh) (Rf:List Root) (w':World) (R1:List Root) (ids:List Nat) (p:Put):Prop:=
 ∃r q q',p= .root r q'∧R1[r]? =some q∧(∀cs ss,q.k≠ .box cs ss)∧(∀cs ss,q'.k≠ .box cs ss)∧r∈ids∧Chg G1 w G' Rf w' r q q'
theorem cell_back {G1 Gl G':Gh} {w w':World} {R1 Rf:List Root} {tm:List AV} {sm:Nat} {t:Ty} {y:t.den} {v:AV} {val:Value} {j:Nat} {ps:List Put} (hR:RelR G1 R1 w) (h:backCell ⟨tm,R1⟩ sm t y v=some ps) (hv:(avR G1 R1 w v).1 val) (hc:hCell Gl w' sm t y val (j,0))
  (hb:∀s∈srcCell sm t v,BackLab G1 w Gl G' w' R1 j s) (hff:Lk G1 w G' w' .free .free) (hf:hasRoC sm t=true→Lk Gl w' G' w' .free .free):∀p∈ps,PutOk G1 w G' Rf w' R1 (srcIds (srcCell sm t v)) p:=by
 unfold backCell at h
 cases ho:isOwn sm t with
 |false=>rw [ho]at h;cases h;intro p hp;cases hp
 |true=>
  rw [ho]at h
  obtain⟨us,e⟩:=own_slice ho
  subst e
  cases v with
  |nl ts=>cases h;intro p hp;cases hp
  |sl r a=>
   simp only at h
   split at h
   ·rename_i o ts l ver b hq
    split at h
    ·rename_i y' hcond hy'
     cases h
     intro p hp
     obtain⟨c1,c2⟩:=and2 hcond
     have hsrc:srcCell sm (.slice us) (.sl r a)=[.row r]:=by simp [srcCell,ho]
     obtain⟨l1,l2⟩:=hb (.row r) (by rw [hsrc];simp)
     have e:a=b:=beq_nat c1
     subst e
     refine⟨r,_,_,List.mem_singleton.1 hp,hq,fun _ _ e=>(by cases e),fun _ _ e=>(by cases e),(by rw [hsrc];simp [srcIds,Sr.id]),back_row hq c1 c2 hy' ho hv hc l1 l2 hf⟩
    ·cases h
   ·cases h
  |il r s i f=>
   simp only at h
   split at h
   ·rename_i ts l ver b hq
    split at h
    ·rename_i z hcond hz
     cases h
     intro p hp
     obtain⟨c1,c2⟩:=and2 hcond
     have hsrc:srcCell sm (.slice us) (.il r s i f)=[.inn r i f]:=by simp [srcCell,ho]
     obtain⟨l1,l2⟩:=hb (.inn r i f) (by rw [hsrc];simp)
     obtain⟨l3,l4⟩:=l2 ts l ver b hq
     exact⟨r,_,_,List.mem_singleton.1 hp,hq,fun _ _ e=>(by cases e),fun _ _ e=>(by cases e),(by rw [hsrc];simp [srcIds,Sr.id]),back_inner hR hq c1 c2 hz ho hv hc l1 l3 l4 hff hf⟩
    ·cases h
   ·cases h
  |_=>cases h
def BackLabs (G1:Gh) (w:World) (Gl G':Gh) (w':World) (R1:List Root):Nat→List Sr→Prop
 |_,[]=>True
 |j,s::ss=>BackLab G1 w Gl G' w' R1 j s∧BackLabs G1 w Gl G' w' R1 (j+1) ss
theorem BackLabs.append {G1 Gl G':Gh} {w w':World} {R1:List Root}:∀ {ss ts:List Sr} {j:Nat},BackLabs G1 w Gl G' w' R1 j (ss++ts)→BackLabs G1 w Gl G' w' R1 j ss∧BackLabs G1 w Gl G' w' R1 (j+ss.length) ts
 | [],ts,j,h=>⟨trivial,by simpa using h⟩
 |s::ss,ts,j,h=>by
  obtain⟨h1,h2⟩:=h
  obtain⟨h3,h4⟩:=BackLabs.append h2
  exact⟨⟨h1,h3⟩,by rw [List.length_cons,show j+(ss.length+1)=j+1+ss.length by omega];exact h4⟩
theorem PutOk.mono {G1 G':Gh} {w w':World} {R1 Rf:List Root} {ids ids':List Nat} {p:Put} (h:PutOk G1 w G' Rf w' R1 ids p) (hi:∀r∈ids,r∈ids'):PutOk G1 w G' Rf w' R1 ids' p:=by
 obtain⟨r,q,q',h1,h2,h3,h4,h5,h6⟩:=h
 exact⟨r,q,q',h1,h2,h3,h4,hi r h5,h6⟩
theorem srcIds_append:∀(ss ts:List Sr),srcIds (ss++ts)=srcIds ss++srcIds ts
 | [],_=>rfl
 |s::ss,ts=>by simp [srcIds,srcIds_append ss ts]
theorem cells_back {G1 Gl G':Gh} {w w':World} {R1 Rf:List Root} {tm:List AV} {sm:Nat} (hR:RelR G1 R1 w) (hff:Lk G1 w G' w' .free .free):∀ {ts:Ty} {y:ts.den} {a:AV} {vals:List Value} {j:Nat} {ps:List Put},backCells ⟨tm,R1⟩ sm ts y a=some ps→(avR G1 R1 w a).2 vals→
  hCells Gl w' sm ts y vals (labs j (idsCells sm ts))→BackLabs G1 w Gl G' w' R1 j (srcCells sm ts a)→(hasRoCs sm ts=true→Lk Gl w' G' w' .free .free)→∀p∈ps,PutOk G1 w G' Rf w' R1 (srcIds (srcCells sm ts a)) p:=by
 intro ts
 induction ts with
 |nil=>
  intro y a vals j ps h _ _ _ _
  cases a with
  |nil=>cases h;intro p hp;cases hp
  |_=>cases h
 |cons t ts _ ih=>
  intro y a vals j ps h hv hc hb hf
  cases a with
  |cons v a=>
   obtain⟨v0,vs',e,g1,g2⟩:=hv
   subst e
   obtain⟨v1,vs1,e1,c1,c2⟩:=hc
   cases e1
   simp only [backCells]at h
   split at h
   ·rename_i p1 p2 h1 h2
    cases h
    obtain⟨b1,b2⟩:=BackLabs.append hb
    rw [srcCell_len]at b2
    have hd:(labs j (idsCells sm (.cons t ts))).drop (idsCell sm t)=labs (j+idsCell sm t) (idsCells sm ts):=labs_drop j _ _
    rw [hd]at c2
    intro p hp
    simp only [srcCells,srcIds_append]
    rcases List.mem_append.1 hp with hp|hp
    ·have hc1:isOwn sm t=true→(labs j (idsCells sm (.cons t ts))).headD (0,0)=(j,0):=fun ho=>(labs_consec j _).head (by simp [idsCells,idsCell,ho];omega)
     have hcell:hCell Gl w' sm t y.1 v0 (j,0):=by
      cases ho:isOwn sm t with
      |true=>rw [hc1 ho]at c1;exact c1
      |false=>unfold hCell at c1 ⊢;rw [ho]at c1 ⊢;exact c1
     refine(cell_back hR h1 g1 hcell (fun s hs=> ?_) hff (fun hh=>hf (by simp [hasRoCs,hh])) p hp).mono (fun r hr=>List.mem_append_left _ hr)
     cases hsl:srcCell sm t v with
     |nil=>rw [hsl]at hs;cases hs
     |cons s0 ss=>
      have hlen:=srcCell_len sm t v
      rw [hsl]at hs b1 hlen
      have:ss=[]:=by
       have h1:idsCell sm t≤1:=by unfold idsCell;split<;>simp
       simp at hlen
       cases ss with
       |nil=>rfl
       |cons _ _=>simp at hlen;omega
      subst this
      rw [List.mem_singleton.1 hs];exact b1.1
    ·refine(ih h2 g2 c2 b2 (fun hh=> ?_) p hp).mono (fun r hr=>List.mem_append_right _ hr)
     cases ts with
     |nil=>exact hf (by simp only [hasRoCs]at hh ⊢;rw [hh];simp)
     |cons _ _=>exact hf (by simp only [hasRoCs]at hh ⊢;rw [hh];simp)
     |_=>exact c2.elim
   ·cases h
  |_=>cases h
 |_=>intro y a vals j ps h;cases a<;>cases h
theorem kill_back {G1 G':Gh} {w w':World} {R1 Rf:List Root} {tm:List AV}:∀(rs:List Nat),(∀r∈rs,∀q,R1[r]? =some q→∀cs ss,q.k≠ .box cs ss)→∀p∈killPuts ⟨tm,R1⟩ rs,PutOk G1 w G' Rf w' R1 rs p
 | [],_,p,hp=>by cases hp
 |r::rs,hb,p,hp=>by
  have ih:=kill_back (G1:=G1) (G':=G') (w:=w) (w':=w') (Rf:=Rf) (tm:=tm) rs (fun r' hr=>hb r' (List.mem_cons_of_mem _ hr))
  simp only [killPuts]at hp
  split at hp
  ·rename_i q hq
   rcases List.mem_cons.1 hp with e|hp
   ·have hnb:=hb r (by simp) q hq
    refine⟨r,q,killOne q,e,hq,hnb,?_,by simp,?_⟩
    ·intro cs ss e'
     unfold killOne at e'
     cases hk:q.k with
     |box _ _=>exact hnb _ _ hk
     |_=>rw [hk]at e';first|exact hnb _ _ e'|cases e'
    ·cases hk:q.k with
     |dead=>
      have e:killOne q=q:=by unfold killOne;rw [hk]
      rw [e]
      exact .kept (fun h=>absurd (by rw [hk];rfl) h) (fun _ h=>absurd (by rw [hk];rfl) h)
     |box cs ss=>exact absurd hk (hnb cs ss)
     |row o ts l=>
      have e:killOne q=⟨.dead,q.ver+1,q.anc+1⟩:=by unfold killOne;rw [hk]
      rw [e]
      exact .dead _ hnb rfl (Nat.lt_succ_self _) (Nat.lt_succ_self _)
     |fro ts l=>
      have e:killOne q=⟨.dead,q.ver+1,q.anc+1⟩:=by unfold killOne;rw [hk]
      rw [e]
      exact .dead _ hnb rfl (Nat.lt_succ_self _) (Nat.lt_succ_self _)
   ·exact(ih p hp).mono (fun r hr=>List.mem_cons_of_mem _ hr)
  ·exact(ih p hp).mono (fun r hr=>List.mem_cons_of_mem _ hr)
end
end Go.Proofs.YtpmjopbgccajgaaGreat.Eng
namespace Go.Proofs.YtpmjopbgccajgaaGreat.Eng
open Go.RowKit
section
def BackOne (G1:Gh) (w:World) (Gl G':Gh) (w':World) (R1:List Root) (tm:List AV) (m:Md) (t:Ty) (v:AV) (j n:Nat):Prop:=match m.ptr with
 |true=>(∀r f,v= .bp r f→Lk Gl w' G' w' (.of j 0) (.of r 0))∧∀i,i<idsCells m.sm t→Ren false Gl w' G' (j+1+i,0) (n+i,0)
 |false=>BackLabs G1 w Gl G' w' R1 j (srcOne ⟨tm,R1⟩ m t v)
def newIds (m:Md) (t:Ty):Nat:=match m.ptr with|true=>idsCells m.sm t|false=>0
def BackAll (G1:Gh) (w:World) (Gl G':Gh) (w':World) (R1:List Root) (tm:List AV):List (Md×Ty×AV)→Nat→Nat→Prop
 | [],_,_=>True
 |(m,t,v)::vs,j,n=>match isLent m with
  |false=>BackAll G1 w Gl G' w' R1 tm vs j n
  |true=>BackOne G1 w Gl G' w' R1 tm m t v j n∧BackAll G1 w Gl G' w' R1 tm vs (j+idsOne m t) (n+newIds m t)
def CellOk (G1 G':Gh) (R:List Root) (w':World) (ps:List Put):Prop:=
 ∀r f v,Put.cell r f v∈ps→∃b o val,(G1.anch r).1=some ⟨b,o,none⟩∧G'.own b (o+f)= .of r 0∧w'.frozen? ⟨b,o+f,none⟩=false∧at_ w' b (o+f)=some val∧(avR G' R w' v).1 val
def RootPuts (G1:Gh) (w:World) (G':Gh) (Rf:List Root) (w':World) (R1:List Root) (ps:List Put):Prop:=
 ∀p∈ps,(∃r f v,p= .cell r f v)∨∃ids,PutOk G1 w G' Rf w' R1 ids p
def Put1 (ps:List Put):Sr→Prop
 | .nul=>True
 | .row r=>∃q,Put.root r q∈ps
 | .inn r _ _=>∃q,Put.root r q∈ps
 | .box r f n=>∀i,i<n→∃v,Put.cell r (f+i) v∈ps
theorem Put1.left {ps ps':List Put} {s:Sr} (h:Put1 ps s):Put1 (ps++ps') s:=by
 cases s with
 |nul=>trivial
 |row r=>obtain⟨q,h⟩:=h;exact⟨q,List.mem_append_left _ h⟩
 |inn r i f=>obtain⟨q,h⟩:=h;exact⟨q,List.mem_append_left _ h⟩
 |box r f n=>intro i hi;obtain⟨v,h⟩:=h i hi;exact⟨v,List.mem_append_left _ h⟩
theorem Put1.right {ps ps':List Put} {s:Sr} (h:Put1 ps' s):Put1 (ps++ps') s:=by
 cases s with
 |nul=>trivial
 |row r=>obtain⟨q,h⟩:=h;exact⟨q,List.mem_append_right _ h⟩
 |inn r i f=>obtain⟨q,h⟩:=h;exact⟨q,List.mem_append_right _ h⟩
 |box r f n=>intro i hi;obtain⟨v,h⟩:=h i hi;exact⟨v,List.mem_append_right _ h⟩
theorem cell_put {tm:List AV} {R1:List Root} {sm:Nat} {t:Ty} {y:t.den} {v:AV} {ps:List Put} (h:backCell ⟨tm,R1⟩ sm t y v=some ps):
  (∀s∈srcCell sm t v,Put1 ps s)∧∀p∈ps,p.at∈srcIds (srcCell sm t v):=by
 unfold backCell at h
 cases ho:isOwn sm t with
 |false=>rw [ho]at h;cases h;refine⟨fun s hs=> ?_,fun p hp=>(by cases hp)⟩;simp [srcCell,ho]at hs
 |true=>
  rw [ho]at h
  obtain⟨us,e⟩:=own_slice ho
  subst e
  cases v with
  |nl ts=>
   cases h
   refine⟨fun s hs=> ?_,fun p hp=>(by cases hp)⟩
   simp [srcCell,ho]at hs;subst hs;trivial
  |sl r a=>
   simp only at h
   split at h
   ·split at h
    ·cases h
     refine⟨fun s hs=> ?_,fun p hp=> ?_⟩
     ·simp [srcCell,ho]at hs;subst hs;exact⟨_,List.mem_singleton.2 rfl⟩
     ·rw [List.mem_singleton.1 hp];simp [srcCell,ho,srcIds,Sr.id,Put.at]
    ·cases h
   ·cases h
  |il r s i f=>
   simp only at h
   split at h
   ·split at h
    ·cases h
     refine⟨fun s hs=> ?_,fun p hp=> ?_⟩
     ·simp [srcCell,ho]at hs;subst hs;exact⟨_,List.mem_singleton.2 rfl⟩
     ·rw [List.mem_singleton.1 hp];simp [srcCell,ho,srcIds,Sr.id,Put.at]
    ·cases h
   ·cases h
  |_=>cases h
theorem cells_put {tm:List AV} {R1:List Root} {sm:Nat}:∀ {ts:Ty} {y:ts.den} {a:AV} {ps:List Put},backCells ⟨tm,R1⟩ sm ts y a=some ps→
  (∀s∈srcCells sm ts a,Put1 ps s)∧∀p∈ps,p.at∈srcIds (srcCells sm ts a):=by
 intro ts
 induction ts with
 |nil=>
  intro y a ps h
  cases a with
  |nil=>cases h;exact⟨fun s hs=>(by cases hs),fun p hp=>(by cases hp)⟩
  |_=>cases h
 |cons t ts _ ih=>
  intro y a ps h
  cases a with
  |cons v a=>
   simp only [backCells]at h
   split at h
   ·rename_i p1 p2 h1 h2
    cases h
    obtain⟨a1,a2⟩:=cell_put h1
    obtain⟨b1,b2⟩:=ih h2
    refine⟨fun s hs=> ?_,fun p hp=> ?_⟩
    ·rcases List.mem_append.1 hs with hs|hs
     ·exact(a1 s hs).left
     ·exact(b1 s hs).right
    ·simp only [srcCells,srcIds_append]
     rcases List.mem_append.1 hp with hp|hp
     ·exact List.mem_append_left _ (a2 p hp)
     ·exact List.mem_append_right _ (b2 p hp)
   ·cases h
  |_=>cases h
 |_=>intro y a ps h;cases a<;>cases h
theorem noCell {G1 G':Gh} {w w':World} {R R1 Rf:List Root} {ids:List Nat} {ps:List Put} (h:∀p∈ps,PutOk G1 w G' Rf w' R1 ids p) (G2:Gh) (R2:List Root):CellOk G1 G2 R2 w' ps:=by
 intro r f v hm
 obtain⟨_,_,_,e,_⟩:=h _ hm
 cases e
theorem cellPuts_mem {r:Nat}:∀ {a:AV} {f:Nat} {p:Put},p∈cellPuts r f a→∃i,i<a.toList.length∧p= .cell r (f+i) (a.toList.getD i .undef):=by
 intro a
 induction a with
 |cons v a _ ih=>
  intro f p hp
  simp only [cellPuts,List.mem_cons]at hp
  rcases hp with e|hp
  ·exact⟨0,by simp [AV.toList],by simpa [AV.toList]using e⟩
  ·obtain⟨i,hi,e⟩:=ih hp
   refine⟨i+1,by simpa [AV.toList]using hi,?_⟩
   rw [e,show f+1+i=f+(i+1) by omega]
   simp [AV.toList]
 |_=>intro f p hp;cases hp
theorem mem_cellPuts {r:Nat}:∀ {a:AV} {f i:Nat},i<a.toList.length→∃v,Put.cell r (f+i) v∈cellPuts r f a:=by
 intro a
 induction a with
 |cons v a _ ih=>
  intro f i hi
  cases i with
  |zero=>exact⟨v,by simp [cellPuts]⟩
  |succ i=>
   obtain⟨v',h⟩:=ih (f:=f+1) (i:=i) (by simpa [AV.toList]using hi)
   exact⟨v',by simp only [cellPuts,List.mem_cons];right;rwa [show f+(i+1)=f+1+i by omega]⟩
 |_=>intro f i hi;simp [AV.toList]at hi
theorem killPuts_mem {tm:List AV} {R1:List Root}:∀ {rs:List Nat} {p:Put},p∈killPuts ⟨tm,R1⟩ rs→∃r q,p= .root r q∧r∈rs
 | [],p,hp=>by cases hp
 |r::rs,p,hp=>by
  simp only [killPuts]at hp
  split at hp
  ·rcases List.mem_cons.1 hp with e|hp
   ·exact⟨_,_,e,by simp⟩
   ·obtain⟨r',q',e,h⟩:=killPuts_mem hp;exact⟨r',q',e,List.mem_cons_of_mem _ h⟩
  ·obtain⟨r',q',e,h⟩:=killPuts_mem hp;exact⟨r',q',e,List.mem_cons_of_mem _ h⟩
theorem mem_killPuts {tm:List AV} {R1:List Root}:∀ {rs:List Nat} {r:Nat} {q:Root},r∈rs→R1[r]? =some q→∃q',Put.root r q'∈killPuts ⟨tm,R1⟩ rs
 |r'::rs,r,q,h,hq=>by
  rcases List.mem_cons.1 h with e|h
  ·subst e;simp only [killPuts,hq];exact⟨_,List.mem_cons_self⟩
  ·obtain⟨q',h'⟩:=mem_killPuts (tm:=tm) h hq
   simp only [killPuts]
   split
   ·exact⟨q',List.mem_cons_of_mem _ h'⟩
   ·exact⟨q',h'⟩
theorem rowIds_mem:∀ {ss:List Sr} {r:Nat},r∈rowIds ss↔(Sr.row r∈ss∨∃i f,Sr.inn r i f∈ss)
 | [],r=>by simp [rowIds]
 | .row r'::ss,r=>by
  simp only [rowIds,List.mem_cons,rowIds_mem (ss:=ss),Sr.row.injEq]
  constructor
  ·rintro (e|h|⟨i,f,h⟩)
   ·exact .inl (.inl e)
   ·exact .inl (.inr h)
   ·exact .inr ⟨i,f,.inr h⟩
  ·rintro ((e|h)|⟨i,f,(h|h)⟩)
   ·exact .inl e
   ·exact .inr (.inl h)
   ·cases h
   ·exact .inr (.inr ⟨i,f,h⟩)
 | .inn r' i' f'::ss,r=>by
  simp only [rowIds,List.mem_cons,rowIds_mem (ss:=ss),Sr.inn.injEq]
  constructor
  ·rintro (e|h|⟨i,f,h⟩)
   ·exact .inr ⟨i',f',.inl ⟨e,rfl,rfl⟩⟩
   ·exact .inl (.inr h)
   ·exact .inr ⟨i,f,.inr h⟩
  ·rintro ((e|h)|⟨i,f,(h|h)⟩)
   ·cases e
   ·exact .inr (.inl h)
   ·exact .inl h.1
   ·exact .inr (.inr ⟨i,f,h⟩)
 | .nul::ss,r=>by simp [rowIds,rowIds_mem (ss:=ss)]
 | .box r' f' n'::ss,r=>by simp [rowIds,rowIds_mem (ss:=ss)]
theorem rowIds_sub:∀ {ss:List Sr} {r:Nat},r∈rowIds ss→r∈srcIds ss
 | .row r'::ss,r,h=>by
  simp only [rowIds,List.mem_cons]at h
  simp only [srcIds,Sr.id,List.mem_append,List.mem_singleton]
  exact h.imp id rowIds_sub
 | .inn r' _ _::ss,r,h=>by
  simp only [rowIds,List.mem_cons]at h
  simp only [srcIds,Sr.id,List.mem_append,List.mem_singleton]
  exact h.imp id rowIds_sub
 | .nul::ss,r,h=>by
  simp only [rowIds]at h
  simp only [srcIds,List.mem_append]
  exact .inr (rowIds_sub h)
 | .box r' _ _::ss,r,h=>by
  simp only [rowIds]at h
  simp only [srcIds,List.mem_append]
  exact .inr (rowIds_sub h)
theorem srcCells_noBox {sm:Nat}:∀ {ts:Ty} {a:AV} {s:Sr},s∈srcCells sm ts a→∀r f n,s≠ .box r f n:=by
 intro ts
 induction ts with
 |cons t ts _ ih=>
  intro a s hs r f n e
  cases a with
  |cons v a=>
   rcases List.mem_append.1 hs with hs|hs
   ·subst e
    unfold srcCell at hs
    split at hs
    ·cases hs
    ·cases v<;>simp at hs
   ·exact ih hs r f n e
  |_=>cases hs
 |_=>intro a s hs;cases a<;>cases hs
theorem srcLen_one {R:List Root} {tm:List AV} {m:Md} {t:Ty} {a:AV} {x:t.den} (h:outOne ⟨tm,R⟩ m t a=some x) (h1:m.ptr=false) (R1:List Root):(srcOne ⟨tm,R1⟩ m t a).length=idsOne m t:=by
 have:=srcOne_len h
 unfold srcOne at this ⊢
 rw [h1]at this ⊢
 exact this
theorem srcOne_agg {R:List Root} {tm:List AV} {m:Md} {t:Ty} {cs:AV} (hp:m.ptr=false) (hc:isCons t=true):srcOne ⟨tm,R⟩ m t (.agg cs)=srcCells m.sm t cs:=by unfold srcOne;rw [hp,hc]
theorem srcOne_cell {R:List Root} {tm:List AV} {m:Md} {t:Ty} {v:AV} (hp:m.ptr=false) (hc:isCons t=false):srcOne ⟨tm,R⟩ m t v=srcCell m.sm t v:=by unfold srcOne;rw [hp,hc]
theorem one_back {G1 Gl G':Gh} {w w':World} {R0 R1 Rf:List Root} {tm:List AV} {m:Md} {t:Ty} {y:t.den} {v:AV} {val:Value} {j n:Nat} {L:List (Nat×Nat)} {ps:List Put} {N:List Root} {x:t.den} (hR:RelR G1 R1 w) (hff:Lk G1 w G' w' .free .free)
  (h:backOne ⟨tm,R1⟩ m t y v n=some (ps,N)) (hout:outOne ⟨tm,R0⟩ m t v=some x) (hv:(avR G1 R1 w v).1 val) (hL:consec L j (idsOne m t)) (hc:hOne Gl w' m t y val L) (hb:BackOne G1 w Gl G' w' R1 tm m t v j n)
  (hrow:∀r∈rowIds (srcOne ⟨tm,R1⟩ m t v),∃q,R1[r]? =some q∧∀cs ss,q.k≠ .box cs ss) (hf:hasRoCs m.sm t=true→Lk Gl w' G' w' .free .free):
  N.length=newIds m t∧InOk G' w' n N.length N (fun G R=>CellOk G1 G R w' ps)∧RootPuts G1 w G' Rf w' R1 ps∧(∀s∈srcOne ⟨tm,R1⟩ m t v,Put1 ps s)∧(∀p∈ps,p.at∈srcIds (srcOne ⟨tm,R1⟩ m t v)):=by
 unfold backOne at h
 unfold hOne at hc
 unfold BackOne at hb
 unfold idsOne at hL
 unfold newIds
 cases hp:m.ptr with
 |true=>
  rw [hp]at h hc hb hL
  simp only at h hc hb hL ⊢
  cases v with
  |bp r f=>
   simp only at h
   cases hbx:isBoxAt R1 r with
   |false=>rw [hbx]at h;cases h
   |true=>
    rw [hbx]at h
    simp only [Option.some.injEq,Prod.mk.injEq]at h
    obtain⟨e1,e2⟩:=h
    have hsrc:srcOne ⟨tm,R1⟩ m t (.bp r f)= .box r f t.size::srcCells m.sm t (boxCells ⟨tm,R1⟩ r f t.size):=by unfold srcOne;rw [hp]
    rw [hsrc]at hrow ⊢
    generalize hS:srcCells m.sm t (boxCells ⟨tm,R1⟩ r f t.size)=S at e1 hrow
    have hSb:∀s∈S,∀r f n,s≠ .box r f n:=by rw [←hS];exact fun s hs=>srcCells_noBox hs
    have hkill:=kill_back (G1:=G1) (G':=G') (w:=w) (w':=w') (R1:=R1) (Rf:=Rf) (tm:=tm) (rowIds S) (fun r hr q hq=>by
     obtain⟨q',h1,h2⟩:=hrow r hr
     rw [hq]at h1;cases h1;exact h2)
    obtain⟨b,o,vs,ev,hvl,h0,hcs,hcells⟩:=hc
    obtain⟨b1,b2⟩:=hb
    have hhead:=hL.head (by omega)
    rw [hhead]at hcs
    have hlk:=b1 r f rfl
    obtain⟨q,hq,g⟩:=hv
    obtain⟨kk,ver,anc⟩:=q
    have hk:∃cs ss,kk= .box cs ss:=by
     simp only [isBoxAt,hq]at hbx
     cases kk with
     |box cs ss=>exact⟨cs,ss,rfl⟩
     |_=>cases hbx
    obtain⟨cs,ss,hk⟩:=hk
    subst hk
    obtain⟨b0,o0,ea,ev'⟩:=g cs.length .nil rfl
    rw [ev]at ev'
    have ebo:b=b0∧o=o0+f:=by simpa using ev'
    obtain⟨eb,eo⟩:=ebo
    subst eb;subst eo
    have hcells':hCells G' w' m.sm t y vs (labs n (idsCells m.sm t)):=cells_ren (soft:=false) hcells hf (fun i hi=>by
     have a1:(L.drop 1).getD i (0,0)=(j+1+i,0):=hL.right i hi
     have a2:=labs_consec n (idsCells m.sm t) i hi
     rw [a1,a2];exact b2 i hi)
    have hin:=in_cells hcells' (labs_consec n _)
    have hNl:N.length=idsCells m.sm t:=by rw [←e2,rowCells_len]
    refine⟨hNl,?_,?_,?_,?_⟩
    ·rw [hNl,←e2]
     obtain⟨k1,A,k2,k3⟩:=hin
     refine⟨k1,A,k2,fun an han R' hR'=> ?_⟩
     obtain⟨g1,g2⟩:=k3 an han R' hR'
     refine⟨g1,fun r' f' v' hm=> ?_⟩
     rw [←e1]at hm
     rcases List.mem_append.1 hm with hm|hm
     ·obtain⟨_,_,e,_⟩:=killPuts_mem hm;cases e
     ·obtain⟨i,hi,e⟩:=cellPuts_mem hm
      cases e
      rw [inCells_len]at hi
      obtain⟨l1,l2⟩:=avs_get _ _ g2
      obtain⟨c1,c2,c3⟩:=hcs i hi
      refine⟨b,o0,vs.getD i undef,ea,?_,?_,?_,l2 i (by omega)⟩
      ·rw [←Nat.add_assoc];exact(hlk _ _ (lt_of_at c3) c1).1
      ·rw [←Nat.add_assoc];exact c2
      ·rw [←Nat.add_assoc];exact c3
    ·intro p hp'
     rw [←e1]at hp'
     rcases List.mem_append.1 hp' with h|h
     ·exact .inr ⟨_,hkill p h⟩
     ·obtain⟨i,_,e⟩:=cellPuts_mem h;exact .inl ⟨_,_,_,e⟩
    ·intro s hs
     rw [←e1]
     rcases List.mem_cons.1 hs with e|hs
     ·subst e
      intro i hi
      obtain⟨v',h⟩:=mem_cellPuts (r:=r) (f:=f) (a:=inCells m.sm t y n) (i:=i) (by rw [inCells_len];exact hi)
      exact⟨v',List.mem_append_right _ h⟩
     ·refine Put1.left ?_
      have hs':=hs
      cases s with
      |nul=>trivial
      |row r'=>
       have hm:r'∈rowIds S:=rowIds_mem.2 (.inl hs')
       obtain⟨q',hq',_⟩:=hrow r' hm
       exact mem_killPuts hm hq'
      |inn r' i f'=>
       have hm:r'∈rowIds S:=rowIds_mem.2 (.inr ⟨i,f',hs'⟩)
       obtain⟨q',hq',_⟩:=hrow r' hm
       exact mem_killPuts hm hq'
      |box r' f' n'=>exact absurd rfl (hSb _ hs' r' f' n')
    ·intro p hp'
     rw [←e1]at hp'
     simp only [srcIds,Sr.id,List.mem_append,List.mem_singleton]
     rcases List.mem_append.1 hp' with h|h
     ·obtain⟨r',q',e,hm⟩:=killPuts_mem h
      subst e;exact .inr (rowIds_sub hm)
     ·obtain⟨i,_,e⟩:=cellPuts_mem h;subst e;exact .inl rfl
  |_=>cases h
 |false=>
  rw [hp]at h hc hb hL
  simp only at h hc hb hL ⊢
  cases hcn:isCons t with
  |true=>
   rw [hcn]at h hc hL
   simp only at h hc hL
   cases v with
   |agg cs=>
    simp only at h
    have hso:=srcOne_agg (R:=R1) (tm:=tm) (cs:=cs) hp hcn
    rw [hso]at hb ⊢
    split at h
    ·rename_i ps' hps
     cases h
     obtain⟨vs,ev,hc⟩:=hc
     obtain⟨vs',ev',hv'⟩:=hv
     rw [ev]at ev'
     have:vs=vs':=by simpa using ev'
     subst this
     have hc':hCells Gl w' m.sm t y vs (labs j (idsCells m.sm t)):=by
      have key:∀(ts:Ty) (y:ts.den) (vs:List Value) (L L':List (Nat×Nat)),(∀i,i<idsCells m.sm ts→L.getD i (0,0)=L'.getD i (0,0))→hCells Gl w' m.sm ts y vs L→hCells Gl w' m.sm ts y vs L':=by
       intro ts
       induction ts with
       |nil=>intro y vs L L' _ h;exact h
       |cons t ts _ ih=>
        intro y vs L L' hl h
        obtain⟨v,vs',e,h1,h2⟩:=h
        refine⟨v,vs',e,?_,ih _ _ _ _ (fun i hi=> ?_) h2⟩
        ·cases ho:isOwn m.sm t with
         |false=>unfold hCell at h1 ⊢;rw [ho]at h1 ⊢;exact h1
         |true=>
          have:=hl 0 (by simp [idsCells,idsCell,ho];omega)
          rw [←headD_getD,←headD_getD]at this
          rw [←this];exact h1
        ·have:=hl (idsCell m.sm t+i) (by simp only [idsCells];omega)
         simp only [List.getD_eq_getElem?_getD,List.getElem?_drop]at this ⊢
         exact this
       |_=>intro y vs L L' _ h;exact h.elim
      exact key t y vs L _ (fun i hi=>by rw [hL i hi,labs_consec j _ i hi]) hc
     have hP:=cells_back (Rf:=Rf) hR hff hps hv' hc' hb hf
     obtain⟨p1,p2⟩:=cells_put hps
     exact⟨rfl,InOk.none (fun an R'=>noCell (R:=R1) hP _ _),fun p hp=> .inr ⟨_,hP p hp⟩,p1,p2⟩
    ·cases h
   |_=>cases h
  |false=>
   rw [hcn]at h hc hL
   simp only at h hc hL
   have hso:=srcOne_cell (R:=R1) (tm:=tm) (v:=v) hp hcn
   rw [hso]at hb ⊢
   split at h
   ·rename_i ps' hps
    cases h
    have hc':hCell Gl w' m.sm t y val (j,0):=by
     cases ho:isOwn m.sm t with
     |true=>rw [hL.head (by simp [idsCell,ho])]at hc;exact hc
     |false=>unfold hCell at hc ⊢;rw [ho]at hc ⊢;exact hc
    have hP:=cell_back (Rf:=Rf) hR hps hv hc' (fun s hs=>by
     cases hsl:srcCell m.sm t v with
     |nil=>rw [hsl]at hs;cases hs
     |cons s0 ss=>
      have hlen:=srcCell_len m.sm t v
      rw [hsl]at hs hb hlen
      have:ss=[]:=by
       have h1:idsCell m.sm t≤1:=by unfold idsCell;split<;>simp
       simp at hlen
       cases ss with
       |nil=>rfl
       |cons _ _=>simp at hlen;omega
      subst this
      rw [List.mem_singleton.1 hs];exact hb.1) hff (fun hh=>hf (by
       cases t with
       |cons _ _=>cases hcn
       |nil=>cases hcn
       |_=>exact hh))
    obtain⟨p1,p2⟩:=cell_put hps
    exact⟨rfl,InOk.none (fun an R'=>noCell (R:=R1) hP _ _),fun p hp=> .inr ⟨_,hP p hp⟩,p1,p2⟩
   ·cases h
theorem rowIds_append:∀(ss ts:List Sr),rowIds (ss++ts)=rowIds ss++rowIds ts
 | [],_=>rfl
 | .row r::ss,ts=>by simp [rowIds,rowIds_append ss ts]
 | .inn r _ _::ss,ts=>by simp [rowIds,rowIds_append ss ts]
 | .nul::ss,ts=>by simp [rowIds,rowIds_append ss ts]
 | .box _ _ _::ss,ts=>by simp [rowIds,rowIds_append ss ts]
theorem src_unlent {R:List Root} {tm:List AV} {m:Md} {t:Ty} {v:AV} (h:isLent m=false):srcOne ⟨tm,R⟩ m t v=[]:=by
 unfold isLent at h
 obtain⟨h1,h2⟩:=Bool.or_eq_false_iff.1 h
 have hsm:m.sm=0:=beq_nat (by simpa using h2)
 have h3:∀(t:Ty) (v:AV),srcCell m.sm t v=[]:=fun t v=>by rw [hsm];simp [srcCell,isOwn]
 have h4:∀(t:Ty) (a:AV),srcCells m.sm t a=[]:=by
  intro t
  induction t with
  |cons t ts _ ih=>
   intro a
   cases a with
   |cons v a=>simp [srcCells,h3,ih]
   |_=>rfl
  |_=>intro a;cases a<;>rfl
 unfold srcOne
 rw [h1]
 simp only
 cases isCons t with
 |true=>cases v<;>simp [h4]
 |false=>exact h3 _ _
theorem RootPuts.append {G1:Gh} {w:World} {G':Gh} {Rf:List Root} {w':World} {R1:List Root} {ps ps':List Put} (h:RootPuts G1 w G' Rf w' R1 ps) (h':RootPuts G1 w G' Rf w' R1 ps'):RootPuts G1 w G' Rf w' R1 (ps++ps'):=fun p hp=>by
 rcases List.mem_append.1 hp with hp|hp
 ·exact h p hp
 ·exact h' p hp
theorem all_back {G1 Gl G':Gh} {w w':World} {R0 R1 Rf:List Root} {tm:List AV} (hR:RelR G1 R1 w) (hff:Lk G1 w G' w' .free .free):∀ {PT:Ty} {pm:List Md} {as:List AV} {x:PT.den} {args:List Value} {ts:Ty} {y:ts.den} {ms:List Md} {j n:Nat} {ps:List Put} {N:List Root},
  outAll ⟨tm,R0⟩ PT pm as=some x→as.length=args.length→(∀i,i<as.length→(avR G1 R1 w (as.getD i .undef)).1 (args.getD i undef))→backAll ⟨tm,R1⟩ (withTys PT pm as) ts y ms n=some (ps,N)→hAll Gl w' ts y ms (lentV pm args) (labs j (idsAll ts ms))→
  BackAll G1 w Gl G' w' R1 tm (withTys PT pm as) j n→(∀r∈rowIds (srcAll ⟨tm,R1⟩ PT pm as),∃q,R1[r]? =some q∧∀cs ss,q.k≠ .box cs ss)→(hasRo ts ms=true→Lk Gl w' G' w' .free .free)→
  InOk G' w' n N.length N (fun G R=>CellOk G1 G R w' ps)∧RootPuts G1 w G' Rf w' R1 ps∧(∀s∈srcAll ⟨tm,R1⟩ PT pm as,Put1 ps s)∧(∀p∈ps,p.at∈srcIds (srcAll ⟨tm,R1⟩ PT pm as)):=by
 intro PT
 induction PT with
 |nil=>
  intro pm as x args ts y ms j n ps N hout hlen hv hb hall hB hrow hro
  cases pm with
  |cons _ _=>cases as<;>cases hout
  |nil=>
   cases as with
   |cons _ _=>cases hout
   |nil=>
    simp only [withTys]at hb
    cases ts with
    |nil=>
     cases ms with
     |nil=>cases hb;exact⟨InOk.none (fun an R' r f v hm=>by cases hm),fun p hp=>(by cases hp),fun s hs=>(by cases hs),fun p hp=>(by cases hp)⟩
     |cons _ _=>cases hb
    |_=>cases ms<;>cases hb
 |cons t PT _ ih=>
  intro pm as x args ts y ms j n ps N hout hlen hv hb hall hB hrow hro
  cases pm with
  |nil=>cases as<;>cases hout
  |cons m pm=>
   cases as with
   |nil=>cases hout
   |cons v as=>
    cases args with
    |nil=>simp at hlen
    |cons a args=>
     simp only [outAll]at hout
     split at hout
     ·rename_i x0 y0 ho1 ho2
      simp only [withTys,backAll]at hb
      simp only [withTys,BackAll]at hB
      simp only [lentV]at hall
      simp only [srcAll,srcIds_append,rowIds_append]at hrow ⊢
      cases hl:isLent m with
      |false=>
       rw [hl]at hb hB hall
       simp only at hb hB hall
       rw [src_unlent hl]at hrow ⊢
       exact ih ho2 (by simpa using hlen) (fun i hi=>by simpa using hv (i+1) (by simpa using hi)) hb hall hB hrow hro
      |true=>
       rw [hl]at hb hB hall
       simp only at hb hB hall
       obtain⟨B1,B2⟩:=hB
       split at hb
       ·rename_i t' ts' y' m' ms'
        split at hb
        ·rename_i ps1 rs1 hcond hone
         split at hb
         ·rename_i ps2 rs2 hrest
          cases hb
          obtain⟨hc12,hc3⟩:=and2 hcond
          obtain⟨hc1,hc2⟩:=and2 hc12
          have et:t=t':=eq?_some hc3
          subst et
          have em:m'=m:=by
           obtain⟨p1,s1⟩:=m
           obtain⟨p2,s2⟩:=m'
           have h1:p2=p1:=eq_of_beq hc1
           have h2:s2=s1:=beq_nat hc2
           rw [h1,h2]
          subst em
          obtain⟨hall1,hall2⟩:=hall
          have hd:(labs j (idsAll (.cons t ts') (m'::ms'))).drop (idsOne m' t)=labs (j+idsOne m' t) (idsAll ts' ms'):=labs_drop j _ _
          rw [hd]at hall2
          obtain⟨o1,o2,o3,o4,o5⟩:=one_back (Rf:=Rf) hR hff hone ho1 (by simpa using hv 0 (by simp)) (labs_consec j _).left hall1 B1 (fun r hr=>hrow r (List.mem_append_left _ hr)) (fun hh=>hro (by simp [hasRo,hh]))
          rw [←o1]at B2
          obtain⟨i1,i2,i3,i4⟩:=ih ho2 (by simpa using hlen) (fun i hi=>by simpa using hv (i+1) (by simpa using hi)) hrest hall2 B2 (fun r hr=>hrow r (List.mem_append_right _ hr)) (fun hh=>hro (by simp [hasRo,hh]))
          refine⟨?_,i2 |> RootPuts.append o3,fun s hs=> ?_,fun p hp=> ?_⟩
          ·obtain⟨k1,A,k2,k3⟩:=o2.append i1
           refine⟨by rw [List.length_append],A,by rw [List.length_append];exact k2,fun an han R' hR'=> ?_⟩
           obtain⟨g1,g2,g3⟩:=k3 an (by rw [List.length_append]at han;exact han) R' hR'
           refine⟨g1,fun r f v hm=> ?_⟩
           rcases List.mem_append.1 hm with hm|hm
           ·exact g2 r f v hm
           ·exact g3 r f v hm
          ·rcases List.mem_append.1 hs with hs|hs
           ·exact(o4 s hs).left
           ·exact(i3 s hs).right
          ·rcases List.mem_append.1 hp with hp|hp
           ·exact List.mem_append_left _ (o5 p hp)
           ·exact List.mem_append_right _ (i4 p hp)
         ·cases hb
        ·cases hb
       ·cases hb
     ·cases hout
 |_=>intro pm as x args ts y ms j n ps N hout;cases pm<;>cases as<;>cases hout
end
end Go.Proofs.YtpmjopbgccajgaaGreat.Eng
namespace Go.Proofs.YtpmjopbgccajgaaGreat.Eng
open Go.RowKit
section
def findS:List Sr→Nat→Nat→Option (Nat×Sr)
 | [],_,_=>none
 |x::ss,j,r=>if r∈x.id then some (j,x)else findS ss (j+1) r
theorem findS_none:∀ {ss:List Sr} {j r:Nat},r∉srcIds ss→findS ss j r=none
 | [],_,_,_=>rfl
 |x::ss,j,r,h=>by
  simp only [srcIds,List.mem_append,not_or]at h
  simp only [findS,if_neg h.1]
  exact findS_none h.2
theorem mem_srcIds:∀ {ss:List Sr} {r:Nat},r∈srcIds ss↔∃(k:Nat) (x:Sr),ss[k]? =some x∧r∈x.id
 | [],r=>by simp [srcIds]
 |x::ss,r=>by
  simp only [srcIds,List.mem_append,mem_srcIds (ss:=ss)]
  constructor
  ·rintro (h|⟨k,y,h1,h2⟩)
   ·exact⟨0,x,rfl,h⟩
   ·exact⟨k+1,y,h1,h2⟩
  ·rintro ⟨k,y,h1,h2⟩
   cases k with
   |zero=>simp at h1;subst h1;exact .inl h2
   |succ k=>exact .inr ⟨k,y,h1,h2⟩
theorem findS_at:∀ {ss:List Sr} {j k r:Nat} {x:Sr},(srcIds ss).Nodup→ss[k]? =some x→r∈x.id→findS ss j r=some (j+k,x)
 | [],_,_,_,_,_,h,_=>by simp at h
 |y::ss,j,k,r,x,hn,h,hr=>by
  simp only [srcIds,List.nodup_append]at hn
  obtain⟨n1,n2,n3⟩:=hn
  cases k with
  |zero=>simp at h;subst h;simp [findS,hr]
  |succ k=>
   have hm:r∈srcIds ss:=mem_srcIds.2 ⟨k,x,h,hr⟩
   have hy:r∉y.id:=fun hy=>n3 r hy r hm rfl
   simp only [findS,if_neg hy]
   rw [findS_at n2 (by simpa using h) hr,show j+1+k=j+(k+1) by omega]
def inBox (G:Gh) (r b o f n:Nat):Prop:=∃O,(G.anch r).1=some ⟨b,O,none⟩∧∃j,j<n∧o=O+f+j
open Classical in
noncomputable def callLab (G:Gh) (R:List Root) (ss:List Sr) (ro:List Nat) (r s b o:Nat):Lab:=match findS ss 0 r with
 |none=>if r∈ro then .free else .hid
 |some (j,.row _)=> .of j s
 |some (j,.inn _ i f)=>match R[r]? with|some ⟨.row _ ts _,_,_⟩=>if s=i*ts.size+f+1 then .of j 0 else .hid|_=> .hid
 |some (j,.box _ f n)=>if inBox G r b o f n then .of j s else .hid
 |some (_,.nul)=> .hid
noncomputable def callG (G:Gh) (R:List Root) (ss:List Sr) (ro:List Nat):Gh:=⟨fun b o=>match G.own b o with| .of r s=>callLab G R ss ro r s b o|l=>l,G.anch⟩
theorem callLab_free {G:Gh} {R:List Root} {ss:List Sr} {ro:List Nat} {r s b o:Nat} (h:callLab G R ss ro r s b o= .free):r∈ro:=by
 unfold callLab at h
 split at h
 ·split at h
  ·assumption
  ·cases h
 ·cases h
 ·split at h
  ·split at h<;>cases h
  ·cases h
 ·split at h<;>cases h
 ·cases h
open Classical in
noncomputable def backG (G1 Gc Gl:Gh) (w:World) (T:Nat→Nat→Lab) (an:Nat→Option Addr×Nat):Gh:=
 ⟨fun b o=>if b<w.heap.size∧(Gc.own b o= .free∨Gc.own b o= .hid)then G1.own b o else match Gl.own b o with| .of j s=>T j s|l=>l,an⟩
section
variable {G1 Gc Gl:Gh} {w w':World} {T:Nat→Nat→Lab} {an:Nat→Option Addr×Nat}
open Classical in
theorem back_lk (hO:Out Gc w Gl w') (j s:Nat):Lk Gl w' (backG G1 Gc Gl w T an) w' (.of j s) (T j s):=fun b o hb e=>by
 refine⟨?_,rfl,rfl⟩
 show (if _ then _ else _)=_
 rw [if_neg]
 ·rw [e]
 ·rintro ⟨h1,h2|h2⟩
  ·have:=(hO.free b o h1 h2).1;rw [e]at this;cases this
  ·have:=(hO.hid b o h1 h2).1;rw [e]at this;cases this
open Classical in
theorem back_keep (hO:Out Gc w Gl w') {b o:Nat} (hb:b<w.heap.size) (h:Gc.own b o= .free∨Gc.own b o= .hid):
  (backG G1 Gc Gl w T an).own b o=G1.own b o∧at_ w' b o=at_ w b o∧fz w' b o=fz w b o:=by
 refine⟨if_pos ⟨hb,h⟩,?_⟩
 rcases h with h|h
 ·exact(hO.free b o hb h).2
 ·exact(hO.hid b o hb h).2
open Classical in
theorem back_same (hO:Out Gc w Gl w') {L:Lab} (h:∀b o,b<w.heap.size→G1.own b o=L→Gc.own b o= .free∨Gc.own b o= .hid):Lk G1 w (backG G1 Gc Gl w T an) w' L L:=fun b o hb e=>by
 obtain⟨h1,h2⟩:=back_keep (G1:=G1) (T:=T) (an:=an) hO hb (h b o hb e)
 exact⟨h1.trans e,h2⟩
end
def backL (R1:List Root):Sr→Nat→Lab
 | .row r,s=> .of r s
 | .inn r i f,_=>match R1[r]? with|some ⟨.row _ ts _,_,_⟩=> .of r (i*ts.size+f+1)|_=> .free
 |_,_=> .free
def boxL:AV→Nat→Lab
 | .bp r _,s=> .of r s
 |_,_=> .free
def oneL (R1:List Root) (tm:List AV) (m:Md) (t:Ty) (v:AV) (n:Nat):List (Nat→Lab):=match m.ptr with
 |true=>boxL v::(List.range (idsCells m.sm t)).map (fun i s=>Lab.of (n+i) s)
 |false=>(srcOne ⟨tm,R1⟩ m t v).map (backL R1)
def lentL (R1:List Root) (tm:List AV):List (Md×Ty×AV)→Nat→List (Nat→Lab)
 | [],_=>[]
 |(m,t,v)::vs,n=>match isLent m with
  |false=>lentL R1 tm vs n
  |true=>oneL R1 tm m t v n++lentL R1 tm vs (n+newIds m t)
def labAt (l:List (Nat→Lab)) (i s:Nat):Lab:=(l.getD i (fun _=> .free)) s
theorem labAt_left {l l':List (Nat→Lab)} {i s:Nat} (h:i<l.length):labAt (l++l') i s=labAt l i s:=by
 unfold labAt;rw [List.getD_eq_getElem?_getD,List.getElem?_append_left h,List.getD_eq_getElem?_getD]
theorem labAt_right {l l':List (Nat→Lab)} {i s:Nat}:labAt (l++l') (l.length+i) s=labAt l' i s:=by
 unfold labAt;rw [List.getD_eq_getElem?_getD,List.getElem?_append_right (by omega),List.getD_eq_getElem?_getD,show l.length+i-l.length=i by omega]
def SrcF (G1:Gh) (w:World) (G':Gh) (w':World) (R1:List Root):Sr→Prop
 | .row r=>G'.anch r=G1.anch r
 | .inn r i f=>G'.anch r=G1.anch r∧∀ts l ver a,R1[r]? =some ⟨.row true ts l,ver,a⟩→∀s,s≠i*ts.size+f+1→Lk G1 w G' w' (.of r s) (.of r s)
 |_=>True
theorem backLabs_of {G1 Gl G':Gh} {w w':World} {R1:List Root} {T:Nat→Nat→Lab} (hl:∀j s,Lk Gl w' G' w' (.of j s) (T j s)):∀(ss:List Sr) (j:Nat),(∀x∈ss,SrcF G1 w G' w' R1 x)→(∀i,i<ss.length→∀s,T (j+i) s=labAt (ss.map (backL R1)) i s)→BackLabs G1 w Gl G' w' R1 j ss
 | [],_,_,_=>trivial
 |x::ss,j,hx,hT=>by
  refine⟨?_,backLabs_of hl ss (j+1) (fun x h=>hx x (List.mem_cons_of_mem _ h)) (fun i hi s=> ?_)⟩
  ·have h0:=hT 0 (by simp)
   have hx0:=hx x (by simp)
   cases x with
   |row r=>
    refine⟨hx0,fun u=> ?_⟩
    have:=hl j u
    rw [show T j u= .of r u from h0 u]at this
    exact this
   |inn r i f=>
    refine⟨hx0.1,fun ts l ver a hq=>⟨?_,hx0.2 ts l ver a hq⟩⟩
    have:=hl j 0
    have e:T j 0= .of r (i*ts.size+f+1):=by
     have:=h0 0
     rw [show j+0=j from rfl]at this
     rw [this]
     show (match R1[r]? with|some ⟨.row _ ts _,_,_⟩=>Lab.of r (i*ts.size+f+1)|_=> .free)=_
     rw [hq]
    rw [e]at this
    exact this
   |_=>trivial
  ·have:=hT (i+1) (by simpa using hi) s
   rw [show j+1+i=j+(i+1) by omega,this]
   rfl
theorem backAll_of {G1 Gl G':Gh} {w w':World} {R0 R1:List Root} {tm:List AV} {T:Nat→Nat→Lab} (hl:∀j s,Lk Gl w' G' w' (.of j s) (T j s)):∀ {PT:Ty} {pm:List Md} {as:List AV} {x:PT.den} {j n:Nat},outAll ⟨tm,R0⟩ PT pm as=some x→
  (∀x∈srcAll ⟨tm,R1⟩ PT pm as,SrcF G1 w G' w' R1 x)→(∀i,i<(lentL R1 tm (withTys PT pm as) n).length→∀s,T (j+i) s=labAt (lentL R1 tm (withTys PT pm as) n) i s)→BackAll G1 w Gl G' w' R1 tm (withTys PT pm as) j n:=by
 intro PT
 induction PT with
 |nil=>
  intro pm as x j n hout _ _
  cases pm with
  |nil=>cases as with
   |nil=>trivial
   |cons _ _=>cases hout
  |cons _ _=>cases as<;>cases hout
 |cons t PT _ ih=>
  intro pm as x j n hout hS hT
  cases pm with
  |nil=>cases as<;>cases hout
  |cons m pm=>
   cases as with
   |nil=>cases hout
   |cons v as=>
    simp only [outAll]at hout
    split at hout
    ·rename_i x0 y0 ho1 ho2
     simp only [withTys,lentL]at hT
     simp only [withTys,BackAll]
     have hS2:∀x∈srcAll ⟨tm,R1⟩ PT pm as,SrcF G1 w G' w' R1 x:=fun x hx=>hS x (List.mem_append_right _ hx)
     cases hlm:isLent m with
     |false=>rw [hlm]at hT;exact ih ho2 hS2 hT
     |true=>
      rw [hlm]at hT
      simp only at hT ⊢
      have hlen:(oneL R1 tm m t v n).length=idsOne m t:=by
       unfold oneL
       cases hp:m.ptr with
       |true=>unfold idsOne;rw [hp];simp;omega
       |false=>simp only [List.length_map];exact srcLen_one ho1 hp R1
      refine⟨?_,ih ho2 hS2 (fun i hi s=> ?_)⟩
      ·have hT1:∀i,i<(oneL R1 tm m t v n).length→∀s,T (j+i) s=labAt (oneL R1 tm m t v n) i s:=fun i hi s=>by
        rw [hT i (by rw [List.length_append];omega) s,labAt_left hi]
       unfold BackOne
       cases hp:m.ptr with
       |true=>
        have e:oneL R1 tm m t v n=boxL v::(List.range (idsCells m.sm t)).map (fun i s=>Lab.of (n+i) s):=by unfold oneL;rw [hp]
        rw [e]at hT1
        refine⟨fun r f ev=> ?_,fun i hi=> ?_⟩
        ·have h0:=hT1 0 (by simp) 0
         subst ev
         have:=hl j 0
         rw [show T j 0= .of r 0 from h0]at this
         exact this
        ·have h1:∀s,T (j+1+i) s= .of (n+i) s:=fun s=>by
          have:=hT1 (i+1) (by simp [hi]) s
          rw [show j+1+i=j+(i+1) by omega,this]
          simp [labAt,List.getD_eq_getElem?_getD,hi]
         refine⟨rfl,rfl,?_,fun s=> ?_⟩
         ·have:=hl (j+1+i) 0
          rw [h1 0]at this;exact this
         ·have:=hl (j+1+i) (s+1)
          rw [h1 (s+1)]at this;exact this
       |false=>
        have e:oneL R1 tm m t v n=(srcOne ⟨tm,R1⟩ m t v).map (backL R1):=by unfold oneL;rw [hp]
        rw [e]at hT1
        exact backLabs_of hl _ _ (fun x hx=>hS x (List.mem_append_left _ hx)) (fun i hi s=>hT1 i (by simpa using hi) s)
      ·have:=hT (idsOne m t+i) (by rw [List.length_append,hlen];omega) s
       rw [show j+idsOne m t+i=j+(idsOne m t+i) by omega,this,←hlen,labAt_right]
    ·cases hout
 |_=>intro pm as x j n hout;cases pm<;>cases as<;>cases hout
def newT (soft:Bool) (n i:Nat):Nat→Lab
 |0=> .of (n+i) 0
 |s+1=>match soft with|true=> .free|false=> .of (n+i) (s+1)
theorem ren_of {soft:Bool} {Gl G':Gh} {w':World} {T:Nat→Nat→Lab} {j n i:Nat} (hl:∀j s,Lk Gl w' G' w' (.of j s) (T j s)) (h:∀s,T j s=newT soft n i s):Ren soft Gl w' G' (j,0) (n+i,0):=by
 refine⟨rfl,rfl,?_,?_⟩
 ·have:=hl j 0
  rw [h 0]at this;exact this
 ·cases soft with
  |true=>intro s;have:=hl j (s+1);rw [h (s+1)]at this;exact this
  |false=>intro s;have:=hl j (s+1);rw [h (s+1)]at this;exact this
theorem srcCell_row {R:List Root} {tm:List AV} {sm:Nat} {t:Ty} {v:AV} {x:t.den} (h:outCell ⟨tm,R⟩ sm t v=some x) {r:Nat} (hr:r∈rowIds (srcCell sm t v)):∃o ts l ver a,R[r]? =some ⟨.row o ts l,ver,a⟩:=by
 unfold srcCell at hr
 unfold outCell at h
 cases ho:isOwn sm t with
 |false=>rw [ho]at hr;cases hr
 |true=>
  rw [ho]at hr h
  have row1:∀(r':Nat),r∈rowIds [Sr.row r']→r=r':=fun r' h=>by simpa [rowIds]using h
  cases v with
  |sl r' a=>
   have e:=row1 r' hr
   subst e
   simp only at h
   split at h
   ·rename_i o ts l ver b hq;exact⟨o,ts,l,ver,b,hq⟩
   ·cases h
  |hd r' a n=>
   have e:=row1 r' hr
   subst e
   simp only at h
   split at h
   ·rename_i o ts l ver b hq;exact⟨o,ts,l,ver,b,hq⟩
   ·cases h
  |tl r' a n=>
   have e:=row1 r' hr
   subst e
   simp only at h
   split at h
   ·rename_i o ts l ver b hq;exact⟨o,ts,l,ver,b,hq⟩
   ·cases h
  |il r' s i f=>
   have e:r=r':=by simpa [rowIds]using hr
   subst e
   simp only at h
   split at h
   ·rename_i ts l ver b hq;exact⟨true,ts,l,ver,b,hq⟩
   ·cases h
  |_=>simp [rowIds]at hr
theorem srcCells_row {R:List Root} {tm:List AV} {sm:Nat}:∀ {ts:Ty} {a:AV} {x:ts.den},outCells ⟨tm,R⟩ sm ts a=some x→∀ {r:Nat},r∈rowIds (srcCells sm ts a)→∃o ts l ver a,R[r]? =some ⟨.row o ts l,ver,a⟩:=by
 intro ts
 induction ts with
 |cons t ts _ ih=>
  intro a x h r hr
  cases a with
  |cons v a=>
   simp only [outCells]at h
   split at h
   ·rename_i x0 y0 h1 h2
    simp only [srcCells,rowIds_append,List.mem_append]at hr
    rcases hr with hr|hr
    ·exact srcCell_row h1 hr
    ·exact ih h2 hr
   ·cases h
  |_=>cases h
 |_=>intro a x h r hr;cases a<;>cases hr
def BoxF (R:List Root) (r f n:Nat):Prop:=∃cs ss ver a,R[r]? =some ⟨.box cs ss,ver,a⟩∧(n=0∨f+n≤cs.length)
theorem src_one {R:List Root} {tm:List AV} {m:Md} {t:Ty} {v:AV} {x:t.den} (h:outOne ⟨tm,R⟩ m t v=some x):
  (∀r,r∈rowIds (srcOne ⟨tm,R⟩ m t v)→∃o ts l ver a,R[r]? =some ⟨.row o ts l,ver,a⟩)∧(∀r f n,Sr.box r f n∈srcOne ⟨tm,R⟩ m t v→BoxF R r f n):=by
 unfold outOne at h
 unfold srcOne
 cases hp:m.ptr with
 |true=>
  rw [hp]at h
  cases v with
  |bp r f=>
   simp only at h ⊢
   cases hbx:isBoxAt R r with
   |false=>rw [hbx]at h;cases h
   |true=>
    rw [hbx]at h
    simp only at h
    refine⟨fun r' hr=> ?_,fun r' f' n' hm=> ?_⟩
    ·simp only [rowIds]at hr;exact srcCells_row h hr
    ·rcases List.mem_cons.1 hm with e|hm
     ·cases e
      simp only [isBoxAt]at hbx
      split at hbx
      ·rename_i cs ss ver a hq
       refine⟨cs,ss,ver,a,hq,?_⟩
       have hlen:=outCells_len h
       have hbc:boxCells ⟨tm,R⟩ r f t.size=headAV t.size (dropAV f (.ofList cs)):=by simp [boxCells,hq]
       rw [hbc,len_box]at hlen
       omega
      ·cases hbx
     ·exact absurd rfl (srcCells_noBox hm r' f' n')
  |_=>cases h
 |false=>
  rw [hp]at h
  simp only at h ⊢
  cases hc:isCons t with
  |true=>
   rw [hc]at h
   cases v with
   |agg cs=>exact⟨fun r hr=>srcCells_row h hr,fun r f n hm=>absurd rfl (srcCells_noBox hm r f n)⟩
   |_=>cases h
  |false=>
   rw [hc]at h
   refine⟨fun r hr=>srcCell_row h hr,fun r f n hm=> ?_⟩
   unfold srcCell at hm
   simp only at hm
   split at hm
   ·cases hm
   ·cases v<;>simp at hm
theorem src_all {R:List Root} {tm:List AV}:∀ {PT:Ty} {pm:List Md} {as:List AV} {x:PT.den},outAll ⟨tm,R⟩ PT pm as=some x→
  (∀r,r∈rowIds (srcAll ⟨tm,R⟩ PT pm as)→∃o ts l ver a,R[r]? =some ⟨.row o ts l,ver,a⟩)∧(∀r f n,Sr.box r f n∈srcAll ⟨tm,R⟩ PT pm as→BoxF R r f n)∧(srcAll ⟨tm,R⟩ PT pm as).length=idsAll PT pm∧as.length=pm.length:=by
 intro PT
 induction PT with
 |nil=>
  intro pm as x h
  cases pm with
  |nil=>cases as with
   |nil=>exact⟨fun r hr=>(by cases hr),fun r f n hm=>(by cases hm),rfl,rfl⟩
   |cons _ _=>cases h
  |cons _ _=>cases as<;>cases h
 |cons t PT _ ih=>
  intro pm as x h
  cases pm with
  |nil=>cases as<;>cases h
  |cons m pm=>
   cases as with
   |nil=>cases h
   |cons v as=>
    simp only [outAll]at h
    split at h
    ·rename_i x0 y0 h1 h2
     obtain⟨a1,a2⟩:=src_one h1
     obtain⟨b1,b2,b3,b4⟩:=ih h2
     refine⟨fun r hr=> ?_,fun r f n hm=> ?_,?_,by simp [b4]⟩
     ·simp only [srcAll,rowIds_append,List.mem_append]at hr
      exact hr.elim (a1 r) (b1 r)
     ·simp only [srcAll,List.mem_append]at hm
      exact hm.elim (a2 r f n) (b2 r f n)
     ·simp only [srcAll,List.length_append,idsAll,srcOne_len h1,b3]
    ·cases h
 |_=>intro pm as x h;cases pm<;>cases as<;>cases h
theorem roCell_row {R:List Root} {tm:List AV} {sm:Nat} {t:Ty} {v:AV} {r:Nat} (h:r∈roCell ⟨tm,R⟩ sm t v):∃o ts l ver a,R[r]? =some ⟨.row o ts l,ver,a⟩:=by
 unfold roCell at h
 split at h
 ·cases h
 ·split at h<;>first|(cases h;done)|(split at h<;>first|(cases h;done)|(rename_i hq;rw [List.mem_singleton.1 h];exact⟨_,_,_,_,_,hq⟩))
theorem roCells_row {R:List Root} {tm:List AV} {sm:Nat}:∀ {ts:Ty} {a:AV} {r:Nat},r∈roCells ⟨tm,R⟩ sm ts a→∃o ts l ver a,R[r]? =some ⟨.row o ts l,ver,a⟩:=by
 intro ts
 induction ts with
 |cons t ts _ ih=>
  intro a r h
  cases a with
  |cons v a=>
   rcases List.mem_append.1 h with h|h
   ·exact roCell_row h
   ·exact ih h
  |_=>cases h
 |_=>intro a r h;cases a<;>cases h
theorem roOne_row {R:List Root} {tm:List AV} {m:Md} {t:Ty} {v:AV} {r:Nat} (h:r∈roOne ⟨tm,R⟩ m t v):∃o ts l ver a,R[r]? =some ⟨.row o ts l,ver,a⟩:=by
 unfold roOne at h
 split at h
 ·split at h
  ·exact roCells_row h
  ·cases h
 ·split at h
  ·split at h
   ·exact roCells_row h
   ·cases h
  ·exact roCell_row h
theorem roAll_row {R:List Root} {tm:List AV}:∀ {PT:Ty} {pm:List Md} {as:List AV} {r:Nat},r∈roAll ⟨tm,R⟩ PT pm as→∃o ts l ver a,R[r]? =some ⟨.row o ts l,ver,a⟩:=by
 intro PT
 induction PT with
 |cons t PT _ ih=>
  intro pm as r h
  cases pm with
  |nil=>cases as<;>cases h
  |cons m pm=>
   cases as with
   |nil=>cases h
   |cons v as=>
    rcases List.mem_append.1 h with h|h
    ·exact roOne_row h
    ·exact ih h
 |_=>intro pm as r h;cases pm<;>cases as<;>cases h
theorem srcAll_box {R R1:List Root} {tm:List AV} (hb:∀r f n,boxCells ⟨tm,R1⟩ r f n=boxCells ⟨tm,R⟩ r f n):∀ {PT:Ty} {pm:List Md} {as:List AV},srcAll ⟨tm,R1⟩ PT pm as=srcAll ⟨tm,R⟩ PT pm as:=by
 intro PT
 have one:∀(m:Md) (t:Ty) (v:AV),srcOne ⟨tm,R1⟩ m t v=srcOne ⟨tm,R⟩ m t v:=fun m t v=>by
  unfold srcOne
  cases m.ptr with
  |true=>cases v<;>simp [hb]
  |false=>rfl
 induction PT with
 |cons t PT _ ih=>
  intro pm as
  cases pm with
  |nil=>cases as<;>rfl
  |cons m pm=>cases as with
   |nil=>rfl
   |cons v as=>simp only [srcAll,one,ih]
 |_=>intro pm as;cases pm<;>cases as<;>rfl
theorem tgtL_of {G:Gh} {w:World} {R:List Root} {G':Gh}:∀ {ss:List Sr} {L:List (Nat×Nat)},(∀k x,ss[k]? =some x→Tgt G w R G' x (L.getD k (0,0)))→TgtL G w R G' ss L
 | [],_,_=>trivial
 |x::ss,L,h=>by
  refine⟨?_,tgtL_of (fun k y hk=> ?_)⟩
  ·rw [headD_getD];exact h 0 x rfl
  ·have:=h (k+1) y hk
   simp only [List.getD_eq_getElem?_getD,List.getElem?_drop]at this ⊢
   rw [Nat.add_comm 1 k];exact this
end
end Go.Proofs.YtpmjopbgccajgaaGreat.Eng
namespace Go.Proofs.YtpmjopbgccajgaaGreat.Eng
open Go.RowKit
section
variable {P:Program} {soft:Bool} {R:Type}
theorem eaten {G:Gh} {σ:St} {w:World} (hR:RelR G σ.roots w) (b:Bool) (ro:List Nat) (hrow:∀r∈ro,∀q,σ.roots[r]? =some q→isRowK q.k=true):
  ∃G1,RelR G1 (match b with|true=>eat false σ ro|false=>σ).roots w∧Evo G σ.roots w G1 (match b with|true=>eat false σ ro|false=>σ).roots w∧G1.anch=G.anch∧(∀p o r s,G1.own p o= .of r s→G.own p o= .of r s)∧
   (∀p o,G1.own p o= .free→G.own p o= .free∨∃r s,G.own p o= .of r s∧r∈ro)∧(∀p o,G1.own p o= .hid→G.own p o= .hid)∧(b=true→∀p o r s,G.own p o= .of r s→r∈ro→G1.own p o= .free)∧(∀p o,G.own p o= .free→G1.own p o= .free)∧
   (match b with|true=>eat false σ ro|false=>σ).tmps=σ.tmps∧(match b with|true=>eat false σ ro|false=>σ).roots.length=σ.roots.length∧(∀r,r∉ro→(match b with|true=>eat false σ ro|false=>σ).roots[r]? =σ.roots[r]?)∧
   (∀r f n,boxCells (match b with|true=>eat false σ ro|false=>σ) r f n=boxCells σ r f n):=by
 cases b with
 |false=>exact⟨G,hR,Evo.refl _ _ _,rfl,fun _ _ _ _ h=>h,fun _ _ h=> .inl h,fun _ _ h=>h,fun h=>(by cases h),fun _ _ h=>h,rfl,rfl,fun _ _=>rfl,fun _ _ _=>rfl⟩
 |true=>
  let τ:Nat→Nat→Lab:=fun r s=>if memN r ro then .free else .of r s
  obtain⟨h1,h2⟩:=eat_spec (own:=false) (rs:=ro) (τ:=τ) hR hrow (fun r hr s=>by
   have:memN r ro=false:=by
    cases e:memN r ro with
    |false=>rfl
    |true=>exact absurd (mem_memN.1 e) hr
   simp [τ,this]) (fun _ r hr s=>by simp [τ,mem_memN.2 hr])
  have key:∀p o,(relab G τ).own p o=match G.own p o with| .of r s=>if memN r ro then .free else .of r s|l=>l:=fun p o=>by
   simp only [relab]
   cases G.own p o<;>rfl
  refine⟨relab G τ,h1,h2,rfl,fun p o r s h=> ?_,fun p o h=> ?_,fun p o h=> ?_,fun _ p o r s h hr=> ?_,fun p o h=> ?_,eat_tmps _ _ _,eat_len _ _ _,fun r hr=> ?_,fun r f n=> ?_⟩
  ·rw [key]at h
   cases e:G.own p o with
   |of r' s'=>
    rw [e]at h
    simp only at h
    split at h
    ·cases h
    ·exact h
   |_=>rw [e]at h;cases h
  ·rw [key]at h
   cases e:G.own p o with
   |of r' s'=>
    rw [e]at h
    simp only at h
    split at h
    ·rename_i hm;exact .inr ⟨r',s',rfl,mem_memN.1 hm⟩
    ·cases h
   |free=>exact .inl rfl
   |hid=>rw [e]at h;cases h
  ·rw [key]at h
   cases e:G.own p o with
   |of r' s'=>
    rw [e]at h
    simp only at h
    split at h<;>cases h
   |free=>rw [e]at h;cases h
   |hid=>rfl
  ·rw [key,h]
   simp [mem_memN.2 hr]
  ·rw [key,h]
  ·simp only;rw [eat_get,if_neg hr]
  ·unfold boxCells
   simp only
   rw [eat_get]
   by_cases hr:r∈ro
   ·rw [if_pos hr]
    cases hq:σ.roots[r]? with
    |none=>rfl
    |some q=>
     have:=hrow r hr q hq
     obtain⟨k,ver,anc⟩:=q
     cases k with
     |row o ts l=>rfl
     |_=>cases this
   ·rw [if_neg hr]
open Classical in
theorem callSig0_ok {f:Nat} {g:Sig} (hF:FnOk P f g) {k:Nat} {as:List AV} {σ:St} {K:AV→St→Option R} {r:R} (h:callSig0 soft k g as σ K=some r):
  ∀(G:Gh) (w:World) (args:List Value),Inv G w→RelR G σ.roots w→args.length=as.length→(∀i,i<as.length→(avR G σ.roots w (as.getD i .undef)).1 (args.getD i undef))→
   Calls P f (args++fnVals g.fns).toArray w (fun| .returned x,w'=>∃v R' G',K v ⟨σ.tmps,R'⟩=some r∧RelR G' R' w'∧(avR G' R' w' v).1 x∧Evo G σ.roots w G' R' w'|_,_=>False):=by
 intro G w args hI hR hlen hv
 unfold callSig0 at h
 split at h
 case h_2=>cases h
 rename_i x hout
 obtain⟨hcond,h⟩:=chk_some h
 obtain⟨c1,c2⟩:=and2 hcond
 have c1:=nodup_nodupN.1 c1
 have c2:=apart_apartN.1 c2
 obtain⟨y,hy,h⟩:=Option.bind_eq_some_iff.1 h
 obtain⟨tm,Rs⟩:=σ
 obtain⟨s1,s2,s3,s4⟩:=src_all hout
 obtain⟨G1,hR1,hE1,hA1,f1,f2,f3,f4,f5,ht1,hl1,hr1,hbx1⟩:=eaten hR (hasRo g.res g.rm) (roAll ⟨tm,Rs⟩ g.params g.pm as) (fun r hr q hq=>by
  obtain⟨o,ts,l,ver,a,e⟩:=roAll_row hr
  rw [hq]at e;cases e;rfl)
 generalize hσ1:(match hasRo g.res g.rm with|true=>eat false ⟨tm,Rs⟩ (roAll ⟨tm,Rs⟩ g.params g.pm as)|false=>⟨tm,Rs⟩)=σ1 at hR1 hE1 ht1 hl1 hr1 hbx1
 have h:callBack soft (withTys g.params g.pm as) K σ1 g.n g.res y g.rm [] []=some r:=by rw [←hσ1];exact h
 obtain⟨tm1,R1⟩:=σ1
 simp only at ht1 hl1 hr1 hbx1 hR1 hE1
 have ht1:=ht1.symm
 subst ht1
 have hsrc1:srcAll ⟨tm,R1⟩ g.params g.pm as=srcAll ⟨tm,Rs⟩ g.params g.pm as:=srcAll_box hbx1
 generalize hro:roAll ⟨tm,Rs⟩ g.params g.pm as=ro at c2 f2 f4 hr1
 generalize hss:srcAll ⟨tm,Rs⟩ g.params g.pm as=ss at c1 c2 s1 s2 s3 hsrc1
 have hnro:∀r,r∈srcIds ss→r∉ro:=fun r h1 h2=>c2 r h2 h1
 have hfnd:∀(k:Nat) (x:Sr) (r:Nat),ss[k]? =some x→r∈x.id→findS ss 0 r=some (k,x):=fun k x r h1 h2=>by
  have:=findS_at (j:=0) c1 h1 h2
  rwa [Nat.zero_add]at this
 have hcfree:∀b o,G.own b o= .free→(callG G Rs ss ro).own b o= .free:=fun b o h=>by simp only [callG,h]
 have hchid:∀b o,G.own b o= .hid→(callG G Rs ss ro).own b o= .hid:=fun b o h=>by simp only [callG,h]
 have hcof:∀b o r s,G.own b o= .of r s→(callG G Rs ss ro).own b o=callLab G Rs ss ro r s b o:=fun b o r s h=>by simp only [callG,h]
 have hcro:∀b o r s,G.own b o= .of r s→r∈ro→(callG G Rs ss ro).own b o= .free:=fun b o r s h hr=>by
  rw [hcof b o r s h]
  unfold callLab
  rw [findS_none (fun h=>hnro r h hr)]
  simp [hr]
 have hcout:∀b o r s,G.own b o= .of r s→r∉srcIds ss→(callG G Rs ss ro).own b o= .free∨(callG G Rs ss ro).own b o= .hid:=fun b o r s h hr=>by
  rw [hcof b o r s h]
  unfold callLab
  rw [findS_none hr]
  simp only
  split
  ·exact .inl rfl
  ·exact .inr rfl
 have hall:hAll (callG G Rs ss ro) w g.params x g.pm args (labs 0 (idsAll g.params g.pm)):=by
  refine out_all (tm:=tm) hR (fun b o _ e=>⟨hcfree b o e,rfl,rfl⟩) hout hlen.symm hv (fun r hr s b o _ e=>⟨hcro b o r s e (hro▸hr),rfl,rfl⟩) ?_
  rw [hss]
  refine tgtL_of (fun k x hk=> ?_)
  have hlt:k<ss.length:=(List.getElem?_eq_some_iff.1 hk).1
  have hlab:(labs 0 (idsAll g.params g.pm)).getD k (0,0)=(k,0):=by
   have:=labs_consec 0 (idsAll g.params g.pm) k (by omega)
   rwa [Nat.zero_add]at this
  rw [hlab]
  cases x with
  |nul=>rfl
  |row r=>
   refine⟨rfl,fun s b o _ e=>⟨?_,rfl,rfl⟩⟩
   rw [hcof b o r s e]
   unfold callLab
   rw [hfnd k _ r hk (by simp [Sr.id])]
  |inn r i f=>
   intro o ts l v a hq b p _ e
   refine⟨?_,rfl,rfl⟩
   rw [hcof b p r _ e]
   unfold callLab
   rw [hfnd k _ r hk (by simp [Sr.id])]
   simp [hq]
  |box r f n=>
   refine⟨rfl,fun b o ha j hj _ e=> ?_⟩
   rw [hcof b _ r 0 e]
   unfold callLab
   rw [hfnd k _ r hk (by simp [Sr.id])]
   simp only
   rw [if_pos ⟨o,ha,j,hj,rfl⟩]
 refine(hF.2 k x y hy (callG G Rs ss ro) w args (hI.keep (fun b o _ e=>⟨hcfree b o e,rfl,rfl⟩)) hall).mono (fun e w' he=> ?_)
 cases e with
 |returned out=>
  obtain⟨outs,Gl,eout,hol,hall',hO⟩:=he
  obtain⟨ts2,y2,ms2,vals1,vals2,rv,N1,e1,e2,e3,e4,e5,e6,e7⟩:=cb_split g.n g.res y g.rm [] [] (outs++lentV g.pm args) 0 h hall'
  obtain⟨ev1,ev2⟩:=List.append_inj e1 (by rw [hol,e2])
  subst ev1;subst ev2
  simp only [List.nil_append,Nat.zero_add]at e4 e6
  unfold backEnd at e6
  split at e6
  case h_2=>cases e6
  rename_i ps N2 hback
  simp only [List.length_nil,Nat.add_zero]at e7
  let T:Nat→Nat→Lab:=fun j s=>if j<N1.length then newT soft R1.length j s else labAt (lentL R1 tm (withTys g.params g.pm as) (R1.length+N1.length)) (j-N1.length) s
  let GG:(Nat→Option Addr×Nat)→Gh:=fun an=>backG G1 (callG G Rs ss ro) Gl w T an
  have hlk:∀an j s,Lk Gl w' (GG an) w' (.of j s) (T j s):=fun an j s=>back_lk hO j s
  have hkeep:∀an L,(∀b o,b<w.heap.size→G1.own b o=L→(callG G Rs ss ro).own b o= .free∨(callG G Rs ss ro).own b o= .hid)→Lk G1 w (GG an) w' L L:=fun an L h=>back_same hO h
  have kfree:∀an,Lk G1 w (GG an) w' .free .free:=fun an=>hkeep an .free (fun b o _ e=>by
   rcases f2 b o e with h|⟨r,s,h,hr⟩
   ·exact .inl (hcfree b o h)
   ·exact .inl (hcro b o r s h hr))
  have khid:∀an,Lk G1 w (GG an) w' .hid .hid:=fun an=>hkeep an .hid (fun b o _ e=> .inr (hchid b o (f3 b o e)))
  have kout:∀an r,r∉srcIds ss→∀s,Lk G1 w (GG an) w' (.of r s) (.of r s):=fun an r hr s=>hkeep an _ (fun b o _ e=>hcout b o r s (f1 b o r s e) hr)
  have kro:∀an,hasRo g.res g.rm=true→Lk Gl w' (GG an) w' .free .free:=fun an hh b o hb e=>by
   refine⟨?_,rfl,rfl⟩
   show (if _ then _ else _)=_
   by_cases hc:b<w.heap.size∧((callG G Rs ss ro).own b o= .free∨(callG G Rs ss ro).own b o= .hid)
   ·rw [if_pos hc]
    obtain⟨h1,h2|h2⟩:=hc
    ·cases hg:G.own b o with
     |free=>exact f5 b o hg
     |hid=>rw [hchid b o hg]at h2;cases h2
     |of r s=>
      rw [hcof b o r s hg]at h2
      exact f4 hh b o r s hg (callLab_free h2)
    ·have:=(hO.hid b o h1 h2).1
     rw [e]at this;cases this
   ·rw [if_neg hc,e]
  have kinn:∀an (k r i f:Nat),ss[k]? =some (Sr.inn r i f)→∀ts l ver a,R1[r]? =some ⟨.row true ts l,ver,a⟩→∀s,s≠i*ts.size+f+1→Lk G1 w (GG an) w' (.of r s) (.of r s):=fun an k r i f hk ts l ver a hq s hs=>hkeep an _ (fun b o _ e=>by
   have hm:r∈srcIds ss:=mem_srcIds.2 ⟨k,_,hk,by simp [Sr.id]⟩
   rw [hr1 r (hnro r hm)]at hq
   rw [hcof b o r s (f1 b o r s e)]
   unfold callLab
   rw [hfnd k _ r hk (by simp [Sr.id])]
   simp [hq,hs])
  have kbox:∀an (k r f n:Nat),ss[k]? =some (Sr.box r f n)→∀b o,b<w.heap.size→G1.own b o= .of r 0→¬inBox G r b o f n→(GG an).own b o= .of r 0∧at_ w' b o=at_ w b o∧fz w' b o=fz w b o:=fun an k r f n hk b o hb e hn=>by
   have hc:(callG G Rs ss ro).own b o= .hid:=by
    rw [hcof b o r 0 (f1 b o r 0 e)]
    unfold callLab
    rw [hfnd k _ r hk (by simp [Sr.id])]
    simp only
    rw [if_neg hn]
   obtain⟨g1,g2⟩:=back_keep (G1:=G1) (T:=T) (an:=an) hO hb (.inr hc)
   exact⟨g1.trans e,g2⟩
  have hvR:∀i,i<as.length→(avR G1 R1 w (as.getD i .undef)).1 (args.getD i undef):=fun i hi=>(avR_evo hE1 _).1 _ (hv i hi)
  have hsrow:∀r∈rowIds ss,∃q,R1[r]? =some q∧∀cs ss,q.k≠ .box cs ss:=fun r hr=>by
   obtain⟨o,ts,l,ver,a,hq⟩:=s1 r hr
   refine⟨_,by rw [hr1 r (hnro r (rowIds_sub hr))];exact hq,fun cs ss e=>(by cases e)⟩
  have hback':∀an,(∀r,r<R1.length→an r=G1.anch r)→BackAll G1 w Gl (GG an) w' R1 tm (withTys g.params g.pm as) N1.length (R1.length+N1.length):=fun an han=>by
   refine backAll_of (R0:=Rs) (T:=T) (hlk an) hout (fun x hx=> ?_) (fun i hi s=> ?_)
   ·rw [hsrc1]at hx
    obtain⟨k,hk⟩:=List.mem_iff_getElem?.1 hx
    cases x with
    |row r=>
     obtain⟨q,hq,_⟩:=hsrow r (rowIds_mem.2 (.inl hx))
     exact han r (List.getElem?_eq_some_iff.1 hq).1
    |inn r i f=>
     obtain⟨q,hq,_⟩:=hsrow r (rowIds_mem.2 (.inr ⟨i,f,hx⟩))
     exact⟨han r (List.getElem?_eq_some_iff.1 hq).1,kinn an k r i f hk⟩
    |_=>trivial
   ·show (if _ then _ else _)=_
    rw [if_neg (by omega),Nat.add_sub_cancel_left]
  obtain⟨i2,_,_,_⟩:=all_back (Rf:=[]) hR1 (kfree G1.anch) hout hlen.symm hvR hback e4 (hback' G1.anch (fun _ _=>rfl)) (by rw [hsrc1];exact hsrow) (fun hh=>kro _ (e5 hh))
  have i1:=e7 (GG G1.anch) (kro _) (fun i hi=>by
   rw [Nat.zero_add]
   refine ren_of (T:=T) (hlk G1.anch) (fun s=> ?_)
   show (if _ then _ else _)=_
   rw [if_pos hi])
  obtain⟨k1,A,k2,k3⟩:=i1.append i2
  let an:Nat→Option Addr×Nat:=fun r=>if r<R1.length then G1.anch r else A.getD (r-R1.length) (none,0)
  have han:∀r,r<R1.length→an r=G1.anch r:=fun r hr=>if_pos hr
  obtain⟨Rf,hRf⟩:∃Rf,Rf=puts ps R1++(N1++N2):=⟨_,rfl⟩
  have hfin:∀j q,(N1++N2)[j]? =some q→Rf[R1.length+j]? =some q:=fun j q hq=>by
   rw [hRf,List.getElem?_append_right (by rw [puts_len];omega),puts_len,Nat.add_sub_cancel_left];exact hq
  obtain⟨g1,g2,g3⟩:=k3 an (fun j hj=>by
   show (if _ then _ else _)=_
   rw [if_neg (by omega),Nat.add_sub_cancel_left]) Rf hfin
  have hGG:(⟨(GG G1.anch).own,an⟩:Gh)=GG an:=rfl
  rw [hGG]at g1 g2 g3
  obtain⟨_,p1,p2,p3⟩:=all_back (Rf:=Rf) hR1 (kfree an) hout hlen.symm hvR hback e4 (hback' an han) (by rw [hsrc1];exact hsrow) (fun hh=>kro _ (e5 hh))
  rw [hsrc1]at p2 p3
  have hget:∀r q,R1[r]? =some q→Rf[r]? =some (putAt r ps q):=fun r q hq=>by
   have hlt:=(List.getElem?_eq_some_iff.1 hq).1
   rw [hRf,List.getElem?_append_left (by rw [puts_len];exact hlt),puts_get,hq];rfl
  have proot:∀r q',Put.root r q'∈ps→∃q,R1[r]? =some q∧(∀cs ss,q.k≠ .box cs ss)∧(∀cs ss,q'.k≠ .box cs ss)∧Chg G1 w (GG an) Rf w' r q q':=fun r q' hm=>by
   rcases p1 _ hm with⟨_,_,_,e⟩|⟨ids,r0,q0,q0',e,h1,h2,h3,_,h4⟩
   ·cases e
   ·cases e;exact⟨q0,h1,h2,h3,h4⟩
  obtain⟨m1,m2⟩:=chg_spec (G':=GG an) (Rf:=Rf) (w':=w') hR1 ⟨hO.os,hO.tape,hO.output,hO.size,kfree an,khid an⟩ (fun r q hq=>by
   have hlt:=(List.getElem?_eq_some_iff.1 hq).1
   refine⟨_,hget r q hq,?_⟩
   by_cases hrs:r∈srcIds ss
   ·obtain⟨k,z,hk,hz⟩:=mem_srcIds.1 hrs
    have hzm:z∈ss:=List.mem_of_getElem? hk
    have rowCase:r∈rowIds ss→(∃q',Put.root r q'∈ps)→Chg G1 w (GG an) Rf w' r q (putAt r ps q):=fun hrow hput=>by
     obtain⟨q0,hq0,hnb⟩:=hsrow r hrow
     rw [hq]at hq0;cases hq0
     rcases putAt_root ps q hnb (fun q' hm=>(proot r q' hm).choose_spec.2.2.1)with hm|⟨hm,_⟩
     ·obtain⟨q0,h1,_,_,h4⟩:=proot _ _ hm
      rw [hq]at h1;cases h1;exact h4
     ·obtain⟨q',hm'⟩:=hput;exact absurd hm' (hm q')
    cases z with
    |nul=>cases hz
    |row r'=>
     have e:r=r':=by simpa [Sr.id]using hz
     subst e
     exact rowCase (rowIds_mem.2 (.inl hzm)) (p2 _ hzm)
    |inn r' i f=>
     have e:r=r':=by simpa [Sr.id]using hz
     subst e
     exact rowCase (rowIds_mem.2 (.inr ⟨i,f,hzm⟩)) (p2 _ hzm)
    |box r' f n=>
     have e:r=r':=by simpa [Sr.id]using hz
     subst e
     obtain⟨cs,sts,ver,a,hqb,hfn⟩:=s2 r f n hzm
     rw [←hr1 r (hnro r hrs),hq]at hqb
     cases hqb
     have hro:=hR1 r _ hq
     obtain⟨hl0,b,o,ea,hcs⟩:=hro
     obtain⟨cs',ss',eput,l1,l2,hf⟩:=putAt_cells (r:=r) (ver:=ver) (anc:=a) ps cs sts hl0 (fun q' hm=>by
      obtain⟨q0,h1,h2,_⟩:=proot r q' hm
      rw [hq]at h1;cases h1;exact h2 _ _ rfl)
     rw [eput]
     refine .box cs cs' sts ss' rfl l1 l2 (han r hlt) (fun b' o' ea' f'=> ?_)
     rw [ea]at ea';cases ea'
     have hnin:¬(f≤f'∧f'<f+n)→¬inBox G r b (o+f') f n:=fun hn hin=>by
      obtain⟨O,h1,j,hj,e⟩:=hin
      rw [←hA1,ea]at h1;cases h1
      exact hn ⟨by omega,by omega⟩
     have hput:∀v,Put.cell r f' v∈ps→(GG an).own b (o+f')= .of r 0∧w'.frozen? ⟨b,o+f',none⟩=false∧∃val,at_ w' b (o+f')=some val∧(avR (GG an) Rf w' v).1 val:=fun v hm=>by
      obtain⟨b1,o1,val,d1,d2,d3,d4,d5⟩:=g3 r f' v hm
      rw [ea]at d1;cases d1
      exact⟨d2,d3,val,d4,d5⟩
     refine⟨fun hlt'=> ?_,?_⟩
     ·by_cases hin:f≤f'∧f'<f+n
      ·obtain⟨v,hm⟩:=p2 _ hzm (f'-f) (by omega)
       rw [show f+(f'-f)=f' by omega]at hm
       exact⟨(hput v hm).1,(hput v hm).2.1⟩
      ·obtain⟨d1,d2,v,d3,d4⟩:=hcs f' hlt'
       obtain⟨n1,n2,n3⟩:=kbox an k r f n hk b (o+f') (lt_of_at d3) d1 (hnin hin)
       exact⟨n1,(fz_fr n3).trans d2⟩
     ·rcases hf f' with⟨d1,d2,d3⟩|⟨d1,d2,d3⟩
      ·refine .inl ⟨d2,d1,fun ho hb=> ?_⟩
       by_cases hin:f≤f'∧f'<f+n
       ·exfalso
        obtain⟨v,hm⟩:=p2 _ hzm (f'-f) (by omega)
        rw [show f+(f'-f)=f' by omega]at hm
        exact d3 ⟨⟨v,hm⟩,by omega⟩
       ·obtain⟨n1,n2,_⟩:=kbox an k r f n hk b (o+f') hb ho (hnin hin)
        exact⟨n1,n2⟩
      ·exact .inr ⟨d2,(hput _ d3).2.2⟩
   ·rw [putAt_other (fun p hp e=>hrs (by have:=p3 p hp;rwa [e]at this))]
    exact .kept (fun _=>han r hlt) (fun _ _ s=>kout an r hrs s)) (fun r q hr hq=>by
   rw [hRf,List.getElem?_append_right (by rw [puts_len];exact hr),puts_len]at hq
   have:=g1 _ q hq
   rwa [show R1.length+(r-R1.length)=r by omega]at this)
  refine⟨tupAV rv,Rf,GG an,by rw [hRf];exact e6,m1,?_,hE1.trans m2⟩
  rw [eout]
  exact tup_av (by rw [e3,hol]) (fun i hi=>g2 i (by omega))
 |_=>exact he.elim
theorem callSig_ok {f:Nat} {g:Sig} (hF:FnOk P f g) {k:Nat} {as:List AV} {σ:St} {K:AV→St→Option R} {r:R} (h:callSig soft k g as σ K=some r):CallsTo P f as σ K r:=by
 intro G w args hI hR hl hv
 unfold callSig at h
 cases hfs:g.fns with
 |nil=>
  simp only [hfs]at h
  have:=callSig0_ok hF h G w args hI hR hl hv
  rw [hfs,show fnVals []=[]from rfl,List.append_nil]at this
  exact this
 |cons f0 fs=>
  simp only [hfs]at h
  obtain⟨h1,h2⟩:=chk_some h
  generalize g.pm.length=n at h1 h2
  have e:=isFns_vals (G:=G) (Rs:=σ.roots) (w:=w) (f0::fs) (as.drop n) (args.drop n) h1 (by simp [hl]) (fun i hi=>by
   rw [List.getD_eq_getElem?_getD,List.getElem?_drop,List.getD_eq_getElem?_getD,List.getElem?_drop]
   have:=hv (n+i) (by rw [List.length_drop]at hi;omega)
   rwa [List.getD_eq_getElem?_getD,List.getD_eq_getElem?_getD]at this)
  have:=callSig0_ok hF h2 G w (args.take n) hI hR (by simp [hl]) (fun i hi=>by
   rw [List.length_take]at hi
   rw [List.getD_eq_getElem?_getD,List.getElem?_take,if_pos (by omega),List.getD_eq_getElem?_getD,List.getElem?_take,if_pos (by omega)]
   have:=hv i (by omega)
   rwa [List.getD_eq_getElem?_getD,List.getD_eq_getElem?_getD]at this)
  rw [hfs,←e,List.take_append_drop]at this
  exact this
end
end Go.Proofs.YtpmjopbgccajgaaGreat.Eng
namespace Go.Proofs.YtpmjopbgccajgaaGreat.Eng
open Go.RowKit
def zerosB:List Value→Ty→Bool
 | [],.nil=>true
 | .bool b::vs,.cons .bool ts=> !b&&zerosB vs ts
 | .int j n::vs,.cons (.int k) ts=>decide (j=k)&&decide (n=0)&&zerosB vs ts
 | .string s::vs,.cons .str ts=>(match s.data.toList with| []=>true|_=>false)&&zerosB vs ts
 | .slice none l c::vs,.cons (.slice _) ts=>Nat.beq l 0&&Nat.beq c 0&&zerosB vs ts
 |_,_=>false
def fldsB (P:Program):List Field→List (Nat×Nat×Bool)→Bool
 | [],[]=>true
 |fl::fs,off::os=>Nat.beq fl.offset off.1&&(match P.info? fl.type with|some I=>Nat.beq I.size off.2.1&&Nat.blt 0 off.2.1|none=>false)&&(off.2.2||Nat.beq off.2.1 1)&&
   (match P.underlying fl.type with|some d=>aggD d==off.2.2|none=>false)&&fldsB P fs os
 |_,_=>false
def takeT:Nat→Ty→Ty
 |n+1,.cons t ts=> .cons t (takeT n ts)
 |_,_=> .nil
def dropT:Nat→Ty→Ty
 |n+1,.cons _ ts=>dropT n ts
 |_,ts=>ts
theorem catT_take:∀(n:Nat) (ts:Ty),catT (takeT n ts) (dropT n ts)=ts
 |0,ts=>rfl
 |n+1,.cons t ts=>by simp only [takeT,dropT,catT,catT_take n ts]
 |n+1,.nil=>rfl
 |n+1,.bool=>rfl
 |n+1,.int _=>rfl
 |n+1,.str=>rfl
 |n+1,.slice _=>rfl
def eqFB (P:Program):Nat→Ty→List Field→Nat→Bool
 |_,ts,[],_=>(match ts with| .nil=>true|_=>false)
 |0,_,_::_,_=>false
 |d+1,ts,f::fs,off=> !(f.name== "_")&&(Nat.beq f.offset off&&(match P.underlying f.type with
  |some .bool=>(match ts with| .cons .bool ts'=>eqFB P d ts' fs (off+1)|_=>false)
  |some (.int j)=>(match ts with| .cons (.int k) ts'=>decide (j=k)&&eqFB P d ts' fs (off+1)|_=>false)
  |some (.struct gs)=> !P.stoodInHeld f.type&&(match P.info? f.type with
   |some I=>Nat.beq I.size (takeT I.size ts).size&&(eqFB P d (takeT I.size ts) gs.toList 0&&eqFB P d (dropT I.size ts) fs (off+I.size))
   |none=>false)
  |_=>false))
def oneB' (i:TI) (d:TypeDesc):Bool:=match i.cells,d with
 | .cons .bool .nil,.bool=>true
 | .cons (.int k) .nil,.int j=>decide (j=k)
 | .cons (.slice _) .nil,.slice e=>Nat.beq e i.elem
 | .cons .str .nil,.string=>true
 |_,_=>false
def tyB (P:Program) (T:Nat) (i:TI):Bool:=
 (match P.info? T with|some I=>Nat.beq I.size i.cells.size&&Nat.ble I.bytes 512&&(match I.zero with|some z=>zerosB z.cells.toList i.cells|none=>false)|none=>false)&&
 (i.cells.flat&& !Nat.beq i.cells.size 0&&
 (match P.underlying T with
  |some d=>(aggD d==i.agg)&&(match i.agg with
   |true=>(match d with| .struct fs=>fldsB P fs.toList i.offs|_=>false)&&(!i.eq||(!P.stoodInHeld T&&(!P.eqGuardType P.depth T&&eqFB P 64 i.cells (P.fieldsOf T).toList 0)))
   |false=>Nat.beq i.cells.size 1&&i.offs.isEmpty&&oneB' i d)
  |none=>false))
def tabB (P:Program):List (Nat×TI)→Bool
 | []=>true
 |(T,i)::l=>tyB P T i&&tabB P l
theorem zerosB_ok:∀ {vs:List Value} {ts:Ty},zerosB vs ts=true→vs=zeroVals ts
 | [],.nil,_=>rfl
 | .bool b::vs,.cons .bool ts,h=>by
  simp only [zerosB,Bool.and_eq_true,Bool.not_eq_true']at h
  rw [h.1,zerosB_ok h.2];rfl
 | .int j n::vs,.cons (.int k) ts,h=>by
  simp only [zerosB,Bool.and_eq_true,decide_eq_true_eq]at h
  rw [h.1.1,h.1.2,zerosB_ok h.2];rfl
 | .string s::vs,.cons .str ts,h=>by
  simp only [zerosB,Bool.and_eq_true]at h
  have e:s=ByteArray.empty:=by
   have h1:=h.1
   split at h1
   ·rename_i hs
    apply ByteArray.ext
    apply Array.ext'
    rw [hs];rfl
   ·cases h1
  rw [e,zerosB_ok h.2];rfl
 | .slice none l c::vs,.cons (.slice _) ts,h=>by
  simp only [zerosB,Bool.and_eq_true]at h
  rw [Nat.eq_of_beq_eq_true h.1.1,Nat.eq_of_beq_eq_true h.1.2,zerosB_ok h.2];rfl
theorem fldsB_get {P:Program}:∀ {fs:List Field} {os:List (Nat×Nat×Bool)},fldsB P fs os=true→∀(f:Nat) off,os[f]? =some off→∃fl:Field,fs[f]? =some fl∧fl.offset=off.1∧(∃I,P.info? fl.type=some I∧I.size=off.2.1∧0<off.2.1)∧
  (off.2.2=false→off.2.1=1)∧∃d,P.underlying fl.type=some d∧aggD d=off.2.2
 | [],[],_,f,off,h=>by simp at h
 |fl::fs,o::os,h,f,off,hf=>by
  simp only [fldsB,Bool.and_eq_true]at h
  obtain⟨⟨⟨⟨h1,h2⟩,h3⟩,h4⟩,h5⟩:=h
  cases f with
  |zero=>
   simp at hf;subst hf
   refine⟨fl,rfl,Nat.eq_of_beq_eq_true h1,?_,fun e=> ?_,?_⟩
   ·split at h2
    ·rename_i I hI
     obtain⟨a,b⟩:=Bool.and_eq_true_iff.1 h2
     exact⟨I,hI,Nat.eq_of_beq_eq_true a,Nat.le_of_ble_eq_true b⟩
    ·cases h2
   ·rw [e]at h3;exact Nat.eq_of_beq_eq_true (by simpa using h3)
   ·split at h4
    ·rename_i d hd;exact⟨d,hd,eq_of_beq h4⟩
    ·cases h4
  |succ f=>exact fldsB_get h5 f off (by simpa using hf)
theorem fldsB_map {P:Program}:∀ {fs:List Field} {os:List (Nat×Nat×Bool)},fldsB P fs os=true→fs.mapM (fun f=>(P.info? f.type).map fun j=>(f.offset,j.size))=some (os.map fun o=>(o.1,o.2.1))
 | [],[],_=>rfl
 |fl::fs,o::os,h=>by
  simp only [fldsB,Bool.and_eq_true]at h
  obtain⟨⟨⟨⟨h1,h2⟩,h3⟩,h4⟩,h5⟩:=h
  have ih:=fldsB_map h5
  split at h2
  ·rename_i I hI
   obtain⟨a,b⟩:=Bool.and_eq_true_iff.1 h2
   simp only [List.mapM_cons,ih,hI,List.map_cons]
   simp only [Option.map_some,Nat.eq_of_beq_eq_true h1,Nat.eq_of_beq_eq_true a];rfl
  ·cases h2
theorem eqFB_ok {P:Program}:∀ {d:Nat} {ts:Ty} {fs:List Field} {off:Nat},eqFB P d ts fs off=true→eqF P d ts fs off:=by
 intro d
 induction d with
 |zero=>
  intro ts fs off h
  cases fs with
  |nil=>cases ts<;>first|rfl|cases h
  |cons f fs=>cases h
 |succ d ih=>
  intro ts fs off h
  cases fs with
  |nil=>cases ts<;>first|rfl|cases h
  |cons f fs=>
   simp only [eqFB,Bool.and_eq_true]at h
   obtain⟨h1,h2,h3⟩:=h
   refine⟨by simpa using h1,Nat.eq_of_beq_eq_true h2,?_⟩
   split at h3
   ·rename_i hu
    split at h3
    ·exact .inl ⟨_,_,rfl,.inl ⟨rfl,hu⟩,ih h3⟩
    ·cases h3
   ·rename_i j hu
    split at h3
    ·obtain⟨e,h4⟩:=Bool.and_eq_true_iff.1 h3
     exact .inl ⟨_,_,rfl,.inr ⟨_,rfl,by rw [hu,of_decide_eq_true e]⟩,ih h4⟩
    ·cases h3
   ·rename_i gs hu
    obtain⟨hs,h4⟩:=Bool.and_eq_true_iff.1 h3
    have hg:P.fieldsOf f.type=gs:=by simp [Program.fieldsOf,hu]
    split at h4
    ·rename_i I hI
     obtain⟨h5,h6⟩:=Bool.and_eq_true_iff.1 h4
     obtain⟨h7,h8⟩:=Bool.and_eq_true_iff.1 h6
     have h5:=Nat.eq_of_beq_eq_true h5
     refine .inr ⟨takeT I.size ts,dropT I.size ts,I,(catT_take _ _).symm,by rw [hg];exact hu,by simpa using hs,hI,h5,by rw [hg];exact ih h7,?_⟩
     rw [←h5];exact ih h8
    ·cases h4
   ·cases h3
theorem tyB_ok {P:Program} {T:Nat} {i:TI} (h:tyB P T i=true):TyOk P T i:=by
 unfold tyB at h
 obtain⟨h1,h⟩:=Bool.and_eq_true_iff.1 h
 obtain⟨h23,h⟩:=Bool.and_eq_true_iff.1 h
 obtain⟨h2,h3⟩:=Bool.and_eq_true_iff.1 h23
 split at h1
 case h_2=>cases h1
 rename_i I hI
 obtain⟨h11,h12⟩:=Bool.and_eq_true_iff.1 h1
 obtain⟨ha,hb⟩:=Bool.and_eq_true_iff.1 h11
 split at h12
 case h_2=>cases h12
 rename_i z hz
 have hzc:=zerosB_ok h12
 split at h
 case h_2=>cases h
 rename_i d hd
 obtain⟨h4,h⟩:=Bool.and_eq_true_iff.1 h
 have h4:=eq_of_beq h4
 have hinfo:∃I,P.info? T=some I∧I.size=i.cells.size∧I.bytes≤512:=⟨I,hI,Nat.eq_of_beq_eq_true ha,Nat.le_of_ble_eq_true hb⟩
 have hzero:∃I z,P.info? T=some I∧I.zero=some z∧z.cells=(zeroVals i.cells).toArray:=⟨I,z,hI,hz,by rw [←hzc]⟩
 have hpos:i.cells.size≠0:=fun e=>by rw [e]at h3;cases h3
 cases hag:i.agg with
 |true=>
  rw [hag]at h
  simp only at h
  obtain⟨h5,h6⟩:=Bool.and_eq_true_iff.1 h
  obtain⟨fs,hfs⟩:∃fs,d= .struct fs:=by cases d<;>first|exact⟨_,rfl⟩|(simp at h5;done)
  subst hfs
  simp only at h5
  refine { info:=hinfo,zero:=hzero,flat:=h2,pos:=hpos,und:=⟨_,hd,h4⟩,offs:=fun f off hf=> ?_,bool:=fun e=> ?_,int:=fun k e=> ?_,str:=fun e=> ?_,one:=fun e=> ?_,slice:=fun us e=> ?_,places:=fun _=>⟨fs,hd,fldsB_map h5⟩,eq:=fun _ he=> ?_ }
  ·obtain⟨fl,g1,g2⟩:=fldsB_get h5 f off hf
   exact⟨fs,hd,fl,by rw [←g1];simp,g2⟩
  ·rw [hag]at e;cases e
  ·rw [hag]at e;cases e
  ·rw [hag]at e;cases e
  ·rw [hag]at e;cases e
  ·rw [hag]at e;cases e
  ·rw [he]at h6
   simp only [Bool.not_true,Bool.false_or,Bool.and_eq_true,Bool.not_eq_true']at h6
   refine⟨?_,h6.1,h6.2.1,eqFB_ok h6.2.2⟩
   rw [hd]
   simp [Program.fieldsOf,hd]
 |false=>
  rw [hag]at h
  simp only [Bool.and_eq_true]at h
  obtain⟨⟨h5,h6⟩,h7⟩:=h
  refine { info:=hinfo,zero:=hzero,flat:=h2,pos:=hpos,und:=⟨_,hd,h4⟩,offs:=fun f off hf=> ?_,bool:=fun _ e=> ?_,int:=fun k _ e=> ?_,str:=fun _ e=> ?_,one:=fun _=>Nat.eq_of_beq_eq_true h5,slice:=fun us _ e=> ?_,places:=fun e=> ?_,eq:=fun e=> ?_ }
  ·rw [List.isEmpty_iff.1 h6]at hf;simp at hf
  ·unfold oneB' at h7
   rw [e]at h7
   cases d<;>first|exact hd|(simp at h7;done)
  ·unfold oneB' at h7
   rw [e]at h7
   cases d<;>first|(rw [hd,of_decide_eq_true h7];done)|(simp at h7;done)
  ·unfold oneB' at h7
   rw [e]at h7
   cases d<;>first|exact hd|(simp at h7;done)
  ·unfold oneB' at h7
   rw [e]at h7
   cases d<;>first|(rw [hd,Nat.eq_of_beq_eq_true h7];done)|(simp at h7;done)
  ·rw [hag]at e;cases e
  ·rw [hag]at e;cases e
theorem tabB_ok {P:Program}:∀ {tab:List (Nat×TI)},tabB P tab=true→TabOk P tab
 | [],_=>fun T i h=>by cases h
 |(T,i)::l,h=>fun T' i' h'=>by
  obtain⟨h1,h2⟩:=Bool.and_eq_true_iff.1 h
  simp only [look]at h'
  split at h'
  ·rename_i hb
   cases h'
   rw [←Nat.eq_of_beq_eq_true hb]
   exact tyB_ok h1
  ·exact tabB_ok h2 T' i' h'
end Go.Proofs.YtpmjopbgccajgaaGreat.Eng
namespace Go.Proofs.YtpmjopbgccajgaaGreat.Eng
open Go.RowKit
def GOk (P:Program):List (Nat×Ent)→Prop
 | []=>True
 |(f,e)::l=>(match e with| .sig g=>FnOk P f g| .inl fn H=>P.funcs[f]? =some fn∧(fn.name== "runtime.NumGoroutine")=false)∧GOk P l
theorem GOk.get {P:Program}:∀ {Γ:List (Nat×Ent)},GOk P Γ→∀f e,look Γ f=some e→(match e with| .sig g=>FnOk P f g| .inl fn H=>P.funcs[f]? =some fn∧(fn.name== "runtime.NumGoroutine")=false)
 | [],_,f,e,h=>by cases h
 |(f',e')::l,⟨h1,h2⟩,f,e,h=>by
  simp only [look]at h
  split at h
  ·rename_i hb
   cases h
   rw [←beq_nat hb];exact h1
  ·exact GOk.get h2 f e h
theorem fn_ok {P:Program} {tab:List (Nat×TI)} {soft:Bool} {Γ:List (Nat×Ent)} {fid:Nat} {fn:Func} {g:Sig} {H:List Hint} (heq:∀k x,evFn tab soft Γ H fn g k x=g.f k x) (hfn:P.funcs[fid]? =some fn) (hT:TabOk P tab) (hm:P.follows .mixedOrders=true) (hnm:(fn.name== "runtime.NumGoroutine")=false)
  (hb:fn.body.isSome=true) (hG:GOk P Γ):FnOk P fid g:=by
 obtain⟨c,hc⟩:=Option.isSome_iff_exists.1 hb
 refine evFn_ok hT hm (fun f e h=> ?_) (fun R f g h k as σ K r hk=> ?_) hfn hnm hc heq
 ·have:=hG.get f e h
  cases e with
  |sig g=>exact this.1
  |inl fn H=>exact this
 ·exact callSig_ok (hG.get f _ h) hk
theorem rec_ok {P:Program} {fid:Nat} {g:Sig} {F:Nat→Nat→g.params.den→Option g.res.den} (h0:∀k x,F 0 k x=none) (hHas:FnHas P fid) (hs:∀n,FnOk P fid (g.re (F n))→FnOk P fid (g.re (F (n+1)))):FnOk P fid (g.re fun k x=>F k k x):=by
 have key:∀n,FnOk P fid (g.re (F n)):=by
  intro n
  induction n with
  |zero=>exact⟨hHas,fun k x y h=>by rw [show (g.re (F 0)).f k x=none from h0 k x]at h;cases h⟩
  |succ n ih=>exact hs n ih
 exact⟨hHas,fun k x y h=>(key k).2 k x y h⟩
end Go.Proofs.YtpmjopbgccajgaaGreat.Eng
namespace Go.Proofs.YtpmjopbgccajgaaGreat.Eng
open Go.RowKit
theorem sortL_len (l:List (Int×Unit)):(sortL l).length=l.length:=by simp [sortL]
theorem sort_ok {P:Program} {f:Nat} (hHas:FnHas P f)
  (hS:∀(blk off cap:Nat) (zs:List Int) (w:World),Go.Sort.Holds (Value.int .i64) w blk off zs.toArray→blk<w.heap.size→zs.length<4611686018427387904→Calls P f #[.slice (some ⟨blk,off,none⟩) zs.length cap] w fun e w'=>
   e= .returned (.tuple #[])∧∃n os,w'=Go.Sort.grow (Go.Sort.putRow (Value.int .i64) (Go.Sort.ahead w n) blk off (zs.mergeSort fun x y=>decide (x≤y)).toArray) os)
  (hE:∀(p:Option Addr) (cap:Nat) (w:World),Calls P f #[.slice p 0 cap] w fun e w'=>e= .returned (.tuple #[])∧w'=w):FnOk P f sortSig:=by
 refine⟨hHas,fun k x y hy G w vals _ hall=> ?_⟩
 rw [show fnVals sortSig.fns=[]from rfl,List.append_nil]
 obtain⟨l,u⟩:=x
 change List (Int×Unit)at l
 have hy:sortI k l=some y:=hy
 unfold sortI at hy
 split at hy
 case isFalse=>cases hy
 rename_i hsz
 cases hy
 cases vals with
 |nil=>exact hall.elim
 |cons v vals=>
  cases vals with
  |cons _ _=>exact hall.2.elim
  |nil=>
   obtain⟨a,c,ev,hrow,_⟩:∃a c,v= .slice a (List.length l) c∧rowG G w (flatV (vw G w)) (.of 0 0) (.cons (.int .i64) .nil) l a c∧(false=true→(0:Nat)=0):=hall.1
   have hrow0:=hrow
   obtain⟨hlc,hrow⟩:=hrow
   have hlc:l.length≤c:=hlc
   have fin:∀(G':Gh) (w':World),rowG G' w' (flatV (vw G' w')) (.of 0 0) (.cons (.int .i64) .nil) (sortL l) a c→hAll G' w' sortSig.res (sortL l,()) sortSig.rm ([]++lentV sortSig.pm [v]) (labs 0 (idsAll sortSig.res sortSig.rm)):=fun G' w' h=>⟨⟨a,c,by rw [ev];show Value.slice a (List.length l) c=Value.slice a (List.length (sortL l)) c;rw [sortL_len],h,fun e=>by cases e⟩,trivial⟩
   cases hl:l with
   |nil=>
    have hc0:Calls P f #[v] w fun e w'=>e= .returned (.tuple #[])∧w'=w:=by rw [ev,hl];exact hE a c w
    refine hc0.mono ?_
    rintro e w' ⟨e1,e2⟩
    subst e1;subst e2
    have hs:sortL []=[]:=by simp [sortL]
    refine⟨[],G,rfl,rfl,?_,Out.refl _ _⟩
    have:=fin G w' (by rw [hl,hs];rw [hl]at hrow0;exact hrow0)
    rw [hl]at this;exact this
   |cons z zs=>
    have hpos:0<l.length:=by rw [hl];simp
    rcases hrow with h0|⟨b,o,ea,h1,h2⟩
    ·omega
    ·rw [←hl]
     have h2:∀i,i<l.length→elG (at_ w) (flatV (vw G w)) (.cons (.int .i64) .nil) (rd (.cons (.int .i64) .nil) l i) b (o+i*(Ty.cons (.int .i64) .nil).size) (i*(Ty.cons (.int .i64) .nil).size):=h2
     have hel:∀i,i<l.length→at_ w b (o+i)=some (.int .i64 (l.getD i (0,())).1):=fun i hi=>by
      obtain⟨⟨v',e1,e2⟩,_⟩:=h2 i hi
      have e2:v'= .int .i64 (rd (.cons (.int .i64) .nil) l i).1:=e2
      rw [show i*(Ty.cons (.int .i64) .nil).size=i by simp [Ty.size]]at e1
      rw [e1,e2];rfl
     have hcell:∀j,j<c→G.own b (o+j)= .of 0 0∧w.frozen? ⟨b,o+j,none⟩=false∧(at_ w b (o+j)).isSome=true:=fun j hj=>h1 j (by simpa [Ty.size]using hj)
     have hblt:b<w.heap.size:=lt_of_at (hel 0 hpos)
     have hH:Go.Sort.Holds (Value.int .i64) w b o (l.map Prod.fst).toArray:=fun j hj=>by
      have hj':j<l.length:=by simpa using hj
      refine⟨?_,(hcell j (by omega)).2.1⟩
      have:=hel j hj'
      rw [show w.cell? ⟨b,o+j,none⟩=at_ w b (o+j)from rfl,this]
      simp [List.getD_eq_getElem?_getD,hj',getElem!_pos]
     have hS':=hS b o c (l.map Prod.fst) w hH hblt (by simpa using hsz)
     rw [List.length_map,←ea]at hS'
     have ev2:([v]:List Value).toArray= #[.slice a l.length c]:=by rw [ev]
     rw [←ev2]at hS'
     refine hS'.mono ?_
     rintro e w' ⟨e1,q,os,ew⟩
     subst e1
     generalize hd:((l.map Prod.fst).mergeSort fun x y=>decide (x≤y))=d at ew
     have hdl:d.length=l.length:=by rw [←hd];simp
     have hwsz:(Go.Sort.putRow (Value.int .i64) (Go.Sort.ahead w q) b o d.toArray).heap.size=w.heap.size:=by simp [Go.Sort.putRow,Go.Sort.mapBlock,Go.Sort.ahead]
     have hsz':w'.heap.size=w.heap.size+os.size:=by rw [ew,Go.Sort.size_grow,hwsz]
     have hblk:∀k,k<w.heap.size→w'.heap[k]? =if k=b then(w.heap[b]?).map (Go.Sort.onCells (Go.Sort.putCells (Value.int .i64) o d.toArray))else w.heap[k]? :=fun k hk=>by
      rw [ew,Go.Sort.heap_grow_old _ _ (by rw [hwsz];exact hk)]
      simp only [Go.Sort.putRow,Go.Sort.mapBlock,Go.Sort.ahead,Array.getElem?_modify]
      by_cases e:b=k
      ·subst e;simp
      ·rw [if_neg e,if_neg (Ne.symm e)]
     have hshp:∀k,k<w.heap.size→shp w' k=shp w k:=fun k hk=>by
      unfold shp
      rw [hblk k hk]
      split
      ·rename_i e
       subst e
       cases w.heap[k]? with
       |none=>rfl
       |some x=>cases x<;>simp [Go.Sort.onCells,shpO,Go.Sort.putCells]
      ·rfl
     have hfr:∀k p,k<w.heap.size→w'.frozen? ⟨k,p,none⟩=w.frozen? ⟨k,p,none⟩:=fun k p hk=>by
      unfold World.frozen?
      simp only [hblk k hk]
      by_cases e:k=b
      ·subst e
       rw [if_pos rfl]
       cases w.heap[k]? with
       |none=>rfl
       |some x=>cases x<;>simp [Go.Sort.onCells]
      ·rw [if_neg e]
     have hfz:∀k p,k<w.heap.size→fz w' k p=fz w k p:=fun k p hk=>by unfold fz;rw [hfr k p hk,hshp k hk]
     have hat:∀k p,k<w.heap.size→¬(k=b∧o≤p∧p<o+d.length)→at_ w' k p=at_ w k p:=fun k p hk hn=>by
      unfold at_ World.cell?
      simp only [hblk k hk]
      by_cases e:k=b
      ·subst e
       rw [if_pos rfl]
       cases hw:w.heap[k]? with
       |none=>simp
       |some x=>
        cases x with
        |cells cs t fr=>
         simp only [Option.map_some,Go.Sort.onCells,Go.Sort.putCells,Array.getElem?_mapIdx,Option.isSome_none,Bool.false_eq_true,if_false]
         cases hc:cs[p]? with
         |none=>rfl
         |some z=>simp only [Option.map_some,List.size_toArray];rw [if_neg (fun h=>hn ⟨rfl,h⟩)]
        |_=>rfl
      ·rw [if_neg e]
     have hat2:∀j,j<l.length→at_ w' b (o+j)=some (.int .i64 (d.getD j 0)):=fun j hj=>by
      have h0:=hel j hj
      unfold at_ World.cell? at h0 ⊢
      simp only at h0 ⊢
      rw [hblk b hblt,if_pos rfl]
      cases hw:w.heap[b]? with
      |none=>rw [hw]at h0;cases h0
      |some x=>
       rw [hw]at h0
       cases x with
       |cells cs t fr=>
        simp only [Option.isSome_none,Bool.false_eq_true,if_false]at h0
        simp only [Option.map_some,Go.Sort.onCells,Go.Sort.putCells,Array.getElem?_mapIdx,Option.isSome_none,Bool.false_eq_true,if_false,h0,List.size_toArray]
        rw [if_pos ⟨by omega,by omega⟩]
        have hj':j<d.length:=by omega
        simp [List.getD_eq_getElem?_getD,hj',getElem!_pos]
       |_=>cases h0
     let G':Gh:=⟨fun b o=>if b<w.heap.size then G.own b o else .hid,G.anch⟩
     have hlk:∀L,L≠ .of 0 0→Lk G w G' w' L L:=fun L hL b' o' hb' e=>by
      refine⟨by show (if _ then _ else _)=_;rw [if_pos hb'];exact e,hat b' o' hb' (fun ⟨e1,e2,e3⟩=> ?_),hfz b' o' hb'⟩
      subst e1
      have:=(hcell (o'-o) (by omega)).1
      rw [show o+(o'-o)=o' by omega,e]at this
      exact hL this
     have hsl:sortL l=d.map fun x=>(x,()):=by unfold sortL;rw [hd]
     have:=fin G' w' ⟨by show (sortL l).length≤c;rw [sortL_len l];exact hlc,.inr ⟨b,o,ea,fun j hj=> ?_,fun i hi=> ?_⟩⟩
     ·refine⟨[],G',rfl,rfl,this,⟨?_,?_,?_,by omega,hlk _ (fun e=>by cases e),hlk _ (fun e=>by cases e)⟩⟩
      ·rw [ew];rfl
      ·rw [ew];rfl
      ·rw [ew];rfl
     ·have hj:j<c:=by simpa [Ty.size]using hj
      obtain⟨c1,c2,c3⟩:=hcell j hj
      refine⟨by show (if _ then _ else _)=_;rw [if_pos hblt];exact c1,by rw [hfr b _ hblt];exact c2,?_⟩
      by_cases hjl:j<l.length
      ·rw [hat2 j hjl];rfl
      ·rw [hat b _ hblt (fun h=>by omega)];exact c3
     ·have hi:i<(sortL l).length:=hi
      rw [sortL_len]at hi
      rw [show i*(Ty.cons (.int .i64) .nil).size=i by simp [Ty.size]]
      refine⟨⟨_,hat2 i hi,?_⟩,trivial⟩
      have hi':i<d.length:=by omega
      have e0:∀z:Int×Unit,(d.map fun x=>(x,())).getD i z=(d[i],()):=fun z=>by
       rw [List.getD_eq_getElem?_getD,List.getElem?_map,List.getElem?_eq_getElem hi'];rfl
      show Value.int .i64 (d.getD i 0)= .int .i64 ((sortL l).getD i ((0:Int),())).1
      rw [hsl,e0,List.getD_eq_getElem?_getD,List.getElem?_eq_getElem hi'];rfl
end Go.Proofs.YtpmjopbgccajgaaGreat.Eng
namespace Go.Proofs.YtpmjopbgccajgaaGreat.Eng
open Go.RowKit Go.ChangeShapes Go.WideShapes
def Wf:(t:Ty)→t.den→Prop
 | .bool=>fun _=>True
 | .int k=>fun n=>(Lit.int k n).wf=true
 | .str=>fun s=>ByteArray.size s≤maxLen
 | .slice ts=>fun (l:List ts.den)=>l.length≤maxLen∧∀x∈l,Wf ts x
 | .nil=>fun _=>True
 | .cons t ts=>fun x=>Wf t x.1∧Wf ts x.2
def readC (u:Nat→Nat→Option Value):(ts:Ty)→ts.den→List Value→Prop
 | .nil,_,vs=>vs=[]
 | .cons t ts,x,vs=>∃v vs',vs=v::vs'∧(ro u t).1 x.1 v∧readC u ts x.2 vs'
 |_,_,_=>False
theorem readC_row {u:Nat→Nat→Option Value}:∀ {ts:Ty} {x:ts.den} {vs:List Value} {b o:Nat},readC u ts x vs→(∀i v,vs[i]? =some v→u b (o+i)=some v)→(ro u ts).2 x b o
 | .nil,_,_,_,_,_,_=>trivial
 | .cons t ts,x,vs,b,o,⟨v,vs',e,h1,h2⟩,h=>by
  subst e
  refine⟨⟨v,h 0 v rfl,h1⟩,readC_row h2 (fun i v' hi=> ?_)⟩
  have:=h (i+1) v' hi
  rwa [show o+(i+1)=o+1+i by omega]at this
 | .bool,_,_,_,_,h,_=>h.elim
 | .int _,_,_,_,_,h,_=>h.elim
 | .str,_,_,_,_,h,_=>h.elim
 | .slice _,_,_,_,_,h,_=>h.elim
structure OpE (P:Program) (T:Nat) (ts:Ty):Prop where
 sz:P.cellsOf T=ts.size
 op:∀ {H:Type} {enc:TypeId×Value→H} {w:World} {base:Nat} {spare:Nat→Bool} {held:Bool} {fuel:Nat} {cs:List Value} {x:DataW H×List MemPlace},
  DataW.trod enc P w base spare held fuel T cs=some x→∃v:ts.den,readC (at_ w) ts v cs∧Wf ts v
theorem opE_int {P:Program} {T:Nat} {k:IntKind} (hu:P.underlying T=some (.int k)) (hs:P.cellsOf T=1):OpE P T (.cons (.int k) .nil) where
 sz:=hs
 op:=by
  intro H enc w base spare held fuel cs x h
  obtain⟨n,rfl,_,hw⟩:=DataW.trod_int hu h
  exact⟨(n,()),⟨_,_,rfl,rfl,rfl⟩,hw,trivial⟩
theorem opE_bool {P:Program} {T:Nat} (hu:P.underlying T=some .bool) (hs:P.cellsOf T=1):OpE P T (.cons .bool .nil) where
 sz:=hs
 op:=by
  intro H enc w base spare held fuel cs x h
  obtain⟨b,rfl,_⟩:=DataW.trod_bool hu h
  exact⟨(b,()),⟨_,_,rfl,rfl,rfl⟩,trivial,trivial⟩
theorem rows_opE {H:Type} {enc:TypeId×Value→H} {P:Program} {w:World} {base:Nat} {spare:Nat→Bool} {held:Bool} {e:TypeId} {us:Ty} (he:OpE P e us) (hpos:us.size≠0) (a:Addr) {fuel:Nat} (D:Nat→DataW H) (Pl:Nat→List MemPlace):
  ∀n,(∀i,i<n→∃cs',w.cells? base (a.add (i*P.cellsOf e)) (P.cellsOf e)=some cs'∧DataW.trod enc P w base spare held fuel e cs'=some (D i,Pl i))→
   ∃l:List us.den,l.length=n∧(∀x,x∈l→Wf us x)∧∀i,i<n→∃b o,some a=some (⟨b,o,none⟩:Addr)∧(ro (at_ w) us).2 (rd us l i) b (o+i*us.size):=by
 intro n
 induction n with
 |zero=>intro _;exact⟨[],rfl,fun x h=>(by cases h),fun i hi=>by omega⟩
 |succ n ih=>
  intro h
  obtain⟨l,hl,hok,hr⟩:=ih (fun i hi=>h i (by omega))
  obtain⟨cs',hc,ht⟩:=h n (by omega)
  obtain⟨v,hK,hO⟩:=he.op ht
  obtain⟨_,hcl,hat⟩:=World.cells?_some hc
  have hsp:a.spot=none:=by
   obtain⟨cs0,hc0,ht0⟩:=h 0 (by omega)
   obtain⟨_,hcl0,hat0⟩:=World.cells?_some hc0
   have h0:=hat0 0 (by rw [he.sz];omega)
   have hlt:0<cs0.length:=by rw [hcl0,he.sz];omega
   rw [List.getElem?_eq_getElem hlt]at h0
   have:w.cell? a=some cs0[0]:=by simpa [Addr.add]using h0
   unfold World.cell? at this
   split at this
   ·cases hsp:a.spot with
    |none=>rfl
    |some s=>rw [hsp]at this;simp at this
   ·cases this
  have ha:a=⟨a.block,a.off,none⟩:=by cases a;simp_all
  refine⟨l++[v],by simp [hl],fun x hx=> ?_,fun i hi=> ?_⟩
  ·rcases List.mem_append.1 hx with hx|hx
   ·exact hok x hx
   ·rw [List.mem_singleton.1 hx];exact hO
  ·rcases Nat.lt_or_ge i l.length with hlt|hge
   ·obtain⟨b,o,e1,e2⟩:=hr i (by omega)
    refine⟨b,o,e1,?_⟩
    have:rd us (l++[v]) i=rd us l i:=by
     unfold rd
     rw [List.getD_eq_getElem?_getD,List.getElem?_append_left hlt,List.getD_eq_getElem?_getD]
    rw [this];exact e2
   ·have hin:i=n:=by omega
    subst hin
    refine⟨a.block,a.off,by rw [←ha],?_⟩
    have:rd us (l++[v]) i=v:=by
     unfold rd
     rw [List.getD_eq_getElem?_getD,List.getElem?_append_right (by omega),hl];simp
    rw [this]
    refine readC_row hK (fun j u hj=> ?_)
    have hjl:=(List.getElem?_eq_some_iff.1 hj).1
    have h1:=hat j (by omega)
    rw [hj,Go.Deep.add_add,he.sz]at h1
    have e:a.add (i*us.size+j)=⟨a.block,a.off+i*us.size+j,none⟩:=by
     unfold Addr.add
     split
     ·rename_i hz
      rw [show a.off+i*us.size+j=a.off by omega];exact ha
     ·rw [Nat.add_assoc]
    rw [e]at h1
    exact h1
theorem opE_slice {P:Program} {T e:Nat} {us:Ty} (hu:P.underlying T=some (.slice e)) (hs:P.cellsOf T=1) (he:OpE P e us) (hpos:us.size≠0):OpE P T (.cons (.slice us) .nil) where
 sz:=hs
 op:=by
  intro H enc w base spare held fuel cs x h
  rcases Go.Deep.open_slice hu h with⟨rfl,_⟩|⟨a,len,cap,m,n,D,Pl,rfl,_,hl,hm,hmm,_,hi⟩
  ·exact⟨(([]:List us.den),()),⟨_,_,rfl,⟨none,0,rfl,Nat.le_refl _,fun i hi=>absurd hi (by simp)⟩,rfl⟩,⟨Nat.zero_le _,fun x hx=>(by cases hx)⟩,trivial⟩
  ·have hle:len≤m:=by rw [hmm];split<;>omega
   obtain⟨l,hll,hok,hr⟩:=rows_opE he hpos a D Pl len (fun i hi'=>hi i (by omega))
   subst hll
   exact⟨(l,()),⟨_,_,rfl,⟨some a,cap,rfl,hl,fun i hi=>hr i hi⟩,rfl⟩,⟨Nat.le_trans hl hm,hok⟩,trivial⟩
def Ty.app:Ty→Ty→Ty
 | .cons t us,ts=> .cons t (us.app ts)
 |_,ts=>ts
def joinD:(us ts:Ty)→us.den→ts.den→(us.app ts).den
 | .cons t us,ts,x,y=>(x.1,joinD us ts x.2 y)
 | .nil,_,_,y=>y
 | .bool,_,_,y=>y
 | .int _,_,_,y=>y
 | .str,_,_,y=>y
 | .slice _,_,_,y=>y
theorem readC_join {u:Nat→Nat→Option Value}:∀ {us ts:Ty} {x:us.den} {y:ts.den} {vs vs':List Value},readC u us x vs→readC u ts y vs'→readC u (us.app ts) (joinD us ts x y) (vs++vs')
 | .cons t us,ts,x,y,vs,vs',⟨v,w,e,h1,h2⟩,h=>by subst e;exact⟨v,w++vs',rfl,h1,readC_join h2 h⟩
 | .nil,ts,x,y,vs,vs',h0,h=>by rw [show vs=[]from h0];exact h
 | .bool,_,_,_,_,_,h,_=>h.elim
 | .int _,_,_,_,_,_,h,_=>h.elim
 | .str,_,_,_,_,_,h,_=>h.elim
 | .slice _,_,_,_,_,_,h,_=>h.elim
theorem wf_join:∀ {us ts:Ty} {x:us.den} {y:ts.den},Wf us x→Wf ts y→Wf (us.app ts) (joinD us ts x y)
 | .cons t us,ts,x,y,⟨h1,h2⟩,h=>⟨h1,wf_join h2 h⟩
 | .nil,_,_,_,_,h=>h
 | .bool,_,_,_,_,h=>h
 | .int _,_,_,_,_,h=>h
 | .str,_,_,_,_,h=>h
 | .slice _,_,_,_,_,h=>h
theorem app_size:∀ {us ts:Ty},(us.app ts).size=us.size+ts.size
 | .cons t us,ts=>by simp only [Ty.app,Ty.size,app_size (us:=us)];omega
 | .nil,_=>by simp [Ty.app,Ty.size]
 | .bool,_=>by simp [Ty.app,Ty.size]
 | .int _,_=>by simp [Ty.app,Ty.size]
 | .str,_=>by simp [Ty.app,Ty.size]
 | .slice _,_=>by simp [Ty.app,Ty.size]
inductive FldsE (P:Program):List Field→Nat→Ty→Prop where
 |nil {o:Nat}:FldsE P [] o .nil
 |cons {f:Field} {fs:List Field} {o:Nat} {us ts:Ty}:f.offset=o→OpE P f.type us→FldsE P fs (o+us.size) ts→FldsE P (f::fs) o (us.app ts)
theorem FldsE.op {P:Program} {fs:List Field} {o:Nat} {ts:Ty} (h:FldsE P fs o ts) {H:Type} {enc:TypeId×Value→H} {w:World} {base:Nat} {spare:Nat→Bool} {held:Bool} {n:Nat} {cs:List Value}
  (hc:cs.length=o+ts.size) (hf:∀f∈fs,∃x,DataW.trod enc P w base spare held n f.type ((cs.drop f.offset).take (P.cellsOf f.type))=some x):∃v:ts.den,readC (at_ w) ts v (cs.drop o)∧Wf ts v:=by
 induction h with
 | @nil o=>
  have:cs.length=o:=hc
  exact⟨(),by show cs.drop o=[];exact List.drop_eq_nil_of_le (by omega),trivial⟩
 | @cons f fs o us ts ho he hr ih=>
  obtain⟨x,hx⟩:=hf f (List.mem_cons_self ..)
  rw [app_size]at hc
  obtain⟨v',hK',hO'⟩:=ih (by omega) (fun g hg=>hf g (List.mem_cons_of_mem _ hg))
  subst ho
  obtain⟨v,hK,hO⟩:=he.op hx
  refine⟨joinD us ts v v',?_,wf_join hO hO'⟩
  have:=readC_join hK hK'
  rwa [he.sz,←List.drop_drop,List.take_append_drop]at this
theorem opE_struct {P:Program} {T:Nat} {fs:Array Field} {ts ts':Ty} (hu:P.underlying T=some (.struct fs)) (hs:P.cellsOf T=ts.size) (hF:FldsE P fs.toList 0 ts') (he:ts'=ts):OpE P T ts where
 sz:=hs
 op:=by
  subst he
  intro H enc w base spare held fuel cs x h
  obtain⟨xs,n,_,_,hl,hxl,hf⟩:=DataW.trod_struct hu h
  exact hF.op (enc:=enc) (w:=w) (base:=base) (spare:=spare) (held:=held) (n:=n) (cs:=cs) (by rw [hl,hs];omega) (fun f' hf'=>by
   obtain⟨i,hi,rfl⟩:=List.getElem_of_mem hf'
   have h1:=hf i (fs.toList[i]) (by rw [←Array.getElem?_toList];exact List.getElem?_eq_getElem hi)
   have hi2:i<xs.length:=by rw [hxl];simpa using hi
   exact⟨_,h1.trans (List.getElem?_eq_getElem hi2)⟩)
def G0:Gh:=⟨fun _ _=> .free,fun _=>(none,0)⟩
theorem out_below {W w':World} {G':Gh} (h:Out G0 W G' w'):Below W.heap.size W w' where
 os:=h.os
 tape:=h.tape
 output:=h.output
 size:=h.size
 block:=fun k hk=>blk_same (congrArg Prod.snd (h.free k 0 hk rfl).2.2) (fun o=>(h.free k o hk rfl).2.1)
theorem one_struct {W:World} {ts:Ty} {x:ts.den} {s:Array Value} (hc:isCons ts=true) (h:readC (at_ W) ts x s.toList) (L:List (Nat×Nat)):hOne G0 W ⟨false,0⟩ ts x (.agg s) L:=by
 unfold hOne
 simp only [hc]
 refine⟨s.toList,by simp,?_⟩
 have key:∀(ts:Ty) (x:ts.den) (vs:List Value) (L:List (Nat×Nat)),readC (at_ W) ts x vs→hCells G0 W 0 ts x vs L:=by
  intro ts
  induction ts with
  |nil=>intro x vs L h;exact h
  |cons t ts _ ih=>
   intro x vs L h
   obtain⟨v,vs',e,h1,h2⟩:=h
   exact⟨v,vs',e,h1,ih _ _ _ h2⟩
  |_=>intro x vs L h;exact h
 exact key ts x _ L h
theorem lent0:∀ {pm:List Md},(pm.all fun m=> !isLent m)=true→∀vs:List Value,lentV pm vs=[]
 | [],_,vs=>by cases vs<;>rfl
 |m::ms,h,[]=>rfl
 |m::ms,h,v::vs=>by
  simp only [List.all_cons,Bool.and_eq_true,Bool.not_eq_true']at h
  simp only [lentV,h.1]
  exact lent0 h.2 vs
theorem law_end {P:Program} {f:Nat} {W:World} {vals:List Value} {params:Ty} {pm:List Md} {F:Nat→params.den→Option (Ty.cons .bool .nil).den} (hok:FnOk P f ⟨params,pm,.cons .bool .nil,[⟨false,0⟩],1,F,[]⟩) (x:params.den) (hpm:∀vs:List Value,lentV pm vs=[])
  {k:Nat} (hp:F k x=some (true,())) (hI:Inv G0 W) (hall:hAll G0 W params x pm vals (labs 0 (idsAll params pm))):Calls P f vals.toArray W (fun e w'=>e= .returned (.bool true)∧Below W.heap.size W w'):=by
 have hok2:=hok.2 k x (true,()) hp G0 W vals hI hall
 rw [show fnVals ([]:List Nat)=[]from rfl,List.append_nil]at hok2
 refine hok2.mono (fun e w' he=> ?_)
 cases e with
 |returned out=>
  obtain⟨outs,G',e1,e2,h3,h4⟩:=he
  rw [hpm,List.append_nil]at h3
  cases outs with
  |nil=>cases e2
  |cons o outs=>
   cases outs with
   |cons _ _=>simp at e2
   |nil=>
    refine⟨?_,out_below h4⟩
    have h5:o= .bool true:=h3.1
    rw [e1,h5];rfl
 |_=>exact he.elim
end Go.Proofs.YtpmjopbgccajgaaGreat.Eng
