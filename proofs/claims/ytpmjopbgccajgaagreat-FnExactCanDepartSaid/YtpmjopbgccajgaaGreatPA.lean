/- Pure laws: PBase, PSpec, PSpec2, PSpec3, PImpl, PImpl2, PImpl3, PImpl4, PSame. No condition. -/
import Derived.Test.YtpmjopbgccajgaaGreatEngA
import Derived.Test.YtpmjopbgccajgaaGreatD
set_option linter.unusedVariables false
set_option linter.unusedSimpArgs false
namespace Go.Proofs.YtpmjopbgccajgaaGreat.Eng
def K0:Nat:=4194304
noncomputable def dc (p:Prop):Bool:= @decide p (Classical.propDecidable p)
theorem dc_true {p:Prop}:dc p=true↔p:=by unfold dc;exact @decide_eq_true_iff p (Classical.propDecidable p)
theorem dc_false {p:Prop}:dc p=false↔¬p:=by unfold dc;exact @decide_eq_false_iff_not p (Classical.propDecidable p)
theorem dc_T {p:Prop} (h:p):dc p=true:=dc_true.2 h
theorem dc_F {p:Prop} (h:¬p):dc p=false:=dc_false.2 h
theorem dc_True:dc True=true:=dc_T trivial
theorem dc_False:dc False=false:=dc_F id
theorem dc_dec (p:Prop) [Decidable p]:decide p=dc p:=by
 by_cases h:p
 ·rw [dc_T h,decide_eq_true h]
 ·rw [dc_F h,decide_eq_false h]
theorem dc_bool (b:Bool):b=dc (b=true):=by cases b with|true=>rw [dc_T rfl]|false=>rw [dc_F (by simp)]
theorem eqI_dc (x y:Int):eqI x y=dc (x=y):=dc_dec _
theorem ltI_dc (x y:Int):ltI x y=dc (x<y):=dc_dec _
theorem leI_dc (x y:Int):leI x y=dc (x≤y):=dc_dec _
theorem eqN_dc (x y:Nat):eqN x y=dc (x=y):=dc_dec _
theorem notB_dc (p:Prop):notB (dc p)=dc (¬p):=by
 by_cases h:p
 ·rw [dc_T h,dc_F (fun k=>k h)];rfl
 ·rw [dc_F h,dc_T h];rfl
theorem andB_dc (p q:Prop):andB (dc p) (dc q)=dc (p∧q):=by
 by_cases h:p
 ·by_cases k:q
  ·have e:dc (p∧q)=true:=dc_T ⟨h,k⟩
   rw [dc_T h,dc_T k,e];rfl
  ·have e:dc (p∧q)=false:=dc_F (fun z=>k z.2)
   rw [dc_F k,e];cases dc p<;>rfl
 ·have e:dc (p∧q)=false:=dc_F (fun z=>h z.1)
  rw [dc_F h,e];rfl
theorem andB_t (b:Bool):andB b true=b:=by cases b<;>rfl
theorem eqB_dc (p q:Prop):eqB (dc p) (dc q)=dc (p↔q):=by
 by_cases h:p
 ·by_cases k:q
  ·have e:dc (p↔q)=true:=dc_T ⟨fun _=>k,fun _=>h⟩
   rw [dc_T h,dc_T k,e];rfl
  ·have e:dc (p↔q)=false:=dc_F (fun z=>k (z.1 h))
   rw [dc_T h,dc_F k,e];rfl
 ·by_cases k:q
  ·have e:dc (p↔q)=false:=dc_F (fun z=>h (z.2 k))
   rw [dc_F h,dc_T k,e];rfl
  ·have e:dc (p↔q)=true:=dc_T ⟨fun z=>absurd z h,fun z=>absurd z k⟩
   rw [dc_F h,dc_F k,e];rfl
theorem notB_t:notB true=false:=rfl
theorem notB_f:notB false=true:=rfl
theorem inR_dc (i n:Int):inR i n=dc (0≤i∧i<n):=by unfold inR;rw [dc_dec,dc_dec];exact andB_dc _ _
theorem upR_dc (i n:Int):upR i n=dc (0≤i∧i≤n):=by unfold upR;rw [dc_dec,dc_dec];exact andB_dc _ _
theorem br_t {α:Type} (a b:Option α):br true a b=a:=rfl
theorem br_f {α:Type} (a b:Option α):br false a b=b:=rfl
theorem br_pos {α:Type} {p:Prop} (h:p) (a b:Option α):br (dc p) a b=a:=by rw [dc_T h];rfl
theorem br_neg {α:Type} {p:Prop} (h:¬p) (a b:Option α):br (dc p) a b=b:=by rw [dc_F h];rfl
theorem br_T {α:Type} (a b:Option α):br (dc True) a b=a:=br_pos trivial a b
theorem br_F {α:Type} (a b:Option α):br (dc False) a b=b:=br_neg id a b
theorem br_same {α:Type} (c:Bool) (a:Option α):br c a a=a:=by cases c<;>rfl
theorem br_not {α:Type} (c:Bool) (a b:Option α):br (notB c) a b=br c b a:=by cases c<;>rfl
theorem bnd_s {α β:Type} (x:α) (f:α→Option β):bnd (some x) f=f x:=rfl
theorem lett_e {α β:Type} (x:α) (f:α→Option β):lett x f=f x:=rfl
noncomputable def chkP (p:Prop):Option (Bool×Unit):=some (dc p,())
theorem chk_eq (p:Prop):some (dc p,())=chkP p:=rfl
theorem chk_T:some (true,())=chkP True:=by unfold chkP;rw [dc_True]
theorem chk_F:some (false,())=chkP False:=by unfold chkP;rw [dc_False]
theorem chk_congr {p q:Prop} (h:p↔q):chkP p=chkP q:=by rw [propext h]
theorem br_chk (p q r:Prop):br (dc p) (chkP q) (chkP r)=chkP ((p∧q)∨(¬p∧r)):=by
 by_cases h:p
 ·rw [br_pos h];exact chk_congr ⟨fun k=>Or.inl ⟨h,k⟩,fun k=>k.elim (fun z=>z.2) (fun z=>absurd h z.1)⟩
 ·rw [br_neg h];exact chk_congr ⟨fun k=>Or.inr ⟨h,k⟩,fun k=>k.elim (fun z=>absurd z.1 h) (fun z=>z.2)⟩
theorem br_chkF (p q:Prop):br (dc p) (chkP False) (chkP q)=chkP (¬p∧q):=by
 rw [br_chk];exact chk_congr ⟨fun h=>h.elim (fun z=>z.2.elim) id,Or.inr⟩
theorem br_chkF' (p q:Prop):br (dc p) (chkP q) (chkP False)=chkP (p∧q):=by
 rw [br_chk];exact chk_congr ⟨fun h=>h.elim id (fun z=>z.2.elim),Or.inl⟩
theorem br_chkT (p q:Prop):br (dc p) (chkP True) (chkP q)=chkP (p∨q):=by
 rw [br_chk]
 refine chk_congr ⟨fun h=>h.elim (fun z=>Or.inl z.1) (fun z=>Or.inr z.2),fun h=> ?_⟩
 by_cases k:p
 ·exact Or.inl ⟨k,trivial⟩
 ·exact Or.inr ⟨k,h.elim (fun z=>absurd z k) id⟩
theorem bnd_chk {β:Type} (p:Prop) (f:Bool×Unit→Option β):bnd (chkP p) f=f (dc p,()):=rfl
theorem wrap_id {x:Int} (h: -9223372036854775808≤x∧x<9223372036854775808):IntKind.i64.wrap x=x:=by
 have e:IntKind.i64.wrap x=if x % 18446744073709551616≥9223372036854775808 then x % 18446744073709551616-18446744073709551616 else x % 18446744073709551616:=by
  unfold IntKind.wrap
  simp [IntKind.bits,IntKind.signed]
 rw [e]
 split<;>omega
theorem addI_id {x y:Int} (h: -9223372036854775808≤x+y∧x+y<9223372036854775808):addI .i64 x y=x+y:=wrap_id h
theorem subI_id {x y:Int} (h: -9223372036854775808≤x-y∧x-y<9223372036854775808):subI .i64 x y=x-y:=wrap_id h
theorem addI_nat {i:Nat} (h:i<4611686018427387904):addI .i64 (i:Int) 1=((i+1:Nat):Int):=by rw [addI_id (by omega)];rfl
theorem subI_nat {i:Nat} (h:i+1<4611686018427387904):subI .i64 ((i+1:Nat):Int) 1=(i:Int):=by rw [subI_id (by omega)];omega
theorem natI_n (i:Nat):natI (i:Int)=i:=rfl
theorem ln_e {α:Type} (l:List α):ln l=(l.length:Int):=rfl
theorem app_e {α:Type} (l m:List α):app l m=l++m:=rfl
theorem tk_e {α:Type} (l:List α) (n:Nat):tk l n=l.take n:=rfl
theorem dp_e {α:Type} (l:List α) (n:Nat):dp l n=l.drop n:=rfl
theorem upd_e {α:Type} (l:List α) (n:Nat) (x:α):upd l n x=l.set n x:=rfl
theorem repl_e {α:Type} (n:Nat) (x:α):repl n x=List.replicate n x:=rfl
theorem fitL_T {α:Type} {l m:List α} (h:l.length+m.length<68719476736):fitL l m=true:=by
 unfold fitL
 rw [show Nat.ble 68719476736 (l.length+m.length)=false from by
  cases e:Nat.ble 68719476736 (l.length+m.length)with
  |false=>rfl
  |true=>have:=Nat.le_of_ble_eq_true e;omega]
 rfl
theorem fitN_T {n:Nat} (h:n<68719476736):fitN (n:Int)=true:=by
 unfold fitN
 rw [show Nat.ble 68719476736 (Int.toNat (n:Int))=false from by
  cases e:Nat.ble 68719476736 (Int.toNat (n:Int))with
  |false=>rfl
  |true=>have:=Nat.le_of_ble_eq_true e;rw [Int.toNat_natCast]at this;omega]
 simp
theorem rd_lt {α:Type} {d:α} {l:List α} {i:Nat} (h:i<l.length):rdP d l i=l[i]:=by
 unfold rdP;rw [List.getD_eq_getElem?_getD,List.getElem?_eq_getElem h];rfl
theorem all_rd {α:Type} {d:α} {l:List α} {P:α→Prop}:(∀i,i<l.length→P (rdP d l i))↔∀x∈l,P x:=by
 constructor
 ·intro h x hx
  obtain⟨i,hi,e⟩:=List.getElem_of_mem hx
  have:=h i hi
  rw [rd_lt hi,e]at this;exact this
 ·intro h i hi
  rw [rd_lt hi];exact h _ (List.getElem_mem hi)
section
variable {σ R:Type} {F:(σ→Option R)→σ→Option R}
theorem loop_run {k n:Nat} {c0:σ} {r:Option R} (s:Nat→σ) (h0:c0=s 0) (hstep:∀i,i<n→∀rec,F rec (s i)=rec (s (i+1))) (hend:∀rec,F rec (s n)=r) (hk:n<k):loopN F k c0=r:=by
 subst h0
 have key:∀m i k,i+m=n→m<k→loopN F k (s i)=r:=by
  intro m
  induction m with
  |zero=>
   intro i k e hk
   obtain⟨k',rfl⟩:∃k',k=k'+1:=⟨k-1,by omega⟩
   have:i=n:=by omega
   subst this
   exact hend _
  |succ m ih=>
   intro i k e hk
   obtain⟨k',rfl⟩:∃k',k=k'+1:=⟨k-1,by omega⟩
   show F (loopN F k') (s i)=r
   rw [hstep i (by omega)]
   exact ih (i+1) k' (by omega) (by omega)
 exact key n 0 k (by omega) hk
theorem loop_while {k n:Nat} {c0:σ} {r e:Option R} (s:Nat→σ) (P:Nat→Prop) (h0:c0=s 0) (hstep:∀i,i<n→(∀j,j<i→P j)→∀rec,F rec (s i)=br (dc (P i)) (rec (s (i+1))) r) (hend:(∀j,j<n→P j)→∀rec,F rec (s n)=e) (hk:n<k):
  loopN F k c0=br (dc (∀i,i<n→P i)) e r:=by
 subst h0
 have key:∀m i k,i+m=n→m<k→(∀j,j<i→P j)→loopN F k (s i)=br (dc (∀j,j<n→P j)) e r:=by
  intro m
  induction m with
  |zero=>
   intro i k e' hk hp
   obtain⟨k',rfl⟩:∃k',k=k'+1:=⟨k-1,by omega⟩
   have:i=n:=by omega
   subst this
   rw [br_pos hp]
   exact hend hp _
  |succ m ih=>
   intro i k e' hk hp
   obtain⟨k',rfl⟩:∃k',k=k'+1:=⟨k-1,by omega⟩
   show F (loopN F k') (s i)=_
   rw [hstep i (by omega) hp]
   by_cases h:P i
   ·rw [br_pos h]
    refine ih (i+1) k' (by omega) (by omega) (fun j hj=> ?_)
    by_cases e:j=i
    ·rw [e];exact h
    ·exact hp j (by omega)
   ·rw [br_neg h,br_neg (fun z=>h (z i (by omega)))]
 exact key n 0 k (by omega) hk (fun j hj=>by omega)
end
theorem loop_chk {σ:Type} {F:(σ→Option (Bool×Unit))→σ→Option (Bool×Unit)} {k n:Nat} {c0:σ} {Q:Prop} (s:Nat→σ) (P:Nat→Prop) (h0:c0=s 0) (hk:n<k) (hstep:∀i,i<n→(∀j,j<i→P j)→∀rec,F rec (s i)=br (dc (P i)) (rec (s (i+1))) (chkP False))
  (hend:(∀j,j<n→P j)→∀rec,F rec (s n)=chkP Q):loopN F k c0=chkP ((∀i,i<n→P i)∧Q):=by
 rw [loop_while s P h0 hstep hend hk,br_chkF']
theorem loop_any {σ R:Type} {F:(σ→Option R)→σ→Option R} {k n:Nat} {c0:σ} {r e:Option R} (s:Nat→σ) (P:Nat→Prop) (h0:c0=s 0) (hk:n<k) (hstep:∀i,i<n→(∀j,j<i→¬P j)→∀rec,F rec (s i)=br (dc (P i)) r (rec (s (i+1))))
  (hend:(∀j,j<n→¬P j)→∀rec,F rec (s n)=e):loopN F k c0=br (dc (∃i,i<n∧P i)) r e:=by
 rw [loop_while s (fun i=>¬P i) h0 (r:=r) (fun i hi hp rec=> ?_) hend hk]
 ·by_cases h:∃i,i<n∧P i
  ·rw [br_pos h,br_neg (fun z=>let ⟨i,hi,hp⟩:=h;z i hi hp)]
  ·rw [br_neg h,br_pos (fun i hi hp=>h ⟨i,hi,hp⟩)]
 ·rw [hstep i hi hp rec]
  by_cases h:P i
  ·rw [br_pos h,br_neg (fun z=>z h)]
  ·rw [br_neg h,br_pos h]
theorem loop_find {σ R:Type} {F:(σ→Option R)→σ→Option R} {k n:Nat} {c0:σ} {e:Option R} (s:Nat→σ) (P:Nat→Prop) (out:Nat→Option R) (h0:c0=s 0) (hk:n<k) (hstep:∀i,i<n→(∀j,j<i→¬P j)→∀rec,F rec (s i)=br (dc (P i)) (out i) (rec (s (i+1))))
  (hend:(∀j,j<n→¬P j)→∀rec,F rec (s n)=e):(∃i,i<n∧P i∧(∀j,j<i→¬P j)∧loopN F k c0=out i)∨((∀j,j<n→¬P j)∧loopN F k c0=e):=by
 subst h0
 have key:∀m i k,i+m=n→m<k→(∀j,j<i→¬P j)→(∃i,i<n∧P i∧(∀j,j<i→¬P j)∧loopN F k (s (n-m))=out i)∨((∀j,j<n→¬P j)∧loopN F k (s (n-m))=e):=by
  intro m
  induction m with
  |zero=>
   intro i k e' hk hp
   obtain⟨k',rfl⟩:∃k',k=k'+1:=⟨k-1,by omega⟩
   have:i=n:=by omega
   subst this
   exact .inr ⟨hp,hend hp _⟩
  |succ m ih=>
   intro i k e' hk hp
   obtain⟨k',rfl⟩:∃k',k=k'+1:=⟨k-1,by omega⟩
   have hi:n-(m+1)=i:=by omega
   rw [hi]
   have hs:loopN F (k'+1) (s i)=F (loopN F k') (s i):=rfl
   by_cases h:P i
   ·refine .inl ⟨i,by omega,h,hp,?_⟩
    rw [hs,hstep i (by omega) hp,br_pos h]
   ·have:=ih (i+1) k' (by omega) (by omega) (fun j hj=>by
     by_cases e:j=i
     ·rw [e];exact h
     ·exact hp j (by omega))
    rw [hs,hstep i (by omega) hp,br_neg h]
    rwa [show n-m=i+1 by omega]at this
 have:=key n 0 k (by omega) hk (fun j hj=>by omega)
 rwa [Nat.sub_self]at this
theorem br_iff {α:Type} {p q:Prop} (h:p↔q) (a b:Option α):br (dc p) a b=br (dc q) a b:=by rw [propext h]
theorem br_iff' {α:Type} {p q:Prop} {a a' b:Option α} (h:p↔q) (ha:p→a=a'):br (dc p) a b=br (dc q) a' b:=by
 by_cases k:p
 ·rw [br_pos k,br_pos (h.1 k),ha k]
 ·rw [br_neg k,br_neg (fun z=>k (h.2 z))]
theorem g1 {p:Prop} (a:Option (Bool×Unit)):br (dc p) (chkP False) a=br (dc (¬p)) a (chkP False):=by
 by_cases h:p
 ·rw [br_pos h,br_neg (fun z=>z h)]
 ·rw [br_neg h,br_pos h]
theorem g2 {α:Type} {p q:Prop} (a r:Option α):br (dc p) (br (dc q) a r) r=br (dc (p∧q)) a r:=by
 by_cases h:p
 ·rw [br_pos h];exact br_iff ⟨fun z=>⟨h,z⟩,fun z=>z.2⟩ _ _
 ·rw [br_neg h,br_neg (fun z=>h z.1)]
theorem g4 {α:Type} {p q:Prop} (a r:Option α):br (dc p) (br (dc q) a r) a=br (dc (p→q)) a r:=by
 by_cases h:p
 ·rw [br_pos h];exact br_iff ⟨fun z _=>z,fun z=>z h⟩ _ _
 ·rw [br_neg h,br_pos (fun z=>absurd z h)]
theorem addI_n {i:Nat} (h:i<4611686018427387904):addI .i64 (i:Int) 1=(i:Int)+1:=addI_id (by omega)
theorem ex_rd {α:Type} {d:α} {l:List α} {P:α→Prop}:(∃i,i<l.length∧P (rdP d l i))↔∃x,x∈l∧P x:=by
 constructor
 ·rintro ⟨i,hi,h⟩
  rw [rd_lt hi]at h
  exact⟨_,List.getElem_mem hi,h⟩
 ·rintro ⟨x,hx,h⟩
  obtain⟨i,hi,e⟩:=List.getElem_of_mem hx
  exact⟨i,hi,by rw [rd_lt hi,e];exact h⟩
theorem take_s {α:Type} {d:α} {l:List α} {i:Nat} (h:i<l.length):l.take (i+1)=l.take i++[rdP d l i]:=by
 rw [List.take_succ_eq_append_getElem h,rd_lt h]
theorem nodup_rd {α β:Type} {d:α} {l:List α} {f:α→β}:(l.map f).Nodup↔∀i,i<l.length→∀j,j<i→f (rdP d l j)≠f (rdP d l i):=by
 rw [List.nodup_iff_pairwise_ne,List.pairwise_iff_getElem]
 constructor
 ·intro h i hi j hj
  have:=h j i (by simpa using Nat.lt_trans hj hi) (by simpa using hi) hj
  rw [rd_lt hi,rd_lt (Nat.lt_trans hj hi)]
  simpa using this
 ·intro h i j hi hj hij
  have hj':j<l.length:=by simpa using hj
  have:=h j hj' i hij
  rw [rd_lt hj',rd_lt (Nat.lt_trans hij hj')]at this
  simpa using this
theorem nodup_take {α:Type} {d:α} {l:List α}:l.Nodup↔∀i,i<l.length→rdP d l i∉l.take i:=by
 have h:=nodup_rd (d:=d) (l:=l) (f:=id)
 rw [List.map_id]at h
 rw [h]
 constructor
 ·intro h i hi hm
  obtain⟨j,hj,e⟩:=List.getElem_of_mem hm
  have hj':j<i:=by rw [List.length_take]at hj;omega
  apply h i hi j hj'
  rw [rd_lt (Nat.lt_trans hj' hi)]
  simpa using e
 ·intro h i hi j hj e
  apply h i hi
  have hlt:=Nat.lt_trans hj hi
  rw [List.mem_iff_getElem]
  exact⟨j,by rw [List.length_take];omega,by rw [List.getElem_take,←rd_lt (d:=d) hlt];exact e⟩
theorem unit_mem {l:List (Int×Unit)} {a:Int}:(∃x,x∈l∧x.1=a)↔(a,())∈l:=by
 constructor
 ·rintro ⟨⟨x,u⟩,hx,rfl⟩;exact hx
 ·intro h;exact⟨_,h,rfl⟩
theorem loop_inv {σ R:Type} {F:(σ→Option R)→σ→Option R} {k n:Nat} {c0:σ} {r:Option R} (I:Nat→σ→Prop) (h0:I 0 c0) (hstep:∀i c,i<n→I i c→∃c',I (i+1) c'∧∀rec,F rec c=rec c') (hend:∀c,I n c→∀rec,F rec c=r) (hk:n<k):loopN F k c0=r:=by
 have key:∀m i k c,i+m=n→m<k→I i c→loopN F k c=r:=by
  intro m
  induction m with
  |zero=>
   intro i k c e hk hc
   obtain⟨k',rfl⟩:∃k',k=k'+1:=⟨k-1,by omega⟩
   have:i=n:=by omega
   subst this
   exact hend c hc _
  |succ m ih=>
   intro i k c e hk hc
   obtain⟨k',rfl⟩:∃k',k=k'+1:=⟨k-1,by omega⟩
   obtain⟨c',h1,h2⟩:=hstep i c (by omega) hc
   show F (loopN F k') c=r
   rw [h2]
   exact ih (i+1) k' c' (by omega) (by omega) h1
 exact key n 0 k c0 (by omega) hk h0
theorem chk_pos {p:Prop} (h:p):chkP p=chkP True:=chk_congr ⟨fun _=>trivial,fun _=>h⟩
theorem chk_neg {p:Prop} (h:¬p):chkP p=chkP False:=chk_congr ⟨fun z=>h z,fun z=>z.elim⟩
theorem sortL_perm (l:List (Int×Unit)):(sortL l).Perm l:=by
 unfold sortL
 have h:=(List.mergeSort_perm (l.map Prod.fst) (fun x y=>decide (x≤y))).map (fun x=>(x,()))
 rw [List.map_map]at h
 have e:l.map ((fun x=>(x,())) ∘ Prod.fst)=l:=by
  conv=>rhs;rw [←List.map_id l]
  exact List.map_congr_left (fun x _=>rfl)
 rwa [e]at h
theorem sortL_length (l:List (Int×Unit)):(sortL l).length=l.length:=(sortL_perm l).length_eq
theorem sortL_sorted (l:List (Int×Unit)):(sortL l).Pairwise (fun a b=>a.1≤b.1):=by
 unfold sortL
 rw [List.pairwise_map]
 have:=List.pairwise_mergeSort (le:=fun x y:Int=>decide (x≤y)) (by intro a b c h1 h2;simp only [decide_eq_true_eq]at*;omega) (by intro a b;simp only [Bool.or_eq_true,decide_eq_true_eq];omega) (l.map Prod.fst)
 exact this.imp (by simp)
theorem sortI_e (k:Nat) {l:List (Int×Unit)} (h:l.length≤1048576):sortI k l=some (sortL l,()):=by
 unfold sortI;rw [if_pos (by omega)]
theorem sorted_nodup {s:List (Int×Unit)} (hs:s.Pairwise (fun a b=>a.1≤b.1)):s.Nodup↔∀i,i+1<s.length→(rdP (0,()) s (i+1)).1≠(rdP (0,()) s i).1:=by
 rw [List.pairwise_iff_getElem]at hs
 rw [List.nodup_iff_pairwise_ne,List.pairwise_iff_getElem]
 constructor
 ·intro h i hi e
  rw [rd_lt hi,rd_lt (Nat.lt_of_succ_lt hi)]at e
  exact h i (i+1) (Nat.lt_of_succ_lt hi) hi (by omega) (by
   have:∀a b:Int×Unit,a.1=b.1→a=b:=fun ⟨a,_⟩ ⟨b,_⟩ h=>by cases h;rfl
   exact(this _ _ e).symm)
 ·intro h i j hi hj hij e
  have h1:=h i (by omega)
  rw [rd_lt (by omega),rd_lt hi]at h1
  have h2:=hs i (i+1) hi (by omega) (by omega)
  have h3:s[i+1].1≤s[j].1:=by
   rcases Nat.lt_or_ge (i+1) j with h|h
   ·exact hs (i+1) j (by omega) hj h
   ·have:j=i+1:=by omega
    subst this;exact Int.le_refl _
  rw [←e]at h3
  omega
theorem drop_s {α:Type} {d:α} {l:List α} {i:Nat} (h:i<l.length):l.drop i=rdP d l i::l.drop (i+1):=by
 rw [List.drop_eq_getElem_cons h,rd_lt h]
theorem loop_ind {σ R:Type} {F:(σ→Option R)→σ→Option R} (I:Nat→σ→Option R→Prop) (step:∀f c r,I f c r→(∀rec,F rec c=r)∨∃f' c',f=f'+1∧I f' c' r∧∀rec,F rec c=rec c'):∀f k c r,f<k→I f c r→loopN F k c=r:=by
 intro f
 induction f with
 |zero=>
  intro k c r hk h
  obtain⟨k,rfl⟩:∃j,k=j+1:=⟨k-1,by omega⟩
  rcases step 0 c r h with e|⟨f',_,e,_⟩
  ·exact e _
  ·omega
 |succ f ih=>
  intro k c r hk h
  obtain⟨k,rfl⟩:∃j,k=j+1:=⟨k-1,by omega⟩
  rcases step _ c r h with e|⟨f',c',e,h',e'⟩
  ·exact e _
  ·obtain rfl:f=f':=by omega
   exact(e' _).trans (ih k c' r (by omega) h')
theorem loop_msr {σ R:Type} {F:(σ→Option R)→σ→Option R} {P:Option R→Prop} (I:Nat→σ→Prop) (step:∀f c rec,I f c→P (F rec c)∨∃f' c',f'<f∧I f' c'∧F rec c=rec c') {f k:Nat} {c:σ} (h0:I f c) (hk:f<k):P (loopN F k c):=by
 have key:∀n f,f≤n→∀k c,f<k→I f c→P (loopN F k c):=by
  intro n
  induction n with
  |zero=>
   intro f hf k c hk h
   obtain⟨k,rfl⟩:∃j,k=j+1:=⟨k-1,by omega⟩
   rcases step f c (loopN F k) h with e|⟨f',c',h1,_⟩
   ·exact e
   ·omega
  |succ n ih=>
   intro f hf k c hk h
   obtain⟨k,rfl⟩:∃j,k=j+1:=⟨k-1,by omega⟩
   rcases step f c (loopN F k) h with e|⟨f',c',h1,h2,h3⟩
   ·exact e
   ·show P (F (loopN F k) c)
    rw [h3]
    exact ih f' (by omega) k c' (by omega) h2
 exact key f f (Nat.le_refl _) k c hk h0
theorem loop_rds {σ R:Type} {F:(σ→Option R)→σ→Option R} {P:Option R→Prop} {n:Nat} (I:Nat→σ→Prop) {k:Nat} {c:σ} (h0:I 0 c) (hstep:∀i c rec,i<n→I i c→∃c',I (i+1) c'∧F rec c=rec c') (hend:∀c rec,I n c→P (F rec c)) (hk:n<k):P (loopN F k c):=by
 refine loop_msr (fun f c=>∃i,i+f=n∧I i c) (fun f c rec h=> ?_) (f:=n) ⟨0,by omega,h0⟩ hk
 obtain⟨i,e,h⟩:=h
 cases f with
 |zero=>
  obtain rfl:i=n:=by omega
  exact .inl (hend c rec h)
 |succ f=>
  obtain⟨c',h1,h2⟩:=hstep i c rec (by omega) h
  exact .inr ⟨f,c',by omega,⟨i+1,by omega,h1⟩,h2⟩
theorem addI_nn {a b:Nat} (h:a+b<4611686018427387904):addI .i64 (a:Int) (b:Int)=((a+b:Nat):Int):=by rw [addI_id (by omega)];omega
theorem subI_nn {a b:Nat} (h:b≤a∧a<4611686018427387904):subI .i64 (a:Int) (b:Int)=((a-b:Nat):Int):=by rw [subI_id (by omega)];omega
theorem subI_n1 {a:Nat} (h:1≤a∧a<4611686018427387904):subI .i64 (a:Int) 1=((a-1:Nat):Int):=by rw [subI_id (by omega)];omega
theorem both_same {α:Type} (a:Option α):both a a=a:=by unfold both;exact if_pos rfl
theorem fit1 {α:Type} {l:List α} (x:α) (h:l.length≤1048576):fitL l [x]=true:=fitL_T (by simp;omega)
theorem fit0 {α:Type} {l:List α} (h:l.length≤1048576):fitL [] l=true:=fitL_T (by simp;omega)
theorem find_in {R:Type} {F:(Int×Unit→Option R)→Int×Unit→Option R} {J:Nat→Option R} {E:Option R} {P:Option R→Prop} {n k:Nat} (q:Nat→Prop) (hF:∀i rec,i<n→F rec ((i:Int),())=br (dc (q i)) (J i) (rec (((i+1:Nat):Int),()))) (hE:∀rec,F rec ((n:Int),())=E) (hk:n<k)
  (hP:∀i,i<n→(∀j,j<i→¬q j)→q i→P (J i)) (hQ:(∀j,j<n→¬q j)→P E):P (loopN F k (0,())):=by
 refine loop_msr (fun f c=>∃i:Nat,c=((i:Int),())∧i+f=n∧∀j,j<i→¬q j) (fun f c rec h=> ?_) (f:=n) ⟨0,rfl,by omega,fun j hj=>by omega⟩ hk
 obtain⟨i,rfl,hi,hq⟩:=h
 cases f with
 |zero=>
  obtain rfl:i=n:=by omega
  rw [hE];exact .inl (hQ hq)
 |succ f=>
  rw [hF i rec (by omega)]
  by_cases h:q i
  ·rw [br_pos h];exact .inl (hP i (by omega) hq h)
  ·rw [br_neg h]
   refine .inr ⟨f,_,by omega,⟨i+1,rfl,by omega,fun j hj=> ?_⟩,rfl⟩
   by_cases e:j=i
   ·rw [e];exact h
   ·exact hq j (by omega)
noncomputable def keep {α:Type} (q:α→Prop) (l:List α):List α:=l.filter fun x=>dc (¬q x)
theorem maxLen_le {n:Nat} (h:n≤maxLen):n≤9223372036854775807:=by unfold maxLen at h;omega
end Go.Proofs.YtpmjopbgccajgaaGreat.Eng
namespace Go.Proofs.YtpmjopbgccajgaaGreat.Eng
attribute [local simp] eqI_dc ltI_dc leI_dc eqN_dc br_not notB_dc andB_dc eqB_dc notB_t notB_f inR_dc upR_dc br_t br_f bnd_s lett_e chk_eq chk_T chk_F br_chkF br_chkF' br_chkT bnd_chk br_pos br_neg natI_n ln_e app_e tk_e dp_e upd_e repl_e
theorem spec_l01In_f (k:Nat) (a lo hi:Int):spec_l01In.f k a lo hi=chkP (lo≤a∧a≤hi):=by
 unfold spec_l01In.f;simp
def PolicyP (l:List (Int×Unit)):Prop:=l.length=3∧∀x∈l,1≤x.1∧x.1≤5000
theorem spec_PolicyOk_f {k:Nat} (hk:K0≤k) (x:List (Int×Unit)×Unit) (hx:x.1.length≤1048576):spec_PolicyOk.f k x=chkP (PolicyP x.1):=by
 unfold K0 at hk
 unfold spec_PolicyOk.f
 rw [loop_chk (n:=x.1.length) (Q:=True) (fun i=>((i:Int),())) ?P ?h0 ?hk ?hs ?he]
 case h0=>rfl
 case hk=>omega
 case hs=>intro i hi _ rec;simp [spec_l01In_f,hi,addI_n (i:=i) (by omega)];rfl
 case he=>intro _ rec;simp
 simp
 refine chk_congr (and_congr (by omega) ?_)
 exact all_rd (P:=fun x:Int×Unit=>1≤x.1∧x.1≤5000)
theorem spec_l03Has_f {k:Nat} (hk:K0≤k) (l:List (Int×Unit)) (a:Int) (hx:l.length≤1048576):spec_l03Has.f k l a=chkP ((a,())∈l):=by
 unfold K0 at hk
 unfold spec_l03Has.f
 rw [loop_any (n:=l.length) (r:=chkP True) (e:=chkP False) (fun i=>((i:Int),())) ?P ?h0 ?hk ?hs ?he]
 case h0=>rfl
 case hk=>omega
 case hs=>intro i hi _ rec;simp [hi,addI_n (i:=i) (by omega)];rfl
 case he=>intro _ rec;simp
 simp
 exact chk_congr (Iff.trans (ex_rd (P:=fun x:Int×Unit=>x.1=a)) unit_mem)
theorem spec_LimitsOk_f (k:Nat) (x:Int×Int×Unit):spec_LimitsOk.f k x=chkP ((60≤x.1∧x.1≤2000)∧1≤x.2.1∧x.2.1≤40):=by
 unfold spec_LimitsOk.f;simp [spec_l01In_f]
abbrev Item:=Int×Int×Int×Unit
def ItemP (b:Int×Int×Bool×List Item×Unit) (i:Nat):Prop:=1≤(rdP (0,0,0,()) b.2.2.2.1 i).1∧(1≤(rdP (0,0,0,()) b.2.2.2.1 i).2.2.1∧(rdP (0,0,0,()) b.2.2.2.1 i).2.2.1≤60)∧
  ((rdP (0,0,0,()) b.2.2.2.1 i).2.2.1≤(rdP (0,0,0,()) b.2.2.2.1 i).2.1∧(rdP (0,0,0,()) b.2.2.2.1 i).2.1≤b.1)∧(∀j,j<i→(rdP (0,0,0,()) b.2.2.2.1 j).1≠(rdP (0,0,0,()) b.2.2.2.1 i).1)∧
  (0<i→(rdP (0,0,0,()) b.2.2.2.1 i).2.1≤(rdP (0,0,0,()) b.2.2.2.1 (i-1)).2.1-(rdP (0,0,0,()) b.2.2.2.1 (i-1)).2.2.1-b.2.1)
def BeltP (b:Int×Int×Bool×List Item×Unit):Prop:=(1≤b.1∧b.1≤400)∧(0≤b.2.1∧b.2.1≤20)∧b.2.2.2.1.length≤40∧∀i,i<b.2.2.2.1.length→ItemP b i
theorem spec_BeltOk_f {k:Nat} (hk:K0≤k) (x:Int×Int×Bool×List Item×Unit):spec_BeltOk.f k x=chkP (BeltP x):=by
 unfold K0 at hk
 unfold spec_BeltOk.f
 simp only [spec_l01In_f,bnd_chk,br_not,chk_F,chk_T,ltI_dc,ln_e,br_chkF']
 by_cases h1:1≤x.1∧x.1≤400
 case neg=>rw [br_neg h1];exact chk_congr ⟨fun z=>z.elim,fun z=>h1 z.1⟩
 by_cases h2:0≤x.2.1∧x.2.1≤20
 case neg=>rw [br_pos h1,br_neg h2];exact chk_congr ⟨fun z=>z.elim,fun z=>h2 z.2.1⟩
 by_cases h3:x.2.2.2.1.length≤40
 case neg=>rw [br_pos h1,br_pos h2,br_pos (by omega)];exact chk_congr ⟨fun z=>z.elim,fun z=>h3 z.2.2.1⟩
 rw [br_pos h1,br_pos h2,br_neg (by omega),loop_chk (n:=x.2.2.2.1.length) (Q:=True) (fun i=>((i:Int),())) (ItemP x) ?h0 ?hk ?hs ?he]
 case h0=>rfl
 case hk=>omega
 case he=>intro _ rec;exact br_neg (by simp) _ _
 case hs=>
  intro i hi hp rec
  simp only [lett_e,eqI_dc,inR_dc,natI_n,g1]
  rw [br_pos (by omega),br_pos (by omega),loop_while (n:=i) (r:=chkP False) (e:=br (dc (0<i→(rdP (0,0,0,()) x.2.2.2.1 i).2.1≤(rdP (0,0,0,()) x.2.2.2.1 (i-1)).2.1-(rdP (0,0,0,()) x.2.2.2.1 (i-1)).2.2.1-x.2.1)) (rec (((i+1:Nat):Int),())) (chkP False)) (fun j=>((j:Int),()))
   (fun j=>(rdP (0,0,0,()) x.2.2.2.1 j).1≠(rdP (0,0,0,()) x.2.2.2.1 i).1) ?h01 ?hs1 ?he1 ?hk1]
  case h01=>rfl
  case hk1=>omega
  case hs1=>
   intro j hj _ rec
   simp only []
   rw [br_pos (by omega),br_pos (by omega),addI_n (by omega)]
   rfl
  case he1=>
   intro _ rec2
   simp only []
   rw [br_neg (by omega),addI_n (by omega)]
   by_cases h0:0<i
   ·obtain⟨i,rfl⟩:∃m,i=m+1:=⟨i-1,by omega⟩
    obtain⟨_,⟨p1,p2⟩,⟨p3,p4⟩,_⟩:=hp i (by omega)
    rw [br_pos (by omega),subI_nat (by omega),br_pos (by omega),br_pos (by omega),natI_n,subI_id (x:=(rdP (0,0,0,()) x.2.2.2.1 i).2.1) (by omega),subI_id (by omega),Nat.add_sub_cancel]
    exact br_iff ⟨fun z _=>by omega,fun z=>by have:=z h0;omega⟩ _ _
   ·rw [br_neg (by omega),br_pos (fun z=>absurd z h0)]
    rfl
  simp only [g2]
  refine br_iff' ?_ (fun _=>rfl)
  unfold ItemP
  grind
 exact chk_congr ⟨fun z=>⟨h1,h2,h3,z.1⟩,fun z=>⟨z.2.2.2,trivial⟩⟩
end Go.Proofs.YtpmjopbgccajgaaGreat.Eng
namespace Go.Proofs.YtpmjopbgccajgaaGreat.Eng
abbrev Chute:=Int×Int×List (Int×Unit)×Unit
abbrev Want:=Int×List (Int×Unit)×Unit
abbrev LoopT:=List (Int×Unit)×Int×List Chute×List Want×Unit
def nz (l:List (Int×Unit)):List (Int×Unit):=l.filter fun x=>decide (x.1≠0)
def inCh (l:List Chute):List (Int×Unit):=l.flatMap fun c=>c.2.2.1
def bagsL (l:LoopT):List (Int×Unit):=nz l.1++inCh l.2.2.1
def AscP (l:List (Int×Unit)) (n:Nat):Prop:=∀i,i<l.length→(0≤(rdP (0,()) l i).1∧(rdP (0,()) l i).1<n)∧(0<i→(rdP (0,()) l (i-1)).1<(rdP (0,()) l i).1)
def ChuteP (n:Nat) (c:Chute):Prop:=(0≤c.1∧c.1<n)∧(0≤c.2.1∧c.2.1≤40)∧(c.2.2.1.length:Int)≤c.2.1
def LoopP (l:LoopT):Prop:=(2≤l.1.length∧l.1.length≤60)∧(0≤l.2.1∧l.2.1<l.1.length)∧l.2.2.1.length≤8∧l.2.2.2.1.length≤60∧(∀c∈l.2.2.1,ChuteP l.1.length c)∧(l.2.2.1.map (·.1)).Nodup∧
 (∀b∈bagsL l,1≤b.1)∧(bagsL l).Nodup∧(∀w∈l.2.2.2.1,1≤w.1∧AscP w.2.1 l.2.2.1.length)∧(l.2.2.2.1.map (·.1)).Nodup
theorem nz_len (l:List (Int×Unit)):(nz l).length≤l.length:=List.length_filter_le _ _
theorem nz_s {l:List (Int×Unit)} {i:Nat} (h:i<l.length):nz (l.take (i+1))=nz (l.take i)++(if (rdP (0,()) l i).1≠0 then [rdP (0,()) l i]else []):=by
 rw [take_s (d:=(0,())) h,nz,List.filter_append]
 congr 1
 by_cases e:(rdP (0,()) l i).1=0<;>simp [e]
theorem inCh_s {l:List Chute} {i:Nat} (h:i<l.length):inCh (l.take (i+1))=inCh (l.take i)++(rdP (0,0,[],()) l i).2.2.1:=by
 rw [take_s (d:=(0,0,[],())) h,inCh,List.flatMap_append];simp [inCh]
theorem inCh_len {l:List Chute} {n:Nat}:∀i,i≤l.length→(∀j,j<i→ChuteP n (rdP (0,0,[],()) l j))→(inCh (l.take i)).length≤40*i
 |0,_,_=>by simp [inCh]
 |i+1,hi,h=>by
  have ih:=inCh_len (l:=l) (n:=n) i (by omega) (fun j hj=>h j (by omega))
  obtain⟨_,h2,h3⟩:=h i (by omega)
  rw [inCh_s (by omega),List.length_append]
  omega
theorem asc_loop {k:Nat} (hk:K0≤k) {R:Type} (l:List (Int×Unit)) (n:Nat) (hl:l.length≤1048576) (hn:n≤8) (e r:Option R) (F:(Int×Unit→Option R)→Int×Unit→Option R)
  (hF:∀(i:Nat) rec,i<l.length→F rec ((i:Int),())=br (dc ((0≤(rdP (0,()) l i).1∧(rdP (0,()) l i).1<n)∧(0<i→(rdP (0,()) l (i-1)).1<(rdP (0,()) l i).1))) (rec (((i+1:Nat):Int),())) r) (hE:∀rec,F rec ((l.length:Int),())=e):
  loopN F k (0,())=br (dc (AscP l n)) e r:=by
 unfold K0 at hk
 rw [loop_while (n:=l.length) (r:=r) (e:=e) (fun j=>((j:Int),())) (fun i=>(0≤(rdP (0,()) l i).1∧(rdP (0,()) l i).1<n)∧(0<i→(rdP (0,()) l (i-1)).1<(rdP (0,()) l i).1)) (by simp) (fun i hi _ rec=>hF i rec hi) (fun _ rec=>hE rec) (by omega)]
 rfl
theorem spec_LoopOk_f {k:Nat} (hk:K0≤k) (x:LoopT) (hw:∀w∈x.2.2.2.1,w.2.1.length≤1048576):spec_LoopOk.f k x=chkP (LoopP x):=by
 have hk':=hk
 unfold K0 at hk
 unfold spec_LoopOk.f
 simp only [spec_l01In_f,bnd_chk,br_not,chk_F,chk_T,ltI_dc,ln_e,lett_e,app_e]
 by_cases h1:2≤x.1.length∧x.1.length≤60
 case neg=>rw [br_neg (by omega)];exact chk_congr ⟨fun z=>z.elim,fun z=>h1 z.1⟩
 rw [br_pos (by omega),subI_id (x:=(x.1.length:Int)) (by omega)]
 by_cases h2:0≤x.2.1∧x.2.1<x.1.length
 case neg=>rw [br_neg (by omega)];exact chk_congr ⟨fun z=>z.elim,fun z=>h2 z.2.1⟩
 rw [br_pos (by omega)]
 by_cases h3:x.2.2.1.length≤8
 case neg=>rw [br_pos (by omega)];exact chk_congr ⟨fun z=>z.elim,fun z=>h3 z.2.2.1⟩
 rw [br_neg (by omega)]
 by_cases h4:x.2.2.2.1.length≤60
 case neg=>rw [br_pos (by omega)];exact chk_congr ⟨fun z=>z.elim,fun z=>h4 z.2.2.2.1⟩
 rw [br_neg (by omega)]
 rw [loop_run (n:=x.1.length) (r:=chkP (LoopP x)) (fun i=>(nz (x.1.take i),(i:Int),())) ?h0 ?hs ?he ?hk]
 case h0=>simp [nz]
 case hk=>omega
 case hs=>
  intro i hi rec
  have hlen:=nz_len (x.1.take i)
  rw [List.length_take]at hlen
  have hlen2:(nz (x.1.take i)).length≤60:=by omega
  have hf:=fitL_T (l:=nz (x.1.take i)) (m:=[((rdP (0,()) x.1 i).1,())]) (by simp only [List.length_cons,List.length_nil];omega)
  rw [nz_s hi]
  by_cases hz:(rdP (0,()) x.1 i).1=0
  ·rw [if_neg (fun z=>z hz),List.append_nil]
   simp (disch:=omega) only [lett_e,bnd_s,bnd_chk,br_not,br_t,br_f,br_T,br_F,not_true_eq_false,not_false_eq_true,chk_T,chk_F,chk_eq,eqI_dc,ltI_dc,leI_dc,eqN_dc,notB_dc,andB_dc,andB_t,eqB_dc,notB_t,notB_f,inR_dc,upR_dc,ln_e,app_e,tk_e,dp_e,upd_e,repl_e,natI_n,br_pos,br_neg,addI_n,fitN_T]
   rfl
  ·rw [if_pos hz]
   simp (disch:=omega) only [lett_e,bnd_s,bnd_chk,br_not,br_t,br_f,br_T,br_F,not_true_eq_false,not_false_eq_true,chk_T,chk_F,chk_eq,eqI_dc,ltI_dc,leI_dc,eqN_dc,notB_dc,andB_dc,andB_t,eqB_dc,notB_t,notB_f,inR_dc,upR_dc,ln_e,app_e,tk_e,dp_e,upd_e,repl_e,natI_n,br_pos,br_neg,addI_n,fitN_T,hf]
   rfl
 case he=>
  intro rec
  have hlen:=nz_len x.1
  simp (disch:=omega) only [lett_e,bnd_s,bnd_chk,br_not,br_t,br_f,br_T,br_F,not_true_eq_false,not_false_eq_true,chk_T,chk_F,chk_eq,eqI_dc,ltI_dc,leI_dc,eqN_dc,notB_dc,andB_dc,andB_t,eqB_dc,notB_t,notB_f,inR_dc,upR_dc,ln_e,app_e,tk_e,dp_e,upd_e,repl_e,natI_n,br_pos,br_neg,addI_n,fitN_T,List.take_length]
  rw [loop_while (n:=x.2.2.1.length) (r:=chkP False) (e:=chkP ((∀b∈bagsL x,1≤b.1)∧(bagsL x).Nodup∧(∀w∈x.2.2.2.1,1≤w.1∧AscP w.2.1 x.2.2.1.length)∧(x.2.2.2.1.map (·.1)).Nodup)) (fun i=>(nz x.1++inCh (x.2.2.1.take i),(i:Int),())) (fun i=>ChuteP x.1.length (rdP (0,0,[],()) x.2.2.1 i)∧∀j,j<i→(rdP (0,0,[],()) x.2.2.1 j).1≠(rdP (0,0,[],()) x.2.2.1 i).1) ?h1 ?hs1 ?he1 ?hk1]
  case h1=>simp [inCh]
  case hk1=>omega
  case hs1=>
   intro i hi hp rec
   have hlen2:=inCh_len (n:=x.1.length) (l:=x.2.2.1) i (by omega) (fun j hj=>(hp j hj).1)
   rw [inCh_s hi,←List.append_assoc]
   simp (disch:=omega) only [lett_e,bnd_s,bnd_chk,br_not,br_t,br_f,br_T,br_F,not_true_eq_false,not_false_eq_true,chk_T,chk_F,chk_eq,eqI_dc,ltI_dc,leI_dc,eqN_dc,notB_dc,andB_dc,andB_t,eqB_dc,notB_t,notB_f,inR_dc,upR_dc,ln_e,app_e,tk_e,dp_e,upd_e,repl_e,natI_n,br_pos,br_neg,addI_n,fitN_T]
   by_cases hc:ChuteP x.1.length (rdP (0,0,[],()) x.2.2.1 i)
   case neg=>
    rw [br_neg (p:=ChuteP x.1.length (rdP (0,0,[],()) x.2.2.1 i)∧_) (fun z=>hc z.1)]
    unfold ChuteP at hc
    simp only [g1,g2]
    exact br_neg (fun z=>hc ⟨⟨by omega,by omega⟩,z.2.1,by omega⟩) _ _
   obtain⟨c1,c2,c3⟩:=hc
   have hf:=fitL_T (l:=nz x.1++inCh (x.2.2.1.take i)) (m:=(rdP (0,0,[],()) x.2.2.1 i).2.2.1) (by rw [List.length_append];omega)
   rw [loop_while (n:=i) (r:=chkP False) (e:=rec (nz x.1++inCh (x.2.2.1.take i)++(rdP (0,0,[],()) x.2.2.1 i).2.2.1,((i+1:Nat):Int),())) (fun j=>((j:Int),())) (fun j=>(rdP (0,0,[],()) x.2.2.1 j).1≠(rdP (0,0,[],()) x.2.2.1 i).1) ?h2 ?hs2 ?he2 ?hk2]
   case h2=>simp
   case hk2=>omega
   case hs2=>intro j hj _ rec;simp (disch:=omega) only [lett_e,bnd_s,bnd_chk,br_not,br_t,br_f,br_T,br_F,not_true_eq_false,not_false_eq_true,chk_T,chk_F,chk_eq,eqI_dc,ltI_dc,leI_dc,eqN_dc,notB_dc,andB_dc,andB_t,eqB_dc,notB_t,notB_f,inR_dc,upR_dc,ln_e,app_e,tk_e,dp_e,upd_e,repl_e,natI_n,br_pos,br_neg,addI_n,fitN_T,g1];rfl
   case he2=>intro _ rec2;simp (disch:=omega) only [lett_e,bnd_s,bnd_chk,br_not,br_t,br_f,br_T,br_F,not_true_eq_false,not_false_eq_true,chk_T,chk_F,chk_eq,eqI_dc,ltI_dc,leI_dc,eqN_dc,notB_dc,andB_dc,andB_t,eqB_dc,notB_t,notB_f,inR_dc,upR_dc,ln_e,app_e,tk_e,dp_e,upd_e,repl_e,natI_n,br_pos,br_neg,addI_n,fitN_T,hf];rfl
   simp (disch:=omega) only [lett_e,bnd_s,bnd_chk,br_not,br_t,br_f,br_T,br_F,not_true_eq_false,not_false_eq_true,chk_T,chk_F,chk_eq,eqI_dc,ltI_dc,leI_dc,eqN_dc,notB_dc,andB_dc,andB_t,eqB_dc,notB_t,notB_f,inR_dc,upR_dc,ln_e,app_e,tk_e,dp_e,upd_e,repl_e,natI_n,br_pos,br_neg,addI_n,fitN_T]
   exact br_iff ⟨fun z=>⟨⟨c1,c2,c3⟩,z⟩,fun z=>z.2⟩ _ _
  case he1=>
   intro hp rec
   have hlen2:=inCh_len (n:=x.1.length) (l:=x.2.2.1) _ (Nat.le_refl _) (fun j hj=>(hp j hj).1)
   rw [List.take_length]at hlen2
   simp (disch:=omega) only [lett_e,bnd_s,bnd_chk,br_not,br_t,br_f,br_T,br_F,not_true_eq_false,not_false_eq_true,chk_T,chk_F,chk_eq,eqI_dc,ltI_dc,leI_dc,eqN_dc,notB_dc,andB_dc,andB_t,eqB_dc,notB_t,notB_f,inR_dc,upR_dc,ln_e,app_e,tk_e,dp_e,upd_e,repl_e,natI_n,br_pos,br_neg,addI_n,fitN_T,List.take_length]
   have hb:nz x.1++inCh x.2.2.1=bagsL x:=rfl
   have hbl:(bagsL x).length≤1000:=by rw [←hb,List.length_append];omega
   rw [hb,loop_while (n:=(bagsL x).length) (r:=chkP False) (e:=chkP ((∀w∈x.2.2.2.1,1≤w.1∧AscP w.2.1 x.2.2.1.length)∧(x.2.2.2.1.map (·.1)).Nodup)) (fun i=>((i:Int),())) (fun i=>1≤(rdP (0,()) (bagsL x) i).1∧rdP (0,()) (bagsL x) i∉(bagsL x).take i) ?h3 ?hs3 ?he3 ?hk3]
   case h3=>simp
   case hk3=>omega
   case hs3=>
    intro i hi _ rec
    have hl:((bagsL x).take i).length≤1048576:=by rw [List.length_take];omega
    simp (disch:=omega) only [lett_e,bnd_s,bnd_chk,br_not,br_t,br_f,br_T,br_F,not_true_eq_false,not_false_eq_true,chk_T,chk_F,chk_eq,eqI_dc,ltI_dc,leI_dc,eqN_dc,notB_dc,andB_dc,andB_t,eqB_dc,notB_t,notB_f,inR_dc,upR_dc,ln_e,app_e,tk_e,dp_e,upd_e,repl_e,natI_n,br_pos,br_neg,addI_n,fitN_T,spec_l03Has_f hk' _ _ hl]
    simp only [g1,g2]
    exact br_iff (by rw [Int.not_lt]) _ _
   case he3=>
    intro _ rec
    simp (disch:=omega) only [lett_e,bnd_s,bnd_chk,br_not,br_t,br_f,br_T,br_F,not_true_eq_false,not_false_eq_true,chk_T,chk_F,chk_eq,eqI_dc,ltI_dc,leI_dc,eqN_dc,notB_dc,andB_dc,andB_t,eqB_dc,notB_t,notB_f,inR_dc,upR_dc,ln_e,app_e,tk_e,dp_e,upd_e,repl_e,natI_n,br_pos,br_neg,addI_n,fitN_T]
    rw [loop_chk (n:=x.2.2.2.1.length) (Q:=True) (fun i=>((i:Int),())) (fun i=>(1≤(rdP (0,[],()) x.2.2.2.1 i).1∧AscP (rdP (0,[],()) x.2.2.2.1 i).2.1 x.2.2.1.length)∧∀j,j<i→(rdP (0,[],()) x.2.2.2.1 j).1≠(rdP (0,[],()) x.2.2.2.1 i).1) ?h4 ?hk4 ?hs4 ?he4]
    case h4=>simp
    case hk4=>omega
    case he4=>intro _ rec;simp (disch:=omega) only [lett_e,bnd_s,bnd_chk,br_not,br_t,br_f,br_T,br_F,not_true_eq_false,not_false_eq_true,chk_T,chk_F,chk_eq,eqI_dc,ltI_dc,leI_dc,eqN_dc,notB_dc,andB_dc,andB_t,eqB_dc,notB_t,notB_f,inR_dc,upR_dc,ln_e,app_e,tk_e,dp_e,upd_e,repl_e,natI_n,br_pos,br_neg,addI_n,fitN_T]
    case hs4=>
     intro i hi _ rec
     have hwl:=hw _ (by rw [rd_lt hi];exact List.getElem_mem hi:rdP (0,[],()) x.2.2.2.1 i∈x.2.2.2.1)
     simp (disch:=omega) only [lett_e,bnd_s,bnd_chk,br_not,br_t,br_f,br_T,br_F,not_true_eq_false,not_false_eq_true,chk_T,chk_F,chk_eq,eqI_dc,ltI_dc,leI_dc,eqN_dc,notB_dc,andB_dc,andB_t,eqB_dc,notB_t,notB_f,inR_dc,upR_dc,ln_e,app_e,tk_e,dp_e,upd_e,repl_e,natI_n,br_pos,br_neg,addI_n,fitN_T]
     rw [loop_while (n:=i) (r:=chkP False) (e:=br (dc (AscP (rdP (0,[],()) x.2.2.2.1 i).2.1 x.2.2.1.length)) (rec (((i+1:Nat):Int),())) (chkP False)) (fun j=>((j:Int),())) (fun j=>(rdP (0,[],()) x.2.2.2.1 j).1≠(rdP (0,[],()) x.2.2.2.1 i).1) ?h5 ?hs5 ?he5 ?hk5]
     case h5=>simp
     case hk5=>omega
     case hs5=>intro j hj _ rec;simp (disch:=omega) only [lett_e,bnd_s,bnd_chk,br_not,br_t,br_f,br_T,br_F,not_true_eq_false,not_false_eq_true,chk_T,chk_F,chk_eq,eqI_dc,ltI_dc,leI_dc,eqN_dc,notB_dc,andB_dc,andB_t,eqB_dc,notB_t,notB_f,inR_dc,upR_dc,ln_e,app_e,tk_e,dp_e,upd_e,repl_e,natI_n,br_pos,br_neg,addI_n,fitN_T,g1];rfl
     case he5=>
      intro _ rec2
      simp (disch:=omega) only [lett_e,bnd_s,bnd_chk,br_not,br_t,br_f,br_T,br_F,not_true_eq_false,not_false_eq_true,chk_T,chk_F,chk_eq,eqI_dc,ltI_dc,leI_dc,eqN_dc,notB_dc,andB_dc,andB_t,eqB_dc,notB_t,notB_f,inR_dc,upR_dc,ln_e,app_e,tk_e,dp_e,upd_e,repl_e,natI_n,br_pos,br_neg,addI_n,fitN_T]
      refine asc_loop hk' _ _ hwl h3 _ _ _ (fun m rec3 hm=> ?_) (fun rec3=> ?_)
      ·simp (disch:=omega) only [lett_e,bnd_s,bnd_chk,br_not,br_t,br_f,br_T,br_F,not_true_eq_false,not_false_eq_true,chk_T,chk_F,chk_eq,eqI_dc,ltI_dc,leI_dc,eqN_dc,notB_dc,andB_dc,andB_t,eqB_dc,notB_t,notB_f,inR_dc,upR_dc,ln_e,app_e,tk_e,dp_e,upd_e,repl_e,natI_n,br_pos,br_neg,addI_n,fitN_T,spec_l01In_f]
       rw [subI_id (x:=(x.2.2.1.length:Int)) (by omega)]
       by_cases hm0:0<m
       ·obtain⟨m,rfl⟩:∃m',m=m'+1:=⟨m-1,by omega⟩
        simp (disch:=omega) only [lett_e,bnd_s,bnd_chk,br_not,br_t,br_f,br_T,br_F,not_true_eq_false,not_false_eq_true,chk_T,chk_F,chk_eq,eqI_dc,ltI_dc,leI_dc,eqN_dc,notB_dc,andB_dc,andB_t,eqB_dc,notB_t,notB_f,inR_dc,upR_dc,ln_e,app_e,tk_e,dp_e,upd_e,repl_e,natI_n,br_pos,br_neg,addI_n,fitN_T,subI_nat,Nat.add_sub_cancel,g1,g2]
        exact br_iff (by grind) _ _
       ·simp (disch:=omega) only [lett_e,bnd_s,bnd_chk,br_not,br_t,br_f,br_T,br_F,not_true_eq_false,not_false_eq_true,chk_T,chk_F,chk_eq,eqI_dc,ltI_dc,leI_dc,eqN_dc,notB_dc,andB_dc,andB_t,eqB_dc,notB_t,notB_f,inR_dc,upR_dc,ln_e,app_e,tk_e,dp_e,upd_e,repl_e,natI_n,br_pos,br_neg,addI_n,fitN_T]
        exact br_iff (by grind) _ _
      ·simp (disch:=omega) only [lett_e,bnd_s,bnd_chk,br_not,br_t,br_f,br_T,br_F,not_true_eq_false,not_false_eq_true,chk_T,chk_F,chk_eq,eqI_dc,ltI_dc,leI_dc,eqN_dc,notB_dc,andB_dc,andB_t,eqB_dc,notB_t,notB_f,inR_dc,upR_dc,ln_e,app_e,tk_e,dp_e,upd_e,repl_e,natI_n,br_pos,br_neg,addI_n,fitN_T]
       rfl
     simp only [g1,g2]
     exact br_iff (by grind) _ _
    refine chk_congr ?_
    rw [nodup_rd (d:=(0,[],())),←all_rd (d:=(0,[],()))]
    grind
   rw [br_chkF']
   refine chk_congr ?_
   rw [nodup_take (d:=(0,())),←all_rd (d:=(0,())) (l:=bagsL x)]
   grind
  rw [br_chkF']
  refine chk_congr ?_
  unfold LoopP
  rw [nodup_rd (d:=(0,0,[],())) (l:=x.2.2.1),←all_rd (d:=(0,0,[],())) (l:=x.2.2.1)]
  grind
abbrev Kept:=Int×Int×Unit
abbrev StoreT:=Int×List (List Kept×Unit)×Unit
def bagsK (l:List Kept):List (Int×Unit):=l.map fun x=>(x.1,())
def bagsS (l:List (List Kept×Unit)):List (Int×Unit):=l.flatMap fun x=>bagsK x.1
theorem bagsS_s {l:List (List Kept×Unit)} {i:Nat} (h:i<l.length):bagsS (l.take (i+1))=bagsS (l.take i)++bagsK (rdP ([],()) l i).1:=by
 rw [take_s (d:=([],())) h,bagsS,List.flatMap_append];simp [bagsS]
theorem bagsK_s {l:List Kept} {i:Nat} (h:i<l.length):bagsK (l.take (i+1))=bagsK (l.take i)++[((rdP (0,0,()) l i).1,())]:=by
 rw [take_s (d:=(0,0,())) h,bagsK,List.map_append];rfl
def StoreP (s:StoreT):Prop:=(1≤s.1∧s.1≤5)∧(1≤s.2.1.length∧s.2.1.length≤4)∧(∀l∈s.2.1,(l.1.length:Int)≤s.1∧∀x∈l.1,1≤x.1∧(0≤x.2.1∧x.2.1≤100000))∧(bagsS s.2.1).Nodup
theorem bagsS_len {l:List (List Kept×Unit)}:∀i,i≤l.length→(∀j,j<i→(rdP ([],()) l j).1.length≤5)→(bagsS (l.take i)).length≤5*i
 |0,_,_=>by simp [bagsS]
 |i+1,hi,h=>by
  have ih:=bagsS_len (l:=l) i (by omega) (fun j hj=>h j (by omega))
  have:=h i (by omega)
  rw [bagsS_s (by omega),List.length_append]
  simp only [bagsK,List.length_map]
  omega
theorem nodup_app_take {a:List (Int×Unit)} {l:List Kept} (ha:a.Nodup):(a++bagsK l).Nodup↔∀i,i<l.length→((rdP (0,0,()) l i).1,())∉a++bagsK (l.take i):=by
 rw [List.nodup_append,nodup_take (d:=(0,())) (l:=bagsK l)]
 have hlen:(bagsK l).length=l.length:=by simp [bagsK]
 have hrd:∀i,i<l.length→rdP (0,()) (bagsK l) i=((rdP (0,0,()) l i).1,()):=fun i hi=>by
  rw [rd_lt (by omega),rd_lt hi];simp [bagsK]
 have htk:∀i,(bagsK l).take i=bagsK (l.take i):=fun i=>by simp [bagsK,List.map_take]
 constructor
 ·rintro ⟨_,h2,h3⟩ i hi hm
  rcases List.mem_append.1 hm with hm|hm
  ·exact h3 _ hm _ (by rw [←hrd i hi,rd_lt (by omega)];exact List.getElem_mem _) rfl
  ·have:=h2 i (by omega)
   rw [hrd i hi,htk]at this
   exact this hm
 ·intro h
  refine⟨ha,fun i hi=> ?_,fun x hx y hy e=> ?_⟩
  ·rw [hlen]at hi
   rw [hrd i hi,htk]
   exact fun hm=>h i hi (List.mem_append_right _ hm)
  ·subst e
   obtain⟨i,hi,e⟩:=List.getElem_of_mem hy
   have hi':i<l.length:=by omega
   apply h i hi'
   rw [←hrd i hi',rd_lt hi,e]
   exact List.mem_append_left _ hx
theorem spec_StoreOk_f {k:Nat} (hk:K0≤k) (x:StoreT):spec_StoreOk.f k x=chkP (StoreP x):=by
 have hk':=hk
 unfold K0 at hk
 unfold spec_StoreOk.f
 simp only [spec_l01In_f,bnd_chk,br_not,chk_F,chk_T,ltI_dc,ln_e,lett_e,app_e]
 by_cases h1:1≤x.1∧x.1≤5
 case neg=>rw [br_neg (by omega)];exact chk_congr ⟨fun z=>z.elim,fun z=>h1 z.1⟩
 rw [br_pos (by omega)]
 by_cases h2:1≤x.2.1.length∧x.2.1.length≤4
 case neg=>rw [br_neg (by omega)];exact chk_congr ⟨fun z=>z.elim,fun z=>h2 z.2.1⟩
 rw [br_pos (by omega)]
 let P:Nat→Prop:=fun i=>((rdP ([],()) x.2.1 i).1.length:Int)≤x.1∧(∀y∈(rdP ([],()) x.2.1 i).1,1≤y.1∧(0≤y.2.1∧y.2.1≤100000))∧(bagsS (x.2.1.take (i+1))).Nodup
 rw [loop_chk (n:=x.2.1.length) (Q:=True) (fun i=>(bagsS (x.2.1.take i),(i:Int),())) P ?h0 ?hk0 ?hs0 ?he0]
 case h0=>simp [bagsS]
 case hk0=>omega
 case he0=>intro _ rec;simp (disch:=omega) only [lett_e,bnd_s,bnd_chk,br_not,br_t,br_f,br_T,br_F,not_true_eq_false,not_false_eq_true,chk_T,chk_F,chk_eq,eqI_dc,ltI_dc,leI_dc,eqN_dc,notB_dc,andB_dc,andB_t,eqB_dc,notB_t,notB_f,inR_dc,upR_dc,ln_e,app_e,tk_e,dp_e,upd_e,repl_e,natI_n,br_pos,br_neg,addI_n,fitN_T]
 case hs0=>
  intro i hi hp rec
  have hlen:=bagsS_len (l:=x.2.1) i (by omega) (fun j hj=>by have:=(hp j hj).1;omega)
  have hnd:(bagsS (x.2.1.take i)).Nodup:=by
   cases i with
   |zero=>simp [bagsS]
   |succ i=>exact(hp i (by omega)).2.2
  simp (disch:=omega) only [lett_e,bnd_s,bnd_chk,br_not,br_t,br_f,br_T,br_F,not_true_eq_false,not_false_eq_true,chk_T,chk_F,chk_eq,eqI_dc,ltI_dc,leI_dc,eqN_dc,notB_dc,andB_dc,andB_t,eqB_dc,notB_t,notB_f,inR_dc,upR_dc,ln_e,app_e,tk_e,dp_e,upd_e,repl_e,natI_n,br_pos,br_neg,addI_n,fitN_T]
  by_cases hd:((rdP ([],()) x.2.1 i).1.length:Int)≤x.1
  case neg=>simp (disch:=omega) only [lett_e,bnd_s,bnd_chk,br_not,br_t,br_f,br_T,br_F,not_true_eq_false,not_false_eq_true,chk_T,chk_F,chk_eq,eqI_dc,ltI_dc,leI_dc,eqN_dc,notB_dc,andB_dc,andB_t,eqB_dc,notB_t,notB_f,inR_dc,upR_dc,ln_e,app_e,tk_e,dp_e,upd_e,repl_e,natI_n,br_pos,br_neg,addI_n,fitN_T]
  simp (disch:=omega) only [lett_e,bnd_s,bnd_chk,br_not,br_t,br_f,br_T,br_F,not_true_eq_false,not_false_eq_true,chk_T,chk_F,chk_eq,eqI_dc,ltI_dc,leI_dc,eqN_dc,notB_dc,andB_dc,andB_t,eqB_dc,notB_t,notB_f,inR_dc,upR_dc,ln_e,app_e,tk_e,dp_e,upd_e,repl_e,natI_n,br_pos,br_neg,addI_n,fitN_T]
  rw [loop_while (n:=(rdP ([],()) x.2.1 i).1.length) (r:=chkP False) (e:=rec (bagsS (x.2.1.take i)++bagsK (rdP ([],()) x.2.1 i).1,((i+1:Nat):Int),())) (fun j=>(bagsS (x.2.1.take i)++bagsK ((rdP ([],()) x.2.1 i).1.take j),(j:Int),()))
   (fun j=>(1≤(rdP (0,0,()) (rdP ([],()) x.2.1 i).1 j).1∧(0≤(rdP (0,0,()) (rdP ([],()) x.2.1 i).1 j).2.1∧(rdP (0,0,()) (rdP ([],()) x.2.1 i).1 j).2.1≤100000))∧((rdP (0,0,()) (rdP ([],()) x.2.1 i).1 j).1,())∉bagsS (x.2.1.take i)++bagsK ((rdP ([],()) x.2.1 i).1.take j)) ?h1 ?hs1 ?he1 ?hk1]
  case h1=>simp [bagsK]
  case hk1=>omega
  case hs1=>
   intro j hj _ rec2
   have hl2:(bagsS (x.2.1.take i)++bagsK ((rdP ([],()) x.2.1 i).1.take j)).length≤100:=by
    rw [List.length_append];simp only [bagsK,List.length_map,List.length_take];omega
   have hf:=fitL_T (l:=bagsS (x.2.1.take i)++bagsK ((rdP ([],()) x.2.1 i).1.take j)) (m:=[((rdP (0,0,()) (rdP ([],()) x.2.1 i).1 j).1,())]) (by simp only [List.length_cons,List.length_nil];omega)
   rw [bagsK_s hj,←List.append_assoc]
   simp (disch:=omega) only [lett_e,bnd_s,bnd_chk,br_not,br_t,br_f,br_T,br_F,not_true_eq_false,not_false_eq_true,chk_T,chk_F,chk_eq,eqI_dc,ltI_dc,leI_dc,eqN_dc,notB_dc,andB_dc,andB_t,eqB_dc,notB_t,notB_f,inR_dc,upR_dc,ln_e,app_e,tk_e,dp_e,upd_e,repl_e,natI_n,br_pos,br_neg,addI_n,fitN_T,spec_l01In_f,spec_l03Has_f hk' _ _ (Nat.le_trans hl2 (by omega)),hf]
   simp only [g1,g2]
   exact br_iff' (by grind) (fun _=>rfl)
  case he1=>intro _ rec2;simp (disch:=omega) only [lett_e,bnd_s,bnd_chk,br_not,br_t,br_f,br_T,br_F,not_true_eq_false,not_false_eq_true,chk_T,chk_F,chk_eq,eqI_dc,ltI_dc,leI_dc,eqN_dc,notB_dc,andB_dc,andB_t,eqB_dc,notB_t,notB_f,inR_dc,upR_dc,ln_e,app_e,tk_e,dp_e,upd_e,repl_e,natI_n,br_pos,br_neg,addI_n,fitN_T,List.take_length];rfl
  rw [bagsS_s hi]
  have hn:=nodup_app_take (l:=(rdP ([],()) x.2.1 i).1) hnd
  refine br_iff' ?_ (fun _=>rfl)
  show _↔_∧_∧(bagsS (x.2.1.take (i+1))).Nodup
  rw [bagsS_s hi,hn,←all_rd (d:=(0,0,())) (l:=(rdP ([],()) x.2.1 i).1)]
  grind
 refine chk_congr ?_
 unfold StoreP
 rw [←all_rd (d:=([],())) (l:=x.2.1)]
 constructor
 ·rintro ⟨h,_⟩
  refine⟨h1,h2,fun i hi=>⟨(h i hi).1,(h i hi).2.1⟩,?_⟩
  have:=(h (x.2.1.length-1) (by omega)).2.2
  rwa [show x.2.1.length-1+1=x.2.1.length by omega,List.take_length]at this
 ·rintro ⟨_,_,h3,h4⟩
  refine⟨fun i hi=>⟨(h3 i hi).1,(h3 i hi).2,?_⟩,trivial⟩
  refine List.Sublist.nodup ?_ h4
  conv=>rhs;rw [←List.take_append_drop (i+1) x.2.1]
  simp only [bagsS,List.flatMap_append]
  exact List.sublist_append_left _ _
abbrev NoteT:=Int×Int×Int×Int×Int×Unit
def NoteP (n:NoteT):Prop:=(1≤n.1∧n.1≤10000)∧(1≤n.2.1∧n.2.1≤4)∧(1≤n.2.2.2.2.1∧n.2.2.2.2.1≤20)∧(if n.2.1=4 then n.2.2.1=0 else 1≤n.2.2.1∧n.2.2.1≤1000)∧(if n.2.1=1∨n.2.1=4 then 1≤n.2.2.2.1∧n.2.2.2.1≤1000 else n.2.2.2.1=0)
theorem spec_NoteOk_f (k:Nat) (n:NoteT):spec_NoteOk.f k n=chkP (NoteP n):=by
 unfold spec_NoteOk.f
 simp (disch:=omega) only [lett_e,bnd_s,bnd_chk,br_not,br_t,br_f,br_T,br_F,not_true_eq_false,not_false_eq_true,chk_T,chk_F,chk_eq,eqI_dc,ltI_dc,leI_dc,eqN_dc,notB_dc,andB_dc,andB_t,eqB_dc,notB_t,notB_f,inR_dc,upR_dc,ln_e,app_e,tk_e,dp_e,upd_e,repl_e,natI_n,br_pos,br_neg,addI_n,fitN_T,spec_l01In_f,br_chkF,br_chkF',br_chkT,br_chk]
 exact chk_congr (by unfold NoteP;grind)
def NotesP (l:List NoteT):Prop:=l.length≤60∧(∀n∈l,NoteP n)∧∀i,0<i→i<l.length→(rdP (0,0,0,0,0,()) l (i-1)).1<(rdP (0,0,0,0,0,()) l i).1
theorem spec_NotesOk_f {k:Nat} (hk:K0≤k) (l:List NoteT):spec_NotesOk.f k l=chkP (NotesP l):=by
 unfold K0 at hk
 unfold spec_NotesOk.f
 by_cases h1:l.length≤60
 case neg=>simp (disch:=omega) only [lett_e,bnd_s,bnd_chk,br_not,br_t,br_f,br_T,br_F,not_true_eq_false,not_false_eq_true,chk_T,chk_F,chk_eq,eqI_dc,ltI_dc,leI_dc,eqN_dc,notB_dc,andB_dc,andB_t,eqB_dc,notB_t,notB_f,inR_dc,upR_dc,ln_e,app_e,tk_e,dp_e,upd_e,repl_e,natI_n,br_pos,br_neg,addI_n,fitN_T];exact chk_congr ⟨fun z=>z.elim,fun z=>h1 z.1⟩
 simp (disch:=omega) only [lett_e,bnd_s,bnd_chk,br_not,br_t,br_f,br_T,br_F,not_true_eq_false,not_false_eq_true,chk_T,chk_F,chk_eq,eqI_dc,ltI_dc,leI_dc,eqN_dc,notB_dc,andB_dc,andB_t,eqB_dc,notB_t,notB_f,inR_dc,upR_dc,ln_e,app_e,tk_e,dp_e,upd_e,repl_e,natI_n,br_pos,br_neg,addI_n,fitN_T]
 rw [loop_chk (n:=l.length) (Q:=True) (fun i=>((i:Int),())) (fun i=>NoteP (rdP (0,0,0,0,0,()) l i)∧(0<i→(rdP (0,0,0,0,0,()) l (i-1)).1<(rdP (0,0,0,0,0,()) l i).1)) ?h0 ?hk0 ?hs0 ?he0]
 case h0=>simp
 case hk0=>omega
 case he0=>intro _ rec;simp (disch:=omega) only [lett_e,bnd_s,bnd_chk,br_not,br_t,br_f,br_T,br_F,not_true_eq_false,not_false_eq_true,chk_T,chk_F,chk_eq,eqI_dc,ltI_dc,leI_dc,eqN_dc,notB_dc,andB_dc,andB_t,eqB_dc,notB_t,notB_f,inR_dc,upR_dc,ln_e,app_e,tk_e,dp_e,upd_e,repl_e,natI_n,br_pos,br_neg,addI_n,fitN_T]
 case hs0=>
  intro i hi _ rec
  simp (disch:=omega) only [lett_e,bnd_s,bnd_chk,br_not,br_t,br_f,br_T,br_F,not_true_eq_false,not_false_eq_true,chk_T,chk_F,chk_eq,eqI_dc,ltI_dc,leI_dc,eqN_dc,notB_dc,andB_dc,andB_t,eqB_dc,notB_t,notB_f,inR_dc,upR_dc,ln_e,app_e,tk_e,dp_e,upd_e,repl_e,natI_n,br_pos,br_neg,addI_n,fitN_T,spec_NoteOk_f]
  by_cases h0:0<i
  ·obtain⟨i,rfl⟩:∃m,i=m+1:=⟨i-1,by omega⟩
   simp (disch:=omega) only [lett_e,bnd_s,bnd_chk,br_not,br_t,br_f,br_T,br_F,not_true_eq_false,not_false_eq_true,chk_T,chk_F,chk_eq,eqI_dc,ltI_dc,leI_dc,eqN_dc,notB_dc,andB_dc,andB_t,eqB_dc,notB_t,notB_f,inR_dc,upR_dc,ln_e,app_e,tk_e,dp_e,upd_e,repl_e,natI_n,br_pos,br_neg,addI_n,fitN_T,subI_nat,Nat.add_sub_cancel,g1,g2]
   exact br_iff (by grind) _ _
  ·simp (disch:=omega) only [lett_e,bnd_s,bnd_chk,br_not,br_t,br_f,br_T,br_F,not_true_eq_false,not_false_eq_true,chk_T,chk_F,chk_eq,eqI_dc,ltI_dc,leI_dc,eqN_dc,notB_dc,andB_dc,andB_t,eqB_dc,notB_t,notB_f,inR_dc,upR_dc,ln_e,app_e,tk_e,dp_e,upd_e,repl_e,natI_n,br_pos,br_neg,addI_n,fitN_T]
   exact br_iff (by grind) _ _
 refine chk_congr ?_
 unfold NotesP
 rw [←all_rd (d:=(0,0,0,0,0,())) (l:=l)]
 grind
end Go.Proofs.YtpmjopbgccajgaaGreat.Eng
namespace Go.Proofs.YtpmjopbgccajgaaGreat.Eng
abbrev FlightT:=Int×Int×Int×Bool×Int×Unit
abbrev CaseT:=Int×Int×Int×Int×Int×Int×Int×Int×Int×Int×Unit
abbrev HallT:=Int×List (Int×Unit)×Int×Int×Int×Int×Bool×List Item×List (Int×Unit)×Int×List Chute×List Want×Int×List (List Kept×Unit)×List NoteT×List FlightT×List CaseT×Unit
def FlightP (n:Nat) (f:FlightT):Prop:=0≤f.1∧f.1≤f.2.1∧f.2.1≤100000∧(0≤f.2.2.1∧f.2.2.1<n)∧(f.2.2.2.2.1=0∨(f.2.2.2.1=true∧0≤f.2.2.2.2.1∧f.2.2.2.2.1≤40))
theorem spec_l09FlightOk_f (k:Nat) (x:HallT) (f:FlightT) (hx:x.2.2.2.2.2.2.2.2.2.2.1.length≤1048576):spec_l09FlightOk.f k x f=chkP (FlightP x.2.2.2.2.2.2.2.2.2.2.1.length f):=by
 unfold spec_l09FlightOk.f
 rw [dc_bool f.2.2.2.1]
 rw [subI_id (by rw [ln_e];omega)]
 simp (disch:=omega) only [lett_e,bnd_s,bnd_chk,br_not,br_t,br_f,br_T,br_F,not_true_eq_false,not_false_eq_true,chk_T,chk_F,chk_eq,eqI_dc,ltI_dc,leI_dc,eqN_dc,notB_dc,andB_dc,andB_t,eqB_dc,notB_t,notB_f,inR_dc,upR_dc,ln_e,app_e,tk_e,dp_e,upd_e,repl_e,natI_n,br_pos,br_neg,addI_n,fitN_T,spec_l01In_f,br_chkF,br_chkF',br_chkT,br_chk]
 exact chk_congr (by unfold FlightP;grind)
def TagP (t:Int×Int×Int×Unit):Prop:=(0≤t.1∧t.1≤9)∧(1≤t.2.1∧t.2.1≤999)∧(0≤t.2.2.1∧t.2.2.1≤999999)
theorem spec_TagOk_f (k:Nat) (t:Int×Int×Int×Unit):spec_TagOk.f k t=chkP (TagP t):=by
 unfold spec_TagOk.f
 simp (disch:=omega) only [lett_e,bnd_s,bnd_chk,br_not,br_t,br_f,br_T,br_F,not_true_eq_false,not_false_eq_true,chk_T,chk_F,chk_eq,eqI_dc,ltI_dc,leI_dc,eqN_dc,notB_dc,andB_dc,andB_t,eqB_dc,notB_t,notB_f,inR_dc,upR_dc,ln_e,app_e,tk_e,dp_e,upd_e,repl_e,natI_n,br_pos,br_neg,addI_n,fitN_T,spec_l01In_f,br_chkF,br_chkF',br_chkT,br_chk]
 exact chk_congr (by unfold TagP;grind)
def ScreenP (s:Int×Int×Int×Unit):Prop:=(1≤s.1∧s.1≤4)∧(0≤s.2.1∧s.2.1≤100000)∧(s.2.2.1=0∨s.2.2.1=1∨(s.2.2.1=2∧s.1=4))
theorem spec_ScreenOk_f (k:Nat) (s:Int×Int×Int×Unit):spec_ScreenOk.f k s=chkP (ScreenP s):=by
 unfold spec_ScreenOk.f
 simp (disch:=omega) only [lett_e,bnd_s,bnd_chk,br_not,br_t,br_f,br_T,br_F,not_true_eq_false,not_false_eq_true,chk_T,chk_F,chk_eq,eqI_dc,ltI_dc,leI_dc,eqN_dc,notB_dc,andB_dc,andB_t,eqB_dc,notB_t,notB_f,inR_dc,upR_dc,ln_e,app_e,tk_e,dp_e,upd_e,repl_e,natI_n,br_pos,br_neg,addI_n,fitN_T,spec_l01In_f,br_chkF,br_chkF',br_chkT,br_chk]
 exact chk_congr (by unfold ScreenP;grind)
theorem spec_l09OnBelt_f {k:Nat} (hk:K0≤k) (x:HallT) (a:Int) (hx:x.2.2.2.2.2.2.2.1.length≤1048576):spec_l09OnBelt.f k x a=chkP (∃y,y∈x.2.2.2.2.2.2.2.1∧y.1=a):=by
 unfold K0 at hk
 unfold spec_l09OnBelt.f
 rw [loop_any (n:=x.2.2.2.2.2.2.2.1.length) (r:=chkP True) (e:=chkP False) (fun i=>((i:Int),())) (fun i=>(rdP (0,0,0,()) x.2.2.2.2.2.2.2.1 i).1=a) ?h0 ?hk ?hs ?he]
 case h0=>simp
 case hk=>omega
 case hs=>intro i hi _ rec;simp (disch:=omega) only [lett_e,bnd_s,bnd_chk,br_not,br_t,br_f,br_T,br_F,not_true_eq_false,not_false_eq_true,chk_T,chk_F,chk_eq,eqI_dc,ltI_dc,leI_dc,eqN_dc,notB_dc,andB_dc,andB_t,eqB_dc,notB_t,notB_f,inR_dc,upR_dc,ln_e,app_e,tk_e,dp_e,upd_e,repl_e,natI_n,br_pos,br_neg,addI_n,fitN_T];rfl
 case he=>intro _ rec;simp (disch:=omega) only [lett_e,bnd_s,bnd_chk,br_not,br_t,br_f,br_T,br_F,not_true_eq_false,not_false_eq_true,chk_T,chk_F,chk_eq,eqI_dc,ltI_dc,leI_dc,eqN_dc,notB_dc,andB_dc,andB_t,eqB_dc,notB_t,notB_f,inR_dc,upR_dc,ln_e,app_e,tk_e,dp_e,upd_e,repl_e,natI_n,br_pos,br_neg,addI_n,fitN_T]
 simp (disch:=omega) only [lett_e,bnd_s,bnd_chk,br_not,br_t,br_f,br_T,br_F,not_true_eq_false,not_false_eq_true,chk_T,chk_F,chk_eq,eqI_dc,ltI_dc,leI_dc,eqN_dc,notB_dc,andB_dc,andB_t,eqB_dc,notB_t,notB_f,inR_dc,upR_dc,ln_e,app_e,tk_e,dp_e,upd_e,repl_e,natI_n,br_pos,br_neg,addI_n,fitN_T,br_chkF']
 exact chk_congr (by rw [ex_rd (P:=fun y:Item=>y.1=a),and_true])
theorem spec_l09Chute_f {k:Nat} (hk:K0≤k) (x:HallT) (a:Int) (hx:x.2.2.2.2.2.2.2.2.2.2.1.length≤1048576) (hb:∀c∈x.2.2.2.2.2.2.2.2.2.2.1,c.2.2.1.length≤1048576):
  (∃i,i<x.2.2.2.2.2.2.2.2.2.2.1.length∧(a,())∈(rdP (0,0,[],()) x.2.2.2.2.2.2.2.2.2.2.1 i).2.2.1∧(∀j,j<i→(a,())∉(rdP (0,0,[],()) x.2.2.2.2.2.2.2.2.2.2.1 j).2.2.1)∧spec_l09Chute.f k x a=some ((i:Int),()))∨
  ((∀j,j<x.2.2.2.2.2.2.2.2.2.2.1.length→(a,())∉(rdP (0,0,[],()) x.2.2.2.2.2.2.2.2.2.2.1 j).2.2.1)∧spec_l09Chute.f k x a=some (-1,())):=by
 have hk':=hk
 unfold K0 at hk
 unfold spec_l09Chute.f
 refine loop_find (n:=x.2.2.2.2.2.2.2.2.2.2.1.length) (e:=some (-1,())) (fun i=>((i:Int),())) (fun i=>(a,())∈(rdP (0,0,[],()) x.2.2.2.2.2.2.2.2.2.2.1 i).2.2.1) (fun i=>some ((i:Int),())) ?h0 ?hk ?hs ?he
 case h0=>simp
 case hk=>omega
 case hs=>
  intro i hi _ rec
  have:=hb _ (by rw [rd_lt hi];exact List.getElem_mem hi:rdP (0,0,[],()) x.2.2.2.2.2.2.2.2.2.2.1 i∈x.2.2.2.2.2.2.2.2.2.2.1)
  simp (disch:=omega) only [lett_e,bnd_s,bnd_chk,br_not,br_t,br_f,br_T,br_F,not_true_eq_false,not_false_eq_true,chk_T,chk_F,chk_eq,eqI_dc,ltI_dc,leI_dc,eqN_dc,notB_dc,andB_dc,andB_t,eqB_dc,notB_t,notB_f,inR_dc,upR_dc,ln_e,app_e,tk_e,dp_e,upd_e,repl_e,natI_n,br_pos,br_neg,addI_n,fitN_T,spec_l03Has_f hk' _ _ this]
  rfl
 case he=>intro _ rec;simp (disch:=omega) only [lett_e,bnd_s,bnd_chk,br_not,br_t,br_f,br_T,br_F,not_true_eq_false,not_false_eq_true,chk_T,chk_F,chk_eq,eqI_dc,ltI_dc,leI_dc,eqN_dc,notB_dc,andB_dc,andB_t,eqB_dc,notB_t,notB_f,inR_dc,upR_dc,ln_e,app_e,tk_e,dp_e,upd_e,repl_e,natI_n,br_pos,br_neg,addI_n,fitN_T]
theorem spec_l06Find_f {k:Nat} (hk:K0≤k) (x:StoreT) (a:Int) (hx:x.2.1.length≤1048576) (hb:∀c∈x.2.1,c.1.length≤1048576):
  (∃i,i<x.2.1.length∧(∃y,y∈(rdP ([],()) x.2.1 i).1∧y.1=a)∧(∀j,j<i→¬ ∃y,y∈(rdP ([],()) x.2.1 j).1∧y.1=a)∧spec_l06Find.f k x a=some ((i:Int),()))∨
  ((∀j,j<x.2.1.length→¬ ∃y,y∈(rdP ([],()) x.2.1 j).1∧y.1=a)∧spec_l06Find.f k x a=some (-1,())):=by
 have hk':=hk
 unfold K0 at hk
 unfold spec_l06Find.f
 refine loop_find (n:=x.2.1.length) (e:=some (-1,())) (fun i=>((i:Int),())) (fun i=>∃y,y∈(rdP ([],()) x.2.1 i).1∧y.1=a) (fun i=>some ((i:Int),())) ?h0 ?hk ?hs ?he
 case h0=>simp
 case hk=>omega
 case hs=>
  intro i hi _ rec
  have:=hb _ (by rw [rd_lt hi];exact List.getElem_mem hi:rdP ([],()) x.2.1 i∈x.2.1)
  simp (disch:=omega) only [lett_e,bnd_s,bnd_chk,br_not,br_t,br_f,br_T,br_F,not_true_eq_false,not_false_eq_true,chk_T,chk_F,chk_eq,eqI_dc,ltI_dc,leI_dc,eqN_dc,notB_dc,andB_dc,andB_t,eqB_dc,notB_t,notB_f,inR_dc,upR_dc,ln_e,app_e,tk_e,dp_e,upd_e,repl_e,natI_n,br_pos,br_neg,addI_n,fitN_T]
  rw [loop_any (n:=(rdP ([],()) x.2.1 i).1.length) (r:=some ((i:Int),())) (e:=rec (((i+1:Nat):Int),())) (fun i=>((i:Int),())) (fun j=>(rdP (0,0,()) (rdP ([],()) x.2.1 i).1 j).1=a) ?h1 ?hk1 ?hs1 ?he1]
  case h1=>simp
  case hk1=>omega
  case hs1=>intro j hj _ rec2;simp (disch:=omega) only [lett_e,bnd_s,bnd_chk,br_not,br_t,br_f,br_T,br_F,not_true_eq_false,not_false_eq_true,chk_T,chk_F,chk_eq,eqI_dc,ltI_dc,leI_dc,eqN_dc,notB_dc,andB_dc,andB_t,eqB_dc,notB_t,notB_f,inR_dc,upR_dc,ln_e,app_e,tk_e,dp_e,upd_e,repl_e,natI_n,br_pos,br_neg,addI_n,fitN_T];rfl
  case he1=>intro _ rec2;simp (disch:=omega) only [lett_e,bnd_s,bnd_chk,br_not,br_t,br_f,br_T,br_F,not_true_eq_false,not_false_eq_true,chk_T,chk_F,chk_eq,eqI_dc,ltI_dc,leI_dc,eqN_dc,notB_dc,andB_dc,andB_t,eqB_dc,notB_t,notB_f,inR_dc,upR_dc,ln_e,app_e,tk_e,dp_e,upd_e,repl_e,natI_n,br_pos,br_neg,addI_n,fitN_T];rfl
  exact br_iff (ex_rd (P:=fun y:Kept=>y.1=a)) _ _
 case he=>intro _ rec;simp (disch:=omega) only [lett_e,bnd_s,bnd_chk,br_not,br_t,br_f,br_T,br_F,not_true_eq_false,not_false_eq_true,chk_T,chk_F,chk_eq,eqI_dc,ltI_dc,leI_dc,eqN_dc,notB_dc,andB_dc,andB_t,eqB_dc,notB_t,notB_f,inR_dc,upR_dc,ln_e,app_e,tk_e,dp_e,upd_e,repl_e,natI_n,br_pos,br_neg,addI_n,fitN_T]
def CaseP (x:HallT) (i:Nat) (e:CaseT):Prop:=TagP (e.1,e.2.1,e.2.2.1,())∧(1≤e.2.2.2.1∧e.2.2.2.1≤x.2.2.2.2.2.2.2.2.2.2.2.2.2.2.2.1.length)∧(1≤e.2.2.2.2.1∧e.2.2.2.2.1≤60)∧(0≤e.2.2.2.2.2.1∧e.2.2.2.2.2.1≤5)∧(1≤e.2.2.2.2.2.2.1∧e.2.2.2.2.2.2.1≤7)∧
 (∀j,j<i→¬((rdP (0,0,0,0,0,0,0,0,0,0,()) x.2.2.2.2.2.2.2.2.2.2.2.2.2.2.2.2.1 j).1=e.1∧(rdP (0,0,0,0,0,0,0,0,0,0,()) x.2.2.2.2.2.2.2.2.2.2.2.2.2.2.2.2.1 j).2.1=e.2.1∧(rdP (0,0,0,0,0,0,0,0,0,0,()) x.2.2.2.2.2.2.2.2.2.2.2.2.2.2.2.2.1 j).2.2.1=e.2.2.1))∧
 (if e.2.2.2.2.2.2.1=1 then e.2.2.2.2.2.2.2.1=0∧e.2.2.2.2.2.2.2.2.1=0∧e.2.2.2.2.2.2.2.2.2.1=0 else ScreenP (e.2.2.2.2.2.2.2.1,e.2.2.2.2.2.2.2.2.1,e.2.2.2.2.2.2.2.2.2.1,())∧e.2.2.2.2.2.2.2.2.1≤x.1)∧
 (e.2.2.2.2.2.2.2.2.2.1≠1→e.2.2.2.2.2.2.1≠3∧e.2.2.2.2.2.2.1≠4∧e.2.2.2.2.2.2.1≠5∧e.2.2.2.2.2.2.1≠6)∧¬(e.2.2.2.2.2.2.1=2∧e.2.2.2.2.2.2.2.2.2.1=2)∧(e.2.2.2.2.2.2.1=6→(rdP (0,0,0,false,0,()) x.2.2.2.2.2.2.2.2.2.2.2.2.2.2.2.1 (natI (e.2.2.2.1-1))).2.2.2.1=true)∧
 ((∃y,y∈x.2.2.2.2.2.2.2.1∧y.1=(i:Int)+1)↔e.2.2.2.2.2.2.1=1)∧((((i:Int)+1,())∈x.2.2.2.2.2.2.2.2.1)↔e.2.2.2.2.2.2.1=3)∧((∃c,c∈x.2.2.2.2.2.2.2.2.2.2.1∧((i:Int)+1,())∈c.2.2.1)↔e.2.2.2.2.2.2.1=4)∧((∃l,l∈x.2.2.2.2.2.2.2.2.2.2.2.2.2.1∧∃y,y∈l.1∧y.1=(i:Int)+1)↔e.2.2.2.2.2.2.1=5)
structure SzH (x:HallT):Prop where
 wait:x.2.1.length≤1048576
 items:x.2.2.2.2.2.2.2.1.length≤1048576
 trays:x.2.2.2.2.2.2.2.2.1.length≤1048576
 chutes:x.2.2.2.2.2.2.2.2.2.2.1.length≤1048576
 bags:∀c∈x.2.2.2.2.2.2.2.2.2.2.1,c.2.2.1.length≤1048576
 wants:x.2.2.2.2.2.2.2.2.2.2.2.1.length≤1048576
 told:∀w∈x.2.2.2.2.2.2.2.2.2.2.2.1,w.2.1.length≤1048576
 lanes:x.2.2.2.2.2.2.2.2.2.2.2.2.2.1.length≤1048576
 kept:∀l∈x.2.2.2.2.2.2.2.2.2.2.2.2.2.1,l.1.length≤1048576
 notes:x.2.2.2.2.2.2.2.2.2.2.2.2.2.2.1.length≤1048576
 flights:x.2.2.2.2.2.2.2.2.2.2.2.2.2.2.2.1.length≤1048576
 cases_:x.2.2.2.2.2.2.2.2.2.2.2.2.2.2.2.2.1.length≤1048576
theorem spec_l09CaseOk_f {k:Nat} (hk:K0≤k) (x:HallT) (i:Nat) (hs:SzH x) (hi:i<x.2.2.2.2.2.2.2.2.2.2.2.2.2.2.2.2.1.length):spec_l09CaseOk.f k x (i:Int)=chkP (CaseP x i (rdP (0,0,0,0,0,0,0,0,0,0,()) x.2.2.2.2.2.2.2.2.2.2.2.2.2.2.2.2.1 i)):=by
 have hk':=hk
 unfold K0 at hk
 have hc:=hs.cases_
 have hfl:=hs.flights
 unfold spec_l09CaseOk.f
 generalize he:rdP (0,0,0,0,0,0,0,0,0,0,()) x.2.2.2.2.2.2.2.2.2.2.2.2.2.2.2.2.1 i=e
 have hadd:addI .i64 (i:Int) 1=(i:Int)+1:=addI_n (by omega)
 obtain⟨rch,hch,hch2⟩:∃r,spec_l09Chute.f k x ((i:Int)+1)=some (r,())∧(0≤r↔∃c,c∈x.2.2.2.2.2.2.2.2.2.2.1∧((i:Int)+1,())∈c.2.2.1):=by
  rcases spec_l09Chute_f hk' x ((i:Int)+1) hs.chutes hs.bags with⟨j,h1,h2,_,h3⟩|⟨h1,h3⟩
  ·exact⟨_,h3,⟨fun _=>⟨rdP (0,0,[],()) x.2.2.2.2.2.2.2.2.2.2.1 j,by rw [rd_lt h1];exact List.getElem_mem h1,h2⟩,fun _=>by omega⟩⟩
  ·refine⟨_,h3,⟨fun h=>by omega,fun ⟨c,h4,h5⟩=> ?_⟩⟩
   obtain⟨j,hj,e⟩:=List.getElem_of_mem h4
   exact absurd (by rw [rd_lt hj,e];exact h5) (h1 j hj)
 obtain⟨rst,hst,hst2⟩:∃r,spec_l06Find.f k (x.2.2.2.2.2.2.2.2.2.2.2.2.1,x.2.2.2.2.2.2.2.2.2.2.2.2.2.1,()) ((i:Int)+1)=some (r,())∧(0≤r↔∃l,l∈x.2.2.2.2.2.2.2.2.2.2.2.2.2.1∧∃y,y∈l.1∧y.1=(i:Int)+1):=by
  rcases spec_l06Find_f hk' (x.2.2.2.2.2.2.2.2.2.2.2.2.1,x.2.2.2.2.2.2.2.2.2.2.2.2.2.1,()) ((i:Int)+1) hs.lanes hs.kept with⟨j,h1,h2,_,h3⟩|⟨h1,h3⟩
  ·exact⟨_,h3,⟨fun _=>⟨rdP ([],()) x.2.2.2.2.2.2.2.2.2.2.2.2.2.1 j,by rw [rd_lt h1];exact List.getElem_mem h1,h2⟩,fun _=>by omega⟩⟩
  ·refine⟨_,h3,⟨fun h=>by omega,fun ⟨c,h4,h5⟩=> ?_⟩⟩
   obtain⟨j,hj,e⟩:=List.getElem_of_mem h4
   exact absurd (by rw [rd_lt hj,e];exact h5) (h1 j hj)
 simp (disch:=omega) only [lett_e,bnd_s,bnd_chk,br_not,br_t,br_f,br_T,br_F,not_true_eq_false,not_false_eq_true,chk_T,chk_F,chk_eq,eqI_dc,ltI_dc,leI_dc,eqN_dc,notB_dc,andB_dc,andB_t,eqB_dc,notB_t,notB_f,inR_dc,upR_dc,ln_e,app_e,tk_e,dp_e,upd_e,repl_e,natI_n,br_pos,br_neg,addI_n,fitN_T,he,hadd,spec_TagOk_f,spec_l01In_f,spec_ScreenOk_f,spec_l03Has_f hk' _ _ hs.trays,spec_l09OnBelt_f hk' x _ hs.items,hch,hst]
 by_cases hF:1≤e.2.2.2.1∧e.2.2.2.1≤x.2.2.2.2.2.2.2.2.2.2.2.2.2.2.2.1.length
 case neg=>
  rw [br_neg hF,br_same]
  exact chk_congr ⟨fun z=>z.elim,fun z=>hF z.2.1⟩
 rw [br_pos hF,subI_id (x:=e.2.2.2.1) (by omega)]
 rw [dc_bool (rdP (0,0,0,false,0,()) x.2.2.2.2.2.2.2.2.2.2.2.2.2.2.2.1 (natI (e.2.2.2.1-1))).2.2.2.1]
 rw [loop_chk (n:=i) (fun j=>((j:Int),())) (fun j=>¬((rdP (0,0,0,0,0,0,0,0,0,0,()) x.2.2.2.2.2.2.2.2.2.2.2.2.2.2.2.2.1 j).1=e.1∧(rdP (0,0,0,0,0,0,0,0,0,0,()) x.2.2.2.2.2.2.2.2.2.2.2.2.2.2.2.2.1 j).2.1=e.2.1∧(rdP (0,0,0,0,0,0,0,0,0,0,()) x.2.2.2.2.2.2.2.2.2.2.2.2.2.2.2.2.1 j).2.2.1=e.2.2.1)) ?h0 ?hk ?hs ?he]
 case h0=>simp
 case hk=>omega
 case hs=>intro j hj _ rec;simp (disch:=omega) only [lett_e,bnd_s,bnd_chk,br_not,br_t,br_f,br_T,br_F,not_true_eq_false,not_false_eq_true,chk_T,chk_F,chk_eq,eqI_dc,ltI_dc,leI_dc,eqN_dc,notB_dc,andB_dc,andB_t,eqB_dc,notB_t,notB_f,inR_dc,upR_dc,ln_e,app_e,tk_e,dp_e,upd_e,repl_e,natI_n,br_pos,br_neg,addI_n,fitN_T,g1];rfl
 case he=>intro _ rec;simp (disch:=omega) only [lett_e,bnd_s,bnd_chk,br_not,br_t,br_f,br_T,br_F,not_true_eq_false,not_false_eq_true,chk_T,chk_F,chk_eq,eqI_dc,ltI_dc,leI_dc,eqN_dc,notB_dc,andB_dc,andB_t,eqB_dc,notB_t,notB_f,inR_dc,upR_dc,ln_e,app_e,tk_e,dp_e,upd_e,repl_e,natI_n,br_pos,br_neg,addI_n,fitN_T,br_chkF,br_chkF',br_chkT,br_chk];rfl
 simp (disch:=omega) only [lett_e,bnd_s,bnd_chk,br_not,br_t,br_f,br_T,br_F,not_true_eq_false,not_false_eq_true,chk_T,chk_F,chk_eq,eqI_dc,ltI_dc,leI_dc,eqN_dc,notB_dc,andB_dc,andB_t,eqB_dc,notB_t,notB_f,inR_dc,upR_dc,ln_e,app_e,tk_e,dp_e,upd_e,repl_e,natI_n,br_pos,br_neg,addI_n,fitN_T,br_chkF']
 refine chk_congr ?_
 unfold CaseP
 rw [hch2,hst2]
 generalize (∀j,j<i→¬((rdP (0,0,0,0,0,0,0,0,0,0,()) x.2.2.2.2.2.2.2.2.2.2.2.2.2.2.2.2.1 j).1=e.1∧(rdP (0,0,0,0,0,0,0,0,0,0,()) x.2.2.2.2.2.2.2.2.2.2.2.2.2.2.2.2.1 j).2.1=e.2.1∧(rdP (0,0,0,0,0,0,0,0,0,0,()) x.2.2.2.2.2.2.2.2.2.2.2.2.2.2.2.2.1 j).2.2.1=e.2.2.1))=pA
 generalize (∃y,y∈x.2.2.2.2.2.2.2.1∧y.1=(i:Int)+1)=pB
 generalize (((i:Int)+1,())∈x.2.2.2.2.2.2.2.2.1)=pC
 generalize (∃c,c∈x.2.2.2.2.2.2.2.2.2.2.1∧((i:Int)+1,())∈c.2.2.1)=pD
 generalize (∃l,l∈x.2.2.2.2.2.2.2.2.2.2.2.2.2.1∧∃y,y∈l.1∧y.1=(i:Int)+1)=pE
 generalize ((rdP (0,0,0,false,0,()) x.2.2.2.2.2.2.2.2.2.2.2.2.2.2.2.1 (natI (e.2.2.2.1-1))).2.2.2.1=true)=pF
 generalize TagP (e.1,e.2.1,e.2.2.1,())=pG
 generalize ScreenP (e.2.2.2.2.2.2.2.1,e.2.2.2.2.2.2.2.2.1,e.2.2.2.2.2.2.2.2.2.1,())=pH
 generalize e.2.2.2.2.2.2.1=p
 generalize e.2.2.2.2.2.2.2.2.2.1=v
 clear hst2 hch2 hst hch hadd he hfl hc hk' hi hs hk
 by_cases h1:p=1
 ·subst h1
  simp
  grind
 by_cases h2:p=2
 ·subst h2
  simp
  grind
 by_cases h6:p=6
 ·subst h6
  simp
  grind
 simp [h1,h2,h6]
 grind
def HallP (x:HallT):Prop:=(0≤x.1∧x.1≤100000)∧PolicyP x.2.1∧((60≤x.2.2.1∧x.2.2.1≤2000)∧1≤x.2.2.2.1∧x.2.2.2.1≤40)∧BeltP (x.2.2.2.2.1,x.2.2.2.2.2.1,x.2.2.2.2.2.2.1,x.2.2.2.2.2.2.2.1,())∧LoopP (x.2.2.2.2.2.2.2.2.1,x.2.2.2.2.2.2.2.2.2.1,x.2.2.2.2.2.2.2.2.2.2.1,x.2.2.2.2.2.2.2.2.2.2.2.1,())∧StoreP (x.2.2.2.2.2.2.2.2.2.2.2.2.1,x.2.2.2.2.2.2.2.2.2.2.2.2.2.1,())∧NotesP x.2.2.2.2.2.2.2.2.2.2.2.2.2.2.1∧
 x.2.2.2.2.2.2.2.2.2.2.2.2.2.2.2.1.length≤20∧x.2.2.2.2.2.2.2.2.2.2.2.2.2.2.2.2.1.length≤60∧(∀f∈x.2.2.2.2.2.2.2.2.2.2.2.2.2.2.2.1,FlightP x.2.2.2.2.2.2.2.2.2.2.1.length f)∧(∀i,i<x.2.2.2.2.2.2.2.2.2.2.2.2.2.2.2.2.1.length→CaseP x i (rdP (0,0,0,0,0,0,0,0,0,0,()) x.2.2.2.2.2.2.2.2.2.2.2.2.2.2.2.2.1 i))∧(∀y∈x.2.2.2.2.2.2.2.1,y.1≤x.2.2.2.2.2.2.2.2.2.2.2.2.2.2.2.2.1.length)∧(∀y∈x.2.2.2.2.2.2.2.2.1,y.1≤x.2.2.2.2.2.2.2.2.2.2.2.2.2.2.2.2.1.length)∧
 (∀c∈x.2.2.2.2.2.2.2.2.2.2.1,∀y∈c.2.2.1,y.1≤x.2.2.2.2.2.2.2.2.2.2.2.2.2.2.2.2.1.length)∧(∀l∈x.2.2.2.2.2.2.2.2.2.2.2.2.2.1,∀y∈l.1,y.1≤x.2.2.2.2.2.2.2.2.2.2.2.2.2.2.2.2.1.length)
theorem spec_HallOk_f {k:Nat} (hk:K0≤k) (x:HallT) (hs:SzH x):spec_HallOk.f k x=chkP (HallP x):=by
 have hk':=hk
 unfold K0 at hk
 have hfl:=hs.flights
 have hca:=hs.cases_
 have hit:=hs.items
 have htr:=hs.trays
 have hch:=hs.chutes
 have hla:=hs.lanes
 unfold spec_HallOk.f
 simp (disch:=omega) only [lett_e,bnd_s,bnd_chk,br_not,br_t,br_f,br_T,br_F,not_true_eq_false,not_false_eq_true,chk_T,chk_F,chk_eq,eqI_dc,ltI_dc,leI_dc,eqN_dc,notB_dc,andB_dc,andB_t,eqB_dc,notB_t,notB_f,inR_dc,upR_dc,ln_e,app_e,tk_e,dp_e,upd_e,repl_e,natI_n,br_pos,br_neg,addI_n,fitN_T,spec_l01In_f,spec_PolicyOk_f hk' (x.2.1,()) hs.wait,spec_LimitsOk_f,spec_BeltOk_f hk',spec_LoopOk_f hk' (x.2.2.2.2.2.2.2.2.1,x.2.2.2.2.2.2.2.2.2.1,x.2.2.2.2.2.2.2.2.2.2.1,x.2.2.2.2.2.2.2.2.2.2.2.1,()) hs.told,spec_StoreOk_f hk',spec_NotesOk_f hk']
 rw [loop_while (n:=x.2.2.2.2.2.2.2.2.2.2.2.2.2.2.2.1.length) (r:=chkP False) (e:=chkP ((∀i,i<x.2.2.2.2.2.2.2.2.2.2.2.2.2.2.2.2.1.length→CaseP x i (rdP (0,0,0,0,0,0,0,0,0,0,()) x.2.2.2.2.2.2.2.2.2.2.2.2.2.2.2.2.1 i))∧(∀y∈x.2.2.2.2.2.2.2.1,y.1≤x.2.2.2.2.2.2.2.2.2.2.2.2.2.2.2.2.1.length)∧(∀y∈x.2.2.2.2.2.2.2.2.1,y.1≤x.2.2.2.2.2.2.2.2.2.2.2.2.2.2.2.2.1.length)∧(∀c∈x.2.2.2.2.2.2.2.2.2.2.1,∀y∈c.2.2.1,y.1≤x.2.2.2.2.2.2.2.2.2.2.2.2.2.2.2.2.1.length)∧(∀l∈x.2.2.2.2.2.2.2.2.2.2.2.2.2.1,∀y∈l.1,y.1≤x.2.2.2.2.2.2.2.2.2.2.2.2.2.2.2.2.1.length))) (fun j=>((j:Int),())) (fun i=>FlightP x.2.2.2.2.2.2.2.2.2.2.1.length (rdP (0,0,0,false,0,()) x.2.2.2.2.2.2.2.2.2.2.2.2.2.2.2.1 i)) ?h0 ?hs0 ?he0 ?hk0]
 case h0=>simp
 case hk0=>omega
 case hs0=>intro i hi _ rec;simp (disch:=omega) only [lett_e,bnd_s,bnd_chk,br_not,br_t,br_f,br_T,br_F,not_true_eq_false,not_false_eq_true,chk_T,chk_F,chk_eq,eqI_dc,ltI_dc,leI_dc,eqN_dc,notB_dc,andB_dc,andB_t,eqB_dc,notB_t,notB_f,inR_dc,upR_dc,ln_e,app_e,tk_e,dp_e,upd_e,repl_e,natI_n,br_pos,br_neg,addI_n,fitN_T,spec_l09FlightOk_f _ _ _ hs.chutes];rfl
 case he0=>
  intro _ rec
  simp (disch:=omega) only [lett_e,bnd_s,bnd_chk,br_not,br_t,br_f,br_T,br_F,not_true_eq_false,not_false_eq_true,chk_T,chk_F,chk_eq,eqI_dc,ltI_dc,leI_dc,eqN_dc,notB_dc,andB_dc,andB_t,eqB_dc,notB_t,notB_f,inR_dc,upR_dc,ln_e,app_e,tk_e,dp_e,upd_e,repl_e,natI_n,br_pos,br_neg,addI_n,fitN_T]
  rw [loop_chk (n:=x.2.2.2.2.2.2.2.2.2.2.2.2.2.2.2.2.1.length) (Q:=(∀y∈x.2.2.2.2.2.2.2.1,y.1≤x.2.2.2.2.2.2.2.2.2.2.2.2.2.2.2.2.1.length)∧(∀y∈x.2.2.2.2.2.2.2.2.1,y.1≤x.2.2.2.2.2.2.2.2.2.2.2.2.2.2.2.2.1.length)∧(∀c∈x.2.2.2.2.2.2.2.2.2.2.1,∀y∈c.2.2.1,y.1≤x.2.2.2.2.2.2.2.2.2.2.2.2.2.2.2.2.1.length)∧(∀l∈x.2.2.2.2.2.2.2.2.2.2.2.2.2.1,∀y∈l.1,y.1≤x.2.2.2.2.2.2.2.2.2.2.2.2.2.2.2.2.1.length)) (fun j=>((j:Int),())) (fun i=>CaseP x i (rdP (0,0,0,0,0,0,0,0,0,0,()) x.2.2.2.2.2.2.2.2.2.2.2.2.2.2.2.2.1 i)) ?h1 ?hk1 ?hs1 ?he1]
  case h1=>simp
  case hk1=>omega
  case hs1=>intro i hi _ rec;have:=spec_l09CaseOk_f hk' x i hs hi;simp (disch:=omega) only [lett_e,bnd_s,bnd_chk,br_not,br_t,br_f,br_T,br_F,not_true_eq_false,not_false_eq_true,chk_T,chk_F,chk_eq,eqI_dc,ltI_dc,leI_dc,eqN_dc,notB_dc,andB_dc,andB_t,eqB_dc,notB_t,notB_f,inR_dc,upR_dc,ln_e,app_e,tk_e,dp_e,upd_e,repl_e,natI_n,br_pos,br_neg,addI_n,fitN_T,this];rfl
  case he1=>
   intro _ rec
   simp (disch:=omega) only [lett_e,bnd_s,bnd_chk,br_not,br_t,br_f,br_T,br_F,not_true_eq_false,not_false_eq_true,chk_T,chk_F,chk_eq,eqI_dc,ltI_dc,leI_dc,eqN_dc,notB_dc,andB_dc,andB_t,eqB_dc,notB_t,notB_f,inR_dc,upR_dc,ln_e,app_e,tk_e,dp_e,upd_e,repl_e,natI_n,br_pos,br_neg,addI_n,fitN_T]
   rw [loop_chk (n:=x.2.2.2.2.2.2.2.1.length) (Q:=(∀y∈x.2.2.2.2.2.2.2.2.1,y.1≤x.2.2.2.2.2.2.2.2.2.2.2.2.2.2.2.2.1.length)∧(∀c∈x.2.2.2.2.2.2.2.2.2.2.1,∀y∈c.2.2.1,y.1≤x.2.2.2.2.2.2.2.2.2.2.2.2.2.2.2.2.1.length)∧(∀l∈x.2.2.2.2.2.2.2.2.2.2.2.2.2.1,∀y∈l.1,y.1≤x.2.2.2.2.2.2.2.2.2.2.2.2.2.2.2.2.1.length)) (fun j=>((j:Int),())) (fun i=>(rdP (0,0,0,()) x.2.2.2.2.2.2.2.1 i).1≤x.2.2.2.2.2.2.2.2.2.2.2.2.2.2.2.2.1.length) ?h2 ?hk2 ?hs2 ?he2]
   case h2=>simp
   case hk2=>omega
   case hs2=>intro i hi _ rec;simp (disch:=omega) only [lett_e,bnd_s,bnd_chk,br_not,br_t,br_f,br_T,br_F,not_true_eq_false,not_false_eq_true,chk_T,chk_F,chk_eq,eqI_dc,ltI_dc,leI_dc,eqN_dc,notB_dc,andB_dc,andB_t,eqB_dc,notB_t,notB_f,inR_dc,upR_dc,ln_e,app_e,tk_e,dp_e,upd_e,repl_e,natI_n,br_pos,br_neg,addI_n,fitN_T,g1,Int.not_lt];rfl
   case he2=>
    intro _ rec
    simp (disch:=omega) only [lett_e,bnd_s,bnd_chk,br_not,br_t,br_f,br_T,br_F,not_true_eq_false,not_false_eq_true,chk_T,chk_F,chk_eq,eqI_dc,ltI_dc,leI_dc,eqN_dc,notB_dc,andB_dc,andB_t,eqB_dc,notB_t,notB_f,inR_dc,upR_dc,ln_e,app_e,tk_e,dp_e,upd_e,repl_e,natI_n,br_pos,br_neg,addI_n,fitN_T]
    rw [loop_chk (n:=x.2.2.2.2.2.2.2.2.1.length) (Q:=(∀c∈x.2.2.2.2.2.2.2.2.2.2.1,∀y∈c.2.2.1,y.1≤x.2.2.2.2.2.2.2.2.2.2.2.2.2.2.2.2.1.length)∧(∀l∈x.2.2.2.2.2.2.2.2.2.2.2.2.2.1,∀y∈l.1,y.1≤x.2.2.2.2.2.2.2.2.2.2.2.2.2.2.2.2.1.length)) (fun j=>((j:Int),())) (fun i=>(rdP (0,()) x.2.2.2.2.2.2.2.2.1 i).1≤x.2.2.2.2.2.2.2.2.2.2.2.2.2.2.2.2.1.length) ?h3 ?hk3 ?hs3 ?he3]
    case h3=>simp
    case hk3=>omega
    case hs3=>intro i hi _ rec;simp (disch:=omega) only [lett_e,bnd_s,bnd_chk,br_not,br_t,br_f,br_T,br_F,not_true_eq_false,not_false_eq_true,chk_T,chk_F,chk_eq,eqI_dc,ltI_dc,leI_dc,eqN_dc,notB_dc,andB_dc,andB_t,eqB_dc,notB_t,notB_f,inR_dc,upR_dc,ln_e,app_e,tk_e,dp_e,upd_e,repl_e,natI_n,br_pos,br_neg,addI_n,fitN_T,g1,Int.not_lt];rfl
    case he3=>
     intro _ rec
     simp (disch:=omega) only [lett_e,bnd_s,bnd_chk,br_not,br_t,br_f,br_T,br_F,not_true_eq_false,not_false_eq_true,chk_T,chk_F,chk_eq,eqI_dc,ltI_dc,leI_dc,eqN_dc,notB_dc,andB_dc,andB_t,eqB_dc,notB_t,notB_f,inR_dc,upR_dc,ln_e,app_e,tk_e,dp_e,upd_e,repl_e,natI_n,br_pos,br_neg,addI_n,fitN_T]
     rw [loop_chk (n:=x.2.2.2.2.2.2.2.2.2.2.1.length) (Q:=∀l∈x.2.2.2.2.2.2.2.2.2.2.2.2.2.1,∀y∈l.1,y.1≤x.2.2.2.2.2.2.2.2.2.2.2.2.2.2.2.2.1.length) (fun j=>((j:Int),())) (fun i=>∀j,j<(rdP (0,0,[],()) x.2.2.2.2.2.2.2.2.2.2.1 i).2.2.1.length→(rdP (0,()) (rdP (0,0,[],()) x.2.2.2.2.2.2.2.2.2.2.1 i).2.2.1 j).1≤x.2.2.2.2.2.2.2.2.2.2.2.2.2.2.2.2.1.length) ?h4 ?hk4 ?hs4 ?he4]
     case h4=>simp
     case hk4=>omega
     case hs4=>
      intro i hi _ rec
      have:=hs.bags _ (by rw [rd_lt hi];exact List.getElem_mem hi:rdP (0,0,[],()) x.2.2.2.2.2.2.2.2.2.2.1 i∈x.2.2.2.2.2.2.2.2.2.2.1)
      simp (disch:=omega) only [lett_e,bnd_s,bnd_chk,br_not,br_t,br_f,br_T,br_F,not_true_eq_false,not_false_eq_true,chk_T,chk_F,chk_eq,eqI_dc,ltI_dc,leI_dc,eqN_dc,notB_dc,andB_dc,andB_t,eqB_dc,notB_t,notB_f,inR_dc,upR_dc,ln_e,app_e,tk_e,dp_e,upd_e,repl_e,natI_n,br_pos,br_neg,addI_n,fitN_T]
      rw [loop_while (n:=(rdP (0,0,[],()) x.2.2.2.2.2.2.2.2.2.2.1 i).2.2.1.length) (r:=chkP False) (e:=rec (((i+1:Nat):Int),())) (fun j=>((j:Int),())) (fun j=>(rdP (0,()) (rdP (0,0,[],()) x.2.2.2.2.2.2.2.2.2.2.1 i).2.2.1 j).1≤x.2.2.2.2.2.2.2.2.2.2.2.2.2.2.2.2.1.length) ?h5 ?hs5 ?he5 ?hk5]
      case h5=>simp
      case hk5=>omega
      case hs5=>intro j hj _ rec2;simp (disch:=omega) only [lett_e,bnd_s,bnd_chk,br_not,br_t,br_f,br_T,br_F,not_true_eq_false,not_false_eq_true,chk_T,chk_F,chk_eq,eqI_dc,ltI_dc,leI_dc,eqN_dc,notB_dc,andB_dc,andB_t,eqB_dc,notB_t,notB_f,inR_dc,upR_dc,ln_e,app_e,tk_e,dp_e,upd_e,repl_e,natI_n,br_pos,br_neg,addI_n,fitN_T,g1,Int.not_lt];rfl
      case he5=>intro _ rec2;simp (disch:=omega) only [lett_e,bnd_s,bnd_chk,br_not,br_t,br_f,br_T,br_F,not_true_eq_false,not_false_eq_true,chk_T,chk_F,chk_eq,eqI_dc,ltI_dc,leI_dc,eqN_dc,notB_dc,andB_dc,andB_t,eqB_dc,notB_t,notB_f,inR_dc,upR_dc,ln_e,app_e,tk_e,dp_e,upd_e,repl_e,natI_n,br_pos,br_neg,addI_n,fitN_T];rfl
     case he4=>
      intro _ rec
      simp (disch:=omega) only [lett_e,bnd_s,bnd_chk,br_not,br_t,br_f,br_T,br_F,not_true_eq_false,not_false_eq_true,chk_T,chk_F,chk_eq,eqI_dc,ltI_dc,leI_dc,eqN_dc,notB_dc,andB_dc,andB_t,eqB_dc,notB_t,notB_f,inR_dc,upR_dc,ln_e,app_e,tk_e,dp_e,upd_e,repl_e,natI_n,br_pos,br_neg,addI_n,fitN_T]
      rw [loop_chk (n:=x.2.2.2.2.2.2.2.2.2.2.2.2.2.1.length) (Q:=True) (fun j=>((j:Int),())) (fun i=>∀j,j<(rdP ([],()) x.2.2.2.2.2.2.2.2.2.2.2.2.2.1 i).1.length→(rdP (0,0,()) (rdP ([],()) x.2.2.2.2.2.2.2.2.2.2.2.2.2.1 i).1 j).1≤x.2.2.2.2.2.2.2.2.2.2.2.2.2.2.2.2.1.length) ?h6 ?hk6 ?hs6 ?he6]
      case h6=>simp
      case hk6=>omega
      case hs6=>
       intro i hi _ rec
       have:=hs.kept _ (by rw [rd_lt hi];exact List.getElem_mem hi:rdP ([],()) x.2.2.2.2.2.2.2.2.2.2.2.2.2.1 i∈x.2.2.2.2.2.2.2.2.2.2.2.2.2.1)
       simp (disch:=omega) only [lett_e,bnd_s,bnd_chk,br_not,br_t,br_f,br_T,br_F,not_true_eq_false,not_false_eq_true,chk_T,chk_F,chk_eq,eqI_dc,ltI_dc,leI_dc,eqN_dc,notB_dc,andB_dc,andB_t,eqB_dc,notB_t,notB_f,inR_dc,upR_dc,ln_e,app_e,tk_e,dp_e,upd_e,repl_e,natI_n,br_pos,br_neg,addI_n,fitN_T]
       rw [loop_while (n:=(rdP ([],()) x.2.2.2.2.2.2.2.2.2.2.2.2.2.1 i).1.length) (r:=chkP False) (e:=rec (((i+1:Nat):Int),())) (fun j=>((j:Int),())) (fun j=>(rdP (0,0,()) (rdP ([],()) x.2.2.2.2.2.2.2.2.2.2.2.2.2.1 i).1 j).1≤x.2.2.2.2.2.2.2.2.2.2.2.2.2.2.2.2.1.length) ?h7 ?hs7 ?he7 ?hk7]
       case h7=>simp
       case hk7=>omega
       case hs7=>intro j hj _ rec2;simp (disch:=omega) only [lett_e,bnd_s,bnd_chk,br_not,br_t,br_f,br_T,br_F,not_true_eq_false,not_false_eq_true,chk_T,chk_F,chk_eq,eqI_dc,ltI_dc,leI_dc,eqN_dc,notB_dc,andB_dc,andB_t,eqB_dc,notB_t,notB_f,inR_dc,upR_dc,ln_e,app_e,tk_e,dp_e,upd_e,repl_e,natI_n,br_pos,br_neg,addI_n,fitN_T,g1,Int.not_lt];rfl
       case he7=>intro _ rec2;simp (disch:=omega) only [lett_e,bnd_s,bnd_chk,br_not,br_t,br_f,br_T,br_F,not_true_eq_false,not_false_eq_true,chk_T,chk_F,chk_eq,eqI_dc,ltI_dc,leI_dc,eqN_dc,notB_dc,andB_dc,andB_t,eqB_dc,notB_t,notB_f,inR_dc,upR_dc,ln_e,app_e,tk_e,dp_e,upd_e,repl_e,natI_n,br_pos,br_neg,addI_n,fitN_T];rfl
      case he6=>intro _ rec;simp (disch:=omega) only [lett_e,bnd_s,bnd_chk,br_not,br_t,br_f,br_T,br_F,not_true_eq_false,not_false_eq_true,chk_T,chk_F,chk_eq,eqI_dc,ltI_dc,leI_dc,eqN_dc,notB_dc,andB_dc,andB_t,eqB_dc,notB_t,notB_f,inR_dc,upR_dc,ln_e,app_e,tk_e,dp_e,upd_e,repl_e,natI_n,br_pos,br_neg,addI_n,fitN_T]
      refine chk_congr ?_
      rw [and_true,all_rd (d:=([],())) (l:=x.2.2.2.2.2.2.2.2.2.2.2.2.2.1) (P:=fun l=>∀j,j<l.1.length→(rdP (0,0,()) l.1 j).1≤x.2.2.2.2.2.2.2.2.2.2.2.2.2.2.2.2.1.length)]
      exact forall_congr' fun l=>forall_congr' fun _=>all_rd (P:=fun y:Kept=>y.1≤x.2.2.2.2.2.2.2.2.2.2.2.2.2.2.2.2.1.length)
     refine chk_congr (and_congr_left fun _=> ?_)
     rw [all_rd (d:=(0,0,[],())) (l:=x.2.2.2.2.2.2.2.2.2.2.1) (P:=fun c=>∀j,j<c.2.2.1.length→(rdP (0,()) c.2.2.1 j).1≤x.2.2.2.2.2.2.2.2.2.2.2.2.2.2.2.2.1.length)]
     exact forall_congr' fun l=>forall_congr' fun _=>all_rd (P:=fun y:Int×Unit=>y.1≤x.2.2.2.2.2.2.2.2.2.2.2.2.2.2.2.2.1.length)
    exact chk_congr (and_congr_left fun _=>all_rd (P:=fun y:Int×Unit=>y.1≤x.2.2.2.2.2.2.2.2.2.2.2.2.2.2.2.2.1.length))
   exact chk_congr (and_congr_left fun _=>all_rd (P:=fun y:Item=>y.1≤x.2.2.2.2.2.2.2.2.2.2.2.2.2.2.2.2.1.length))
 rw [all_rd (d:=(0,0,0,false,0,())) (l:=x.2.2.2.2.2.2.2.2.2.2.2.2.2.2.2.1) (P:=fun f=>FlightP x.2.2.2.2.2.2.2.2.2.2.1.length f)]
 simp only [g1,br_chkF,br_chkF']
 refine chk_congr ?_
 unfold HallP
 have e1:¬((20:Int)<x.2.2.2.2.2.2.2.2.2.2.2.2.2.2.2.1.length)↔x.2.2.2.2.2.2.2.2.2.2.2.2.2.2.2.1.length≤20:=by omega
 have e2:¬((60:Int)<x.2.2.2.2.2.2.2.2.2.2.2.2.2.2.2.2.1.length)↔x.2.2.2.2.2.2.2.2.2.2.2.2.2.2.2.2.1.length≤60:=by omega
 rw [e1,e2]
end Go.Proofs.YtpmjopbgccajgaaGreat.Eng
namespace Go.Proofs.YtpmjopbgccajgaaGreat.Eng
theorem impl_isTick_f (k:Nat) (a:Int):impl_isTick.f k a=chkP (0≤a∧a≤100000):=by
 unfold impl_isTick.f;simp (disch:=omega) only [lett_e,bnd_s,bnd_chk,br_not,br_t,br_f,br_T,br_F,not_true_eq_false,not_false_eq_true,chk_T,chk_F,chk_eq,eqI_dc,ltI_dc,leI_dc,eqN_dc,notB_dc,andB_dc,andB_t,eqB_dc,notB_t,notB_f,inR_dc,upR_dc,ln_e,app_e,tk_e,dp_e,upd_e,repl_e,natI_n,br_pos,br_neg,addI_n,fitN_T,br_chkF']
theorem impl_isWait_f (k:Nat) (a b:Int):impl_isWait.f k a b=chkP (b≤a∧a≤5000):=by
 unfold impl_isWait.f;simp (disch:=omega) only [lett_e,bnd_s,bnd_chk,br_not,br_t,br_f,br_T,br_F,not_true_eq_false,not_false_eq_true,chk_T,chk_F,chk_eq,eqI_dc,ltI_dc,leI_dc,eqN_dc,notB_dc,andB_dc,andB_t,eqB_dc,notB_t,notB_f,inR_dc,upR_dc,ln_e,app_e,tk_e,dp_e,upd_e,repl_e,natI_n,br_pos,br_neg,addI_n,fitN_T,br_chkF']
theorem impl_isFrom1_f (k:Nat) (a b:Int):impl_isFrom1.f k a b=chkP (1≤a∧a≤b):=by
 unfold impl_isFrom1.f;simp (disch:=omega) only [lett_e,bnd_s,bnd_chk,br_not,br_t,br_f,br_T,br_F,not_true_eq_false,not_false_eq_true,chk_T,chk_F,chk_eq,eqI_dc,ltI_dc,leI_dc,eqN_dc,notB_dc,andB_dc,andB_t,eqB_dc,notB_t,notB_f,inR_dc,upR_dc,ln_e,app_e,tk_e,dp_e,upd_e,repl_e,natI_n,br_pos,br_neg,addI_n,fitN_T,br_chkF']
theorem impl_isFlight_f (k:Nat) (x:HallT) (a:Int):impl_isFlight.f k x a=chkP (1≤a∧a≤x.2.2.2.2.2.2.2.2.2.2.2.2.2.2.2.1.length):=by
 unfold impl_isFlight.f;simp (disch:=omega) only [lett_e,bnd_s,bnd_chk,br_not,br_t,br_f,br_T,br_F,not_true_eq_false,not_false_eq_true,chk_T,chk_F,chk_eq,eqI_dc,ltI_dc,leI_dc,eqN_dc,notB_dc,andB_dc,andB_t,eqB_dc,notB_t,notB_f,inR_dc,upR_dc,ln_e,app_e,tk_e,dp_e,upd_e,repl_e,natI_n,br_pos,br_neg,addI_n,fitN_T,impl_isFrom1_f]
theorem impl_LimitsOk_f (k:Nat) (x:Int×Int×Unit):impl_LimitsOk.f k x=chkP ((60≤x.1∧x.1≤2000)∧1≤x.2.1∧x.2.1≤40):=by
 unfold impl_LimitsOk.f;simp (disch:=omega) only [lett_e,bnd_s,bnd_chk,br_not,br_t,br_f,br_T,br_F,not_true_eq_false,not_false_eq_true,chk_T,chk_F,chk_eq,eqI_dc,ltI_dc,leI_dc,eqN_dc,notB_dc,andB_dc,andB_t,eqB_dc,notB_t,notB_f,inR_dc,upR_dc,ln_e,app_e,tk_e,dp_e,upd_e,repl_e,natI_n,br_pos,br_neg,addI_n,fitN_T,br_chkF'];exact chk_congr (by grind)
theorem impl_TagOk_f (k:Nat) (t:Int×Int×Int×Unit):impl_TagOk.f k t=chkP (TagP t):=by
 unfold impl_TagOk.f;simp (disch:=omega) only [lett_e,bnd_s,bnd_chk,br_not,br_t,br_f,br_T,br_F,not_true_eq_false,not_false_eq_true,chk_T,chk_F,chk_eq,eqI_dc,ltI_dc,leI_dc,eqN_dc,notB_dc,andB_dc,andB_t,eqB_dc,notB_t,notB_f,inR_dc,upR_dc,ln_e,app_e,tk_e,dp_e,upd_e,repl_e,natI_n,br_pos,br_neg,addI_n,fitN_T,br_chkF'];exact chk_congr (by unfold TagP;grind)
theorem impl_ScreenOk_f (k:Nat) (s:Int×Int×Int×Unit):impl_ScreenOk.f k s=chkP (ScreenP s):=by
 unfold impl_ScreenOk.f;simp (disch:=omega) only [lett_e,bnd_s,bnd_chk,br_not,br_t,br_f,br_T,br_F,not_true_eq_false,not_false_eq_true,chk_T,chk_F,chk_eq,eqI_dc,ltI_dc,leI_dc,eqN_dc,notB_dc,andB_dc,andB_t,eqB_dc,notB_t,notB_f,inR_dc,upR_dc,ln_e,app_e,tk_e,dp_e,upd_e,repl_e,natI_n,br_pos,br_neg,addI_n,fitN_T,impl_isTick_f,br_chkF,br_chkF',br_chkT];exact chk_congr (by unfold ScreenP;grind)
theorem impl_PolicyOk_f {k:Nat} (hk:K0≤k) (x:List (Int×Unit)×Unit):impl_PolicyOk.f k x=chkP (PolicyP x.1):=by
 unfold K0 at hk
 unfold impl_PolicyOk.f
 by_cases h:x.1.length=3
 case neg=>simp (disch:=omega) only [lett_e,bnd_s,bnd_chk,br_not,br_t,br_f,br_T,br_F,not_true_eq_false,not_false_eq_true,chk_T,chk_F,chk_eq,eqI_dc,ltI_dc,leI_dc,eqN_dc,notB_dc,andB_dc,andB_t,eqB_dc,notB_t,notB_f,inR_dc,upR_dc,ln_e,app_e,tk_e,dp_e,upd_e,repl_e,natI_n,br_pos,br_neg,addI_n,fitN_T];exact chk_congr ⟨fun z=>z.elim,fun z=>h z.1⟩
 simp (disch:=omega) only [lett_e,bnd_s,bnd_chk,br_not,br_t,br_f,br_T,br_F,not_true_eq_false,not_false_eq_true,chk_T,chk_F,chk_eq,eqI_dc,ltI_dc,leI_dc,eqN_dc,notB_dc,andB_dc,andB_t,eqB_dc,notB_t,notB_f,inR_dc,upR_dc,ln_e,app_e,tk_e,dp_e,upd_e,repl_e,natI_n,br_pos,br_neg,addI_n,fitN_T]
 rw [loop_chk (n:=x.1.length) (Q:=True) (fun i=>((i:Int),())) (fun i=>1≤(rdP (0,()) x.1 i).1∧(rdP (0,()) x.1 i).1≤5000) ?h0 ?hk0 ?hs0 ?he0]
 case h0=>simp
 case hk0=>omega
 case hs0=>intro i hi _ rec;simp (disch:=omega) only [lett_e,bnd_s,bnd_chk,br_not,br_t,br_f,br_T,br_F,not_true_eq_false,not_false_eq_true,chk_T,chk_F,chk_eq,eqI_dc,ltI_dc,leI_dc,eqN_dc,notB_dc,andB_dc,andB_t,eqB_dc,notB_t,notB_f,inR_dc,upR_dc,ln_e,app_e,tk_e,dp_e,upd_e,repl_e,natI_n,br_pos,br_neg,addI_n,fitN_T,impl_isWait_f];rw [chk_neg (p:=¬(0≤(i:Int))) (by omega)];rfl
 case he0=>intro _ rec;simp (disch:=omega) only [lett_e,bnd_s,bnd_chk,br_not,br_t,br_f,br_T,br_F,not_true_eq_false,not_false_eq_true,chk_T,chk_F,chk_eq,eqI_dc,ltI_dc,leI_dc,eqN_dc,notB_dc,andB_dc,andB_t,eqB_dc,notB_t,notB_f,inR_dc,upR_dc,ln_e,app_e,tk_e,dp_e,upd_e,repl_e,natI_n,br_pos,br_neg,addI_n,fitN_T];exact chk_pos (by omega)
 refine chk_congr ?_
 unfold PolicyP
 rw [all_rd (d:=(0,())) (l:=x.1) (P:=fun y:Int×Unit=>1≤y.1∧y.1≤5000)]
 grind
theorem impl_isOn_f {k:Nat} (hk:K0≤k) (l:List Item) (a:Int) (hx:l.length≤1048576):impl_isOn.f k l a=chkP (∃y,y∈l∧y.1=a):=by
 unfold K0 at hk
 unfold impl_isOn.f
 rw [loop_any (n:=l.length) (r:=chkP True) (e:=chkP False) (fun i=>((i:Int),())) (fun i=>(rdP (0,0,0,()) l i).1=a) ?h0 ?hk ?hs ?he]
 case h0=>simp
 case hk=>omega
 case hs=>intro i hi _ rec;simp (disch:=omega) only [lett_e,bnd_s,bnd_chk,br_not,br_t,br_f,br_T,br_F,not_true_eq_false,not_false_eq_true,chk_T,chk_F,chk_eq,eqI_dc,ltI_dc,leI_dc,eqN_dc,notB_dc,andB_dc,andB_t,eqB_dc,notB_t,notB_f,inR_dc,upR_dc,ln_e,app_e,tk_e,dp_e,upd_e,repl_e,natI_n,br_pos,br_neg,addI_n,fitN_T];rw [chk_pos (p:=0≤(i:Int)) (by omega)];rfl
 case he=>intro _ rec;simp (disch:=omega) only [lett_e,bnd_s,bnd_chk,br_not,br_t,br_f,br_T,br_F,not_true_eq_false,not_false_eq_true,chk_T,chk_F,chk_eq,eqI_dc,ltI_dc,leI_dc,eqN_dc,notB_dc,andB_dc,andB_t,eqB_dc,notB_t,notB_f,inR_dc,upR_dc,ln_e,app_e,tk_e,dp_e,upd_e,repl_e,natI_n,br_pos,br_neg,addI_n,fitN_T];exact chk_neg (by omega)
 simp (disch:=omega) only [lett_e,bnd_s,bnd_chk,br_not,br_t,br_f,br_T,br_F,not_true_eq_false,not_false_eq_true,chk_T,chk_F,chk_eq,eqI_dc,ltI_dc,leI_dc,eqN_dc,notB_dc,andB_dc,andB_t,eqB_dc,notB_t,notB_f,inR_dc,upR_dc,ln_e,app_e,tk_e,dp_e,upd_e,repl_e,natI_n,br_pos,br_neg,addI_n,fitN_T,br_chkF']
 exact chk_congr (by rw [ex_rd (P:=fun y:Item=>y.1=a),and_true])
theorem mem_take_rd {α:Type} {d:α} {l:List α} {i:Nat} (hi:i≤l.length) {P:α→Prop}:(∃y,y∈l.take i∧P y)↔∃j,j<i∧P (rdP d l j):=by
 constructor
 ·rintro ⟨y,hy,hp⟩
  obtain⟨j,hj,e⟩:=List.getElem_of_mem hy
  have hj':j<i:=by rw [List.length_take]at hj;omega
  refine⟨j,hj',?_⟩
  rw [rd_lt (by omega)]
  rw [List.getElem_take]at e
  rw [e];exact hp
 ·rintro ⟨j,hj,hp⟩
  rw [rd_lt (by omega)]at hp
  exact⟨_,List.mem_take_iff_getElem.2 ⟨j,by omega,rfl⟩,hp⟩
theorem impl_BeltOk_f {k:Nat} (hk:K0≤k) (x:Int×Int×Bool×List Item×Unit):impl_BeltOk.f k x=chkP (BeltP x):=by
 have hk':=hk
 unfold K0 at hk
 unfold impl_BeltOk.f
 by_cases h1:1≤x.1∧x.1≤400
 case neg=>
  have:chkP (BeltP x)=chkP False:=chk_neg fun z=>h1 z.1
  rw [this]
  by_cases h:x.1<1<;>simp (disch:=omega) only [lett_e,bnd_s,bnd_chk,br_not,br_t,br_f,br_T,br_F,not_true_eq_false,not_false_eq_true,chk_T,chk_F,chk_eq,eqI_dc,ltI_dc,leI_dc,eqN_dc,notB_dc,andB_dc,andB_t,eqB_dc,notB_t,notB_f,inR_dc,upR_dc,ln_e,app_e,tk_e,dp_e,upd_e,repl_e,natI_n,br_pos,br_neg,addI_n,fitN_T]
 by_cases h2:0≤x.2.1∧x.2.1≤20
 case neg=>
  have:chkP (BeltP x)=chkP False:=chk_neg fun z=>h2 z.2.1
  rw [this]
  by_cases h:x.2.1<0<;>simp (disch:=omega) only [lett_e,bnd_s,bnd_chk,br_not,br_t,br_f,br_T,br_F,not_true_eq_false,not_false_eq_true,chk_T,chk_F,chk_eq,eqI_dc,ltI_dc,leI_dc,eqN_dc,notB_dc,andB_dc,andB_t,eqB_dc,notB_t,notB_f,inR_dc,upR_dc,ln_e,app_e,tk_e,dp_e,upd_e,repl_e,natI_n,br_pos,br_neg,addI_n,fitN_T]
 by_cases h3:x.2.2.2.1.length≤40
 case neg=>simp (disch:=omega) only [lett_e,bnd_s,bnd_chk,br_not,br_t,br_f,br_T,br_F,not_true_eq_false,not_false_eq_true,chk_T,chk_F,chk_eq,eqI_dc,ltI_dc,leI_dc,eqN_dc,notB_dc,andB_dc,andB_t,eqB_dc,notB_t,notB_f,inR_dc,upR_dc,ln_e,app_e,tk_e,dp_e,upd_e,repl_e,natI_n,br_pos,br_neg,addI_n,fitN_T];exact chk_congr ⟨fun z=>z.elim,fun z=>h3 z.2.2.1⟩
 simp (disch:=omega) only [lett_e,bnd_s,bnd_chk,br_not,br_t,br_f,br_T,br_F,not_true_eq_false,not_false_eq_true,chk_T,chk_F,chk_eq,eqI_dc,ltI_dc,leI_dc,eqN_dc,notB_dc,andB_dc,andB_t,eqB_dc,notB_t,notB_f,inR_dc,upR_dc,ln_e,app_e,tk_e,dp_e,upd_e,repl_e,natI_n,br_pos,br_neg,addI_n,fitN_T]
 obtain⟨most,hm0⟩:∃most:Nat→Int,∀i,most i=if i=0 then x.1 else(rdP (0,0,0,()) x.2.2.2.1 (i-1)).2.1-(rdP (0,0,0,()) x.2.2.2.1 (i-1)).2.2.1-x.2.1:=⟨_,fun _=>rfl⟩
 have hmost:∀i,(∀j,j<i→ItemP x j)→most i≤x.1:=fun i hp=>by
  rw [hm0]
  split
  ·omega
  ·obtain⟨_,_,⟨_,_⟩,_⟩:=hp (i-1) (by omega);omega
 rw [loop_chk (n:=x.2.2.2.1.length) (Q:=True) (fun i=>(most i,(i:Int),())) (ItemP x) ?h0 ?hk0 ?hs0 ?he0]
 case h0=>rw [hm0];rfl
 case hk0=>omega
 case he0=>intro _ rec;simp (disch:=omega) only [lett_e,bnd_s,bnd_chk,br_not,br_t,br_f,br_T,br_F,not_true_eq_false,not_false_eq_true,chk_T,chk_F,chk_eq,eqI_dc,ltI_dc,leI_dc,eqN_dc,notB_dc,andB_dc,andB_t,eqB_dc,notB_t,notB_f,inR_dc,upR_dc,ln_e,app_e,tk_e,dp_e,upd_e,repl_e,natI_n,br_pos,br_neg,addI_n,fitN_T]
 case hs0=>
  intro i hi hp rec
  have hl:(x.2.2.2.1.take i).length≤1048576:=by rw [List.length_take];omega
  have hm:=hmost i hp
  simp (disch:=omega) only [lett_e,bnd_s,bnd_chk,br_not,br_t,br_f,br_T,br_F,not_true_eq_false,not_false_eq_true,chk_T,chk_F,chk_eq,eqI_dc,ltI_dc,leI_dc,eqN_dc,notB_dc,andB_dc,andB_t,eqB_dc,notB_t,notB_f,inR_dc,upR_dc,ln_e,app_e,tk_e,dp_e,upd_e,repl_e,natI_n,br_pos,br_neg,addI_n,fitN_T,impl_isOn_f hk' _ _ hl]
  rw [mem_take_rd (d:=(0,0,0,())) (by omega)]
  simp only [g1,g2]
  refine br_iff' ?_ (fun z=> ?_)
  ·unfold ItemP
   have:=hm0 i
   by_cases hi0:i=0
   ·subst hi0;simp at this ⊢;grind
   ·rw [if_neg hi0]at this;grind
  ·have e:most (i+1)=(rdP (0,0,0,()) x.2.2.2.1 i).2.1-(rdP (0,0,0,()) x.2.2.2.1 i).2.2.1-x.2.1:=by rw [hm0,if_neg (by omega),Nat.add_sub_cancel]
   show rec _=rec _
   rw [e,subI_id (x:=(rdP (0,0,0,()) x.2.2.2.1 i).2.1) (by omega),subI_id (by omega)]
   rfl
 exact chk_congr ⟨fun z=>⟨h1,h2,h3,z.1⟩,fun z=>⟨z.2.2.2,trivial⟩⟩
end Go.Proofs.YtpmjopbgccajgaaGreat.Eng
namespace Go.Proofs.YtpmjopbgccajgaaGreat.Eng
theorem nilB_same {α β:Type} (l:List α) (a b:Option β) (h:l=[]→a=b):nilB l a b=b:=by
 cases l with
 |nil=>
  have:=h rfl
  subst this
  unfold nilB both
  exact if_pos rfl
 |cons x l=>rfl
theorem slices_Clone_int_int_f (k:Nat) {l:List (Int×Unit)} (h:l.length≤1048576):slices_Clone_int_int.f k l=some (l,()):=by
 unfold slices_Clone_int_int.f
 have hf:=fitL_T (l:=([]:List (Int×Unit))) (m:=l) (by simp;omega)
 simp (disch:=omega) only [lett_e,bnd_s,bnd_chk,br_not,br_t,br_f,br_T,br_F,not_true_eq_false,not_false_eq_true,chk_T,chk_F,chk_eq,eqI_dc,ltI_dc,leI_dc,eqN_dc,notB_dc,andB_dc,andB_t,eqB_dc,notB_t,notB_f,inR_dc,upR_dc,ln_e,app_e,tk_e,dp_e,upd_e,repl_e,natI_n,br_pos,br_neg,addI_n,fitN_T,hf,List.nil_append]
 exact nilB_same _ _ _ (fun e=>by rw [e])
theorem impl_areIndexes_f {k:Nat} (hk:K0≤k) (l:List (Int×Unit)) (n:Nat) (hl:l.length≤1048576):impl_areIndexes.f k l n=chkP (AscP l n):=by
 unfold K0 at hk
 unfold impl_areIndexes.f
 rw [loop_chk (n:=l.length) (Q:=True) (fun j=>((j:Int),())) (fun i=>(0≤(rdP (0,()) l i).1∧(rdP (0,()) l i).1<n)∧(0<i→(rdP (0,()) l (i-1)).1<(rdP (0,()) l i).1)) ?h0 ?hk0 ?hs0 ?he0]
 case h0=>simp
 case hk0=>omega
 case he0=>intro _ rec;simp (disch:=omega) only [lett_e,bnd_s,bnd_chk,br_not,br_t,br_f,br_T,br_F,not_true_eq_false,not_false_eq_true,chk_T,chk_F,chk_eq,eqI_dc,ltI_dc,leI_dc,eqN_dc,notB_dc,andB_dc,andB_t,eqB_dc,notB_t,notB_f,inR_dc,upR_dc,ln_e,app_e,tk_e,dp_e,upd_e,repl_e,natI_n,br_pos,br_neg,addI_n,fitN_T]
 case hs0=>
  intro i hi _ rec
  by_cases h0:0<i
  ·obtain⟨i,rfl⟩:∃m,i=m+1:=⟨i-1,by omega⟩
   simp (disch:=omega) only [lett_e,bnd_s,bnd_chk,br_not,br_t,br_f,br_T,br_F,not_true_eq_false,not_false_eq_true,chk_T,chk_F,chk_eq,eqI_dc,ltI_dc,leI_dc,eqN_dc,notB_dc,andB_dc,andB_t,eqB_dc,notB_t,notB_f,inR_dc,upR_dc,ln_e,app_e,tk_e,dp_e,upd_e,repl_e,natI_n,br_pos,br_neg,addI_n,fitN_T,subI_nat,Nat.add_sub_cancel,g1,g2]
   exact br_iff (by grind) _ _
  ·simp (disch:=omega) only [lett_e,bnd_s,bnd_chk,br_not,br_t,br_f,br_T,br_F,not_true_eq_false,not_false_eq_true,chk_T,chk_F,chk_eq,eqI_dc,ltI_dc,leI_dc,eqN_dc,notB_dc,andB_dc,andB_t,eqB_dc,notB_t,notB_f,inR_dc,upR_dc,ln_e,app_e,tk_e,dp_e,upd_e,repl_e,natI_n,br_pos,br_neg,addI_n,fitN_T,g1,g2]
   exact br_iff (by grind) _ _
 exact chk_congr ⟨fun z=>z.1,fun z=>⟨z,trivial⟩⟩
theorem impl_areDifferent_f {k:Nat} (hk:K0≤k) (l:List (Int×Unit)) (hl:l.length≤1048576):impl_areDifferent.f k l=chkP l.Nodup:=by
 unfold K0 at hk
 unfold impl_areDifferent.f
 have hsl:=sortL_length l
 have hnd:l.Nodup↔∀i,i+1<(sortL l).length→(rdP (0,()) (sortL l) (i+1)).1≠(rdP (0,()) (sortL l) i).1:=by
  rw [←sorted_nodup (sortL_sorted l)];exact((sortL_perm l).nodup_iff).symm
 simp (disch:=omega) only [lett_e,bnd_s,bnd_chk,br_not,br_t,br_f,br_T,br_F,not_true_eq_false,not_false_eq_true,chk_T,chk_F,chk_eq,eqI_dc,ltI_dc,leI_dc,eqN_dc,notB_dc,andB_dc,andB_t,eqB_dc,notB_t,notB_f,inR_dc,upR_dc,ln_e,app_e,tk_e,dp_e,upd_e,repl_e,natI_n,br_pos,br_neg,addI_n,fitN_T,slices_Clone_int_int_f k hl,sortI_e k hl]
 generalize hs:sortL l=s at hsl hnd
 by_cases h2:s.length<2
 ·simp (disch:=omega) only [lett_e,bnd_s,bnd_chk,br_not,br_t,br_f,br_T,br_F,not_true_eq_false,not_false_eq_true,chk_T,chk_F,chk_eq,eqI_dc,ltI_dc,leI_dc,eqN_dc,notB_dc,andB_dc,andB_t,eqB_dc,notB_t,notB_f,inR_dc,upR_dc,ln_e,app_e,tk_e,dp_e,upd_e,repl_e,natI_n,br_pos,br_neg,addI_n,fitN_T]
  exact chk_congr ⟨fun _=>hnd.2 (fun i hi=>by omega),fun _=>by omega⟩
 simp (disch:=omega) only [lett_e,bnd_s,bnd_chk,br_not,br_t,br_f,br_T,br_F,not_true_eq_false,not_false_eq_true,chk_T,chk_F,chk_eq,eqI_dc,ltI_dc,leI_dc,eqN_dc,notB_dc,andB_dc,andB_t,eqB_dc,notB_t,notB_f,inR_dc,upR_dc,ln_e,app_e,tk_e,dp_e,upd_e,repl_e,natI_n,br_pos,br_neg,addI_n,fitN_T]
 rw [loop_while (n:=s.length-1) (r:=chkP False) (e:=chkP True) (fun i=>(((i+1:Nat):Int),())) (fun i=>(rdP (0,()) s (i+1)).1≠(rdP (0,()) s i).1) ?h0 ?hs0 ?he0 ?hk0]
 case h0=>rfl
 case hk0=>omega
 case he0=>
  intro _ rec
  simp (disch:=omega) only [lett_e,bnd_s,bnd_chk,br_not,br_t,br_f,br_T,br_F,not_true_eq_false,not_false_eq_true,chk_T,chk_F,chk_eq,eqI_dc,ltI_dc,leI_dc,eqN_dc,notB_dc,andB_dc,andB_t,eqB_dc,notB_t,notB_f,inR_dc,upR_dc,ln_e,app_e,tk_e,dp_e,upd_e,repl_e,natI_n,br_pos,br_neg,addI_n,fitN_T]
  exact chk_pos (by omega)
 case hs0=>
  intro i hi _ rec
  simp (disch:=omega) only [lett_e,bnd_s,bnd_chk,br_not,br_t,br_f,br_T,br_F,not_true_eq_false,not_false_eq_true,chk_T,chk_F,chk_eq,eqI_dc,ltI_dc,leI_dc,eqN_dc,notB_dc,andB_dc,andB_t,eqB_dc,notB_t,notB_f,inR_dc,upR_dc,ln_e,app_e,tk_e,dp_e,upd_e,repl_e,natI_n,br_pos,br_neg,addI_n,fitN_T,subI_nat]
  by_cases he:(rdP (0,()) s (i+1)).1=(rdP (0,()) s i).1
  case neg=>rw [br_neg he,br_pos he];rfl
  rw [br_pos he,br_neg (fun z=>z he)]
  refine loop_inv (n:=s.length-(i+1)-1) (fun j c=>c.1.length=s.length∧∃m:Nat,c.2.1=(m:Int)∧m≤i+1+j∧c.2.2.1=((j+1:Nat):Int)) ⟨rfl,i+1,rfl,by omega,by simp⟩ ?_ ?_ (by omega)
  ·rintro j ⟨c,m',j',u'⟩ hj ⟨hc,m,e1,hm,e2⟩
   simp only at hc e1 e2
   subst e1;subst e2
   have hd:(c.drop (i+1)).length=s.length-(i+1):=by rw [List.length_drop,hc]
   by_cases hq:(rdP (0,()) c (i+1+(j+1))).1=(rdP (0,()) c (i+1+j)).1
   ·refine⟨(c,(m:Int),((j+1+1:Nat):Int),()),⟨hc,m,rfl,by omega,rfl⟩,fun rec=> ?_⟩
    simp (disch:=omega) only [lett_e,bnd_s,bnd_chk,br_not,br_t,br_f,br_T,br_F,not_true_eq_false,not_false_eq_true,chk_T,chk_F,chk_eq,eqI_dc,ltI_dc,leI_dc,eqN_dc,notB_dc,andB_dc,andB_t,eqB_dc,notB_t,notB_f,inR_dc,upR_dc,ln_e,app_e,tk_e,dp_e,upd_e,repl_e,natI_n,br_pos,br_neg,addI_n,fitN_T,subI_nat,hd]
    rfl
   ·refine⟨(c.set m (rdP (0,()) c (i+1+(j+1))),((m+1:Nat):Int),((j+1+1:Nat):Int),()),⟨by simpa using hc,m+1,rfl,by omega,rfl⟩,fun rec=> ?_⟩
    simp (disch:=omega) only [lett_e,bnd_s,bnd_chk,br_not,br_t,br_f,br_T,br_F,not_true_eq_false,not_false_eq_true,chk_T,chk_F,chk_eq,eqI_dc,ltI_dc,leI_dc,eqN_dc,notB_dc,andB_dc,andB_t,eqB_dc,notB_t,notB_f,inR_dc,upR_dc,ln_e,app_e,tk_e,dp_e,upd_e,repl_e,natI_n,br_pos,br_neg,addI_n,fitN_T,subI_nat,hd]
    rfl
  ·rintro ⟨c,m',j',u'⟩ ⟨hc,m,e1,hm,e2⟩ rec
   simp only at hc e1 e2
   subst e1;subst e2
   have hd:(c.drop (i+1)).length=s.length-(i+1):=by rw [List.length_drop,hc]
   have hd2:(c.take m++List.replicate (c.drop m).length ((0:Int),())).length=s.length:=by simp;omega
   simp (disch:=omega) only [lett_e,bnd_s,bnd_chk,br_not,br_t,br_f,br_T,br_F,not_true_eq_false,not_false_eq_true,chk_T,chk_F,chk_eq,eqI_dc,ltI_dc,leI_dc,eqN_dc,notB_dc,andB_dc,andB_t,eqB_dc,notB_t,notB_f,inR_dc,upR_dc,ln_e,app_e,tk_e,dp_e,upd_e,repl_e,natI_n,br_pos,br_neg,addI_n,fitN_T,hd,hd2]
   refine chk_neg ?_
   rw [List.length_take,hd2]
   omega
 simp (disch:=omega) only [lett_e,bnd_s,bnd_chk,br_not,br_t,br_f,br_T,br_F,not_true_eq_false,not_false_eq_true,chk_T,chk_F,chk_eq,eqI_dc,ltI_dc,leI_dc,eqN_dc,notB_dc,andB_dc,andB_t,eqB_dc,notB_t,notB_f,inR_dc,upR_dc,ln_e,app_e,tk_e,dp_e,upd_e,repl_e,natI_n,br_pos,br_neg,addI_n,fitN_T,br_chkF']
 refine chk_congr ?_
 rw [hnd]
 constructor
 ·rintro ⟨h,_⟩ i hi;exact h i (by omega)
 ·intro h;exact⟨fun i hi=>h i (by omega),trivial⟩
theorem del_nz {R:Type} {k:Nat} (hk:K0≤k) (l:List (Int×Unit)) (hl:l.length≤1048576) (K:List (Int×Unit)→Option R) {F1:(Int×Unit→Option R)→Int×Unit→Option R} {F2:(List (Int×Unit)×Int×Int×Unit→Option R)→List (Int×Unit)×Int×Int×Unit→Option R}
  (hF1:∀(i:Nat) rec,i<l.length→F1 rec ((i:Int),())=br (dc ((rdP (0,()) l i).1=0)) (loopN F2 k (l,(i:Int),((i+1:Nat):Int),())) (rec (((i+1:Nat):Int),()))) (hE1:∀rec,F1 rec ((l.length:Int),())=K l)
  (hF2:∀(c:List (Int×Unit)) (i j:Nat) rec,c.length=l.length→i≤j→j<l.length→F2 rec (c,(i:Int),(j:Int),())=br (dc ((rdP (0,()) c j).1=0)) (rec (c,(i:Int),((j+1:Nat):Int),())) (rec (c.set i (rdP (0,()) c j),((i+1:Nat):Int),((j+1:Nat):Int),())))
  (hE2:∀(c:List (Int×Unit)) (i:Nat) rec,c.length=l.length→i≤l.length→F2 rec (c,(i:Int),(l.length:Int),())=K (c.take i)):loopN F1 k (0,())=K (nz l):=by
 unfold K0 at hk
 rcases loop_find (F:=F1) (k:=k) (n:=l.length) (c0:=(0,())) (e:=K l) (fun i=>((i:Int),())) (fun i=>(rdP (0,()) l i).1=0) (fun i=>loopN F2 k (l,(i:Int),((i+1:Nat):Int),())) (by simp) (by omega) (fun i hi _ rec=>hF1 i rec hi) (fun _ rec=>hE1 rec)with⟨i0,hi0,h0,hb,e⟩|⟨h,e⟩
 ·rw [e]
  have hpre:nz (l.take i0)=l.take i0:=by
   unfold nz
   rw [List.filter_eq_self]
   intro y hy
   obtain⟨j,hj,ey⟩:=List.getElem_of_mem hy
   rw [List.length_take]at hj
   have:=hb j (by omega)
   rw [rd_lt (by omega)]at this
   rw [List.getElem_take]at ey
   rw [←ey];simpa using this
  have hst:∀j,(nz (l.take j)).length≤j:=fun j=>Nat.le_trans (nz_len _) (by rw [List.length_take];omega)
  have hle:∀j,i0<j→(nz (l.take j)).length<j:=fun j hj=>by
   have:l.take j=l.take i0++(l.drop i0).take (j-i0):=by
    rw [←List.take_add,show i0+(j-i0)=j by omega]
   have hd:l.drop i0=rdP (0,()) l i0::l.drop (i0+1):=by rw [rd_lt hi0];exact(List.getElem_cons_drop hi0).symm
   have hz:nz (l.take j)=l.take i0++nz ((l.drop (i0+1)).take (j-i0-1)):=by
    rw [this]
    conv=>lhs;unfold nz
    rw [List.filter_append]
    congr 1
    rw [hd,show j-i0=(j-i0-1)+1 by omega,List.take_succ_cons,List.filter_cons]
    simp [h0,nz]
   rw [hz,List.length_append,List.length_take]
   have:=nz_len ((l.drop (i0+1)).take (j-i0-1))
   rw [List.length_take,List.length_drop]at this
   omega
  refine loop_run (n:=l.length-(i0+1)) (fun m=>(nz (l.take (i0+1+m))++l.drop (nz (l.take (i0+1+m))).length,((nz (l.take (i0+1+m))).length:Int),((i0+1+m:Nat):Int),())) ?_ ?_ ?_ (by omega)
  ·have:nz (l.take (i0+1+0))=l.take i0:=by
    rw [Nat.add_zero,nz_s hi0,hpre,if_neg (fun z=>z h0),List.append_nil]
   simp only [this]
   rw [List.length_take,Nat.min_eq_left (by omega),List.take_append_drop]
   try rfl
  ·intro m hm rec
   have hj:i0+1+m<l.length:=by omega
   have hlt:=hle (i0+1+m) (by omega)
   have hcl:(nz (l.take (i0+1+m))++l.drop (nz (l.take (i0+1+m))).length).length=l.length:=by
    rw [List.length_append,List.length_drop];omega
   have hrd:rdP (0,()) (nz (l.take (i0+1+m))++l.drop (nz (l.take (i0+1+m))).length) (i0+1+m)=rdP (0,()) l (i0+1+m):=by
    rw [rd_lt (by omega),rd_lt hj,List.getElem_append_right (by omega),List.getElem_drop]
    congr 1;omega
   rw [hF2 _ _ _ rec hcl (by omega) hj,hrd]
   by_cases hz:(rdP (0,()) l (i0+1+m)).1=0
   ·have:nz (l.take (i0+1+(m+1)))=nz (l.take (i0+1+m)):=by
     rw [←Nat.add_assoc,nz_s hj,if_neg (fun z=>z hz),List.append_nil]
    rw [br_pos hz,this];try rfl
   ·have hn:nz (l.take (i0+1+(m+1)))=nz (l.take (i0+1+m))++[rdP (0,()) l (i0+1+m)]:=by
     rw [←Nat.add_assoc,nz_s hj,if_pos hz]
    rw [br_neg hz,hn]
    have hset:(nz (l.take (i0+1+m))++l.drop (nz (l.take (i0+1+m))).length).set (nz (l.take (i0+1+m))).length (rdP (0,()) l (i0+1+m))=nz (l.take (i0+1+m))++[rdP (0,()) l (i0+1+m)]++l.drop (nz (l.take (i0+1+m))++[rdP (0,()) l (i0+1+m)]).length:=by
     rw [List.set_append_right _ _ (Nat.le_refl _),Nat.sub_self,List.length_append,List.append_assoc]
     congr 1
     rw [←List.getElem_cons_drop (show (nz (l.take (i0+1+m))).length<l.length by omega)]
     rfl
    rw [hset,List.length_append]
    rfl
  ·intro rec
   have e1:i0+1+(l.length-(i0+1))=l.length:=by omega
   rw [e1,List.take_length]
   have hcl:(nz l++l.drop (nz l).length).length=l.length:=by
    rw [List.length_append,List.length_drop];have:=nz_len l;omega
   rw [hE2 _ _ rec hcl (nz_len l),List.take_left']
   rfl
 ·rw [e]
  congr 1
  unfold nz
  rw [eq_comm,List.filter_eq_self]
  intro y hy
  obtain⟨j,hj,ey⟩:=List.getElem_of_mem hy
  have:=h j hj
  rw [rd_lt hj,ey]at this
  simpa using this
end Go.Proofs.YtpmjopbgccajgaaGreat.Eng
namespace Go.Proofs.YtpmjopbgccajgaaGreat.Eng
theorem inCh_take {l:List Chute} {i:Nat}:(inCh (l.take i)).length≤(inCh l).length:=by
 conv=>rhs;rw [←List.take_append_drop i l]
 unfold inCh
 rw [List.flatMap_append,List.length_append];omega
theorem inCh_loop {R:Type} {k:Nat} (hk:K0≤k) (l:List Chute) (c:List (Int×Unit)) (hl:l.length≤1048576) (hc:c.length≤1048576) (hb:(inCh l).length≤1048576) {F:(List (Int×Unit)×Int×Unit→Option R)→List (Int×Unit)×Int×Unit→Option R} (K:List (Int×Unit)→Option R)
  (hF:∀(d:List (Int×Unit)) (i:Nat) rec,i<l.length→d.length+(rdP (0,0,[],()) l i).2.2.1.length<68719476736→F rec (d,(i:Int),())=rec (d++(rdP (0,0,[],()) l i).2.2.1,((i+1:Nat):Int),())) (hE:∀d rec,F rec (d,(l.length:Int),())=K d):
  loopN F k (c,0,())=K (c++inCh l):=by
 unfold K0 at hk
 refine loop_run (n:=l.length) (fun i=>(c++inCh (l.take i),(i:Int),())) (by simp [inCh]) (fun i hi rec=> ?_) (fun rec=>by rw [List.take_length];exact hE _ _) (by omega)
 have h1:=inCh_take (l:=l) (i:=i+1)
 rw [inCh_s hi,List.length_append]at h1
 rw [hF _ _ _ hi (by rw [List.length_append];omega),inCh_s hi,List.append_assoc]
theorem impl_bagsOf_f {k:Nat} (hk:K0≤k) (x:LoopT) (h1:x.1.length≤1048576) (h2:x.2.2.1.length≤1048576) (h3:(inCh x.2.2.1).length≤1048576):impl_bagsOf.f k x=some (bagsL x,()):=by
 have hk':=hk
 unfold K0 at hk
 unfold impl_bagsOf.f
 simp (disch:=omega) only [lett_e,bnd_s,bnd_chk,br_not,br_t,br_f,br_T,br_F,not_true_eq_false,not_false_eq_true,chk_T,chk_F,chk_eq,eqI_dc,ltI_dc,leI_dc,eqN_dc,notB_dc,andB_dc,andB_t,eqB_dc,notB_t,notB_f,inR_dc,upR_dc,ln_e,app_e,tk_e,dp_e,upd_e,repl_e,natI_n,br_pos,br_neg,addI_n,fitN_T,slices_Clone_int_int_f k h1]
 have key:∀c:List (Int×Unit),c.length≤1048576→loopN (fun rec6 (c5:List (Int×Unit)×Int×Unit)=>br (dc (c5.2.1<x.2.2.1.length)) (br (dc (0≤c5.2.1∧c5.2.1<x.2.2.1.length)) (br (fitL c5.1 (rdP (0,0,[],()) x.2.2.1 (natI c5.2.1)).2.2.1) (rec6 (c5.1++(rdP (0,0,[],()) x.2.2.1 (natI c5.2.1)).2.2.1,addI .i64 c5.2.1 1,())) none) none) (some (c5.1,()))) k (c,0,())=some (c++inCh x.2.2.1,()):=fun c hc=>by
  refine inCh_loop hk' x.2.2.1 c h2 hc h3 (fun d=>some (d,())) (fun d i rec hi hd=> ?_) (fun d rec=> ?_)
  ·have hf:=fitL_T hd
   simp (disch:=omega) only [lett_e,bnd_s,bnd_chk,br_not,br_t,br_f,br_T,br_F,not_true_eq_false,not_false_eq_true,chk_T,chk_F,chk_eq,eqI_dc,ltI_dc,leI_dc,eqN_dc,notB_dc,andB_dc,andB_t,eqB_dc,notB_t,notB_f,inR_dc,upR_dc,ln_e,app_e,tk_e,dp_e,upd_e,repl_e,natI_n,br_pos,br_neg,addI_n,fitN_T,hf]
   rfl
  ·simp (disch:=omega) only [lett_e,bnd_s,bnd_chk,br_not,br_t,br_f,br_T,br_F,not_true_eq_false,not_false_eq_true,chk_T,chk_F,chk_eq,eqI_dc,ltI_dc,leI_dc,eqN_dc,notB_dc,andB_dc,andB_t,eqB_dc,notB_t,notB_f,inR_dc,upR_dc,ln_e,app_e,tk_e,dp_e,upd_e,repl_e,natI_n,br_pos,br_neg,addI_n,fitN_T]
 refine del_nz (F2:= ?F2) hk' x.1 h1 (fun c=>some (c++inCh x.2.2.1,())) ?f1 ?e1 ?f2 ?e2
 case f1=>intro i rec hi;simp (disch:=omega) only [lett_e,bnd_s,bnd_chk,br_not,br_t,br_f,br_T,br_F,not_true_eq_false,not_false_eq_true,chk_T,chk_F,chk_eq,eqI_dc,ltI_dc,leI_dc,eqN_dc,notB_dc,andB_dc,andB_t,eqB_dc,notB_t,notB_f,inR_dc,upR_dc,ln_e,app_e,tk_e,dp_e,upd_e,repl_e,natI_n,br_pos,br_neg,addI_n,fitN_T];rfl
 case e1=>intro rec;simp (disch:=omega) only [lett_e,bnd_s,bnd_chk,br_not,br_t,br_f,br_T,br_F,not_true_eq_false,not_false_eq_true,chk_T,chk_F,chk_eq,eqI_dc,ltI_dc,leI_dc,eqN_dc,notB_dc,andB_dc,andB_t,eqB_dc,notB_t,notB_f,inR_dc,upR_dc,ln_e,app_e,tk_e,dp_e,upd_e,repl_e,natI_n,br_pos,br_neg,addI_n,fitN_T];exact key _ h1
 case f2=>
  intro c i j rec hc hij hj
  by_cases hz:(rdP (0,()) c j).1=0
  ·simp (disch:=omega) only [lett_e,bnd_s,bnd_chk,br_not,br_t,br_f,br_T,br_F,not_true_eq_false,not_false_eq_true,chk_T,chk_F,chk_eq,eqI_dc,ltI_dc,leI_dc,eqN_dc,notB_dc,andB_dc,andB_t,eqB_dc,notB_t,notB_f,inR_dc,upR_dc,ln_e,app_e,tk_e,dp_e,upd_e,repl_e,natI_n,br_pos,br_neg,addI_n,fitN_T];rfl
  ·simp (disch:=omega) only [lett_e,bnd_s,bnd_chk,br_not,br_t,br_f,br_T,br_F,not_true_eq_false,not_false_eq_true,chk_T,chk_F,chk_eq,eqI_dc,ltI_dc,leI_dc,eqN_dc,notB_dc,andB_dc,andB_t,eqB_dc,notB_t,notB_f,inR_dc,upR_dc,ln_e,app_e,tk_e,dp_e,upd_e,repl_e,natI_n,br_pos,br_neg,addI_n,fitN_T];rfl
 case e2=>
  intro c i rec hc hi
  have hd2:(c.take i++List.replicate (c.drop i).length ((0:Int),())).length=c.length:=by simp;omega
  simp (disch:=omega) only [lett_e,bnd_s,bnd_chk,br_not,br_t,br_f,br_T,br_F,not_true_eq_false,not_false_eq_true,chk_T,chk_F,chk_eq,eqI_dc,ltI_dc,leI_dc,eqN_dc,notB_dc,andB_dc,andB_t,eqB_dc,notB_t,notB_f,inR_dc,upR_dc,ln_e,app_e,tk_e,dp_e,upd_e,repl_e,natI_n,br_pos,br_neg,addI_n,fitN_T,hd2]
  rw [List.take_left' (by rw [List.length_take];omega)]
  exact key _ (by rw [List.length_take];omega)
theorem impl_LoopOk_f {k:Nat} (hk:K0≤k) (x:LoopT) (h0:x.1.length≤1048576) (hc:x.2.2.1.length≤1048576) (hb:(inCh x.2.2.1).length≤1048576) (hw:∀w∈x.2.2.2.1,w.2.1.length≤1048576) (hbl0:(bagsL x).length≤1048576):impl_LoopOk.f k x=chkP (LoopP x):=by
 have hk':=hk
 unfold K0 at hk
 unfold impl_LoopOk.f
 by_cases h1:2≤x.1.length∧x.1.length≤60
 case neg=>
  rw [chk_neg (p:=LoopP x) fun z=>h1 z.1]
  by_cases h:(x.1.length:Int)<2<;>simp (disch:=omega) only [lett_e,bnd_s,bnd_chk,br_not,br_t,br_f,br_T,br_F,not_true_eq_false,not_false_eq_true,chk_T,chk_F,chk_eq,eqI_dc,ltI_dc,leI_dc,eqN_dc,notB_dc,andB_dc,andB_t,eqB_dc,notB_t,notB_f,inR_dc,upR_dc,ln_e,app_e,tk_e,dp_e,upd_e,repl_e,natI_n,br_pos,br_neg,addI_n,fitN_T]
 by_cases h2:0≤x.2.1∧x.2.1<x.1.length
 case neg=>
  rw [chk_neg (p:=LoopP x) fun z=>h2 z.2.1]
  by_cases h:x.2.1<0<;>simp (disch:=omega) only [lett_e,bnd_s,bnd_chk,br_not,br_t,br_f,br_T,br_F,not_true_eq_false,not_false_eq_true,chk_T,chk_F,chk_eq,eqI_dc,ltI_dc,leI_dc,eqN_dc,notB_dc,andB_dc,andB_t,eqB_dc,notB_t,notB_f,inR_dc,upR_dc,ln_e,app_e,tk_e,dp_e,upd_e,repl_e,natI_n,br_pos,br_neg,addI_n,fitN_T]
 by_cases h3:x.2.2.1.length≤8
 case neg=>rw [chk_neg (p:=LoopP x) fun z=>h3 z.2.2.1];simp (disch:=omega) only [lett_e,bnd_s,bnd_chk,br_not,br_t,br_f,br_T,br_F,not_true_eq_false,not_false_eq_true,chk_T,chk_F,chk_eq,eqI_dc,ltI_dc,leI_dc,eqN_dc,notB_dc,andB_dc,andB_t,eqB_dc,notB_t,notB_f,inR_dc,upR_dc,ln_e,app_e,tk_e,dp_e,upd_e,repl_e,natI_n,br_pos,br_neg,addI_n,fitN_T]
 by_cases h4:x.2.2.2.1.length≤60
 case neg=>rw [chk_neg (p:=LoopP x) fun z=>h4 z.2.2.2.1];simp (disch:=omega) only [lett_e,bnd_s,bnd_chk,br_not,br_t,br_f,br_T,br_F,not_true_eq_false,not_false_eq_true,chk_T,chk_F,chk_eq,eqI_dc,ltI_dc,leI_dc,eqN_dc,notB_dc,andB_dc,andB_t,eqB_dc,notB_t,notB_f,inR_dc,upR_dc,ln_e,app_e,tk_e,dp_e,upd_e,repl_e,natI_n,br_pos,br_neg,addI_n,fitN_T]
 simp (disch:=omega) only [lett_e,bnd_s,bnd_chk,br_not,br_t,br_f,br_T,br_F,not_true_eq_false,not_false_eq_true,chk_T,chk_F,chk_eq,eqI_dc,ltI_dc,leI_dc,eqN_dc,notB_dc,andB_dc,andB_t,eqB_dc,notB_t,notB_f,inR_dc,upR_dc,ln_e,app_e,tk_e,dp_e,upd_e,repl_e,natI_n,br_pos,br_neg,addI_n,fitN_T,impl_bagsOf_f hk' (x.1,x.2.1,x.2.2.1,x.2.2.2.1,()) h0 hc hb]
 let at_:List Chute→List (Int×Unit):=fun l=>l.map fun c=>(c.1,())
 let wb:List Want→List (Int×Unit):=fun l=>l.map fun c=>(c.1,())
 rw [loop_while (n:=x.2.2.1.length) (r:=chkP False) (e:=chkP ((∀w∈x.2.2.2.1,1≤w.1∧AscP w.2.1 x.2.2.1.length)∧(∀b∈bagsL x,1≤b.1)∧(bagsL x).Nodup∧(at_ x.2.2.1).Nodup∧(wb x.2.2.2.1).Nodup)) (fun i=>(at_ (x.2.2.1.take i),(i:Int),())) (fun i=>ChuteP x.1.length (rdP (0,0,[],()) x.2.2.1 i)) ?h5 ?hs5 ?he5 ?hk5]
 case h5=>simp [at_]
 case hk5=>omega
 case hs5=>
  intro i hi _ rec
  have hl:(at_ (x.2.2.1.take i)).length≤8:=by simp [at_];omega
  have hf:=fitL_T (l:=at_ (x.2.2.1.take i)) (m:=[((rdP (0,0,[],()) x.2.2.1 i).1,())]) (by simp;omega)
  simp (disch:=omega) only [lett_e,bnd_s,bnd_chk,br_not,br_t,br_f,br_T,br_F,not_true_eq_false,not_false_eq_true,chk_T,chk_F,chk_eq,eqI_dc,ltI_dc,leI_dc,eqN_dc,notB_dc,andB_dc,andB_t,eqB_dc,notB_t,notB_f,inR_dc,upR_dc,ln_e,app_e,tk_e,dp_e,upd_e,repl_e,natI_n,br_pos,br_neg,addI_n,fitN_T,hf,g1,g2]
  refine br_iff' (by unfold ChuteP;grind) (fun _=> ?_)
  congr 2
  rw [take_s (d:=(0,0,[],())) hi]
  simp [at_]
 case he5=>
  intro _ rec
  simp (disch:=omega) only [lett_e,bnd_s,bnd_chk,br_not,br_t,br_f,br_T,br_F,not_true_eq_false,not_false_eq_true,chk_T,chk_F,chk_eq,eqI_dc,ltI_dc,leI_dc,eqN_dc,notB_dc,andB_dc,andB_t,eqB_dc,notB_t,notB_f,inR_dc,upR_dc,ln_e,app_e,tk_e,dp_e,upd_e,repl_e,natI_n,br_pos,br_neg,addI_n,fitN_T,List.take_length]
  have hat:(at_ x.2.2.1).length≤1048576:=by simp [at_];omega
  rw [loop_while (n:=x.2.2.2.1.length) (r:=chkP False) (e:=chkP ((∀b∈bagsL x,1≤b.1)∧(bagsL x).Nodup∧(at_ x.2.2.1).Nodup∧(wb x.2.2.2.1).Nodup)) (fun i=>(wb (x.2.2.2.1.take i),(i:Int),())) (fun i=>1≤(rdP (0,[],()) x.2.2.2.1 i).1∧AscP (rdP (0,[],()) x.2.2.2.1 i).2.1 x.2.2.1.length) ?h6 ?hs6 ?he6 ?hk6]
  case h6=>simp [wb]
  case hk6=>omega
  case hs6=>
   intro i hi _ rec
   have hwl:=hw _ (by rw [rd_lt hi];exact List.getElem_mem hi:rdP (0,[],()) x.2.2.2.1 i∈x.2.2.2.1)
   have hl:(wb (x.2.2.2.1.take i)).length≤60:=by simp [wb];omega
   have hf:=fitL_T (l:=wb (x.2.2.2.1.take i)) (m:=[((rdP (0,[],()) x.2.2.2.1 i).1,())]) (by simp;omega)
   simp (disch:=omega) only [lett_e,bnd_s,bnd_chk,br_not,br_t,br_f,br_T,br_F,not_true_eq_false,not_false_eq_true,chk_T,chk_F,chk_eq,eqI_dc,ltI_dc,leI_dc,eqN_dc,notB_dc,andB_dc,andB_t,eqB_dc,notB_t,notB_f,inR_dc,upR_dc,ln_e,app_e,tk_e,dp_e,upd_e,repl_e,natI_n,br_pos,br_neg,addI_n,fitN_T,hf,impl_areIndexes_f hk' _ _ hwl,g1,g2]
   refine br_iff' (by grind) (fun _=> ?_)
   congr 2
   rw [take_s (d:=(0,[],())) hi]
   simp [wb]
  case he6=>
   intro _ rec
   have hbl:(bagsL x).length≤2097152:=by
    unfold bagsL;rw [List.length_append];have:=nz_len x.1;omega
   have hbl2:(bagsL x).length≤1048576:=hbl0
   have hwl:(wb x.2.2.2.1).length≤1048576:=by simp [wb];omega
   have ebag:bagsL (x.1,x.2.1,x.2.2.1,x.2.2.2.1,())=bagsL x:=rfl
   simp (disch:=omega) only [lett_e,bnd_s,bnd_chk,br_not,br_t,br_f,br_T,br_F,not_true_eq_false,not_false_eq_true,chk_T,chk_F,chk_eq,eqI_dc,ltI_dc,leI_dc,eqN_dc,notB_dc,andB_dc,andB_t,eqB_dc,notB_t,notB_f,inR_dc,upR_dc,ln_e,app_e,tk_e,dp_e,upd_e,repl_e,natI_n,br_pos,br_neg,addI_n,fitN_T,List.take_length,ebag]
   rw [loop_while (n:=(bagsL x).length) (r:=chkP False) (e:=chkP ((bagsL x).Nodup∧(at_ x.2.2.1).Nodup∧(wb x.2.2.2.1).Nodup)) (fun i=>((i:Int),())) (fun i=>1≤(rdP (0,()) (bagsL x) i).1) ?h7 ?hs7 ?he7 ?hk7]
   case h7=>simp
   case hk7=>omega
   case hs7=>intro i hi _ rec;simp (disch:=omega) only [lett_e,bnd_s,bnd_chk,br_not,br_t,br_f,br_T,br_F,not_true_eq_false,not_false_eq_true,chk_T,chk_F,chk_eq,eqI_dc,ltI_dc,leI_dc,eqN_dc,notB_dc,andB_dc,andB_t,eqB_dc,notB_t,notB_f,inR_dc,upR_dc,ln_e,app_e,tk_e,dp_e,upd_e,repl_e,natI_n,br_pos,br_neg,addI_n,fitN_T,g1,Int.not_lt];rfl
   case he7=>
    intro _ rec
    simp (disch:=omega) only [lett_e,bnd_s,bnd_chk,br_not,br_t,br_f,br_T,br_F,not_true_eq_false,not_false_eq_true,chk_T,chk_F,chk_eq,eqI_dc,ltI_dc,leI_dc,eqN_dc,notB_dc,andB_dc,andB_t,eqB_dc,notB_t,notB_f,inR_dc,upR_dc,ln_e,app_e,tk_e,dp_e,upd_e,repl_e,natI_n,br_pos,br_neg,addI_n,fitN_T,impl_areDifferent_f hk' _ hbl2,impl_areDifferent_f hk' _ hat,impl_areDifferent_f hk' _ hwl,br_chkF']
   rw [br_chkF']
   exact chk_congr (and_congr_left fun _=>all_rd (P:=fun y:Int×Unit=>1≤y.1))
  rw [br_chkF']
  exact chk_congr (and_congr_left fun _=>all_rd (P:=fun w:Want=>1≤w.1∧AscP w.2.1 x.2.2.1.length))
 rw [br_chkF',all_rd (P:=ChuteP x.1.length)]
 refine chk_congr ?_
 have e1:(at_ x.2.2.1).Nodup↔(x.2.2.1.map (·.1)).Nodup:=by
  rw [nodup_rd (d:=(0,0,[],()))]
  rw [nodup_rd (d:=(0,0,[],()))]
  exact forall_congr' fun i=>forall_congr' fun _=>forall_congr' fun j=>forall_congr' fun _=>not_congr ⟨fun z=>(Prod.mk.injEq _ _ _ _▸z:_∧_).1,fun z=>by rw [z]⟩
 have e2:(wb x.2.2.2.1).Nodup↔(x.2.2.2.1.map (·.1)).Nodup:=by
  rw [nodup_rd (d:=(0,[],()))]
  rw [nodup_rd (d:=(0,[],()))]
  exact forall_congr' fun i=>forall_congr' fun _=>forall_congr' fun j=>forall_congr' fun _=>not_congr ⟨fun z=>(Prod.mk.injEq _ _ _ _▸z:_∧_).1,fun z=>by rw [z]⟩
 rw [e1,e2]
 unfold LoopP
 grind
theorem bagsS_take {l:List (List Kept×Unit)} {i:Nat}:(bagsS (l.take i)).length≤(bagsS l).length:=by
 conv=>rhs;rw [←List.take_append_drop i l]
 unfold bagsS
 rw [List.flatMap_append,List.length_append];omega
theorem impl_bagsIn_f {k:Nat} (hk:K0≤k) (x:StoreT) (h1:x.2.1.length≤1048576) (h2:(bagsS x.2.1).length≤1048576):impl_bagsIn.f k x=some (bagsS x.2.1,()):=by
 unfold K0 at hk
 unfold impl_bagsIn.f
 refine loop_run (n:=x.2.1.length) (fun i=>(bagsS (x.2.1.take i),(i:Int),())) (by simp [bagsS]) (fun i hi rec=> ?_) (fun rec=>by simp (disch:=omega) only [lett_e,bnd_s,bnd_chk,br_not,br_t,br_f,br_T,br_F,not_true_eq_false,not_false_eq_true,chk_T,chk_F,chk_eq,eqI_dc,ltI_dc,leI_dc,eqN_dc,notB_dc,andB_dc,andB_t,eqB_dc,notB_t,notB_f,inR_dc,upR_dc,ln_e,app_e,tk_e,dp_e,upd_e,repl_e,natI_n,br_pos,br_neg,addI_n,fitN_T,List.take_length]) (by omega)
 have hb:=bagsS_take (l:=x.2.1) (i:=i+1)
 rw [bagsS_s hi,List.length_append]at hb
 simp only [bagsK,List.length_map]at hb
 simp (disch:=omega) only [lett_e,bnd_s,bnd_chk,br_not,br_t,br_f,br_T,br_F,not_true_eq_false,not_false_eq_true,chk_T,chk_F,chk_eq,eqI_dc,ltI_dc,leI_dc,eqN_dc,notB_dc,andB_dc,andB_t,eqB_dc,notB_t,notB_f,inR_dc,upR_dc,ln_e,app_e,tk_e,dp_e,upd_e,repl_e,natI_n,br_pos,br_neg,addI_n,fitN_T]
 rw [loop_run (n:=(rdP ([],()) x.2.1 i).1.length) (r:=rec (bagsS (x.2.1.take i)++bagsK (rdP ([],()) x.2.1 i).1,((i+1:Nat):Int),())) (fun j=>(bagsS (x.2.1.take i)++bagsK ((rdP ([],()) x.2.1 i).1.take j),(j:Int),())) ?h3 ?hs3 ?he3 ?hk3]
 case h3=>simp [bagsK]
 case hk3=>omega
 case hs3=>
  intro j hj rec2
  have hf:=fitL_T (l:=bagsS (x.2.1.take i)++bagsK ((rdP ([],()) x.2.1 i).1.take j)) (m:=[((rdP (0,0,()) (rdP ([],()) x.2.1 i).1 j).1,())]) (by simp only [List.length_append,bagsK,List.length_map,List.length_take,List.length_cons,List.length_nil];omega)
  simp (disch:=omega) only [lett_e,bnd_s,bnd_chk,br_not,br_t,br_f,br_T,br_F,not_true_eq_false,not_false_eq_true,chk_T,chk_F,chk_eq,eqI_dc,ltI_dc,leI_dc,eqN_dc,notB_dc,andB_dc,andB_t,eqB_dc,notB_t,notB_f,inR_dc,upR_dc,ln_e,app_e,tk_e,dp_e,upd_e,repl_e,natI_n,br_pos,br_neg,addI_n,fitN_T,hf]
  rw [bagsK_s hj,List.append_assoc]
  rfl
 case he3=>intro rec2;simp (disch:=omega) only [lett_e,bnd_s,bnd_chk,br_not,br_t,br_f,br_T,br_F,not_true_eq_false,not_false_eq_true,chk_T,chk_F,chk_eq,eqI_dc,ltI_dc,leI_dc,eqN_dc,notB_dc,andB_dc,andB_t,eqB_dc,notB_t,notB_f,inR_dc,upR_dc,ln_e,app_e,tk_e,dp_e,upd_e,repl_e,natI_n,br_pos,br_neg,addI_n,fitN_T,List.take_length];rfl
 rw [bagsS_s hi]
theorem impl_StoreOk_f {k:Nat} (hk:K0≤k) (x:StoreT) (h0:(bagsS x.2.1).length≤1048576):impl_StoreOk.f k x=chkP (StoreP x):=by
 have hk':=hk
 unfold K0 at hk
 unfold impl_StoreOk.f
 by_cases h1:1≤x.1∧x.1≤5
 case neg=>
  rw [chk_neg (p:=StoreP x) fun z=>h1 z.1]
  by_cases h:x.1<1<;>simp (disch:=omega) only [lett_e,bnd_s,bnd_chk,br_not,br_t,br_f,br_T,br_F,not_true_eq_false,not_false_eq_true,chk_T,chk_F,chk_eq,eqI_dc,ltI_dc,leI_dc,eqN_dc,notB_dc,andB_dc,andB_t,eqB_dc,notB_t,notB_f,inR_dc,upR_dc,ln_e,app_e,tk_e,dp_e,upd_e,repl_e,natI_n,br_pos,br_neg,addI_n,fitN_T]
 by_cases h2:1≤x.2.1.length∧x.2.1.length≤4
 case neg=>
  rw [chk_neg (p:=StoreP x) fun z=>h2 z.2.1]
  by_cases h:(x.2.1.length:Int)<1<;>simp (disch:=omega) only [lett_e,bnd_s,bnd_chk,br_not,br_t,br_f,br_T,br_F,not_true_eq_false,not_false_eq_true,chk_T,chk_F,chk_eq,eqI_dc,ltI_dc,leI_dc,eqN_dc,notB_dc,andB_dc,andB_t,eqB_dc,notB_t,notB_f,inR_dc,upR_dc,ln_e,app_e,tk_e,dp_e,upd_e,repl_e,natI_n,br_pos,br_neg,addI_n,fitN_T]
 have hi:x.2.1.length≤1048576:=by omega
 have hbi:=impl_bagsIn_f hk' (x.1,x.2.1,()) hi h0
 have had:=impl_areDifferent_f hk' (bagsS x.2.1) h0
 simp (disch:=omega) only [lett_e,bnd_s,bnd_chk,br_not,br_t,br_f,br_T,br_F,not_true_eq_false,not_false_eq_true,chk_T,chk_F,chk_eq,eqI_dc,ltI_dc,leI_dc,eqN_dc,notB_dc,andB_dc,andB_t,eqB_dc,notB_t,notB_f,inR_dc,upR_dc,ln_e,app_e,tk_e,dp_e,upd_e,repl_e,natI_n,br_pos,br_neg,addI_n,fitN_T,hbi,had]
 rw [loop_chk (n:=x.2.1.length) (Q:=(bagsS x.2.1).Nodup) (fun j=>((j:Int),())) (fun i=>((rdP ([],()) x.2.1 i).1.length:Int)≤x.1∧(∀j,j<(rdP ([],()) x.2.1 i).1.length→1≤(rdP (0,0,()) (rdP ([],()) x.2.1 i).1 j).1∧(0≤(rdP (0,0,()) (rdP ([],()) x.2.1 i).1 j).2.1∧(rdP (0,0,()) (rdP ([],()) x.2.1 i).1 j).2.1≤100000))) ?h3 ?hk3 ?hs3 ?he3]
 case h3=>simp
 case hk3=>omega
 case he3=>intro _ rec;simp (disch:=omega) only [lett_e,bnd_s,bnd_chk,br_not,br_t,br_f,br_T,br_F,not_true_eq_false,not_false_eq_true,chk_T,chk_F,chk_eq,eqI_dc,ltI_dc,leI_dc,eqN_dc,notB_dc,andB_dc,andB_t,eqB_dc,notB_t,notB_f,inR_dc,upR_dc,ln_e,app_e,tk_e,dp_e,upd_e,repl_e,natI_n,br_pos,br_neg,addI_n,fitN_T]
 case hs3=>
  intro i hi _ rec
  simp (disch:=omega) only [lett_e,bnd_s,bnd_chk,br_not,br_t,br_f,br_T,br_F,not_true_eq_false,not_false_eq_true,chk_T,chk_F,chk_eq,eqI_dc,ltI_dc,leI_dc,eqN_dc,notB_dc,andB_dc,andB_t,eqB_dc,notB_t,notB_f,inR_dc,upR_dc,ln_e,app_e,tk_e,dp_e,upd_e,repl_e,natI_n,br_pos,br_neg,addI_n,fitN_T]
  by_cases hd:((rdP ([],()) x.2.1 i).1.length:Int)≤x.1
  case neg=>simp (disch:=omega) only [lett_e,bnd_s,bnd_chk,br_not,br_t,br_f,br_T,br_F,not_true_eq_false,not_false_eq_true,chk_T,chk_F,chk_eq,eqI_dc,ltI_dc,leI_dc,eqN_dc,notB_dc,andB_dc,andB_t,eqB_dc,notB_t,notB_f,inR_dc,upR_dc,ln_e,app_e,tk_e,dp_e,upd_e,repl_e,natI_n,br_pos,br_neg,addI_n,fitN_T]
  simp (disch:=omega) only [lett_e,bnd_s,bnd_chk,br_not,br_t,br_f,br_T,br_F,not_true_eq_false,not_false_eq_true,chk_T,chk_F,chk_eq,eqI_dc,ltI_dc,leI_dc,eqN_dc,notB_dc,andB_dc,andB_t,eqB_dc,notB_t,notB_f,inR_dc,upR_dc,ln_e,app_e,tk_e,dp_e,upd_e,repl_e,natI_n,br_pos,br_neg,addI_n,fitN_T]
  rw [loop_while (n:=(rdP ([],()) x.2.1 i).1.length) (r:=chkP False) (e:=rec (((i+1:Nat):Int),())) (fun j=>((j:Int),())) (fun j=>1≤(rdP (0,0,()) (rdP ([],()) x.2.1 i).1 j).1∧(0≤(rdP (0,0,()) (rdP ([],()) x.2.1 i).1 j).2.1∧(rdP (0,0,()) (rdP ([],()) x.2.1 i).1 j).2.1≤100000)) ?h4 ?hs4 ?he4 ?hk4]
  case h4=>simp
  case hk4=>omega
  case hs4=>
   intro j hj _ rec2
   simp (disch:=omega) only [lett_e,bnd_s,bnd_chk,br_not,br_t,br_f,br_T,br_F,not_true_eq_false,not_false_eq_true,chk_T,chk_F,chk_eq,eqI_dc,ltI_dc,leI_dc,eqN_dc,notB_dc,andB_dc,andB_t,eqB_dc,notB_t,notB_f,inR_dc,upR_dc,ln_e,app_e,tk_e,dp_e,upd_e,repl_e,natI_n,br_pos,br_neg,addI_n,fitN_T,impl_isTick_f,g1,g2]
   exact br_iff (by grind) _ _
  case he4=>intro _ rec2;simp (disch:=omega) only [lett_e,bnd_s,bnd_chk,br_not,br_t,br_f,br_T,br_F,not_true_eq_false,not_false_eq_true,chk_T,chk_F,chk_eq,eqI_dc,ltI_dc,leI_dc,eqN_dc,notB_dc,andB_dc,andB_t,eqB_dc,notB_t,notB_f,inR_dc,upR_dc,ln_e,app_e,tk_e,dp_e,upd_e,repl_e,natI_n,br_pos,br_neg,addI_n,fitN_T];rfl
  exact br_iff (by grind) _ _
 refine chk_congr ?_
 unfold StoreP
 rw [←all_rd (d:=([],())) (l:=x.2.1)]
 have e:∀l:List Kept,(∀j,j<l.length→1≤(rdP (0,0,()) l j).1∧(0≤(rdP (0,0,()) l j).2.1∧(rdP (0,0,()) l j).2.1≤100000))↔∀y∈l,1≤y.1∧(0≤y.2.1∧y.2.1≤100000):=fun l=>all_rd (P:=fun y:Kept=>1≤y.1∧(0≤y.2.1∧y.2.1≤100000))
 simp only [e]
 grind
theorem impl_NoteOk_f (k:Nat) (n:NoteT):impl_NoteOk.f k n=chkP (NoteP n):=by
 unfold impl_NoteOk.f
 simp (disch:=omega) only [lett_e,bnd_s,bnd_chk,br_not,br_t,br_f,br_T,br_F,not_true_eq_false,not_false_eq_true,chk_T,chk_F,chk_eq,eqI_dc,ltI_dc,leI_dc,eqN_dc,notB_dc,andB_dc,andB_t,eqB_dc,notB_t,notB_f,inR_dc,upR_dc,ln_e,app_e,tk_e,dp_e,upd_e,repl_e,natI_n,br_pos,br_neg,addI_n,fitN_T,impl_isFrom1_f,br_chkF,br_chkF',br_chkT,br_chk]
 exact chk_congr (by unfold NoteP;grind)
theorem impl_NotesOk_f {k:Nat} (hk:K0≤k) (l:List NoteT) (hl:l.length≤1048576):impl_NotesOk.f k l=chkP (NotesP l):=by
 unfold K0 at hk
 unfold impl_NotesOk.f
 rw [loop_chk (n:=l.length) (Q:=l.length≤60) (fun i=>((i:Int),())) (fun i=>NoteP (rdP (0,0,0,0,0,()) l i)∧(0<i→(rdP (0,0,0,0,0,()) l (i-1)).1<(rdP (0,0,0,0,0,()) l i).1)) ?h0 ?hk0 ?hs0 ?he0]
 case h0=>simp
 case hk0=>omega
 case he0=>intro _ rec;simp (disch:=omega) only [lett_e,bnd_s,bnd_chk,br_not,br_t,br_f,br_T,br_F,not_true_eq_false,not_false_eq_true,chk_T,chk_F,chk_eq,eqI_dc,ltI_dc,leI_dc,eqN_dc,notB_dc,andB_dc,andB_t,eqB_dc,notB_t,notB_f,inR_dc,upR_dc,ln_e,app_e,tk_e,dp_e,upd_e,repl_e,natI_n,br_pos,br_neg,addI_n,fitN_T];exact chk_congr (by omega)
 case hs0=>
  intro i hi _ rec
  simp (disch:=omega) only [lett_e,bnd_s,bnd_chk,br_not,br_t,br_f,br_T,br_F,not_true_eq_false,not_false_eq_true,chk_T,chk_F,chk_eq,eqI_dc,ltI_dc,leI_dc,eqN_dc,notB_dc,andB_dc,andB_t,eqB_dc,notB_t,notB_f,inR_dc,upR_dc,ln_e,app_e,tk_e,dp_e,upd_e,repl_e,natI_n,br_pos,br_neg,addI_n,fitN_T,impl_NoteOk_f]
  by_cases h0:0<i
  ·obtain⟨i,rfl⟩:∃m,i=m+1:=⟨i-1,by omega⟩
   simp (disch:=omega) only [lett_e,bnd_s,bnd_chk,br_not,br_t,br_f,br_T,br_F,not_true_eq_false,not_false_eq_true,chk_T,chk_F,chk_eq,eqI_dc,ltI_dc,leI_dc,eqN_dc,notB_dc,andB_dc,andB_t,eqB_dc,notB_t,notB_f,inR_dc,upR_dc,ln_e,app_e,tk_e,dp_e,upd_e,repl_e,natI_n,br_pos,br_neg,addI_n,fitN_T,subI_nat,Nat.add_sub_cancel,g1,g2]
   exact br_iff (by grind) _ _
  ·simp (disch:=omega) only [lett_e,bnd_s,bnd_chk,br_not,br_t,br_f,br_T,br_F,not_true_eq_false,not_false_eq_true,chk_T,chk_F,chk_eq,eqI_dc,ltI_dc,leI_dc,eqN_dc,notB_dc,andB_dc,andB_t,eqB_dc,notB_t,notB_f,inR_dc,upR_dc,ln_e,app_e,tk_e,dp_e,upd_e,repl_e,natI_n,br_pos,br_neg,addI_n,fitN_T]
   exact br_iff (by grind) _ _
 refine chk_congr ?_
 unfold NotesP
 rw [←all_rd (d:=(0,0,0,0,0,())) (l:=l)]
 grind
theorem impl_areFlights_f {k:Nat} (hk:K0≤k) (x:HallT):impl_areFlights.f k x=chkP (x.2.2.2.2.2.2.2.2.2.2.2.2.2.2.2.1.length≤20∧∀f∈x.2.2.2.2.2.2.2.2.2.2.2.2.2.2.2.1,FlightP x.2.2.2.2.2.2.2.2.2.2.1.length f):=by
 unfold K0 at hk
 unfold impl_areFlights.f
 by_cases h:x.2.2.2.2.2.2.2.2.2.2.2.2.2.2.2.1.length≤20
 case neg=>simp (disch:=omega) only [lett_e,bnd_s,bnd_chk,br_not,br_t,br_f,br_T,br_F,not_true_eq_false,not_false_eq_true,chk_T,chk_F,chk_eq,eqI_dc,ltI_dc,leI_dc,eqN_dc,notB_dc,andB_dc,andB_t,eqB_dc,notB_t,notB_f,inR_dc,upR_dc,ln_e,app_e,tk_e,dp_e,upd_e,repl_e,natI_n,br_pos,br_neg,addI_n,fitN_T];exact chk_congr ⟨fun z=>z.elim,fun z=>h z.1⟩
 simp (disch:=omega) only [lett_e,bnd_s,bnd_chk,br_not,br_t,br_f,br_T,br_F,not_true_eq_false,not_false_eq_true,chk_T,chk_F,chk_eq,eqI_dc,ltI_dc,leI_dc,eqN_dc,notB_dc,andB_dc,andB_t,eqB_dc,notB_t,notB_f,inR_dc,upR_dc,ln_e,app_e,tk_e,dp_e,upd_e,repl_e,natI_n,br_pos,br_neg,addI_n,fitN_T]
 rw [loop_chk (n:=x.2.2.2.2.2.2.2.2.2.2.2.2.2.2.2.1.length) (Q:=True) (fun i=>((i:Int),())) (fun i=>FlightP x.2.2.2.2.2.2.2.2.2.2.1.length (rdP (0,0,0,false,0,()) x.2.2.2.2.2.2.2.2.2.2.2.2.2.2.2.1 i)) ?h0 ?hk0 ?hs0 ?he0]
 case h0=>simp
 case hk0=>omega
 case he0=>intro _ rec;simp (disch:=omega) only [lett_e,bnd_s,bnd_chk,br_not,br_t,br_f,br_T,br_F,not_true_eq_false,not_false_eq_true,chk_T,chk_F,chk_eq,eqI_dc,ltI_dc,leI_dc,eqN_dc,notB_dc,andB_dc,andB_t,eqB_dc,notB_t,notB_f,inR_dc,upR_dc,ln_e,app_e,tk_e,dp_e,upd_e,repl_e,natI_n,br_pos,br_neg,addI_n,fitN_T];exact chk_pos (by omega)
 case hs0=>
  intro i hi _ rec
  simp (disch:=omega) only [lett_e,bnd_s,bnd_chk,br_not,br_t,br_f,br_T,br_F,not_true_eq_false,not_false_eq_true,chk_T,chk_F,chk_eq,eqI_dc,ltI_dc,leI_dc,eqN_dc,notB_dc,andB_dc,andB_t,eqB_dc,notB_t,notB_f,inR_dc,upR_dc,ln_e,app_e,tk_e,dp_e,upd_e,repl_e,natI_n,br_pos,br_neg,addI_n,fitN_T]
  rw [chk_neg (p:=¬(0≤(i:Int))) (by omega),dc_bool (rdP (0,0,0,false,0,()) x.2.2.2.2.2.2.2.2.2.2.2.2.2.2.2.1 i).2.2.2.1]
  simp (disch:=omega) only [lett_e,bnd_s,bnd_chk,br_not,br_t,br_f,br_T,br_F,not_true_eq_false,not_false_eq_true,chk_T,chk_F,chk_eq,eqI_dc,ltI_dc,leI_dc,eqN_dc,notB_dc,andB_dc,andB_t,eqB_dc,notB_t,notB_f,inR_dc,upR_dc,ln_e,app_e,tk_e,dp_e,upd_e,repl_e,natI_n,br_pos,br_neg,addI_n,fitN_T,g1,g2,g4]
  refine br_iff' ?_ (fun _=>rfl)
  unfold FlightP
  grind
 rw [all_rd (P:=FlightP x.2.2.2.2.2.2.2.2.2.2.1.length)]
 exact chk_congr (by grind)
end Go.Proofs.YtpmjopbgccajgaaGreat.Eng
namespace Go.Proofs.YtpmjopbgccajgaaGreat.Eng
def IsCaseP (x:HallT) (e:CaseT):Prop:=TagP (e.1,e.2.1,e.2.2.1,())∧(1≤e.2.2.2.1∧e.2.2.2.1≤x.2.2.2.2.2.2.2.2.2.2.2.2.2.2.2.1.length)∧(1≤e.2.2.2.2.1∧e.2.2.2.2.1≤60)∧(0≤e.2.2.2.2.2.1∧e.2.2.2.2.2.1≤5)∧
 (if e.2.2.2.2.2.2.1=1 then e.2.2.2.2.2.2.2.1=0∧e.2.2.2.2.2.2.2.2.1=0∧e.2.2.2.2.2.2.2.2.2.1=0 else(ScreenP (e.2.2.2.2.2.2.2.1,e.2.2.2.2.2.2.2.2.1,e.2.2.2.2.2.2.2.2.2.1,())∧e.2.2.2.2.2.2.2.2.1≤x.1)∧
  if e.2.2.2.2.2.2.1=2 then e.2.2.2.2.2.2.2.2.2.1≠2 else if e.2.2.2.2.2.2.1=3∨e.2.2.2.2.2.2.1=4∨e.2.2.2.2.2.2.1=5 then e.2.2.2.2.2.2.2.2.2.1=1 else if e.2.2.2.2.2.2.1=6 then e.2.2.2.2.2.2.2.2.2.1=1∧(rdP (0,0,0,false,0,()) x.2.2.2.2.2.2.2.2.2.2.2.2.2.2.2.1 (natI (e.2.2.2.1-1))).2.2.2.1=true else e.2.2.2.2.2.2.1=7)
theorem impl_isCase_f (k:Nat) (x:HallT) (e:CaseT) (hf:x.2.2.2.2.2.2.2.2.2.2.2.2.2.2.2.1.length≤1048576):impl_isCase.f k x e=chkP (IsCaseP x e):=by
 unfold impl_isCase.f
 simp (disch:=omega) only [lett_e,bnd_s,bnd_chk,br_not,br_t,br_f,br_T,br_F,not_true_eq_false,not_false_eq_true,chk_T,chk_F,chk_eq,eqI_dc,ltI_dc,leI_dc,eqN_dc,notB_dc,andB_dc,andB_t,eqB_dc,notB_t,notB_f,inR_dc,upR_dc,ln_e,app_e,tk_e,dp_e,upd_e,repl_e,natI_n,br_pos,br_neg,addI_n,fitN_T,impl_TagOk_f,impl_isFlight_f,impl_isFrom1_f,impl_ScreenOk_f]
 by_cases hF:1≤e.2.2.2.1∧e.2.2.2.1≤x.2.2.2.2.2.2.2.2.2.2.2.2.2.2.2.1.length
 case neg=>
  rw [br_neg hF,br_same]
  exact chk_congr ⟨fun z=>z.elim,fun z=>hF z.2.1⟩
 rw [br_pos hF,subI_id (x:=e.2.2.2.1) (by omega)]
 rw [dc_bool (rdP (0,0,0,false,0,()) x.2.2.2.2.2.2.2.2.2.2.2.2.2.2.2.1 (natI (e.2.2.2.1-1))).2.2.2.1]
 simp (disch:=omega) only [lett_e,bnd_s,bnd_chk,br_not,br_t,br_f,br_T,br_F,not_true_eq_false,not_false_eq_true,chk_T,chk_F,chk_eq,eqI_dc,ltI_dc,leI_dc,eqN_dc,notB_dc,andB_dc,andB_t,eqB_dc,notB_t,notB_f,inR_dc,upR_dc,ln_e,app_e,tk_e,dp_e,upd_e,repl_e,natI_n,br_pos,br_neg,addI_n,fitN_T,br_chkF,br_chkF',br_chkT,br_chk]
 refine chk_congr ?_
 unfold IsCaseP
 generalize (rdP (0,0,0,false,0,()) x.2.2.2.2.2.2.2.2.2.2.2.2.2.2.2.1 (natI (e.2.2.2.1-1))).2.2.2.1=pF
 generalize TagP (e.1,e.2.1,e.2.2.1,())=pG
 generalize ScreenP (e.2.2.2.2.2.2.2.1,e.2.2.2.2.2.2.2.2.1,e.2.2.2.2.2.2.2.2.2.1,())=pH
 generalize e.2.2.2.2.2.2.1=p
 generalize e.2.2.2.2.2.2.2.2.2.1=v
 by_cases h1:p=1
 ·subst h1;simp;grind
 by_cases h2:p=2
 ·subst h2;simp;grind
 by_cases h3:p=3
 ·subst h3;simp;grind
 by_cases h4:p=4
 ·subst h4;simp;grind
 by_cases h5:p=5
 ·subst h5;simp;grind
 by_cases h6:p=6
 ·subst h6;simp;grind
 simp [h1,h2,h3,h4,h5,h6];grind
theorem impl_hasTag_f {k:Nat} (hk:K0≤k) (l:List CaseT) (t:Int×Int×Int×Unit) (hx:l.length≤1048576):impl_hasTag.f k l t=chkP (∃y,y∈l∧(y.1=t.1∧y.2.1=t.2.1∧y.2.2.1=t.2.2.1)):=by
 unfold K0 at hk
 unfold impl_hasTag.f
 rw [loop_any (n:=l.length) (r:=chkP True) (e:=chkP False) (fun i=>((i:Int),())) (fun i=>(rdP (0,0,0,0,0,0,0,0,0,0,()) l i).1=t.1∧(rdP (0,0,0,0,0,0,0,0,0,0,()) l i).2.1=t.2.1∧(rdP (0,0,0,0,0,0,0,0,0,0,()) l i).2.2.1=t.2.2.1) ?h0 ?hk ?hs ?he]
 case h0=>simp
 case hk=>omega
 case hs=>intro i hi _ rec;simp (disch:=omega) only [lett_e,bnd_s,bnd_chk,br_not,br_t,br_f,br_T,br_F,not_true_eq_false,not_false_eq_true,chk_T,chk_F,chk_eq,eqI_dc,ltI_dc,leI_dc,eqN_dc,notB_dc,andB_dc,andB_t,eqB_dc,notB_t,notB_f,inR_dc,upR_dc,ln_e,app_e,tk_e,dp_e,upd_e,repl_e,natI_n,br_pos,br_neg,addI_n,fitN_T];rw [chk_pos (p:=0≤(i:Int)) (by omega)];rfl
 case he=>intro _ rec;simp (disch:=omega) only [lett_e,bnd_s,bnd_chk,br_not,br_t,br_f,br_T,br_F,not_true_eq_false,not_false_eq_true,chk_T,chk_F,chk_eq,eqI_dc,ltI_dc,leI_dc,eqN_dc,notB_dc,andB_dc,andB_t,eqB_dc,notB_t,notB_f,inR_dc,upR_dc,ln_e,app_e,tk_e,dp_e,upd_e,repl_e,natI_n,br_pos,br_neg,addI_n,fitN_T];exact chk_neg (by omega)
 simp (disch:=omega) only [lett_e,bnd_s,bnd_chk,br_not,br_t,br_f,br_T,br_F,not_true_eq_false,not_false_eq_true,chk_T,chk_F,chk_eq,eqI_dc,ltI_dc,leI_dc,eqN_dc,notB_dc,andB_dc,andB_t,eqB_dc,notB_t,notB_f,inR_dc,upR_dc,ln_e,app_e,tk_e,dp_e,upd_e,repl_e,natI_n,br_pos,br_neg,addI_n,fitN_T,br_chkF']
 exact chk_congr (by rw [ex_rd (P:=fun y:CaseT=>y.1=t.1∧y.2.1=t.2.1∧y.2.2.1=t.2.2.1),and_true])
def atR (l:List CaseT) (p:Int) (i:Nat):List (Int×Unit):=((List.range i).filter fun j=>decide ((rdP (0,0,0,0,0,0,0,0,0,0,()) l j).2.2.2.2.2.2.1=p)).map fun (j:Nat)=>((j:Int)+1,())
theorem atR_s (l:List CaseT) (p:Int) (i:Nat):atR l p (i+1)=atR l p i++(if (rdP (0,0,0,0,0,0,0,0,0,0,()) l i).2.2.2.2.2.2.1=p then [((i:Int)+1,())]else []):=by
 unfold atR
 rw [List.range_succ,List.filter_append,List.map_append]
 congr 1
 by_cases h:(rdP (0,0,0,0,0,0,0,0,0,0,()) l i).2.2.2.2.2.2.1=p<;>simp [h]
theorem atR_len (l:List CaseT) (p:Int) (i:Nat):(atR l p i).length≤i:=by
 unfold atR
 rw [List.length_map]
 exact Nat.le_trans (List.length_filter_le _ _) (by simp)
theorem impl_at_f {k:Nat} (hk:K0≤k) (x:HallT) (p:Int) (hx:x.2.2.2.2.2.2.2.2.2.2.2.2.2.2.2.2.1.length≤1048576):impl_at.f k x p=some (atR x.2.2.2.2.2.2.2.2.2.2.2.2.2.2.2.2.1 p x.2.2.2.2.2.2.2.2.2.2.2.2.2.2.2.2.1.length,()):=by
 unfold K0 at hk
 unfold impl_at.f
 refine loop_run (n:=x.2.2.2.2.2.2.2.2.2.2.2.2.2.2.2.2.1.length) (fun i=>(atR x.2.2.2.2.2.2.2.2.2.2.2.2.2.2.2.2.1 p i,(i:Int),())) (by simp [atR]) (fun i hi rec=> ?_) (fun rec=>by simp (disch:=omega) only [lett_e,bnd_s,bnd_chk,br_not,br_t,br_f,br_T,br_F,not_true_eq_false,not_false_eq_true,chk_T,chk_F,chk_eq,eqI_dc,ltI_dc,leI_dc,eqN_dc,notB_dc,andB_dc,andB_t,eqB_dc,notB_t,notB_f,inR_dc,upR_dc,ln_e,app_e,tk_e,dp_e,upd_e,repl_e,natI_n,br_pos,br_neg,addI_n,fitN_T]) (by omega)
 have hl:=atR_len x.2.2.2.2.2.2.2.2.2.2.2.2.2.2.2.2.1 p i
 have hf:=fitL_T (l:=atR x.2.2.2.2.2.2.2.2.2.2.2.2.2.2.2.2.1 p i) (m:=[((i:Int)+1,())]) (by simp;omega)
 rw [atR_s]
 by_cases hp:(rdP (0,0,0,0,0,0,0,0,0,0,()) x.2.2.2.2.2.2.2.2.2.2.2.2.2.2.2.2.1 i).2.2.2.2.2.2.1=p
 ·simp (disch:=omega) only [lett_e,bnd_s,bnd_chk,br_not,br_t,br_f,br_T,br_F,not_true_eq_false,not_false_eq_true,chk_T,chk_F,chk_eq,eqI_dc,ltI_dc,leI_dc,eqN_dc,notB_dc,andB_dc,andB_t,eqB_dc,notB_t,notB_f,inR_dc,upR_dc,ln_e,app_e,tk_e,dp_e,upd_e,repl_e,natI_n,br_pos,br_neg,addI_n,fitN_T,hf]
  rw [if_pos hp]
  rfl
 ·simp (disch:=omega) only [lett_e,bnd_s,bnd_chk,br_not,br_t,br_f,br_T,br_F,not_true_eq_false,not_false_eq_true,chk_T,chk_F,chk_eq,eqI_dc,ltI_dc,leI_dc,eqN_dc,notB_dc,andB_dc,andB_t,eqB_dc,notB_t,notB_f,inR_dc,upR_dc,ln_e,app_e,tk_e,dp_e,upd_e,repl_e,natI_n,br_pos,br_neg,addI_n,fitN_T]
  rw [if_neg hp,List.append_nil]
  rfl
theorem slices_Equal_int_int_f {k:Nat} (hk:K0≤k) (a b:List (Int×Unit)) (ha:a.length≤1048576):slices_Equal_int_int.f k a b=chkP (a=b):=by
 unfold K0 at hk
 unfold slices_Equal_int_int.f
 by_cases hl:a.length=b.length
 case neg=>simp (disch:=omega) only [lett_e,bnd_s,bnd_chk,br_not,br_t,br_f,br_T,br_F,not_true_eq_false,not_false_eq_true,chk_T,chk_F,chk_eq,eqI_dc,ltI_dc,leI_dc,eqN_dc,notB_dc,andB_dc,andB_t,eqB_dc,notB_t,notB_f,inR_dc,upR_dc,ln_e,app_e,tk_e,dp_e,upd_e,repl_e,natI_n,br_pos,br_neg,addI_n,fitN_T];exact chk_congr ⟨fun z=>z.elim,fun z=>hl (by rw [z])⟩
 simp (disch:=omega) only [lett_e,bnd_s,bnd_chk,br_not,br_t,br_f,br_T,br_F,not_true_eq_false,not_false_eq_true,chk_T,chk_F,chk_eq,eqI_dc,ltI_dc,leI_dc,eqN_dc,notB_dc,andB_dc,andB_t,eqB_dc,notB_t,notB_f,inR_dc,upR_dc,ln_e,app_e,tk_e,dp_e,upd_e,repl_e,natI_n,br_pos,br_neg,addI_n,fitN_T]
 rw [loop_chk (n:=a.length) (Q:=True) (fun i=>((i:Int),())) (fun i=>(rdP (0,()) a i).1=(rdP (0,()) b i).1) ?h0 ?hk0 ?hs0 ?he0]
 case h0=>simp
 case hk0=>omega
 case he0=>intro _ rec;simp (disch:=omega) only [lett_e,bnd_s,bnd_chk,br_not,br_t,br_f,br_T,br_F,not_true_eq_false,not_false_eq_true,chk_T,chk_F,chk_eq,eqI_dc,ltI_dc,leI_dc,eqN_dc,notB_dc,andB_dc,andB_t,eqB_dc,notB_t,notB_f,inR_dc,upR_dc,ln_e,app_e,tk_e,dp_e,upd_e,repl_e,natI_n,br_pos,br_neg,addI_n,fitN_T]
 case hs0=>
  intro i hi _ rec
  simp (disch:=omega) only [lett_e,bnd_s,bnd_chk,br_not,br_t,br_f,br_T,br_F,not_true_eq_false,not_false_eq_true,chk_T,chk_F,chk_eq,eqI_dc,ltI_dc,leI_dc,eqN_dc,notB_dc,andB_dc,andB_t,eqB_dc,notB_t,notB_f,inR_dc,upR_dc,ln_e,app_e,tk_e,dp_e,upd_e,repl_e,natI_n,br_pos,br_neg,addI_n,fitN_T,g1]
  exact br_iff (by grind) _ _
 refine chk_congr ⟨fun z=> ?_,fun z=>⟨fun i _=>by rw [z],trivial⟩⟩
 refine List.ext_getElem hl (fun i h1 h2=> ?_)
 have:=z.1 i h1
 rw [rd_lt h1,rd_lt h2]at this
 have:∀a b:Int×Unit,a.1=b.1→a=b:=fun ⟨a,_⟩ ⟨b,_⟩ h=>by cases h;rfl
 exact this _ _ (by assumption)
theorem impl_areBags_f {k:Nat} (hk:K0≤k) (x:HallT) (p:Int) (l:List (Int×Unit)) (hx:x.2.2.2.2.2.2.2.2.2.2.2.2.2.2.2.2.1.length≤1048576) (hl:l.length≤1048576):impl_areBags.f k x p l=some (dc (sortL l=atR x.2.2.2.2.2.2.2.2.2.2.2.2.2.2.2.2.1 p x.2.2.2.2.2.2.2.2.2.2.2.2.2.2.2.2.1.length),sortL l,()):=by
 unfold impl_areBags.f
 have h1:=impl_at_f hk x p hx
 have h2:=slices_Equal_int_int_f hk (sortL l) (atR x.2.2.2.2.2.2.2.2.2.2.2.2.2.2.2.2.1 p x.2.2.2.2.2.2.2.2.2.2.2.2.2.2.2.2.1.length) (by rw [sortL_length];exact hl)
 simp (disch:=omega) only [lett_e,bnd_s,bnd_chk,br_not,br_t,br_f,br_T,br_F,not_true_eq_false,not_false_eq_true,chk_T,chk_F,chk_eq,eqI_dc,ltI_dc,leI_dc,eqN_dc,notB_dc,andB_dc,andB_t,eqB_dc,notB_t,notB_f,inR_dc,upR_dc,ln_e,app_e,tk_e,dp_e,upd_e,repl_e,natI_n,br_pos,br_neg,addI_n,fitN_T,sortI_e k hl,h1,h2]
def beltB (l:List Item):List (Int×Unit):=l.map fun y=>(y.1,())
theorem beltB_s {l:List Item} {i:Nat} (h:i<l.length):beltB (l.take (i+1))=beltB (l.take i)++[((rdP (0,0,0,()) l i).1,())]:=by
 rw [take_s (d:=(0,0,0,())) h,beltB,List.map_append];rfl
def HallI (x:HallT):Prop:=(0≤x.1∧x.1≤100000)∧PolicyP x.2.1∧((60≤x.2.2.1∧x.2.2.1≤2000)∧1≤x.2.2.2.1∧x.2.2.2.1≤40)∧BeltP (x.2.2.2.2.1,x.2.2.2.2.2.1,x.2.2.2.2.2.2.1,x.2.2.2.2.2.2.2.1,())∧LoopP (x.2.2.2.2.2.2.2.2.1,x.2.2.2.2.2.2.2.2.2.1,x.2.2.2.2.2.2.2.2.2.2.1,x.2.2.2.2.2.2.2.2.2.2.2.1,())∧StoreP (x.2.2.2.2.2.2.2.2.2.2.2.2.1,x.2.2.2.2.2.2.2.2.2.2.2.2.2.1,())∧NotesP x.2.2.2.2.2.2.2.2.2.2.2.2.2.2.1∧
 (x.2.2.2.2.2.2.2.2.2.2.2.2.2.2.2.1.length≤20∧∀f∈x.2.2.2.2.2.2.2.2.2.2.2.2.2.2.2.1,FlightP x.2.2.2.2.2.2.2.2.2.2.1.length f)∧x.2.2.2.2.2.2.2.2.2.2.2.2.2.2.2.2.1.length≤60∧(∀i,i<x.2.2.2.2.2.2.2.2.2.2.2.2.2.2.2.2.1.length→IsCaseP x (rdP (0,0,0,0,0,0,0,0,0,0,()) x.2.2.2.2.2.2.2.2.2.2.2.2.2.2.2.2.1 i)∧∀j,j<i→¬((rdP (0,0,0,0,0,0,0,0,0,0,()) x.2.2.2.2.2.2.2.2.2.2.2.2.2.2.2.2.1 j).1=(rdP (0,0,0,0,0,0,0,0,0,0,()) x.2.2.2.2.2.2.2.2.2.2.2.2.2.2.2.2.1 i).1∧(rdP (0,0,0,0,0,0,0,0,0,0,()) x.2.2.2.2.2.2.2.2.2.2.2.2.2.2.2.2.1 j).2.1=(rdP (0,0,0,0,0,0,0,0,0,0,()) x.2.2.2.2.2.2.2.2.2.2.2.2.2.2.2.2.1 i).2.1∧(rdP (0,0,0,0,0,0,0,0,0,0,()) x.2.2.2.2.2.2.2.2.2.2.2.2.2.2.2.2.1 j).2.2.1=(rdP (0,0,0,0,0,0,0,0,0,0,()) x.2.2.2.2.2.2.2.2.2.2.2.2.2.2.2.2.1 i).2.2.1))∧
 sortL (beltB x.2.2.2.2.2.2.2.1)=atR x.2.2.2.2.2.2.2.2.2.2.2.2.2.2.2.2.1 1 x.2.2.2.2.2.2.2.2.2.2.2.2.2.2.2.2.1.length∧sortL (nz x.2.2.2.2.2.2.2.2.1)=atR x.2.2.2.2.2.2.2.2.2.2.2.2.2.2.2.2.1 3 x.2.2.2.2.2.2.2.2.2.2.2.2.2.2.2.2.1.length∧sortL (inCh x.2.2.2.2.2.2.2.2.2.2.1)=atR x.2.2.2.2.2.2.2.2.2.2.2.2.2.2.2.2.1 4 x.2.2.2.2.2.2.2.2.2.2.2.2.2.2.2.2.1.length∧sortL (bagsS x.2.2.2.2.2.2.2.2.2.2.2.2.2.1)=atR x.2.2.2.2.2.2.2.2.2.2.2.2.2.2.2.2.1 5 x.2.2.2.2.2.2.2.2.2.2.2.2.2.2.2.2.1.length
structure SzT (x:HallT):Prop extends SzH x where
 allBags:(nz x.2.2.2.2.2.2.2.2.1).length+(inCh x.2.2.2.2.2.2.2.2.2.2.1).length≤1048576
 allKept:(bagsS x.2.2.2.2.2.2.2.2.2.2.2.2.2.1).length≤1048576
theorem impl_HallOk_f {k:Nat} (hk:K0≤k) (x:HallT) (hs:SzT x):impl_HallOk.f k x=chkP (HallI x):=by
 have hk':=hk
 unfold K0 at hk
 have hfl:=hs.flights
 have hca:=hs.cases_
 have hit:=hs.items
 have htr:=hs.trays
 have hch:=hs.chutes
 have hla:=hs.lanes
 have hab:=hs.allBags
 have hak:=hs.allKept
 have hchl:(inCh x.2.2.2.2.2.2.2.2.2.2.1).length≤1048576:=by omega
 have hnz:(nz x.2.2.2.2.2.2.2.2.1).length≤1048576:=by omega
 have hbel:(beltB x.2.2.2.2.2.2.2.1).length≤1048576:=by simpa [beltB]using hit
 unfold impl_HallOk.f
 have hLo:=impl_LoopOk_f hk' (x.2.2.2.2.2.2.2.2.1,x.2.2.2.2.2.2.2.2.2.1,x.2.2.2.2.2.2.2.2.2.2.1,x.2.2.2.2.2.2.2.2.2.2.2.1,()) htr hch hchl hs.told (by unfold bagsL;rw [List.length_append];exact hab)
 have hSt:=impl_StoreOk_f hk' (x.2.2.2.2.2.2.2.2.2.2.2.2.1,x.2.2.2.2.2.2.2.2.2.2.2.2.2.1,()) hak
 have hNo:=impl_NotesOk_f hk' x.2.2.2.2.2.2.2.2.2.2.2.2.2.2.1 hs.notes
 have hFl:=impl_areFlights_f hk' x
 have hCl:=slices_Clone_int_int_f k htr
 have hA1:=impl_areBags_f hk' x 1 (beltB x.2.2.2.2.2.2.2.1) hca hbel
 have hA3:=impl_areBags_f hk' x 3 (nz x.2.2.2.2.2.2.2.2.1) hca hnz
 have hA4:=impl_areBags_f hk' x 4 (inCh x.2.2.2.2.2.2.2.2.2.2.1) hca hchl
 have hA5:=impl_areBags_f hk' x 5 (bagsS x.2.2.2.2.2.2.2.2.2.2.2.2.2.1) hca hak
 have hBi:=impl_bagsIn_f hk' (x.2.2.2.2.2.2.2.2.2.2.2.2.1,x.2.2.2.2.2.2.2.2.2.2.2.2.2.1,()) hla hak
 simp (disch:=omega) only [lett_e,bnd_s,bnd_chk,br_not,br_t,br_f,br_T,br_F,not_true_eq_false,not_false_eq_true,chk_T,chk_F,chk_eq,eqI_dc,ltI_dc,leI_dc,eqN_dc,notB_dc,andB_dc,andB_t,eqB_dc,notB_t,notB_f,inR_dc,upR_dc,ln_e,app_e,tk_e,dp_e,upd_e,repl_e,natI_n,br_pos,br_neg,addI_n,fitN_T,impl_isTick_f,impl_PolicyOk_f hk' (x.2.1,()),impl_LimitsOk_f,impl_BeltOk_f hk',hLo,hSt,hNo,hFl,hCl]
 by_cases hc60:x.2.2.2.2.2.2.2.2.2.2.2.2.2.2.2.2.1.length≤60
 case neg=>
  simp (disch:=omega) only [lett_e,bnd_s,bnd_chk,br_not,br_t,br_f,br_T,br_F,not_true_eq_false,not_false_eq_true,chk_T,chk_F,chk_eq,eqI_dc,ltI_dc,leI_dc,eqN_dc,notB_dc,andB_dc,andB_t,eqB_dc,notB_t,notB_f,inR_dc,upR_dc,ln_e,app_e,tk_e,dp_e,upd_e,repl_e,natI_n,br_pos,br_neg,addI_n,fitN_T,br_chkF']
  exact chk_congr ⟨fun z=>z.2.2.2.2.2.2.2.2.elim,fun z=>absurd z.2.2.2.2.2.2.2.2.1 hc60⟩
 simp (disch:=omega) only [lett_e,bnd_s,bnd_chk,br_not,br_t,br_f,br_T,br_F,not_true_eq_false,not_false_eq_true,chk_T,chk_F,chk_eq,eqI_dc,ltI_dc,leI_dc,eqN_dc,notB_dc,andB_dc,andB_t,eqB_dc,notB_t,notB_f,inR_dc,upR_dc,ln_e,app_e,tk_e,dp_e,upd_e,repl_e,natI_n,br_pos,br_neg,addI_n,fitN_T]
 rw [loop_while (n:=x.2.2.2.2.2.2.2.2.2.2.2.2.2.2.2.2.1.length) (r:=chkP False) (e:=chkP (sortL (beltB x.2.2.2.2.2.2.2.1)=atR x.2.2.2.2.2.2.2.2.2.2.2.2.2.2.2.2.1 1 x.2.2.2.2.2.2.2.2.2.2.2.2.2.2.2.2.1.length∧sortL (nz x.2.2.2.2.2.2.2.2.1)=atR x.2.2.2.2.2.2.2.2.2.2.2.2.2.2.2.2.1 3 x.2.2.2.2.2.2.2.2.2.2.2.2.2.2.2.2.1.length∧sortL (inCh x.2.2.2.2.2.2.2.2.2.2.1)=atR x.2.2.2.2.2.2.2.2.2.2.2.2.2.2.2.2.1 4 x.2.2.2.2.2.2.2.2.2.2.2.2.2.2.2.2.1.length∧sortL (bagsS x.2.2.2.2.2.2.2.2.2.2.2.2.2.1)=atR x.2.2.2.2.2.2.2.2.2.2.2.2.2.2.2.2.1 5 x.2.2.2.2.2.2.2.2.2.2.2.2.2.2.2.2.1.length)) (fun i=>((i:Int),())) (fun i=>IsCaseP x (rdP (0,0,0,0,0,0,0,0,0,0,()) x.2.2.2.2.2.2.2.2.2.2.2.2.2.2.2.2.1 i)∧∀j,j<i→¬((rdP (0,0,0,0,0,0,0,0,0,0,()) x.2.2.2.2.2.2.2.2.2.2.2.2.2.2.2.2.1 j).1=(rdP (0,0,0,0,0,0,0,0,0,0,()) x.2.2.2.2.2.2.2.2.2.2.2.2.2.2.2.2.1 i).1∧(rdP (0,0,0,0,0,0,0,0,0,0,()) x.2.2.2.2.2.2.2.2.2.2.2.2.2.2.2.2.1 j).2.1=(rdP (0,0,0,0,0,0,0,0,0,0,()) x.2.2.2.2.2.2.2.2.2.2.2.2.2.2.2.2.1 i).2.1∧(rdP (0,0,0,0,0,0,0,0,0,0,()) x.2.2.2.2.2.2.2.2.2.2.2.2.2.2.2.2.1 j).2.2.1=(rdP (0,0,0,0,0,0,0,0,0,0,()) x.2.2.2.2.2.2.2.2.2.2.2.2.2.2.2.2.1 i).2.2.1)) ?h0 ?hs0 ?he0 ?hk0]
 case h0=>simp
 case hk0=>omega
 case hs0=>
  intro i hi _ rec
  have h1:=impl_isCase_f k x (rdP (0,0,0,0,0,0,0,0,0,0,()) x.2.2.2.2.2.2.2.2.2.2.2.2.2.2.2.2.1 i) hfl
  have h2:=impl_hasTag_f hk' (x.2.2.2.2.2.2.2.2.2.2.2.2.2.2.2.2.1.take i) ((rdP (0,0,0,0,0,0,0,0,0,0,()) x.2.2.2.2.2.2.2.2.2.2.2.2.2.2.2.2.1 i).1,(rdP (0,0,0,0,0,0,0,0,0,0,()) x.2.2.2.2.2.2.2.2.2.2.2.2.2.2.2.2.1 i).2.1,(rdP (0,0,0,0,0,0,0,0,0,0,()) x.2.2.2.2.2.2.2.2.2.2.2.2.2.2.2.2.1 i).2.2.1,()) (by rw [List.length_take];omega)
  simp (disch:=omega) only [lett_e,bnd_s,bnd_chk,br_not,br_t,br_f,br_T,br_F,not_true_eq_false,not_false_eq_true,chk_T,chk_F,chk_eq,eqI_dc,ltI_dc,leI_dc,eqN_dc,notB_dc,andB_dc,andB_t,eqB_dc,notB_t,notB_f,inR_dc,upR_dc,ln_e,app_e,tk_e,dp_e,upd_e,repl_e,natI_n,br_pos,br_neg,addI_n,fitN_T,h1,h2]
  rw [mem_take_rd (d:=(0,0,0,0,0,0,0,0,0,0,())) (by omega)]
  simp only [g1,g2]
  exact br_iff' (by grind) (fun _=>rfl)
 case he0=>
  intro _ rec
  simp (disch:=omega) only [lett_e,bnd_s,bnd_chk,br_not,br_t,br_f,br_T,br_F,not_true_eq_false,not_false_eq_true,chk_T,chk_F,chk_eq,eqI_dc,ltI_dc,leI_dc,eqN_dc,notB_dc,andB_dc,andB_t,eqB_dc,notB_t,notB_f,inR_dc,upR_dc,ln_e,app_e,tk_e,dp_e,upd_e,repl_e,natI_n,br_pos,br_neg,addI_n,fitN_T]
  rw [loop_run (n:=x.2.2.2.2.2.2.2.1.length) (r:=chkP (sortL (beltB x.2.2.2.2.2.2.2.1)=atR x.2.2.2.2.2.2.2.2.2.2.2.2.2.2.2.2.1 1 x.2.2.2.2.2.2.2.2.2.2.2.2.2.2.2.2.1.length∧sortL (nz x.2.2.2.2.2.2.2.2.1)=atR x.2.2.2.2.2.2.2.2.2.2.2.2.2.2.2.2.1 3 x.2.2.2.2.2.2.2.2.2.2.2.2.2.2.2.2.1.length∧sortL (inCh x.2.2.2.2.2.2.2.2.2.2.1)=atR x.2.2.2.2.2.2.2.2.2.2.2.2.2.2.2.2.1 4 x.2.2.2.2.2.2.2.2.2.2.2.2.2.2.2.2.1.length∧sortL (bagsS x.2.2.2.2.2.2.2.2.2.2.2.2.2.1)=atR x.2.2.2.2.2.2.2.2.2.2.2.2.2.2.2.2.1 5 x.2.2.2.2.2.2.2.2.2.2.2.2.2.2.2.2.1.length)) (fun i=>(beltB (x.2.2.2.2.2.2.2.1.take i),(i:Int),())) ?h1 ?hs1 ?he1 ?hk1]
  case h1=>simp [beltB]
  case hk1=>omega
  case hs1=>
   intro i hi rec
   have hf:=fitL_T (l:=beltB (x.2.2.2.2.2.2.2.1.take i)) (m:=[((rdP (0,0,0,()) x.2.2.2.2.2.2.2.1 i).1,())]) (by simp [beltB];omega)
   simp (disch:=omega) only [lett_e,bnd_s,bnd_chk,br_not,br_t,br_f,br_T,br_F,not_true_eq_false,not_false_eq_true,chk_T,chk_F,chk_eq,eqI_dc,ltI_dc,leI_dc,eqN_dc,notB_dc,andB_dc,andB_t,eqB_dc,notB_t,notB_f,inR_dc,upR_dc,ln_e,app_e,tk_e,dp_e,upd_e,repl_e,natI_n,br_pos,br_neg,addI_n,fitN_T,hf]
   rw [beltB_s hi]
   rfl
  case he1=>
   intro rec
   simp (disch:=omega) only [lett_e,bnd_s,bnd_chk,br_not,br_t,br_f,br_T,br_F,not_true_eq_false,not_false_eq_true,chk_T,chk_F,chk_eq,eqI_dc,ltI_dc,leI_dc,eqN_dc,notB_dc,andB_dc,andB_t,eqB_dc,notB_t,notB_f,inR_dc,upR_dc,ln_e,app_e,tk_e,dp_e,upd_e,repl_e,natI_n,br_pos,br_neg,addI_n,fitN_T,List.take_length]
   rw [loop_run (n:=x.2.2.2.2.2.2.2.2.2.2.1.length) (r:=chkP (sortL (beltB x.2.2.2.2.2.2.2.1)=atR x.2.2.2.2.2.2.2.2.2.2.2.2.2.2.2.2.1 1 x.2.2.2.2.2.2.2.2.2.2.2.2.2.2.2.2.1.length∧sortL (nz x.2.2.2.2.2.2.2.2.1)=atR x.2.2.2.2.2.2.2.2.2.2.2.2.2.2.2.2.1 3 x.2.2.2.2.2.2.2.2.2.2.2.2.2.2.2.2.1.length∧sortL (inCh x.2.2.2.2.2.2.2.2.2.2.1)=atR x.2.2.2.2.2.2.2.2.2.2.2.2.2.2.2.2.1 4 x.2.2.2.2.2.2.2.2.2.2.2.2.2.2.2.2.1.length∧sortL (bagsS x.2.2.2.2.2.2.2.2.2.2.2.2.2.1)=atR x.2.2.2.2.2.2.2.2.2.2.2.2.2.2.2.2.1 5 x.2.2.2.2.2.2.2.2.2.2.2.2.2.2.2.2.1.length)) (fun i=>(inCh (x.2.2.2.2.2.2.2.2.2.2.1.take i),(i:Int),())) ?h2 ?hs2 ?he2 ?hk2]
   case h2=>simp [inCh]
   case hk2=>omega
   case hs2=>
    intro i hi rec
    have h1:=inCh_take (l:=x.2.2.2.2.2.2.2.2.2.2.1) (i:=i+1)
    rw [inCh_s hi,List.length_append]at h1
    have hf:=fitL_T (l:=inCh (x.2.2.2.2.2.2.2.2.2.2.1.take i)) (m:=(rdP (0,0,[],()) x.2.2.2.2.2.2.2.2.2.2.1 i).2.2.1) (by omega)
    simp (disch:=omega) only [lett_e,bnd_s,bnd_chk,br_not,br_t,br_f,br_T,br_F,not_true_eq_false,not_false_eq_true,chk_T,chk_F,chk_eq,eqI_dc,ltI_dc,leI_dc,eqN_dc,notB_dc,andB_dc,andB_t,eqB_dc,notB_t,notB_f,inR_dc,upR_dc,ln_e,app_e,tk_e,dp_e,upd_e,repl_e,natI_n,br_pos,br_neg,addI_n,fitN_T,hf]
    rw [inCh_s hi]
    rfl
   case he2=>
    intro rec
    simp (disch:=omega) only [lett_e,bnd_s,bnd_chk,br_not,br_t,br_f,br_T,br_F,not_true_eq_false,not_false_eq_true,chk_T,chk_F,chk_eq,eqI_dc,ltI_dc,leI_dc,eqN_dc,notB_dc,andB_dc,andB_t,eqB_dc,notB_t,notB_f,inR_dc,upR_dc,ln_e,app_e,tk_e,dp_e,upd_e,repl_e,natI_n,br_pos,br_neg,addI_n,fitN_T,List.take_length]
    refine del_nz (F2:= ?F2) hk' x.2.2.2.2.2.2.2.2.1 htr (fun c=>chkP (sortL (beltB x.2.2.2.2.2.2.2.1)=atR x.2.2.2.2.2.2.2.2.2.2.2.2.2.2.2.2.1 1 x.2.2.2.2.2.2.2.2.2.2.2.2.2.2.2.2.1.length∧sortL c=atR x.2.2.2.2.2.2.2.2.2.2.2.2.2.2.2.2.1 3 x.2.2.2.2.2.2.2.2.2.2.2.2.2.2.2.2.1.length∧sortL (inCh x.2.2.2.2.2.2.2.2.2.2.1)=atR x.2.2.2.2.2.2.2.2.2.2.2.2.2.2.2.2.1 4 x.2.2.2.2.2.2.2.2.2.2.2.2.2.2.2.2.1.length∧sortL (bagsS x.2.2.2.2.2.2.2.2.2.2.2.2.2.1)=atR x.2.2.2.2.2.2.2.2.2.2.2.2.2.2.2.2.1 5 x.2.2.2.2.2.2.2.2.2.2.2.2.2.2.2.2.1.length)) ?f1 ?e1 ?f2 ?e2
    case f1=>intro i rec hi;simp (disch:=omega) only [lett_e,bnd_s,bnd_chk,br_not,br_t,br_f,br_T,br_F,not_true_eq_false,not_false_eq_true,chk_T,chk_F,chk_eq,eqI_dc,ltI_dc,leI_dc,eqN_dc,notB_dc,andB_dc,andB_t,eqB_dc,notB_t,notB_f,inR_dc,upR_dc,ln_e,app_e,tk_e,dp_e,upd_e,repl_e,natI_n,br_pos,br_neg,addI_n,fitN_T];rfl
    case e1=>
     intro rec
     have h3:=impl_areBags_f hk' x 3 x.2.2.2.2.2.2.2.2.1 hca htr
     simp (disch:=omega) only [lett_e,bnd_s,bnd_chk,br_not,br_t,br_f,br_T,br_F,not_true_eq_false,not_false_eq_true,chk_T,chk_F,chk_eq,eqI_dc,ltI_dc,leI_dc,eqN_dc,notB_dc,andB_dc,andB_t,eqB_dc,notB_t,notB_f,inR_dc,upR_dc,ln_e,app_e,tk_e,dp_e,upd_e,repl_e,natI_n,br_pos,br_neg,addI_n,fitN_T,hA1,h3,hA4,hBi,hA5,br_chkF']
    case f2=>
     intro c i j rec hc hij hj
     by_cases hz:(rdP (0,()) c j).1=0
     ·simp (disch:=omega) only [lett_e,bnd_s,bnd_chk,br_not,br_t,br_f,br_T,br_F,not_true_eq_false,not_false_eq_true,chk_T,chk_F,chk_eq,eqI_dc,ltI_dc,leI_dc,eqN_dc,notB_dc,andB_dc,andB_t,eqB_dc,notB_t,notB_f,inR_dc,upR_dc,ln_e,app_e,tk_e,dp_e,upd_e,repl_e,natI_n,br_pos,br_neg,addI_n,fitN_T];rfl
     ·simp (disch:=omega) only [lett_e,bnd_s,bnd_chk,br_not,br_t,br_f,br_T,br_F,not_true_eq_false,not_false_eq_true,chk_T,chk_F,chk_eq,eqI_dc,ltI_dc,leI_dc,eqN_dc,notB_dc,andB_dc,andB_t,eqB_dc,notB_t,notB_f,inR_dc,upR_dc,ln_e,app_e,tk_e,dp_e,upd_e,repl_e,natI_n,br_pos,br_neg,addI_n,fitN_T];rfl
    case e2=>
     intro c i rec hc hi
     have hd2:(c.take i++List.replicate (c.drop i).length ((0:Int),())).length=c.length:=by simp;omega
     have h3:=impl_areBags_f hk' x 3 (c.take i) hca (by rw [List.length_take];omega)
     simp (disch:=omega) only [lett_e,bnd_s,bnd_chk,br_not,br_t,br_f,br_T,br_F,not_true_eq_false,not_false_eq_true,chk_T,chk_F,chk_eq,eqI_dc,ltI_dc,leI_dc,eqN_dc,notB_dc,andB_dc,andB_t,eqB_dc,notB_t,notB_f,inR_dc,upR_dc,ln_e,app_e,tk_e,dp_e,upd_e,repl_e,natI_n,br_pos,br_neg,addI_n,fitN_T,hd2]
     rw [List.take_left' (by rw [List.length_take];omega)]
     simp (disch:=omega) only [lett_e,bnd_s,bnd_chk,br_not,br_t,br_f,br_T,br_F,not_true_eq_false,not_false_eq_true,chk_T,chk_F,chk_eq,eqI_dc,ltI_dc,leI_dc,eqN_dc,notB_dc,andB_dc,andB_t,eqB_dc,notB_t,notB_f,inR_dc,upR_dc,ln_e,app_e,tk_e,dp_e,upd_e,repl_e,natI_n,br_pos,br_neg,addI_n,fitN_T,hA1,h3,hA4,hBi,hA5,br_chkF']
 simp (disch:=omega) only [lett_e,bnd_s,bnd_chk,br_not,br_t,br_f,br_T,br_F,not_true_eq_false,not_false_eq_true,chk_T,chk_F,chk_eq,eqI_dc,ltI_dc,leI_dc,eqN_dc,notB_dc,andB_dc,andB_t,eqB_dc,notB_t,notB_f,inR_dc,upR_dc,ln_e,app_e,tk_e,dp_e,upd_e,repl_e,natI_n,br_pos,br_neg,addI_n,fitN_T,br_chkF']
 exact chk_congr (by unfold HallI;grind)
end Go.Proofs.YtpmjopbgccajgaaGreat.Eng
namespace Go.Proofs.YtpmjopbgccajgaaGreat.Eng
theorem mem_atR {l:List CaseT} {p:Int} {n:Nat} {b:Int×Unit}:b∈atR l p n↔∃i,i<n∧(rdP (0,0,0,0,0,0,0,0,0,0,()) l i).2.2.2.2.2.2.1=p∧b=((i:Int)+1,()):=by
 unfold atR
 simp only [List.mem_map,List.mem_filter,List.mem_range,decide_eq_true_eq]
 exact⟨fun ⟨i,⟨h1,h2⟩,h3⟩=>⟨i,h1,h2,h3.symm⟩,fun ⟨i,h1,h2,h3⟩=>⟨i,⟨h1,h2⟩,h3.symm⟩⟩
theorem atR_asc (l:List CaseT) (p:Int) (n:Nat):(atR l p n).Pairwise (fun a b=>a.1<b.1):=by
 unfold atR
 rw [List.pairwise_map]
 exact(List.Pairwise.filter _ List.pairwise_lt_range).imp (fun h=>by simp only;omega)
theorem sort_at {l:List (Int×Unit)} {cs:List CaseT} {p:Int} (hn:l.Nodup) (h1:∀b∈l,1≤b.1):sortL l=atR cs p cs.length↔(∀b∈l,b.1≤cs.length)∧∀i,i<cs.length→((((i:Int)+1,())∈l)↔(rdP (0,0,0,0,0,0,0,0,0,0,()) cs i).2.2.2.2.2.2.1=p):=by
 constructor
 ·intro h
  have hm:∀b,b∈l↔∃i,i<cs.length∧(rdP (0,0,0,0,0,0,0,0,0,0,()) cs i).2.2.2.2.2.2.1=p∧b=((i:Int)+1,()):=fun b=>by
   rw [←mem_atR,←h,(sortL_perm l).mem_iff]
  refine⟨fun b hb=> ?_,fun i hi=> ?_⟩
  ·obtain⟨i,hi,_,e⟩:=(hm b).1 hb
   rw [e];simp only;omega
  ·rw [hm]
   constructor
   ·rintro ⟨j,hj,hp,e⟩
    have:i=j:=by have:=congrArg Prod.fst e;simp only at this;omega
    rw [this];exact hp
   ·intro hp;exact⟨i,hi,hp,rfl⟩
 ·rintro ⟨h2,h3⟩
  have hs:=sortL_sorted l
  have ha:=atR_asc cs p cs.length
  have hp:(sortL l).Perm (atR cs p cs.length):=by
   rw [List.perm_ext_iff_of_nodup ((sortL_perm l).nodup_iff.2 hn) (ha.imp (fun h e=>by rw [e]at h;omega))]
   intro b
   rw [(sortL_perm l).mem_iff,mem_atR]
   constructor
   ·intro hb
    have:=h1 b hb
    have:=h2 b hb
    have e:b=(((b.1-1).toNat:Int)+1,()):=by
     obtain⟨b,u⟩:=b
     simp only at*
     congr 1;omega
    refine⟨(b.1-1).toNat,by omega,?_,e⟩
    rw [←h3 _ (by omega),←e];exact hb
   ·rintro ⟨i,hi,hp,e⟩
    rw [e,h3 i hi];exact hp
  refine hp.eq_of_pairwise (le:=fun a b=>a.1≤b.1) (fun a b _ _ h1 h2=> ?_) hs (ha.imp (fun h=>by omega))
  obtain⟨a,_⟩:=a
  obtain⟨b,_⟩:=b
  simp only at h1 h2
  congr 1;omega
theorem case_same {x:HallT} {e:CaseT}:IsCaseP x e↔TagP (e.1,e.2.1,e.2.2.1,())∧(1≤e.2.2.2.1∧e.2.2.2.1≤x.2.2.2.2.2.2.2.2.2.2.2.2.2.2.2.1.length)∧(1≤e.2.2.2.2.1∧e.2.2.2.2.1≤60)∧(0≤e.2.2.2.2.2.1∧e.2.2.2.2.2.1≤5)∧(1≤e.2.2.2.2.2.2.1∧e.2.2.2.2.2.2.1≤7)∧
 (if e.2.2.2.2.2.2.1=1 then e.2.2.2.2.2.2.2.1=0∧e.2.2.2.2.2.2.2.2.1=0∧e.2.2.2.2.2.2.2.2.2.1=0 else ScreenP (e.2.2.2.2.2.2.2.1,e.2.2.2.2.2.2.2.2.1,e.2.2.2.2.2.2.2.2.2.1,())∧e.2.2.2.2.2.2.2.2.1≤x.1)∧
 (e.2.2.2.2.2.2.2.2.2.1≠1→e.2.2.2.2.2.2.1≠3∧e.2.2.2.2.2.2.1≠4∧e.2.2.2.2.2.2.1≠5∧e.2.2.2.2.2.2.1≠6)∧¬(e.2.2.2.2.2.2.1=2∧e.2.2.2.2.2.2.2.2.2.1=2)∧(e.2.2.2.2.2.2.1=6→(rdP (0,0,0,false,0,()) x.2.2.2.2.2.2.2.2.2.2.2.2.2.2.2.1 (natI (e.2.2.2.1-1))).2.2.2.1=true):=by
 unfold IsCaseP
 generalize (rdP (0,0,0,false,0,()) x.2.2.2.2.2.2.2.2.2.2.2.2.2.2.2.1 (natI (e.2.2.2.1-1))).2.2.2.1=pF
 generalize TagP (e.1,e.2.1,e.2.2.1,())=pG
 generalize ScreenP (e.2.2.2.2.2.2.2.1,e.2.2.2.2.2.2.2.2.1,e.2.2.2.2.2.2.2.2.2.1,())=pH
 generalize e.2.2.2.2.2.2.1=p
 generalize e.2.2.2.2.2.2.2.2.2.1=v
 by_cases h1:p=1
 ·subst h1;simp
 by_cases h2:p=2
 ·subst h2;simp
 by_cases h3:p=3
 ·subst h3;simp
 by_cases h4:p=4
 ·subst h4;simp
 by_cases h5:p=5
 ·subst h5;simp
 by_cases h6:p=6
 ·subst h6;simp
 simp [h1,h2,h3,h4,h5,h6];grind
theorem hall_same (x:HallT):HallI x↔HallP x:=by
 unfold HallI HallP
 refine and_congr_right fun _=>and_congr_right fun _=>and_congr_right fun _=>and_congr_right fun hB=>and_congr_right fun hL=>and_congr_right fun hS=>and_congr_right fun _=> ?_
 have b1:(beltB x.2.2.2.2.2.2.2.1).Nodup:=by
  unfold beltB
  rw [nodup_rd (d:=(0,0,0,()))]
  intro i hi j hj e
  exact(hB.2.2.2 i hi).2.2.2.1 j hj (Prod.mk.injEq _ _ _ _▸e:_∧_).1
 have b2:∀b∈beltB x.2.2.2.2.2.2.2.1,1≤b.1:=by
  intro b hb
  obtain⟨y,hy,e⟩:=List.mem_map.1 hb
  obtain⟨i,hi,e2⟩:=List.getElem_of_mem hy
  have:=(hB.2.2.2 i hi).1
  rw [rd_lt hi,e2]at this
  rw [←e];exact this
 have hnd:(nz x.2.2.2.2.2.2.2.2.1++inCh x.2.2.2.2.2.2.2.2.2.2.1).Nodup:=hL.2.2.2.2.2.2.2.1
 have hge:∀b∈nz x.2.2.2.2.2.2.2.2.1++inCh x.2.2.2.2.2.2.2.2.2.2.1,1≤b.1:=hL.2.2.2.2.2.2.1
 have k1:(bagsS x.2.2.2.2.2.2.2.2.2.2.2.2.2.1).Nodup:=hS.2.2.2
 have k2:∀b∈bagsS x.2.2.2.2.2.2.2.2.2.2.2.2.2.1,1≤b.1:=by
  intro b hb
  obtain⟨l,hl,h⟩:=List.mem_flatMap.1 hb
  obtain⟨y,hy,e⟩:=List.mem_map.1 h
  have:=((hS.2.2.1 l hl).2 y hy).1
  rw [←e];exact this
 obtain⟨t1,t2,_⟩:=List.nodup_append.1 hnd
 rw [sort_at b1 b2,sort_at t1 (fun b hb=>hge b (List.mem_append_left _ hb)),sort_at t2 (fun b hb=>hge b (List.mem_append_right _ hb)),sort_at k1 k2]
 have m1:∀a:Int,((a,())∈beltB x.2.2.2.2.2.2.2.1)↔∃y,y∈x.2.2.2.2.2.2.2.1∧y.1=a:=fun a=>by
  unfold beltB
  rw [List.mem_map]
  exact⟨fun ⟨y,h1,h2⟩=>⟨y,h1,(Prod.mk.injEq _ _ _ _▸h2:_∧_).1⟩,fun ⟨y,h1,h2⟩=>⟨y,h1,by rw [h2]⟩⟩
 have m3:∀i:Nat,((((i:Int)+1,())∈nz x.2.2.2.2.2.2.2.2.1))↔((i:Int)+1,())∈x.2.2.2.2.2.2.2.2.1:=fun i=>by
  unfold nz
  rw [List.mem_filter]
  exact⟨fun h=>h.1,fun h=>⟨h,by simp only [decide_eq_true_eq];omega⟩⟩
 have m4:∀a:Int,((a,())∈inCh x.2.2.2.2.2.2.2.2.2.2.1)↔∃c,c∈x.2.2.2.2.2.2.2.2.2.2.1∧(a,())∈c.2.2.1:=fun a=>by
  unfold inCh
  rw [List.mem_flatMap]
 have m5:∀a:Int,((a,())∈bagsS x.2.2.2.2.2.2.2.2.2.2.2.2.2.1)↔∃l,l∈x.2.2.2.2.2.2.2.2.2.2.2.2.2.1∧∃y,y∈l.1∧y.1=a:=fun a=>by
  unfold bagsS
  rw [List.mem_flatMap]
  refine exists_congr fun l=>and_congr_right fun _=> ?_
  unfold bagsK
  rw [List.mem_map]
  exact⟨fun ⟨y,h1,h2⟩=>⟨y,h1,(Prod.mk.injEq _ _ _ _▸h2:_∧_).1⟩,fun ⟨y,h1,h2⟩=>⟨y,h1,by rw [h2]⟩⟩
 have n1:(∀b∈beltB x.2.2.2.2.2.2.2.1,b.1≤x.2.2.2.2.2.2.2.2.2.2.2.2.2.2.2.2.1.length)↔∀y∈x.2.2.2.2.2.2.2.1,y.1≤x.2.2.2.2.2.2.2.2.2.2.2.2.2.2.2.2.1.length:=by
  unfold beltB
  rw [List.forall_mem_map]
 have n3:(∀b∈nz x.2.2.2.2.2.2.2.2.1,b.1≤x.2.2.2.2.2.2.2.2.2.2.2.2.2.2.2.2.1.length)↔∀y∈x.2.2.2.2.2.2.2.2.1,y.1≤x.2.2.2.2.2.2.2.2.2.2.2.2.2.2.2.2.1.length:=by
  unfold nz
  refine⟨fun h y hy=> ?_,fun h y hy=>h y (List.mem_filter.1 hy).1⟩
  by_cases e:y.1=0
  ·rw [e];omega
  ·exact h y (List.mem_filter.2 ⟨hy,by simpa using e⟩)
 have n4:(∀b∈inCh x.2.2.2.2.2.2.2.2.2.2.1,b.1≤x.2.2.2.2.2.2.2.2.2.2.2.2.2.2.2.2.1.length)↔∀c∈x.2.2.2.2.2.2.2.2.2.2.1,∀y∈c.2.2.1,y.1≤x.2.2.2.2.2.2.2.2.2.2.2.2.2.2.2.2.1.length:=by
  unfold inCh
  exact⟨fun h c hc y hy=>h y (List.mem_flatMap.2 ⟨c,hc,hy⟩),fun h y hy=>let ⟨c,hc,hy⟩:=List.mem_flatMap.1 hy;h c hc y hy⟩
 have n5:(∀b∈bagsS x.2.2.2.2.2.2.2.2.2.2.2.2.2.1,b.1≤x.2.2.2.2.2.2.2.2.2.2.2.2.2.2.2.2.1.length)↔∀l∈x.2.2.2.2.2.2.2.2.2.2.2.2.2.1,∀y∈l.1,y.1≤x.2.2.2.2.2.2.2.2.2.2.2.2.2.2.2.2.1.length:=by
  unfold bagsS
  refine⟨fun h c hc y hy=>h (y.1,()) (List.mem_flatMap.2 ⟨c,hc,List.mem_map.2 ⟨y,hy,rfl⟩⟩),fun h y hy=> ?_⟩
  obtain⟨c,hc,hy⟩:=List.mem_flatMap.1 hy
  obtain⟨z,hz,e⟩:=List.mem_map.1 hy
  rw [←e];exact h c hc z hz
 rw [n1,n3,n4,n5]
 simp only [m1,m3,m4,m5,case_same,CaseP]
 constructor
 ·rintro ⟨⟨h1,h2⟩,h3,h4,⟨h5,h6⟩,⟨h7,h8⟩,⟨h9,h10⟩,h11,h12⟩
  refine⟨h1,h3,h2,fun i hi=> ?_,h5,h7,h9,h11⟩
  obtain⟨⟨c1,c2,c3,c4,c5,c6,c7,c8,c9⟩,c10⟩:=h4 i hi
  exact⟨c1,c2,c3,c4,c5,c10,c6,c7,c8,c9,h6 i hi,h8 i hi,h10 i hi,h12 i hi⟩
 ·rintro ⟨h1,h3,h2,h4,h5,h7,h9,h11⟩
  refine⟨⟨h1,h2⟩,h3,fun i hi=> ?_,⟨h5,fun i hi=>(h4 i hi).2.2.2.2.2.2.2.2.2.2.1⟩,⟨h7,fun i hi=>(h4 i hi).2.2.2.2.2.2.2.2.2.2.2.1⟩,⟨h9,fun i hi=>(h4 i hi).2.2.2.2.2.2.2.2.2.2.2.2.1⟩,⟨h11,fun i hi=>(h4 i hi).2.2.2.2.2.2.2.2.2.2.2.2.2⟩⟩
  obtain⟨c1,c2,c3,c4,c5,c10,c6,c7,c8,c9,_⟩:=h4 i hi
  exact⟨⟨c1,c2,c3,c4,c5,c6,c7,c8,c9⟩,c10⟩
end Go.Proofs.YtpmjopbgccajgaaGreat.Eng
