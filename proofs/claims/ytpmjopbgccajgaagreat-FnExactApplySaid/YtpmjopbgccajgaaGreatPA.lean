/- Pure laws: PBase, PSpec, PSpec2, PSpec3, PImpl, PImpl2, PImpl3, PImpl4, PSame. No condition. -/
import Derived.Test.YtpmjopbgccajgaaGreatEngA
import Derived.Test.YtpmjopbgccajgaaGreatD
set_option linter.unusedVariables false
set_option linter.unusedSimpArgs false
namespace Go.Proofs.YtpmjopbgccajgaaGreat.Eng
def K0:Nat:=4194304
noncomputable def dc (p:Prop):Bool:= @decide p (Classical.propDecidable p)
theorem qux {p:Prop}:dc p=true↔p:=by unfold dc;exact @decide_eq_true_iff p (Classical.propDecidable p)
theorem q0og {p:Prop}:dc p=false↔¬p:=by unfold dc;exact @decide_eq_false_iff_not p (Classical.propDecidable p)
theorem q0oh {p q:Prop} (h:p↔q):dc p=dc q:=by rw [propext h]
theorem dc_T {p:Prop} (h:p):dc p=true:=qux.2 h
theorem dc_F {p:Prop} (h:¬p):dc p=false:=q0og.2 h
theorem q0m6:dc True=true:=dc_T trivial
theorem q0oi:dc False=false:=dc_F id
theorem qvo (p:Prop) [Decidable p]:decide p=dc p:=by
 by_cases h:p
 ·rw [dc_T h,decide_eq_true h]
 ·rw [dc_F h,decide_eq_false h]
theorem quy (b:Bool):b=dc (b=true):=by cases b with|true=>rw [dc_T rfl]|false=>rw [dc_F (by simp)]
theorem q02 (x y:Int):eqI x y=dc (x=y):=qvo _
theorem qn (x y:Int):ltI x y=dc (x<y):=qvo _
theorem q13 (x y:Int):leI x y=dc (x≤y):=qvo _
theorem q4d (x y:Nat):eqN x y=dc (x=y):=qvo _
theorem q0o (p:Prop):qm (dc p)=dc (¬p):=by
 by_cases h:p
 ·rw [dc_T h,dc_F (fun k=>k h)];rfl
 ·rw [dc_F h,dc_T h];rfl
theorem q1c (p q:Prop):qnv (dc p) (dc q)=dc (p∧q):=by
 by_cases h:p
 ·by_cases k:q
  ·have e:dc (p∧q)=true:=dc_T ⟨h,k⟩
   rw [dc_T h,dc_T k,e];rfl
  ·have e:dc (p∧q)=false:=dc_F (fun z=>k z.2)
   rw [dc_F k,e];cases dc p<;>rfl
 ·have e:dc (p∧q)=false:=dc_F (fun z=>h z.1)
  rw [dc_F h,e];rfl
theorem q4e (b:Bool):qnv b true=b:=by cases b<;>rfl
theorem q4s (p q:Prop):eqB (dc p) (dc q)=dc (p↔q):=by
 by_cases h:p
 ·by_cases k:q
  ·have e:dc (p↔q)=true:=dc_T ⟨fun _=>k,fun _=>h⟩
   rw [dc_T h,dc_T k,e];rfl
  ·have e:dc (p↔q)=false:=dc_F (fun z=>k (z.1 h))
   rw [dc_T h,dc_F k,e];rfl
 ·by_cases k:q
  ·have e:dc (p↔q)=false:=dc_F (fun z=>h (z.2 k))
   rw [dc_F h,dc_T k,e];rfl
  ·have e:dc (p↔q)=true:=dc_T ⟨fun z=>absurd z h,fun z=>absurd z k⟩
   rw [dc_F h,dc_F k,e];rfl
theorem q2r:qm true=false:=rfl
theorem q2i:qm false=true:=rfl
theorem q0c (i n:Int):inR i n=dc (0≤i∧i<n):=by unfold inR;rw [qvo,qvo];exact q1c _ _
theorem q3p (i n:Int):upR i n=dc (0≤i∧i≤n):=by unfold upR;rw [qvo,qvo];exact q1c _ _
theorem qec {α:Type} (a b:Option α):br true a b=a:=rfl
theorem qi1 {α:Type} (a b:Option α):br false a b=b:=rfl
theorem q8 {α:Type} {p:Prop} (h:p) (a b:Option α):br (dc p) a b=a:=by rw [dc_T h];rfl
theorem qa {α:Type} {p:Prop} (h:¬p) (a b:Option α):br (dc p) a b=b:=by rw [dc_F h];rfl
theorem qqt {α:Type} (a b:Option α):br (dc True) a b=a:=q8 trivial a b
theorem qqu {α:Type} (a b:Option α):br (dc False) a b=b:=qa id a b
theorem q0mc {α:Type} (c:Bool) (a:Option α):br c a a=a:=by cases c<;>rfl
theorem qq {α:Type} (c:Bool) (a b:Option α):br (qm c) a b=br c b a:=by cases c<;>rfl
theorem q00 {α β:Type} (x:α) (f:α→Option β):bnd (some x) f=f x:=rfl
theorem qk {α β:Type} (x:α) (f:α→Option β):q9 x f=f x:=rfl
noncomputable def q0i (p:Prop):Option (Bool×Unit):=some (dc p,())
theorem q3n (p:Prop):some (dc p,())=q0i p:=rfl
theorem q78:some (true,())=q0i True:=by unfold q0i;rw [q0m6]
theorem q6m:some (false,())=q0i False:=by unfold q0i;rw [q0oi]
theorem qc {p q:Prop} (h:p↔q):q0i p=q0i q:=by rw [propext h]
theorem qq8 (p q r:Prop):br (dc p) (q0i q) (q0i r)=q0i ((p∧q)∨(¬p∧r)):=by
 by_cases h:p
 ·rw [q8 h];exact qc ⟨fun k=>Or.inl ⟨h,k⟩,fun k=>k.elim (fun z=>z.2) (fun z=>absurd h z.1)⟩
 ·rw [qa h];exact qc ⟨fun k=>Or.inr ⟨h,k⟩,fun k=>k.elim (fun z=>absurd z.1 h) (fun z=>z.2)⟩
theorem qma (p q:Prop):br (dc p) (q0i False) (q0i q)=q0i (¬p∧q):=by
 rw [qq8];exact qc ⟨fun h=>h.elim (fun z=>z.2.elim) id,Or.inr⟩
theorem q0g (p q:Prop):br (dc p) (q0i q) (q0i False)=q0i (p∧q):=by
 rw [qq8];exact qc ⟨fun h=>h.elim id (fun z=>z.2.elim),Or.inl⟩
theorem qkp (p q:Prop):br (dc p) (q0i True) (q0i q)=q0i (p∨q):=by
 rw [qq8]
 refine qc ⟨fun h=>h.elim (fun z=>Or.inl z.1) (fun z=>Or.inr z.2),fun h=> ?_⟩
 by_cases k:p
 ·exact Or.inl ⟨k,trivial⟩
 ·exact Or.inr ⟨k,h.elim (fun z=>absurd z k) id⟩
theorem qj {β:Type} (p:Prop) (f:Bool×Unit→Option β):bnd (q0i p) f=f (dc p,()):=rfl
theorem q09k {x:Int} (h: -9223372036854775808≤x∧x<9223372036854775808):IntKind.i64.wrap x=x:=by
 have e:IntKind.i64.wrap x=if x % 18446744073709551616≥9223372036854775808 then x % 18446744073709551616-18446744073709551616 else x % 18446744073709551616:=by
  unfold IntKind.wrap
  simp [IntKind.bits,IntKind.signed]
 rw [e]
 split<;>omega
theorem q0h {x y:Int} (h: -9223372036854775808≤x+y∧x+y<9223372036854775808):qg .i64 x y=x+y:=q09k h
theorem qi {x y:Int} (h: -9223372036854775808≤x-y∧x-y<9223372036854775808):qp .i64 x y=x-y:=q09k h
theorem q0n {i:Nat} (h:i<4611686018427387904):qg .i64 (i:Int) 1=((i+1:Nat):Int):=by rw [q0h (by omega)];rfl
theorem qfr {i:Nat} (h:i+1<4611686018427387904):qp .i64 ((i+1:Nat):Int) 1=(i:Int):=by rw [qi (by omega)];omega
theorem q04 (i:Nat):q6 (i:Int)=i:=rfl
theorem q31 {α:Type} (l:List α):ln l=(l.length:Int):=rfl
theorem q6o {α:Type} (l m:List α):app l m=l++m:=rfl
theorem qp3 {α:Type} (l:List α) (n:Nat):tk l n=l.take n:=rfl
theorem qq5 {α:Type} (l:List α) (n:Nat):dp l n=l.drop n:=rfl
theorem q6p {α:Type} (l:List α) (n:Nat) (x:α):upd l n x=l.set n x:=rfl
theorem q4b {α:Type} (n:Nat) (x:α):qmb n x=List.replicate n x:=rfl
theorem qmq {α:Type} {l m:List α} (h:l.length+m.length<68719476736):q4x l m=true:=by
 unfold q4x
 rw [show Nat.ble 68719476736 (l.length+m.length)=false from by
  cases e:Nat.ble 68719476736 (l.length+m.length)with
  |false=>rfl
  |true=>have:=Nat.le_of_ble_eq_true e;omega]
 rfl
theorem q2o {n:Nat} (h:n<68719476736):fitN (n:Int)=true:=by
 unfold fitN
 rw [show Nat.ble 68719476736 (Int.toNat (n:Int))=false from by
  cases e:Nat.ble 68719476736 (Int.toNat (n:Int))with
  |false=>rfl
  |true=>have:=Nat.le_of_ble_eq_true e;rw [Int.toNat_natCast]at this;omega]
 simp
theorem qo {α:Type} {d:α} {l:List α} {i:Nat} (h:i<l.length):rdP d l i=l[i]:=by
 unfold rdP;rw [List.getD_eq_getElem?_getD,List.getElem?_eq_getElem h];rfl
theorem q5i {α:Type} {d:α} {l:List α} {P:α→Prop}:(∀i,i<l.length→P (rdP d l i))↔∀x∈l,P x:=by
 constructor
 ·intro h x hx
  obtain⟨i,hi,e⟩:=List.getElem_of_mem hx
  have:=h i hi
  rw [qo hi,e]at this;exact this
 ·intro h i hi
  rw [qo hi];exact h _ (List.getElem_mem hi)
section
variable {σ R:Type} {F:(σ→Option R)→σ→Option R}
theorem q08 {k n:Nat} {c0:σ} {r:Option R} (s:Nat→σ) (h0:c0=s 0) (hstep:∀i,i<n→∀rec,F rec (s i)=rec (s (i+1))) (hend:∀rec,F rec (s n)=r) (hk:n<k):qh F k c0=r:=by
 subst h0
 have key:∀m i k,i+m=n→m<k→qh F k (s i)=r:=by
  intro m
  induction m with
  |zero=>
   intro i k e hk
   obtain⟨k',rfl⟩:∃k',k=k'+1:=⟨k-1,by omega⟩
   have:i=n:=by omega
   subst this
   exact hend _
  |succ m ih=>
   intro i k e hk
   obtain⟨k',rfl⟩:∃k',k=k'+1:=⟨k-1,by omega⟩
   show F (qh F k') (s i)=r
   rw [hstep i (by omega)]
   exact ih (i+1) k' (by omega) (by omega)
 exact key n 0 k (by omega) hk
theorem q1b {k n:Nat} {c0:σ} {r e:Option R} (s:Nat→σ) (P:Nat→Prop) (h0:c0=s 0) (hstep:∀i,i<n→(∀j,j<i→P j)→∀rec,F rec (s i)=br (dc (P i)) (rec (s (i+1))) r) (hend:(∀j,j<n→P j)→∀rec,F rec (s n)=e) (hk:n<k):
  qh F k c0=br (dc (∀i,i<n→P i)) e r:=by
 subst h0
 have key:∀m i k,i+m=n→m<k→(∀j,j<i→P j)→qh F k (s i)=br (dc (∀j,j<n→P j)) e r:=by
  intro m
  induction m with
  |zero=>
   intro i k e' hk hp
   obtain⟨k',rfl⟩:∃k',k=k'+1:=⟨k-1,by omega⟩
   have:i=n:=by omega
   subst this
   rw [q8 hp]
   exact hend hp _
  |succ m ih=>
   intro i k e' hk hp
   obtain⟨k',rfl⟩:∃k',k=k'+1:=⟨k-1,by omega⟩
   show F (qh F k') (s i)=_
   rw [hstep i (by omega) hp]
   by_cases h:P i
   ·rw [q8 h]
    refine ih (i+1) k' (by omega) (by omega) (fun j hj=> ?_)
    by_cases e:j=i
    ·rw [e];exact h
    ·exact hp j (by omega)
   ·rw [qa h,qa (fun z=>h (z i (by omega)))]
 exact key n 0 k (by omega) hk (fun j hj=>by omega)
end
theorem q3r {σ:Type} {F:(σ→Option (Bool×Unit))→σ→Option (Bool×Unit)} {k n:Nat} {c0:σ} {Q:Prop} (s:Nat→σ) (P:Nat→Prop) (h0:c0=s 0) (hk:n<k) (hstep:∀i,i<n→(∀j,j<i→P j)→∀rec,F rec (s i)=br (dc (P i)) (rec (s (i+1))) (q0i False))
  (hend:(∀j,j<n→P j)→∀rec,F rec (s n)=q0i Q):qh F k c0=q0i ((∀i,i<n→P i)∧Q):=by
 rw [q1b s P h0 hstep hend hk,q0g]
theorem qi8 {σ R:Type} {F:(σ→Option R)→σ→Option R} {k n:Nat} {c0:σ} {r e:Option R} (s:Nat→σ) (P:Nat→Prop) (h0:c0=s 0) (hk:n<k) (hstep:∀i,i<n→(∀j,j<i→¬P j)→∀rec,F rec (s i)=br (dc (P i)) r (rec (s (i+1))))
  (hend:(∀j,j<n→¬P j)→∀rec,F rec (s n)=e):qh F k c0=br (dc (∃i,i<n∧P i)) r e:=by
 rw [q1b s (fun i=>¬P i) h0 (r:=r) (fun i hi hp rec=> ?_) hend hk]
 ·by_cases h:∃i,i<n∧P i
  ·rw [q8 h,qa (fun z=>let ⟨i,hi,hp⟩:=h;z i hi hp)]
  ·rw [qa h,q8 (fun i hi hp=>h ⟨i,hi,hp⟩)]
 ·rw [hstep i hi hp rec]
  by_cases h:P i
  ·rw [q8 h,qa (fun z=>z h)]
  ·rw [qa h,q8 h]
theorem qcv {σ R:Type} {F:(σ→Option R)→σ→Option R} {k n:Nat} {c0:σ} {e:Option R} (s:Nat→σ) (P:Nat→Prop) (out:Nat→Option R) (h0:c0=s 0) (hk:n<k) (hstep:∀i,i<n→(∀j,j<i→¬P j)→∀rec,F rec (s i)=br (dc (P i)) (out i) (rec (s (i+1))))
  (hend:(∀j,j<n→¬P j)→∀rec,F rec (s n)=e):(∃i,i<n∧P i∧(∀j,j<i→¬P j)∧qh F k c0=out i)∨((∀j,j<n→¬P j)∧qh F k c0=e):=by
 subst h0
 have key:∀m i k,i+m=n→m<k→(∀j,j<i→¬P j)→(∃i,i<n∧P i∧(∀j,j<i→¬P j)∧qh F k (s (n-m))=out i)∨((∀j,j<n→¬P j)∧qh F k (s (n-m))=e):=by
  intro m
  induction m with
  |zero=>
   intro i k e' hk hp
   obtain⟨k',rfl⟩:∃k',k=k'+1:=⟨k-1,by omega⟩
   have:i=n:=by omega
   subst this
   exact .inr ⟨hp,hend hp _⟩
  |succ m ih=>
   intro i k e' hk hp
   obtain⟨k',rfl⟩:∃k',k=k'+1:=⟨k-1,by omega⟩
   have hi:n-(m+1)=i:=by omega
   rw [hi]
   have hs:qh F (k'+1) (s i)=F (qh F k') (s i):=rfl
   by_cases h:P i
   ·refine .inl ⟨i,by omega,h,hp,?_⟩
    rw [hs,hstep i (by omega) hp,q8 h]
   ·have:=ih (i+1) k' (by omega) (by omega) (fun j hj=>by
     by_cases e:j=i
     ·rw [e];exact h
     ·exact hp j (by omega))
    rw [hs,hstep i (by omega) hp,qa h]
    rwa [show n-m=i+1 by omega]at this
 have:=key n 0 k (by omega) hk (fun j hj=>by omega)
 rwa [Nat.sub_self]at this
theorem q8m {α:Type} {p q:Prop} (h:p↔q) (a b:Option α):br (dc p) a b=br (dc q) a b:=by rw [propext h]
theorem qko {α:Type} {p q:Prop} {a a' b:Option α} (h:p↔q) (ha:p→a=a'):br (dc p) a b=br (dc q) a' b:=by
 by_cases k:p
 ·rw [q8 k,q8 (h.1 k),ha k]
 ·rw [qa k,qa (fun z=>k (h.2 z))]
theorem g1 {p:Prop} (a:Option (Bool×Unit)):br (dc p) (q0i False) a=br (dc (¬p)) a (q0i False):=by
 by_cases h:p
 ·rw [q8 h,qa (fun z=>z h)]
 ·rw [qa h,q8 h]
theorem g2 {α:Type} {p q:Prop} (a r:Option α):br (dc p) (br (dc q) a r) r=br (dc (p∧q)) a r:=by
 by_cases h:p
 ·rw [q8 h];exact q8m ⟨fun z=>⟨h,z⟩,fun z=>z.2⟩ _ _
 ·rw [qa h,qa (fun z=>h z.1)]
theorem g4 {α:Type} {p q:Prop} (a r:Option α):br (dc p) (br (dc q) a r) a=br (dc (p→q)) a r:=by
 by_cases h:p
 ·rw [q8 h];exact q8m ⟨fun z _=>z,fun z=>z h⟩ _ _
 ·rw [qa h,q8 (fun z=>absurd z h)]
theorem qkr {i:Nat} (h:i<4611686018427387904):qg .i64 (i:Int) 1=(i:Int)+1:=q0h (by omega)
theorem evs:(∀ {α β:Type} (x:α) (f:α→Option β),q9 x f=f x)∧(∀ {α β:Type} (x:α) (f:α→Option β),bnd (some x) f=f x)∧(∀ {β:Type} (p:Prop) (f:Bool×Unit→Option β),bnd (q0i p) f=f (dc p,()))∧(∀ {α:Type} (c:Bool) (a b:Option α),br (qm c) a b=br c b a)∧(∀ {α:Type} (a b:Option α),br true a b=a)∧(∀ {α:Type} (a b:Option α),br false a b=b)∧(∀ {α:Type} (a b:Option α),br (dc True) a b=a)∧(∀ {α:Type} (a b:Option α),br (dc False) a b=b)∧((¬True)=False)∧((¬False)=True)∧(some (true,())=q0i True)∧(some (false,())=q0i False)∧(∀ (p:Prop),some (dc p,())=q0i p)∧(∀ (x y:Int),eqI x y=dc (x=y))∧(∀ (x y:Int),ltI x y=dc (x<y))∧(∀ (x y:Int),leI x y=dc (x≤y))∧(∀ (x y:Nat),eqN x y=dc (x=y))∧(∀ (p:Prop),qm (dc p)=dc (¬p))∧(∀ (p q:Prop),qnv (dc p) (dc q)=dc (p∧q))∧(∀ (b:Bool),qnv b true=b)∧(∀ (p q:Prop),eqB (dc p) (dc q)=dc (p↔q))∧(qm true=false)∧(qm false=true)∧(∀ (i n:Int),inR i n=dc (0≤i∧i<n))∧(∀ (i n:Int),upR i n=dc (0≤i∧i≤n))∧(∀ {α:Type} (l:List α),ln l=(l.length:Int))∧(∀ {α:Type} (l m:List α),app l m=l++m)∧(∀ {α:Type} (l:List α) (n:Nat),tk l n=l.take n)∧(∀ {α:Type} (l:List α) (n:Nat),dp l n=l.drop n)∧(∀ {α:Type} (l:List α) (n:Nat) (x:α),upd l n x=l.set n x)∧(∀ {α:Type} (n:Nat) (x:α),qmb n x=List.replicate n x)∧(∀ (i:Nat),q6 (i:Int)=i)∧(∀ {α:Type} {p:Prop} (h:p) (a b:Option α),br (dc p) a b=a)∧(∀ {α:Type} {p:Prop} (h:¬p) (a b:Option α),br (dc p) a b=b)∧(∀ {i:Nat} (h:i<4611686018427387904),qg .i64 (i:Int) 1=(i:Int)+1)∧(∀ {n:Nat} (h:n<68719476736),fitN (n:Int)=true):=And.intro @qk (And.intro @q00 (And.intro @qj (And.intro @qq (And.intro @qec (And.intro @qi1 (And.intro @qqt (And.intro @qqu (And.intro @not_true_eq_false (And.intro @not_false_eq_true (And.intro @q78 (And.intro @q6m (And.intro @q3n (And.intro @q02 (And.intro @qn (And.intro @q13 (And.intro @q4d (And.intro @q0o (And.intro @q1c (And.intro @q4e (And.intro @q4s (And.intro @q2r (And.intro @q2i (And.intro @q0c (And.intro @q3p (And.intro @q31 (And.intro @q6o (And.intro @qp3 (And.intro @qq5 (And.intro @q6p (And.intro @q4b (And.intro @q04 (And.intro @q8 (And.intro @qa (And.intro @qkr (@q2o)))))))))))))))))))))))))))))))))))
theorem q0gk {α:Type} {d:α} {l:List α} {P:α→Prop}:(∃i,i<l.length∧P (rdP d l i))↔∃x,x∈l∧P x:=by
 constructor
 ·rintro ⟨i,hi,h⟩
  rw [qo hi]at h
  exact⟨_,List.getElem_mem hi,h⟩
 ·rintro ⟨x,hx,h⟩
  obtain⟨i,hi,e⟩:=List.getElem_of_mem hx
  exact⟨i,hi,by rw [qo hi,e];exact h⟩
theorem q7b {α:Type} {d:α} {l:List α} {i:Nat} (h:i<l.length):l.take (i+1)=l.take i++[rdP d l i]:=by
 rw [List.take_succ_eq_append_getElem h,qo h]
theorem q9n {α β:Type} {d:α} {l:List α} {f:α→β}:(l.map f).Nodup↔∀i,i<l.length→∀j,j<i→f (rdP d l j)≠f (rdP d l i):=by
 rw [List.nodup_iff_pairwise_ne,List.pairwise_iff_getElem]
 constructor
 ·intro h i hi j hj
  have:=h j i (by simpa using Nat.lt_trans hj hi) (by simpa using hi) hj
  rw [qo hi,qo (Nat.lt_trans hj hi)]
  simpa using this
 ·intro h i j hi hj hij
  have hj':j<l.length:=by simpa using hj
  have:=h j hj' i hij
  rw [qo hj',qo (Nat.lt_trans hij hj')]at this
  simpa using this
theorem q093 {α:Type} {d:α} {l:List α}:l.Nodup↔∀i,i<l.length→rdP d l i∉l.take i:=by
 have h:=q9n (d:=d) (l:=l) (f:=id)
 rw [List.map_id]at h
 rw [h]
 constructor
 ·intro h i hi hm
  obtain⟨j,hj,e⟩:=List.getElem_of_mem hm
  have hj':j<i:=by rw [List.length_take]at hj;omega
  apply h i hi j hj'
  rw [qo (Nat.lt_trans hj' hi)]
  simpa using e
 ·intro h i hi j hj e
  apply h i hi
  have hlt:=Nat.lt_trans hj hi
  rw [List.mem_iff_getElem]
  exact⟨j,by rw [List.length_take];omega,by rw [List.getElem_take,←qo (d:=d) hlt];exact e⟩
theorem q0gz {l:List (Int×Unit)} {a:Int}:(∃x,x∈l∧x.1=a)↔(a,())∈l:=by
 constructor
 ·rintro ⟨⟨x,u⟩,hx,rfl⟩;exact hx
 ·intro h;exact⟨_,h,rfl⟩
theorem q0np {σ R:Type} {F:(σ→Option R)→σ→Option R} {k n:Nat} {c0:σ} {r:Option R} (I:Nat→σ→Prop) (h0:I 0 c0) (hstep:∀i c,i<n→I i c→∃c',I (i+1) c'∧∀rec,F rec c=rec c') (hend:∀c,I n c→∀rec,F rec c=r) (hk:n<k):qh F k c0=r:=by
 have key:∀m i k c,i+m=n→m<k→I i c→qh F k c=r:=by
  intro m
  induction m with
  |zero=>
   intro i k c e hk hc
   obtain⟨k',rfl⟩:∃k',k=k'+1:=⟨k-1,by omega⟩
   have:i=n:=by omega
   subst this
   exact hend c hc _
  |succ m ih=>
   intro i k c e hk hc
   obtain⟨k',rfl⟩:∃k',k=k'+1:=⟨k-1,by omega⟩
   obtain⟨c',h1,h2⟩:=hstep i c (by omega) hc
   show F (qh F k') c=r
   rw [h2]
   exact ih (i+1) k' c' (by omega) (by omega) h1
 exact key n 0 k c0 (by omega) hk h0
theorem q042 {p:Prop} (h:p):q0i p=q0i True:=qc ⟨fun _=>trivial,fun _=>h⟩
theorem q4t {p:Prop} (h:¬p):q0i p=q0i False:=qc ⟨fun z=>h z,fun z=>z.elim⟩
theorem qmc (l:List (Int×Unit)):(q4f l).Perm l:=by
 unfold q4f
 have h:=(List.mergeSort_perm (l.map Prod.fst) (fun x y=>decide (x≤y))).map (fun x=>(x,()))
 rw [List.map_map]at h
 have e:l.map ((fun x=>(x,())) ∘ Prod.fst)=l:=by
  conv=>rhs;rw [←List.map_id l]
  exact List.map_congr_left (fun x _=>rfl)
 rwa [e]at h
theorem qv8 (l:List (Int×Unit)):(q4f l).length=l.length:=(qmc l).length_eq
theorem qv7 (l:List (Int×Unit)):(q4f l).Pairwise (fun a b=>a.1≤b.1):=by
 unfold q4f
 rw [List.pairwise_map]
 have:=List.pairwise_mergeSort (le:=fun x y:Int=>decide (x≤y)) (by intro a b c h1 h2;simp only [decide_eq_true_eq]at*;omega) (by intro a b;simp only [Bool.or_eq_true,decide_eq_true_eq];omega) (l.map Prod.fst)
 exact this.imp (by simp)
theorem q0k5 (k:Nat) {l:List (Int×Unit)} (h:l.length≤1048576):q0fm k l=some (q4f l,()):=by
 unfold q0fm;rw [if_pos (by omega)]
theorem q0dg {s:List (Int×Unit)} (hs:s.Pairwise (fun a b=>a.1≤b.1)):s.Nodup↔∀i,i+1<s.length→(rdP (0,()) s (i+1)).1≠(rdP (0,()) s i).1:=by
 rw [List.pairwise_iff_getElem]at hs
 rw [List.nodup_iff_pairwise_ne,List.pairwise_iff_getElem]
 constructor
 ·intro h i hi e
  rw [qo hi,qo (Nat.lt_of_succ_lt hi)]at e
  exact h i (i+1) (Nat.lt_of_succ_lt hi) hi (by omega) (by
   have:∀a b:Int×Unit,a.1=b.1→a=b:=fun ⟨a,_⟩ ⟨b,_⟩ h=>by cases h;rfl
   exact(this _ _ e).symm)
 ·intro h i j hi hj hij e
  have h1:=h i (by omega)
  rw [qo (by omega),qo hi]at h1
  have h2:=hs i (i+1) hi (by omega) (by omega)
  have h3:s[i+1].1≤s[j].1:=by
   rcases Nat.lt_or_ge (i+1) j with h|h
   ·exact hs (i+1) j (by omega) hj h
   ·have:j=i+1:=by omega
    subst this;exact Int.le_refl _
  rw [←e]at h3
  omega
theorem qvm {α:Type} {d:α} {l:List α} {i:Nat} (h:i<l.length):l.drop i=rdP d l i::l.drop (i+1):=by
 rw [List.drop_eq_getElem_cons h,qo h]
theorem q0av {σ R:Type} {F:(σ→Option R)→σ→Option R} (I:Nat→σ→Option R→Prop) (step:∀f c r,I f c r→(∀rec,F rec c=r)∨∃f' c',f=f'+1∧I f' c' r∧∀rec,F rec c=rec c'):∀f k c r,f<k→I f c r→qh F k c=r:=by
 intro f
 induction f with
 |zero=>
  intro k c r hk h
  obtain⟨k,rfl⟩:∃j,k=j+1:=⟨k-1,by omega⟩
  rcases step 0 c r h with e|⟨f',_,e,_⟩
  ·exact e _
  ·omega
 |succ f ih=>
  intro k c r hk h
  obtain⟨k,rfl⟩:∃j,k=j+1:=⟨k-1,by omega⟩
  rcases step _ c r h with e|⟨f',c',e,h',e'⟩
  ·exact e _
  ·obtain rfl:f=f':=by omega
   exact(e' _).trans (ih k c' r (by omega) h')
theorem ql6 {σ R:Type} {F:(σ→Option R)→σ→Option R} {P:Option R→Prop} (I:Nat→σ→Prop) (step:∀f c rec,I f c→P (F rec c)∨∃f' c',f'<f∧I f' c'∧F rec c=rec c') {f k:Nat} {c:σ} (h0:I f c) (hk:f<k):P (qh F k c):=by
 have key:∀n f,f≤n→∀k c,f<k→I f c→P (qh F k c):=by
  intro n
  induction n with
  |zero=>
   intro f hf k c hk h
   obtain⟨k,rfl⟩:∃j,k=j+1:=⟨k-1,by omega⟩
   rcases step f c (qh F k) h with e|⟨f',c',h1,_⟩
   ·exact e
   ·omega
  |succ n ih=>
   intro f hf k c hk h
   obtain⟨k,rfl⟩:∃j,k=j+1:=⟨k-1,by omega⟩
   rcases step f c (qh F k) h with e|⟨f',c',h1,h2,h3⟩
   ·exact e
   ·show P (F (qh F k) c)
    rw [h3]
    exact ih f' (by omega) k c' (by omega) h2
 exact key f f (Nat.le_refl _) k c hk h0
theorem qcu {σ R:Type} {F:(σ→Option R)→σ→Option R} {P:Option R→Prop} {n:Nat} (I:Nat→σ→Prop) {k:Nat} {c:σ} (h0:I 0 c) (hstep:∀i c rec,i<n→I i c→∃c',I (i+1) c'∧F rec c=rec c') (hend:∀c rec,I n c→P (F rec c)) (hk:n<k):P (qh F k c):=by
 refine ql6 (fun f c=>∃i,i+f=n∧I i c) (fun f c rec h=> ?_) (f:=n) ⟨0,by omega,h0⟩ hk
 obtain⟨i,e,h⟩:=h
 cases f with
 |zero=>
  obtain rfl:i=n:=by omega
  exact .inl (hend c rec h)
 |succ f=>
  obtain⟨c',h1,h2⟩:=hstep i c rec (by omega) h
  exact .inr ⟨f,c',by omega,⟨i+1,by omega,h1⟩,h2⟩
theorem q1a {a b:Nat} (h:a+b<4611686018427387904):qg .i64 (a:Int) (b:Int)=((a+b:Nat):Int):=by rw [q0h (by omega)];omega
theorem q1g {a b:Nat} (h:b≤a∧a<4611686018427387904):qp .i64 (a:Int) (b:Int)=((a-b:Nat):Int):=by rw [qi (by omega)];omega
theorem q2c {a:Nat} (h:1≤a∧a<4611686018427387904):qp .i64 (a:Int) 1=((a-1:Nat):Int):=by rw [qi (by omega)];omega
theorem q2y {α:Type} (a:Option α):qqr a a=a:=by unfold qqr;exact if_pos rfl
theorem qny {α:Type} {l:List α} (x:α) (h:l.length≤1048576):q4x l [x]=true:=qmq (by simp;omega)
theorem qyv {α:Type} {l:List α} (h:l.length≤1048576):q4x [] l=true:=qmq (by simp;omega)
theorem q0gi {R:Type} {F:(Int×Unit→Option R)→Int×Unit→Option R} {J:Nat→Option R} {E:Option R} {P:Option R→Prop} {n k:Nat} (q:Nat→Prop) (hF:∀i rec,i<n→F rec ((i:Int),())=br (dc (q i)) (J i) (rec (((i+1:Nat):Int),()))) (hE:∀rec,F rec ((n:Int),())=E) (hk:n<k)
  (hP:∀i,i<n→(∀j,j<i→¬q j)→q i→P (J i)) (hQ:(∀j,j<n→¬q j)→P E):P (qh F k (0,())):=by
 refine ql6 (fun f c=>∃i:Nat,c=((i:Int),())∧i+f=n∧∀j,j<i→¬q j) (fun f c rec h=> ?_) (f:=n) ⟨0,rfl,by omega,fun j hj=>by omega⟩ hk
 obtain⟨i,rfl,hi,hq⟩:=h
 cases f with
 |zero=>
  obtain rfl:i=n:=by omega
  rw [hE];exact .inl (hQ hq)
 |succ f=>
  rw [hF i rec (by omega)]
  by_cases h:q i
  ·rw [q8 h];exact .inl (hP i (by omega) hq h)
  ·rw [qa h]
   refine .inr ⟨f,_,by omega,⟨i+1,rfl,by omega,fun j hj=> ?_⟩,rfl⟩
   by_cases e:j=i
   ·rw [e];exact h
   ·exact hq j (by omega)
noncomputable def keep {α:Type} (q:α→Prop) (l:List α):List α:=l.filter fun x=>dc (¬q x)
theorem q0hq {α:Type} (q:α→Prop) (l:List α):(keep q l).length≤l.length:=List.length_filter_le _ _
theorem q0lk {α:Type} {d:α} {q:α→Prop} {l:List α} {j:Nat} (h:j<l.length):(q (rdP d l j)→keep q (l.take (j+1))=keep q (l.take j))∧(¬q (rdP d l j)→keep q (l.take (j+1))=keep q (l.take j)++[rdP d l j]):=by
 unfold keep
 rw [q7b (d:=d) h,List.filter_append]
 refine⟨fun hq=> ?_,fun hq=> ?_⟩
 ·rw [List.filter_cons_of_neg (by rw [qux];exact fun z=>z hq)];simp
 ·rw [List.filter_cons_of_pos (p:=fun x=>dc (¬q x)) (dc_T hq)];rfl
theorem q0hr {α:Type} {q:α→Prop} {l:List α} (h:∀x∈l,¬q x):keep q l=l:=by
 unfold keep
 rw [List.filter_eq_self]
 exact fun x hx=>dc_T (h x hx)
theorem q7i {n:Nat} (h:n≤maxLen):n≤9223372036854775807:=by unfold maxLen at h;omega
end Go.Proofs.YtpmjopbgccajgaaGreat.Eng
namespace Go.Proofs.YtpmjopbgccajgaaGreat.Eng
attribute [local simp] q02 qn q13 q4d qq q0o q1c q4s q2r q2i q0c q3p qec qi1 q00 qk q3n q78 q6m qma q0g qkp qj q8 qa q04 q31 q6o qp3 qq5 q6p q4b
theorem ql (k:Nat) (a lo hi:Int):qf k a lo hi=q0i (lo≤a∧a≤hi):=by
 unfold qf;simp
def q8j (l:List (Int×Unit)):Prop:=l.length=3∧∀x∈l,1≤x.1∧x.1≤5000
theorem qj1 {k:Nat} (hk:K0≤k) (x:List (Int×Unit)×Unit) (hx:x.1.length≤1048576):q2h k x=q0i (q8j x.1):=by
 unfold K0 at hk
 unfold q2h
 rw [q3r (n:=x.1.length) (Q:=True) (fun i=>((i:Int),())) ?P ?h0 ?hk ?hs ?he]
 case h0=>rfl
 case hk=>omega
 case hs=>intro i hi _ rec;simp [ql,hi,qkr (i:=i) (by omega)];rfl
 case he=>intro _ rec;simp
 simp
 refine qc (and_congr (by omega) ?_)
 exact q5i (P:=fun x:Int×Unit=>1≤x.1∧x.1≤5000)
theorem q6t {k:Nat} (hk:K0≤k) (l:List (Int×Unit)) (a:Int) (hx:l.length≤1048576):q2f k l a=q0i ((a,())∈l):=by
 unfold K0 at hk
 unfold q2f
 rw [qi8 (n:=l.length) (r:=q0i True) (e:=q0i False) (fun i=>((i:Int),())) ?P ?h0 ?hk ?hs ?he]
 case h0=>rfl
 case hk=>omega
 case hs=>intro i hi _ rec;simp [hi,qkr (i:=i) (by omega)];rfl
 case he=>intro _ rec;simp
 simp
 exact qc (Iff.trans (q0gk (P:=fun x:Int×Unit=>x.1=a)) q0gz)
theorem qo7 (k:Nat) (x:Int×Int×Unit):q1r k x=q0i ((60≤x.1∧x.1≤2000)∧1≤x.2.1∧x.2.1≤40):=by
 unfold q1r;simp [ql]
abbrev qnw:=Int×Int×Int×Unit
def q0cz (b:Int×Int×Bool×List qnw×Unit) (i:Nat):Prop:=1≤(rdP (0,0,0,()) b.2.2.2.1 i).1∧(1≤(rdP (0,0,0,()) b.2.2.2.1 i).2.2.1∧(rdP (0,0,0,()) b.2.2.2.1 i).2.2.1≤60)∧
  ((rdP (0,0,0,()) b.2.2.2.1 i).2.2.1≤(rdP (0,0,0,()) b.2.2.2.1 i).2.1∧(rdP (0,0,0,()) b.2.2.2.1 i).2.1≤b.1)∧(∀j,j<i→(rdP (0,0,0,()) b.2.2.2.1 j).1≠(rdP (0,0,0,()) b.2.2.2.1 i).1)∧
  (0<i→(rdP (0,0,0,()) b.2.2.2.1 i).2.1≤(rdP (0,0,0,()) b.2.2.2.1 (i-1)).2.1-(rdP (0,0,0,()) b.2.2.2.1 (i-1)).2.2.1-b.2.1)
def qae (b:Int×Int×Bool×List qnw×Unit):Prop:=(1≤b.1∧b.1≤400)∧(0≤b.2.1∧b.2.1≤20)∧b.2.2.2.1.length≤40∧∀i,i<b.2.2.2.1.length→q0cz b i
theorem qi7 {k:Nat} (hk:K0≤k) (x:Int×Int×Bool×List qnw×Unit):q59 k x=q0i (qae x):=by
 unfold K0 at hk
 unfold q59
 simp only [ql,qj,qq,q6m,q78,qn,q31,q0g]
 by_cases h1:1≤x.1∧x.1≤400
 case neg=>rw [qa h1];exact qc ⟨fun z=>z.elim,fun z=>h1 z.1⟩
 by_cases h2:0≤x.2.1∧x.2.1≤20
 case neg=>rw [q8 h1,qa h2];exact qc ⟨fun z=>z.elim,fun z=>h2 z.2.1⟩
 by_cases h3:x.2.2.2.1.length≤40
 case neg=>rw [q8 h1,q8 h2,q8 (by omega)];exact qc ⟨fun z=>z.elim,fun z=>h3 z.2.2.1⟩
 rw [q8 h1,q8 h2,qa (by omega),q3r (n:=x.2.2.2.1.length) (Q:=True) (fun i=>((i:Int),())) (q0cz x) ?h0 ?hk ?hs ?he]
 case h0=>rfl
 case hk=>omega
 case he=>intro _ rec;exact qa (by simp) _ _
 case hs=>
  intro i hi hp rec
  simp only [qk,q02,q0c,q04,g1]
  rw [q8 (by omega),q8 (by omega),q1b (n:=i) (r:=q0i False) (e:=br (dc (0<i→(rdP (0,0,0,()) x.2.2.2.1 i).2.1≤(rdP (0,0,0,()) x.2.2.2.1 (i-1)).2.1-(rdP (0,0,0,()) x.2.2.2.1 (i-1)).2.2.1-x.2.1)) (rec (((i+1:Nat):Int),())) (q0i False)) (fun j=>((j:Int),()))
   (fun j=>(rdP (0,0,0,()) x.2.2.2.1 j).1≠(rdP (0,0,0,()) x.2.2.2.1 i).1) ?h01 ?hs1 ?he1 ?hk1]
  case h01=>rfl
  case hk1=>omega
  case hs1=>
   intro j hj _ rec
   simp only []
   rw [q8 (by omega),q8 (by omega),qkr (by omega)]
   rfl
  case he1=>
   intro _ rec2
   simp only []
   rw [qa (by omega),qkr (by omega)]
   by_cases h0:0<i
   ·obtain⟨i,rfl⟩:∃m,i=m+1:=⟨i-1,by omega⟩
    obtain⟨_,⟨p1,p2⟩,⟨p3,p4⟩,_⟩:=hp i (by omega)
    rw [q8 (by omega),qfr (by omega),q8 (by omega),q8 (by omega),q04,qi (x:=(rdP (0,0,0,()) x.2.2.2.1 i).2.1) (by omega),qi (by omega),Nat.add_sub_cancel]
    exact q8m ⟨fun z _=>by omega,fun z=>by have:=z h0;omega⟩ _ _
   ·rw [qa (by omega),q8 (fun z=>absurd z h0)]
    rfl
  simp only [g2]
  refine qko ?_ (fun _=>rfl)
  unfold q0cz
  grind
 exact qc ⟨fun z=>⟨h1,h2,h3,z.1⟩,fun z=>⟨z.2.2.2,trivial⟩⟩
end Go.Proofs.YtpmjopbgccajgaaGreat.Eng
namespace Go.Proofs.YtpmjopbgccajgaaGreat.Eng
abbrev q8k:=Int×Int×List (Int×Unit)×Unit
abbrev qnr:=Int×List (Int×Unit)×Unit
abbrev q28:=List (Int×Unit)×Int×List q8k×List qnr×Unit
def nz (l:List (Int×Unit)):List (Int×Unit):=l.filter fun x=>decide (x.1≠0)
def q22 (l:List q8k):List (Int×Unit):=l.flatMap fun c=>c.2.2.1
def q3o (l:q28):List (Int×Unit):=nz l.1++q22 l.2.2.1
def AscP (l:List (Int×Unit)) (n:Nat):Prop:=∀i,i<l.length→(0≤(rdP (0,()) l i).1∧(rdP (0,()) l i).1<n)∧(0<i→(rdP (0,()) l (i-1)).1<(rdP (0,()) l i).1)
def qsq (n:Nat) (c:q8k):Prop:=(0≤c.1∧c.1<n)∧(0≤c.2.1∧c.2.1≤40)∧(c.2.2.1.length:Int)≤c.2.1
def q1n (l:q28):Prop:=(2≤l.1.length∧l.1.length≤60)∧(0≤l.2.1∧l.2.1<l.1.length)∧l.2.2.1.length≤8∧l.2.2.2.1.length≤60∧(∀c∈l.2.2.1,qsq l.1.length c)∧(l.2.2.1.map (·.1)).Nodup∧
 (∀b∈q3o l,1≤b.1)∧(q3o l).Nodup∧(∀w∈l.2.2.2.1,1≤w.1∧AscP w.2.1 l.2.2.1.length)∧(l.2.2.2.1.map (·.1)).Nodup
theorem qrf (l:List (Int×Unit)):(nz l).length≤l.length:=List.length_filter_le _ _
theorem nz_s {l:List (Int×Unit)} {i:Nat} (h:i<l.length):nz (l.take (i+1))=nz (l.take i)++(if (rdP (0,()) l i).1≠0 then [rdP (0,()) l i]else []):=by
 rw [q7b (d:=(0,())) h,nz,List.filter_append]
 congr 1
 by_cases e:(rdP (0,()) l i).1=0<;>simp [e]
theorem qry {l:List q8k} {i:Nat} (h:i<l.length):q22 (l.take (i+1))=q22 (l.take i)++(rdP (0,0,[],()) l i).2.2.1:=by
 rw [q7b (d:=(0,0,[],())) h,q22,List.flatMap_append];simp [q22]
theorem q0bn {l:List q8k} {n:Nat}:∀i,i≤l.length→(∀j,j<i→qsq n (rdP (0,0,[],()) l j))→(q22 (l.take i)).length≤40*i
 |0,_,_=>by simp [q22]
 |i+1,hi,h=>by
  have ih:=q0bn (l:=l) (n:=n) i (by omega) (fun j hj=>h j (by omega))
  obtain⟨_,h2,h3⟩:=h i (by omega)
  rw [qry (by omega),List.length_append]
  omega
theorem q0os {k:Nat} (hk:K0≤k) {R:Type} (l:List (Int×Unit)) (n:Nat) (hl:l.length≤1048576) (hn:n≤8) (e r:Option R) (F:(Int×Unit→Option R)→Int×Unit→Option R)
  (hF:∀(i:Nat) rec,i<l.length→F rec ((i:Int),())=br (dc ((0≤(rdP (0,()) l i).1∧(rdP (0,()) l i).1<n)∧(0<i→(rdP (0,()) l (i-1)).1<(rdP (0,()) l i).1))) (rec (((i+1:Nat):Int),())) r) (hE:∀rec,F rec ((l.length:Int),())=e):
  qh F k (0,())=br (dc (AscP l n)) e r:=by
 unfold K0 at hk
 rw [q1b (n:=l.length) (r:=r) (e:=e) (fun j=>((j:Int),())) (fun i=>(0≤(rdP (0,()) l i).1∧(rdP (0,()) l i).1<n)∧(0<i→(rdP (0,()) l (i-1)).1<(rdP (0,()) l i).1)) (by simp) (fun i hi _ rec=>hF i rec hi) (fun _ rec=>hE rec) (by omega)]
 rfl
theorem qi6 {k:Nat} (hk:K0≤k) (x:q28) (hw:∀w∈x.2.2.2.1,w.2.1.length≤1048576):q58 k x=q0i (q1n x):=by
 have hk':=hk
 unfold K0 at hk
 unfold q58
 simp only [ql,qj,qq,q6m,q78,qn,q31,qk,q6o]
 by_cases h1:2≤x.1.length∧x.1.length≤60
 case neg=>rw [qa (by omega)];exact qc ⟨fun z=>z.elim,fun z=>h1 z.1⟩
 rw [q8 (by omega),qi (x:=(x.1.length:Int)) (by omega)]
 by_cases h2:0≤x.2.1∧x.2.1<x.1.length
 case neg=>rw [qa (by omega)];exact qc ⟨fun z=>z.elim,fun z=>h2 z.2.1⟩
 rw [q8 (by omega)]
 by_cases h3:x.2.2.1.length≤8
 case neg=>rw [q8 (by omega)];exact qc ⟨fun z=>z.elim,fun z=>h3 z.2.2.1⟩
 rw [qa (by omega)]
 by_cases h4:x.2.2.2.1.length≤60
 case neg=>rw [q8 (by omega)];exact qc ⟨fun z=>z.elim,fun z=>h4 z.2.2.2.1⟩
 rw [qa (by omega)]
 rw [q08 (n:=x.1.length) (r:=q0i (q1n x)) (fun i=>(nz (x.1.take i),(i:Int),())) ?h0 ?hs ?he ?hk]
 case h0=>simp [nz]
 case hk=>omega
 case hs=>
  intro i hi rec
  have hlen:=qrf (x.1.take i)
  rw [List.length_take]at hlen
  have hlen2:(nz (x.1.take i)).length≤60:=by omega
  have hf:=qmq (l:=nz (x.1.take i)) (m:=[((rdP (0,()) x.1 i).1,())]) (by simp only [List.length_cons,List.length_nil];omega)
  rw [nz_s hi]
  by_cases hz:(rdP (0,()) x.1 i).1=0
  ·rw [if_neg (fun z=>z hz),List.append_nil]
   simp (disch:=omega) only [evs]
   rfl
  ·rw [if_pos hz]
   simp (disch:=omega) only [evs,hf]
   rfl
 case he=>
  intro rec
  have hlen:=qrf x.1
  simp (disch:=omega) only [evs,List.take_length]
  rw [q1b (n:=x.2.2.1.length) (r:=q0i False) (e:=q0i ((∀b∈q3o x,1≤b.1)∧(q3o x).Nodup∧(∀w∈x.2.2.2.1,1≤w.1∧AscP w.2.1 x.2.2.1.length)∧(x.2.2.2.1.map (·.1)).Nodup)) (fun i=>(nz x.1++q22 (x.2.2.1.take i),(i:Int),())) (fun i=>qsq x.1.length (rdP (0,0,[],()) x.2.2.1 i)∧∀j,j<i→(rdP (0,0,[],()) x.2.2.1 j).1≠(rdP (0,0,[],()) x.2.2.1 i).1) ?h1 ?hs1 ?he1 ?hk1]
  case h1=>simp [q22]
  case hk1=>omega
  case hs1=>
   intro i hi hp rec
   have hlen2:=q0bn (n:=x.1.length) (l:=x.2.2.1) i (by omega) (fun j hj=>(hp j hj).1)
   rw [qry hi,←List.append_assoc]
   simp (disch:=omega) only [evs]
   by_cases hc:qsq x.1.length (rdP (0,0,[],()) x.2.2.1 i)
   case neg=>
    rw [qa (p:=qsq x.1.length (rdP (0,0,[],()) x.2.2.1 i)∧_) (fun z=>hc z.1)]
    unfold qsq at hc
    simp only [g1,g2]
    exact qa (fun z=>hc ⟨⟨by omega,by omega⟩,z.2.1,by omega⟩) _ _
   obtain⟨c1,c2,c3⟩:=hc
   have hf:=qmq (l:=nz x.1++q22 (x.2.2.1.take i)) (m:=(rdP (0,0,[],()) x.2.2.1 i).2.2.1) (by rw [List.length_append];omega)
   rw [q1b (n:=i) (r:=q0i False) (e:=rec (nz x.1++q22 (x.2.2.1.take i)++(rdP (0,0,[],()) x.2.2.1 i).2.2.1,((i+1:Nat):Int),())) (fun j=>((j:Int),())) (fun j=>(rdP (0,0,[],()) x.2.2.1 j).1≠(rdP (0,0,[],()) x.2.2.1 i).1) ?h2 ?hs2 ?he2 ?hk2]
   case h2=>simp
   case hk2=>omega
   case hs2=>intro j hj _ rec;simp (disch:=omega) only [evs,g1];rfl
   case he2=>intro _ rec2;simp (disch:=omega) only [evs,hf];rfl
   simp (disch:=omega) only [evs]
   exact q8m ⟨fun z=>⟨⟨c1,c2,c3⟩,z⟩,fun z=>z.2⟩ _ _
  case he1=>
   intro hp rec
   have hlen2:=q0bn (n:=x.1.length) (l:=x.2.2.1) _ (Nat.le_refl _) (fun j hj=>(hp j hj).1)
   rw [List.take_length]at hlen2
   simp (disch:=omega) only [evs,List.take_length]
   have hb:nz x.1++q22 x.2.2.1=q3o x:=rfl
   have hbl:(q3o x).length≤1000:=by rw [←hb,List.length_append];omega
   rw [hb,q1b (n:=(q3o x).length) (r:=q0i False) (e:=q0i ((∀w∈x.2.2.2.1,1≤w.1∧AscP w.2.1 x.2.2.1.length)∧(x.2.2.2.1.map (·.1)).Nodup)) (fun i=>((i:Int),())) (fun i=>1≤(rdP (0,()) (q3o x) i).1∧rdP (0,()) (q3o x) i∉(q3o x).take i) ?h3 ?hs3 ?he3 ?hk3]
   case h3=>simp
   case hk3=>omega
   case hs3=>
    intro i hi _ rec
    have hl:((q3o x).take i).length≤1048576:=by rw [List.length_take];omega
    simp (disch:=omega) only [evs,q6t hk' _ _ hl]
    simp only [g1,g2]
    exact q8m (by rw [Int.not_lt]) _ _
   case he3=>
    intro _ rec
    simp (disch:=omega) only [evs]
    rw [q3r (n:=x.2.2.2.1.length) (Q:=True) (fun i=>((i:Int),())) (fun i=>(1≤(rdP (0,[],()) x.2.2.2.1 i).1∧AscP (rdP (0,[],()) x.2.2.2.1 i).2.1 x.2.2.1.length)∧∀j,j<i→(rdP (0,[],()) x.2.2.2.1 j).1≠(rdP (0,[],()) x.2.2.2.1 i).1) ?h4 ?hk4 ?hs4 ?he4]
    case h4=>simp
    case hk4=>omega
    case he4=>intro _ rec;simp (disch:=omega) only [evs]
    case hs4=>
     intro i hi _ rec
     have hwl:=hw _ (by rw [qo hi];exact List.getElem_mem hi:rdP (0,[],()) x.2.2.2.1 i∈x.2.2.2.1)
     simp (disch:=omega) only [evs]
     rw [q1b (n:=i) (r:=q0i False) (e:=br (dc (AscP (rdP (0,[],()) x.2.2.2.1 i).2.1 x.2.2.1.length)) (rec (((i+1:Nat):Int),())) (q0i False)) (fun j=>((j:Int),())) (fun j=>(rdP (0,[],()) x.2.2.2.1 j).1≠(rdP (0,[],()) x.2.2.2.1 i).1) ?h5 ?hs5 ?he5 ?hk5]
     case h5=>simp
     case hk5=>omega
     case hs5=>intro j hj _ rec;simp (disch:=omega) only [evs,g1];rfl
     case he5=>
      intro _ rec2
      simp (disch:=omega) only [evs]
      refine q0os hk' _ _ hwl h3 _ _ _ (fun m rec3 hm=> ?_) (fun rec3=> ?_)
      ·simp (disch:=omega) only [evs,ql]
       rw [qi (x:=(x.2.2.1.length:Int)) (by omega)]
       by_cases hm0:0<m
       ·obtain⟨m,rfl⟩:∃m',m=m'+1:=⟨m-1,by omega⟩
        simp (disch:=omega) only [evs,qfr,Nat.add_sub_cancel,g1,g2]
        exact q8m (by grind) _ _
       ·simp (disch:=omega) only [evs]
        exact q8m (by grind) _ _
      ·simp (disch:=omega) only [evs]
       rfl
     simp only [g1,g2]
     exact q8m (by grind) _ _
    refine qc ?_
    rw [q9n (d:=(0,[],())),←q5i (d:=(0,[],()))]
    grind
   rw [q0g]
   refine qc ?_
   rw [q093 (d:=(0,())),←q5i (d:=(0,())) (l:=q3o x)]
   grind
  rw [q0g]
  refine qc ?_
  unfold q1n
  rw [q9n (d:=(0,0,[],())) (l:=x.2.2.1),←q5i (d:=(0,0,[],())) (l:=x.2.2.1)]
  grind
abbrev qkz:=Int×Int×Unit
abbrev q01:=Int×List (List qkz×Unit)×Unit
def q6q (l:List qkz):List (Int×Unit):=l.map fun x=>(x.1,())
def q19 (l:List (List qkz×Unit)):List (Int×Unit):=l.flatMap fun x=>q6q x.1
theorem qv0 {l:List (List qkz×Unit)} {i:Nat} (h:i<l.length):q19 (l.take (i+1))=q19 (l.take i)++q6q (rdP ([],()) l i).1:=by
 rw [q7b (d:=([],())) h,q19,List.flatMap_append];simp [q19]
theorem q0mf {l:List qkz} {i:Nat} (h:i<l.length):q6q (l.take (i+1))=q6q (l.take i)++[((rdP (0,0,()) l i).1,())]:=by
 rw [q7b (d:=(0,0,())) h,q6q,List.map_append];rfl
def q1p (s:q01):Prop:=(1≤s.1∧s.1≤5)∧(1≤s.2.1.length∧s.2.1.length≤4)∧(∀l∈s.2.1,(l.1.length:Int)≤s.1∧∀x∈l.1,1≤x.1∧(0≤x.2.1∧x.2.1≤100000))∧(q19 s.2.1).Nodup
theorem q0f6 {l:List (List qkz×Unit)}:∀i,i≤l.length→(∀j,j<i→(rdP ([],()) l j).1.length≤5)→(q19 (l.take i)).length≤5*i
 |0,_,_=>by simp [q19]
 |i+1,hi,h=>by
  have ih:=q0f6 (l:=l) i (by omega) (fun j hj=>h j (by omega))
  have:=h i (by omega)
  rw [qv0 (by omega),List.length_append]
  simp only [q6q,List.length_map]
  omega
theorem q05f {a:List (Int×Unit)} {l:List qkz} (ha:a.Nodup):(a++q6q l).Nodup↔∀i,i<l.length→((rdP (0,0,()) l i).1,())∉a++q6q (l.take i):=by
 rw [List.nodup_append,q093 (d:=(0,())) (l:=q6q l)]
 have hlen:(q6q l).length=l.length:=by simp [q6q]
 have hrd:∀i,i<l.length→rdP (0,()) (q6q l) i=((rdP (0,0,()) l i).1,()):=fun i hi=>by
  rw [qo (by omega),qo hi];simp [q6q]
 have htk:∀i,(q6q l).take i=q6q (l.take i):=fun i=>by simp [q6q,List.map_take]
 constructor
 ·rintro ⟨_,h2,h3⟩ i hi hm
  rcases List.mem_append.1 hm with hm|hm
  ·exact h3 _ hm _ (by rw [←hrd i hi,qo (by omega)];exact List.getElem_mem _) rfl
  ·have:=h2 i (by omega)
   rw [hrd i hi,htk]at this
   exact this hm
 ·intro h
  refine⟨ha,fun i hi=> ?_,fun x hx y hy e=> ?_⟩
  ·rw [hlen]at hi
   rw [hrd i hi,htk]
   exact fun hm=>h i hi (List.mem_append_right _ hm)
  ·subst e
   obtain⟨i,hi,e⟩:=List.getElem_of_mem hy
   have hi':i<l.length:=by omega
   apply h i hi'
   rw [←hrd i hi',qo hi,e]
   exact List.mem_append_left _ hx
theorem qlk {k:Nat} (hk:K0≤k) (x:q01):q34 k x=q0i (q1p x):=by
 have hk':=hk
 unfold K0 at hk
 unfold q34
 simp only [ql,qj,qq,q6m,q78,qn,q31,qk,q6o]
 by_cases h1:1≤x.1∧x.1≤5
 case neg=>rw [qa (by omega)];exact qc ⟨fun z=>z.elim,fun z=>h1 z.1⟩
 rw [q8 (by omega)]
 by_cases h2:1≤x.2.1.length∧x.2.1.length≤4
 case neg=>rw [qa (by omega)];exact qc ⟨fun z=>z.elim,fun z=>h2 z.2.1⟩
 rw [q8 (by omega)]
 let P:Nat→Prop:=fun i=>((rdP ([],()) x.2.1 i).1.length:Int)≤x.1∧(∀y∈(rdP ([],()) x.2.1 i).1,1≤y.1∧(0≤y.2.1∧y.2.1≤100000))∧(q19 (x.2.1.take (i+1))).Nodup
 rw [q3r (n:=x.2.1.length) (Q:=True) (fun i=>(q19 (x.2.1.take i),(i:Int),())) P ?h0 ?hk0 ?hs0 ?he0]
 case h0=>simp [q19]
 case hk0=>omega
 case he0=>intro _ rec;simp (disch:=omega) only [evs]
 case hs0=>
  intro i hi hp rec
  have hlen:=q0f6 (l:=x.2.1) i (by omega) (fun j hj=>by have:=(hp j hj).1;omega)
  have hnd:(q19 (x.2.1.take i)).Nodup:=by
   cases i with
   |zero=>simp [q19]
   |succ i=>exact(hp i (by omega)).2.2
  simp (disch:=omega) only [evs]
  by_cases hd:((rdP ([],()) x.2.1 i).1.length:Int)≤x.1
  case neg=>simp (disch:=omega) only [evs]
  simp (disch:=omega) only [evs]
  rw [q1b (n:=(rdP ([],()) x.2.1 i).1.length) (r:=q0i False) (e:=rec (q19 (x.2.1.take i)++q6q (rdP ([],()) x.2.1 i).1,((i+1:Nat):Int),())) (fun j=>(q19 (x.2.1.take i)++q6q ((rdP ([],()) x.2.1 i).1.take j),(j:Int),()))
   (fun j=>(1≤(rdP (0,0,()) (rdP ([],()) x.2.1 i).1 j).1∧(0≤(rdP (0,0,()) (rdP ([],()) x.2.1 i).1 j).2.1∧(rdP (0,0,()) (rdP ([],()) x.2.1 i).1 j).2.1≤100000))∧((rdP (0,0,()) (rdP ([],()) x.2.1 i).1 j).1,())∉q19 (x.2.1.take i)++q6q ((rdP ([],()) x.2.1 i).1.take j)) ?h1 ?hs1 ?he1 ?hk1]
  case h1=>simp [q6q]
  case hk1=>omega
  case hs1=>
   intro j hj _ rec2
   have hl2:(q19 (x.2.1.take i)++q6q ((rdP ([],()) x.2.1 i).1.take j)).length≤100:=by
    rw [List.length_append];simp only [q6q,List.length_map,List.length_take];omega
   have hf:=qmq (l:=q19 (x.2.1.take i)++q6q ((rdP ([],()) x.2.1 i).1.take j)) (m:=[((rdP (0,0,()) (rdP ([],()) x.2.1 i).1 j).1,())]) (by simp only [List.length_cons,List.length_nil];omega)
   rw [q0mf hj,←List.append_assoc]
   simp (disch:=omega) only [evs,ql,q6t hk' _ _ (Nat.le_trans hl2 (by omega)),hf]
   simp only [g1,g2]
   exact qko (by grind) (fun _=>rfl)
  case he1=>intro _ rec2;simp (disch:=omega) only [evs,List.take_length];rfl
  rw [qv0 hi]
  have hn:=q05f (l:=(rdP ([],()) x.2.1 i).1) hnd
  refine qko ?_ (fun _=>rfl)
  show _↔_∧_∧(q19 (x.2.1.take (i+1))).Nodup
  rw [qv0 hi,hn,←q5i (d:=(0,0,())) (l:=(rdP ([],()) x.2.1 i).1)]
  grind
 refine qc ?_
 unfold q1p
 rw [←q5i (d:=([],())) (l:=x.2.1)]
 constructor
 ·rintro ⟨h,_⟩
  refine⟨h1,h2,fun i hi=>⟨(h i hi).1,(h i hi).2.1⟩,?_⟩
  have:=(h (x.2.1.length-1) (by omega)).2.2
  rwa [show x.2.1.length-1+1=x.2.1.length by omega,List.take_length]at this
 ·rintro ⟨_,_,h3,h4⟩
  refine⟨fun i hi=>⟨(h3 i hi).1,(h3 i hi).2,?_⟩,trivial⟩
  refine List.Sublist.nodup ?_ h4
  conv=>rhs;rw [←List.take_append_drop (i+1) x.2.1]
  simp only [q19,List.flatMap_append]
  exact List.sublist_append_left _ _
abbrev q0a:=Int×Int×Int×Int×Int×Unit
def qv1 (n:q0a):Prop:=(1≤n.1∧n.1≤10000)∧(1≤n.2.1∧n.2.1≤4)∧(1≤n.2.2.2.2.1∧n.2.2.2.2.1≤20)∧(if n.2.1=4 then n.2.2.1=0 else 1≤n.2.2.1∧n.2.2.1≤1000)∧(if n.2.1=1∨n.2.1=4 then 1≤n.2.2.2.1∧n.2.2.2.1≤1000 else n.2.2.2.1=0)
theorem qr5 (k:Nat) (n:q0a):q6u k n=q0i (qv1 n):=by
 unfold q6u
 simp (disch:=omega) only [evs,ql,qma,q0g,qkp,qq8]
 exact qc (by unfold qv1;grind)
def q5j (l:List q0a):Prop:=l.length≤60∧(∀n∈l,qv1 n)∧∀i,0<i→i<l.length→(rdP (0,0,0,0,0,()) l (i-1)).1<(rdP (0,0,0,0,0,()) l i).1
theorem q85 {k:Nat} (hk:K0≤k) (l:List q0a):q2d k l=q0i (q5j l):=by
 unfold K0 at hk
 unfold q2d;delta W1
 by_cases h1:l.length≤60
 case neg=>simp (disch:=omega) only [evs];exact qc ⟨fun z=>z.elim,fun z=>h1 z.1⟩
 simp (disch:=omega) only [evs]
 rw [q3r (n:=l.length) (Q:=True) (fun i=>((i:Int),())) (fun i=>qv1 (rdP (0,0,0,0,0,()) l i)∧(0<i→(rdP (0,0,0,0,0,()) l (i-1)).1<(rdP (0,0,0,0,0,()) l i).1)) ?h0 ?hk0 ?hs0 ?he0]
 case h0=>simp
 case hk0=>omega
 case he0=>intro _ rec;simp (disch:=omega) only [evs]
 case hs0=>
  intro i hi _ rec
  simp (disch:=omega) only [evs,qr5]
  by_cases h0:0<i
  ·obtain⟨i,rfl⟩:∃m,i=m+1:=⟨i-1,by omega⟩
   simp (disch:=omega) only [evs,qfr,Nat.add_sub_cancel,g1,g2]
   exact q8m (by grind) _ _
  ·simp (disch:=omega) only [evs]
   exact q8m (by grind) _ _
 refine qc ?_
 unfold q5j
 rw [←q5i (d:=(0,0,0,0,0,())) (l:=l)]
 grind
end Go.Proofs.YtpmjopbgccajgaaGreat.Eng
namespace Go.Proofs.YtpmjopbgccajgaaGreat.Eng
abbrev qad:=Int×Int×Int×Bool×Int×Unit
abbrev q45:=Int×Int×Int×Int×Int×Int×Int×Int×Int×Int×Unit
abbrev qu:=Int×List (Int×Unit)×Int×Int×Int×Int×Bool×List qnw×List (Int×Unit)×Int×List q8k×List qnr×Int×List (List qkz×Unit)×List q0a×List qad×List q45×Unit
def qfp (n:Nat) (f:qad):Prop:=0≤f.1∧f.1≤f.2.1∧f.2.1≤100000∧(0≤f.2.2.1∧f.2.2.1<n)∧(f.2.2.2.2.1=0∨(f.2.2.2.1=true∧0≤f.2.2.2.2.1∧f.2.2.2.2.1≤40))
theorem qr3 (k:Nat) (x:qu) (f:qad) (hx:x.2.2.2.2.2.2.2.2.2.2.1.length≤1048576):q57 k x f=q0i (qfp x.2.2.2.2.2.2.2.2.2.2.1.length f):=by
 unfold q57
 rw [quy f.2.2.2.1]
 rw [qi (by rw [q31];omega)]
 simp (disch:=omega) only [evs,ql,qma,q0g,qkp,qq8]
 exact qc (by unfold qfp;grind)
def TagP (t:Int×Int×Int×Unit):Prop:=(0≤t.1∧t.1≤9)∧(1≤t.2.1∧t.2.1≤999)∧(0≤t.2.2.1∧t.2.2.1≤999999)
theorem qv6 (k:Nat) (t:Int×Int×Int×Unit):qbv k t=q0i (TagP t):=by
 unfold qbv
 simp (disch:=omega) only [evs,ql,qma,q0g,qkp,qq8]
 exact qc (by unfold TagP;grind)
def q3y (s:Int×Int×Int×Unit):Prop:=(1≤s.1∧s.1≤4)∧(0≤s.2.1∧s.2.1≤100000)∧(s.2.2.1=0∨s.2.2.1=1∨(s.2.2.1=2∧s.1=4))
theorem qix (k:Nat) (s:Int×Int×Int×Unit):q2g k s=q0i (q3y s):=by
 unfold q2g
 simp (disch:=omega) only [evs,ql,qma,q0g,qkp,qq8]
 exact qc (by unfold q3y;grind)
theorem qvs {k:Nat} (hk:K0≤k) (x:qu) (a:Int) (hx:x.2.2.2.2.2.2.2.1.length≤1048576):q7c k x a=q0i (∃y,y∈x.2.2.2.2.2.2.2.1∧y.1=a):=by
 unfold K0 at hk
 unfold q7c
 rw [qi8 (n:=x.2.2.2.2.2.2.2.1.length) (r:=q0i True) (e:=q0i False) (fun i=>((i:Int),())) (fun i=>(rdP (0,0,0,()) x.2.2.2.2.2.2.2.1 i).1=a) ?h0 ?hk ?hs ?he]
 case h0=>simp
 case hk=>omega
 case hs=>intro i hi _ rec;simp (disch:=omega) only [evs];rfl
 case he=>intro _ rec;simp (disch:=omega) only [evs]
 simp (disch:=omega) only [evs,q0g]
 exact qc (by rw [q0gk (P:=fun y:qnw=>y.1=a),and_true])
theorem qzk {k:Nat} (hk:K0≤k) (x:qu) (a:Int) (hx:x.2.2.2.2.2.2.2.2.2.2.1.length≤1048576) (hb:∀c∈x.2.2.2.2.2.2.2.2.2.2.1,c.2.2.1.length≤1048576):
  (∃i,i<x.2.2.2.2.2.2.2.2.2.2.1.length∧(a,())∈(rdP (0,0,[],()) x.2.2.2.2.2.2.2.2.2.2.1 i).2.2.1∧(∀j,j<i→(a,())∉(rdP (0,0,[],()) x.2.2.2.2.2.2.2.2.2.2.1 j).2.2.1)∧q4n k x a=some ((i:Int),()))∨
  ((∀j,j<x.2.2.2.2.2.2.2.2.2.2.1.length→(a,())∉(rdP (0,0,[],()) x.2.2.2.2.2.2.2.2.2.2.1 j).2.2.1)∧q4n k x a=some (-1,())):=by
 have hk':=hk
 unfold K0 at hk
 unfold q4n
 refine qcv (n:=x.2.2.2.2.2.2.2.2.2.2.1.length) (e:=some (-1,())) (fun i=>((i:Int),())) (fun i=>(a,())∈(rdP (0,0,[],()) x.2.2.2.2.2.2.2.2.2.2.1 i).2.2.1) (fun i=>some ((i:Int),())) ?h0 ?hk ?hs ?he
 case h0=>simp
 case hk=>omega
 case hs=>
  intro i hi _ rec
  have:=hb _ (by rw [qo hi];exact List.getElem_mem hi:rdP (0,0,[],()) x.2.2.2.2.2.2.2.2.2.2.1 i∈x.2.2.2.2.2.2.2.2.2.2.1)
  simp (disch:=omega) only [evs,q6t hk' _ _ this]
  rfl
 case he=>intro _ rec;simp (disch:=omega) only [evs]
theorem qli {k:Nat} (hk:K0≤k) (x:q01) (a:Int) (hx:x.2.1.length≤1048576) (hb:∀c∈x.2.1,c.1.length≤1048576):
  (∃i,i<x.2.1.length∧(∃y,y∈(rdP ([],()) x.2.1 i).1∧y.1=a)∧(∀j,j<i→¬ ∃y,y∈(rdP ([],()) x.2.1 j).1∧y.1=a)∧q0x k x a=some ((i:Int),()))∨
  ((∀j,j<x.2.1.length→¬ ∃y,y∈(rdP ([],()) x.2.1 j).1∧y.1=a)∧q0x k x a=some (-1,())):=by
 have hk':=hk
 unfold K0 at hk
 unfold q0x
 refine qcv (n:=x.2.1.length) (e:=some (-1,())) (fun i=>((i:Int),())) (fun i=>∃y,y∈(rdP ([],()) x.2.1 i).1∧y.1=a) (fun i=>some ((i:Int),())) ?h0 ?hk ?hs ?he
 case h0=>simp
 case hk=>omega
 case hs=>
  intro i hi _ rec
  have:=hb _ (by rw [qo hi];exact List.getElem_mem hi:rdP ([],()) x.2.1 i∈x.2.1)
  simp (disch:=omega) only [evs]
  rw [qi8 (n:=(rdP ([],()) x.2.1 i).1.length) (r:=some ((i:Int),())) (e:=rec (((i+1:Nat):Int),())) (fun i=>((i:Int),())) (fun j=>(rdP (0,0,()) (rdP ([],()) x.2.1 i).1 j).1=a) ?h1 ?hk1 ?hs1 ?he1]
  case h1=>simp
  case hk1=>omega
  case hs1=>intro j hj _ rec2;simp (disch:=omega) only [evs];rfl
  case he1=>intro _ rec2;simp (disch:=omega) only [evs];rfl
  exact q8m (q0gk (P:=fun y:qkz=>y.1=a)) _ _
 case he=>intro _ rec;simp (disch:=omega) only [evs]
def q08o (x:qu) (i:Nat) (e:q45):Prop:=TagP (e.1,e.2.1,e.2.2.1,())∧(1≤e.2.2.2.1∧e.2.2.2.1≤x.2.2.2.2.2.2.2.2.2.2.2.2.2.2.2.1.length)∧(1≤e.2.2.2.2.1∧e.2.2.2.2.1≤60)∧(0≤e.2.2.2.2.2.1∧e.2.2.2.2.2.1≤5)∧(1≤e.2.2.2.2.2.2.1∧e.2.2.2.2.2.2.1≤7)∧
 (∀j,j<i→¬((rdP (0,0,0,0,0,0,0,0,0,0,()) x.2.2.2.2.2.2.2.2.2.2.2.2.2.2.2.2.1 j).1=e.1∧(rdP (0,0,0,0,0,0,0,0,0,0,()) x.2.2.2.2.2.2.2.2.2.2.2.2.2.2.2.2.1 j).2.1=e.2.1∧(rdP (0,0,0,0,0,0,0,0,0,0,()) x.2.2.2.2.2.2.2.2.2.2.2.2.2.2.2.2.1 j).2.2.1=e.2.2.1))∧
 (if e.2.2.2.2.2.2.1=1 then e.2.2.2.2.2.2.2.1=0∧e.2.2.2.2.2.2.2.2.1=0∧e.2.2.2.2.2.2.2.2.2.1=0 else q3y (e.2.2.2.2.2.2.2.1,e.2.2.2.2.2.2.2.2.1,e.2.2.2.2.2.2.2.2.2.1,())∧e.2.2.2.2.2.2.2.2.1≤x.1)∧
 (e.2.2.2.2.2.2.2.2.2.1≠1→e.2.2.2.2.2.2.1≠3∧e.2.2.2.2.2.2.1≠4∧e.2.2.2.2.2.2.1≠5∧e.2.2.2.2.2.2.1≠6)∧¬(e.2.2.2.2.2.2.1=2∧e.2.2.2.2.2.2.2.2.2.1=2)∧(e.2.2.2.2.2.2.1=6→(rdP (0,0,0,false,0,()) x.2.2.2.2.2.2.2.2.2.2.2.2.2.2.2.1 (q6 (e.2.2.2.1-1))).2.2.2.1=true)∧
 ((∃y,y∈x.2.2.2.2.2.2.2.1∧y.1=(i:Int)+1)↔e.2.2.2.2.2.2.1=1)∧((((i:Int)+1,())∈x.2.2.2.2.2.2.2.2.1)↔e.2.2.2.2.2.2.1=3)∧((∃c,c∈x.2.2.2.2.2.2.2.2.2.2.1∧((i:Int)+1,())∈c.2.2.1)↔e.2.2.2.2.2.2.1=4)∧((∃l,l∈x.2.2.2.2.2.2.2.2.2.2.2.2.2.1∧∃y,y∈l.1∧y.1=(i:Int)+1)↔e.2.2.2.2.2.2.1=5)
structure SzH (x:qu):Prop where
 wait:x.2.1.length≤1048576
 items:x.2.2.2.2.2.2.2.1.length≤1048576
 trays:x.2.2.2.2.2.2.2.2.1.length≤1048576
 chutes:x.2.2.2.2.2.2.2.2.2.2.1.length≤1048576
 bags:∀c∈x.2.2.2.2.2.2.2.2.2.2.1,c.2.2.1.length≤1048576
 wants:x.2.2.2.2.2.2.2.2.2.2.2.1.length≤1048576
 told:∀w∈x.2.2.2.2.2.2.2.2.2.2.2.1,w.2.1.length≤1048576
 lanes:x.2.2.2.2.2.2.2.2.2.2.2.2.2.1.length≤1048576
 kept:∀l∈x.2.2.2.2.2.2.2.2.2.2.2.2.2.1,l.1.length≤1048576
 notes:x.2.2.2.2.2.2.2.2.2.2.2.2.2.2.1.length≤1048576
 flights:x.2.2.2.2.2.2.2.2.2.2.2.2.2.2.2.1.length≤1048576
 cases_:x.2.2.2.2.2.2.2.2.2.2.2.2.2.2.2.2.1.length≤1048576
theorem qw1 {k:Nat} (hk:K0≤k) (x:qu) (i:Nat) (hs:SzH x) (hi:i<x.2.2.2.2.2.2.2.2.2.2.2.2.2.2.2.2.1.length):q7d k x (i:Int)=q0i (q08o x i (rdP (0,0,0,0,0,0,0,0,0,0,()) x.2.2.2.2.2.2.2.2.2.2.2.2.2.2.2.2.1 i)):=by
 have hk':=hk
 unfold K0 at hk
 have hc:=hs.cases_
 have hfl:=hs.flights
 unfold q7d;delta W2 W3
 generalize he:rdP (0,0,0,0,0,0,0,0,0,0,()) x.2.2.2.2.2.2.2.2.2.2.2.2.2.2.2.2.1 i=e
 have hadd:qg .i64 (i:Int) 1=(i:Int)+1:=qkr (by omega)
 obtain⟨rch,hch,hch2⟩:∃r,q4n k x ((i:Int)+1)=some (r,())∧(0≤r↔∃c,c∈x.2.2.2.2.2.2.2.2.2.2.1∧((i:Int)+1,())∈c.2.2.1):=by
  rcases qzk hk' x ((i:Int)+1) hs.chutes hs.bags with⟨j,h1,h2,_,h3⟩|⟨h1,h3⟩
  ·exact⟨_,h3,⟨fun _=>⟨rdP (0,0,[],()) x.2.2.2.2.2.2.2.2.2.2.1 j,by rw [qo h1];exact List.getElem_mem h1,h2⟩,fun _=>by omega⟩⟩
  ·refine⟨_,h3,⟨fun h=>by omega,fun ⟨c,h4,h5⟩=> ?_⟩⟩
   obtain⟨j,hj,e⟩:=List.getElem_of_mem h4
   exact absurd (by rw [qo hj,e];exact h5) (h1 j hj)
 obtain⟨rst,hst,hst2⟩:∃r,q0x k (x.2.2.2.2.2.2.2.2.2.2.2.2.1,x.2.2.2.2.2.2.2.2.2.2.2.2.2.1,()) ((i:Int)+1)=some (r,())∧(0≤r↔∃l,l∈x.2.2.2.2.2.2.2.2.2.2.2.2.2.1∧∃y,y∈l.1∧y.1=(i:Int)+1):=by
  rcases qli hk' (x.2.2.2.2.2.2.2.2.2.2.2.2.1,x.2.2.2.2.2.2.2.2.2.2.2.2.2.1,()) ((i:Int)+1) hs.lanes hs.kept with⟨j,h1,h2,_,h3⟩|⟨h1,h3⟩
  ·exact⟨_,h3,⟨fun _=>⟨rdP ([],()) x.2.2.2.2.2.2.2.2.2.2.2.2.2.1 j,by rw [qo h1];exact List.getElem_mem h1,h2⟩,fun _=>by omega⟩⟩
  ·refine⟨_,h3,⟨fun h=>by omega,fun ⟨c,h4,h5⟩=> ?_⟩⟩
   obtain⟨j,hj,e⟩:=List.getElem_of_mem h4
   exact absurd (by rw [qo hj,e];exact h5) (h1 j hj)
 simp (disch:=omega) only [evs,he,hadd,qv6,ql,qix,q6t hk' _ _ hs.trays,qvs hk' x _ hs.items,hch,hst]
 by_cases hF:1≤e.2.2.2.1∧e.2.2.2.1≤x.2.2.2.2.2.2.2.2.2.2.2.2.2.2.2.1.length
 case neg=>
  rw [qa hF,q0mc]
  exact qc ⟨fun z=>z.elim,fun z=>hF z.2.1⟩
 rw [q8 hF,qi (x:=e.2.2.2.1) (by omega)]
 rw [quy (rdP (0,0,0,false,0,()) x.2.2.2.2.2.2.2.2.2.2.2.2.2.2.2.1 (q6 (e.2.2.2.1-1))).2.2.2.1]
 rw [q3r (n:=i) (fun j=>((j:Int),())) (fun j=>¬((rdP (0,0,0,0,0,0,0,0,0,0,()) x.2.2.2.2.2.2.2.2.2.2.2.2.2.2.2.2.1 j).1=e.1∧(rdP (0,0,0,0,0,0,0,0,0,0,()) x.2.2.2.2.2.2.2.2.2.2.2.2.2.2.2.2.1 j).2.1=e.2.1∧(rdP (0,0,0,0,0,0,0,0,0,0,()) x.2.2.2.2.2.2.2.2.2.2.2.2.2.2.2.2.1 j).2.2.1=e.2.2.1)) ?h0 ?hk ?hs ?he]
 case h0=>simp
 case hk=>omega
 case hs=>intro j hj _ rec;simp (disch:=omega) only [evs,g1];rfl
 case he=>intro _ rec;simp (disch:=omega) only [evs,qma,q0g,qkp,qq8];rfl
 simp (disch:=omega) only [evs,q0g]
 refine qc ?_
 unfold q08o
 rw [hch2,hst2]
 generalize (∀j,j<i→¬((rdP (0,0,0,0,0,0,0,0,0,0,()) x.2.2.2.2.2.2.2.2.2.2.2.2.2.2.2.2.1 j).1=e.1∧(rdP (0,0,0,0,0,0,0,0,0,0,()) x.2.2.2.2.2.2.2.2.2.2.2.2.2.2.2.2.1 j).2.1=e.2.1∧(rdP (0,0,0,0,0,0,0,0,0,0,()) x.2.2.2.2.2.2.2.2.2.2.2.2.2.2.2.2.1 j).2.2.1=e.2.2.1))=pA
 generalize (∃y,y∈x.2.2.2.2.2.2.2.1∧y.1=(i:Int)+1)=pB
 generalize (((i:Int)+1,())∈x.2.2.2.2.2.2.2.2.1)=pC
 generalize (∃c,c∈x.2.2.2.2.2.2.2.2.2.2.1∧((i:Int)+1,())∈c.2.2.1)=pD
 generalize (∃l,l∈x.2.2.2.2.2.2.2.2.2.2.2.2.2.1∧∃y,y∈l.1∧y.1=(i:Int)+1)=pE
 generalize ((rdP (0,0,0,false,0,()) x.2.2.2.2.2.2.2.2.2.2.2.2.2.2.2.1 (q6 (e.2.2.2.1-1))).2.2.2.1=true)=pF
 generalize TagP (e.1,e.2.1,e.2.2.1,())=pG
 generalize q3y (e.2.2.2.2.2.2.2.1,e.2.2.2.2.2.2.2.2.1,e.2.2.2.2.2.2.2.2.2.1,())=pH
 generalize e.2.2.2.2.2.2.1=p
 generalize e.2.2.2.2.2.2.2.2.2.1=v
 clear hst2 hch2 hst hch hadd he hfl hc hk' hi hs hk
 by_cases h1:p=1
 ·subst h1
  simp
  grind
 by_cases h2:p=2
 ·subst h2
  simp
  grind
 by_cases h6:p=6
 ·subst h6
  simp
  grind
 simp [h1,h2,h6]
 grind
def q1y (x:qu):Prop:=(0≤x.1∧x.1≤100000)∧q8j x.2.1∧((60≤x.2.2.1∧x.2.2.1≤2000)∧1≤x.2.2.2.1∧x.2.2.2.1≤40)∧qae (x.2.2.2.2.1,x.2.2.2.2.2.1,x.2.2.2.2.2.2.1,x.2.2.2.2.2.2.2.1,())∧q1n (x.2.2.2.2.2.2.2.2.1,x.2.2.2.2.2.2.2.2.2.1,x.2.2.2.2.2.2.2.2.2.2.1,x.2.2.2.2.2.2.2.2.2.2.2.1,())∧q1p (x.2.2.2.2.2.2.2.2.2.2.2.2.1,x.2.2.2.2.2.2.2.2.2.2.2.2.2.1,())∧q5j x.2.2.2.2.2.2.2.2.2.2.2.2.2.2.1∧
 x.2.2.2.2.2.2.2.2.2.2.2.2.2.2.2.1.length≤20∧x.2.2.2.2.2.2.2.2.2.2.2.2.2.2.2.2.1.length≤60∧(∀f∈x.2.2.2.2.2.2.2.2.2.2.2.2.2.2.2.1,qfp x.2.2.2.2.2.2.2.2.2.2.1.length f)∧(∀i,i<x.2.2.2.2.2.2.2.2.2.2.2.2.2.2.2.2.1.length→q08o x i (rdP (0,0,0,0,0,0,0,0,0,0,()) x.2.2.2.2.2.2.2.2.2.2.2.2.2.2.2.2.1 i))∧(∀y∈x.2.2.2.2.2.2.2.1,y.1≤x.2.2.2.2.2.2.2.2.2.2.2.2.2.2.2.2.1.length)∧(∀y∈x.2.2.2.2.2.2.2.2.1,y.1≤x.2.2.2.2.2.2.2.2.2.2.2.2.2.2.2.2.1.length)∧
 (∀c∈x.2.2.2.2.2.2.2.2.2.2.1,∀y∈c.2.2.1,y.1≤x.2.2.2.2.2.2.2.2.2.2.2.2.2.2.2.2.1.length)∧(∀l∈x.2.2.2.2.2.2.2.2.2.2.2.2.2.1,∀y∈l.1,y.1≤x.2.2.2.2.2.2.2.2.2.2.2.2.2.2.2.2.1.length)
theorem qr6 {k:Nat} (hk:K0≤k) (x:qu) (hs:SzH x):q6v k x=q0i (q1y x):=by
 have hk':=hk
 unfold K0 at hk
 have hfl:=hs.flights
 have hca:=hs.cases_
 have hit:=hs.items
 have htr:=hs.trays
 have hch:=hs.chutes
 have hla:=hs.lanes
 unfold q6v;delta W0 W1 W3
 simp (disch:=omega) only [evs,ql,qj1 hk' (x.2.1,()) hs.wait,qo7,qi7 hk',qi6 hk' (x.2.2.2.2.2.2.2.2.1,x.2.2.2.2.2.2.2.2.2.1,x.2.2.2.2.2.2.2.2.2.2.1,x.2.2.2.2.2.2.2.2.2.2.2.1,()) hs.told,qlk hk',q85 hk']
 rw [q1b (n:=x.2.2.2.2.2.2.2.2.2.2.2.2.2.2.2.1.length) (r:=q0i False) (e:=q0i ((∀i,i<x.2.2.2.2.2.2.2.2.2.2.2.2.2.2.2.2.1.length→q08o x i (rdP (0,0,0,0,0,0,0,0,0,0,()) x.2.2.2.2.2.2.2.2.2.2.2.2.2.2.2.2.1 i))∧(∀y∈x.2.2.2.2.2.2.2.1,y.1≤x.2.2.2.2.2.2.2.2.2.2.2.2.2.2.2.2.1.length)∧(∀y∈x.2.2.2.2.2.2.2.2.1,y.1≤x.2.2.2.2.2.2.2.2.2.2.2.2.2.2.2.2.1.length)∧(∀c∈x.2.2.2.2.2.2.2.2.2.2.1,∀y∈c.2.2.1,y.1≤x.2.2.2.2.2.2.2.2.2.2.2.2.2.2.2.2.1.length)∧(∀l∈x.2.2.2.2.2.2.2.2.2.2.2.2.2.1,∀y∈l.1,y.1≤x.2.2.2.2.2.2.2.2.2.2.2.2.2.2.2.2.1.length))) (fun j=>((j:Int),())) (fun i=>qfp x.2.2.2.2.2.2.2.2.2.2.1.length (rdP (0,0,0,false,0,()) x.2.2.2.2.2.2.2.2.2.2.2.2.2.2.2.1 i)) ?h0 ?hs0 ?he0 ?hk0]
 case h0=>simp
 case hk0=>omega
 case hs0=>intro i hi _ rec;simp (disch:=omega) only [evs,qr3 _ _ _ hs.chutes];rfl
 case he0=>
  intro _ rec
  simp (disch:=omega) only [evs]
  rw [q3r (n:=x.2.2.2.2.2.2.2.2.2.2.2.2.2.2.2.2.1.length) (Q:=(∀y∈x.2.2.2.2.2.2.2.1,y.1≤x.2.2.2.2.2.2.2.2.2.2.2.2.2.2.2.2.1.length)∧(∀y∈x.2.2.2.2.2.2.2.2.1,y.1≤x.2.2.2.2.2.2.2.2.2.2.2.2.2.2.2.2.1.length)∧(∀c∈x.2.2.2.2.2.2.2.2.2.2.1,∀y∈c.2.2.1,y.1≤x.2.2.2.2.2.2.2.2.2.2.2.2.2.2.2.2.1.length)∧(∀l∈x.2.2.2.2.2.2.2.2.2.2.2.2.2.1,∀y∈l.1,y.1≤x.2.2.2.2.2.2.2.2.2.2.2.2.2.2.2.2.1.length)) (fun j=>((j:Int),())) (fun i=>q08o x i (rdP (0,0,0,0,0,0,0,0,0,0,()) x.2.2.2.2.2.2.2.2.2.2.2.2.2.2.2.2.1 i)) ?h1 ?hk1 ?hs1 ?he1]
  case h1=>simp
  case hk1=>omega
  case hs1=>intro i hi _ rec;have:=qw1 hk' x i hs hi;simp (disch:=omega) only [evs,this];rfl
  case he1=>
   intro _ rec
   simp (disch:=omega) only [evs]
   rw [q3r (n:=x.2.2.2.2.2.2.2.1.length) (Q:=(∀y∈x.2.2.2.2.2.2.2.2.1,y.1≤x.2.2.2.2.2.2.2.2.2.2.2.2.2.2.2.2.1.length)∧(∀c∈x.2.2.2.2.2.2.2.2.2.2.1,∀y∈c.2.2.1,y.1≤x.2.2.2.2.2.2.2.2.2.2.2.2.2.2.2.2.1.length)∧(∀l∈x.2.2.2.2.2.2.2.2.2.2.2.2.2.1,∀y∈l.1,y.1≤x.2.2.2.2.2.2.2.2.2.2.2.2.2.2.2.2.1.length)) (fun j=>((j:Int),())) (fun i=>(rdP (0,0,0,()) x.2.2.2.2.2.2.2.1 i).1≤x.2.2.2.2.2.2.2.2.2.2.2.2.2.2.2.2.1.length) ?h2 ?hk2 ?hs2 ?he2]
   case h2=>simp
   case hk2=>omega
   case hs2=>intro i hi _ rec;simp (disch:=omega) only [evs,g1,Int.not_lt];rfl
   case he2=>
    intro _ rec
    simp (disch:=omega) only [evs]
    rw [q3r (n:=x.2.2.2.2.2.2.2.2.1.length) (Q:=(∀c∈x.2.2.2.2.2.2.2.2.2.2.1,∀y∈c.2.2.1,y.1≤x.2.2.2.2.2.2.2.2.2.2.2.2.2.2.2.2.1.length)∧(∀l∈x.2.2.2.2.2.2.2.2.2.2.2.2.2.1,∀y∈l.1,y.1≤x.2.2.2.2.2.2.2.2.2.2.2.2.2.2.2.2.1.length)) (fun j=>((j:Int),())) (fun i=>(rdP (0,()) x.2.2.2.2.2.2.2.2.1 i).1≤x.2.2.2.2.2.2.2.2.2.2.2.2.2.2.2.2.1.length) ?h3 ?hk3 ?hs3 ?he3]
    case h3=>simp
    case hk3=>omega
    case hs3=>intro i hi _ rec;simp (disch:=omega) only [evs,g1,Int.not_lt];rfl
    case he3=>
     intro _ rec
     simp (disch:=omega) only [evs]
     rw [q3r (n:=x.2.2.2.2.2.2.2.2.2.2.1.length) (Q:=∀l∈x.2.2.2.2.2.2.2.2.2.2.2.2.2.1,∀y∈l.1,y.1≤x.2.2.2.2.2.2.2.2.2.2.2.2.2.2.2.2.1.length) (fun j=>((j:Int),())) (fun i=>∀j,j<(rdP (0,0,[],()) x.2.2.2.2.2.2.2.2.2.2.1 i).2.2.1.length→(rdP (0,()) (rdP (0,0,[],()) x.2.2.2.2.2.2.2.2.2.2.1 i).2.2.1 j).1≤x.2.2.2.2.2.2.2.2.2.2.2.2.2.2.2.2.1.length) ?h4 ?hk4 ?hs4 ?he4]
     case h4=>simp
     case hk4=>omega
     case hs4=>
      intro i hi _ rec
      have:=hs.bags _ (by rw [qo hi];exact List.getElem_mem hi:rdP (0,0,[],()) x.2.2.2.2.2.2.2.2.2.2.1 i∈x.2.2.2.2.2.2.2.2.2.2.1)
      simp (disch:=omega) only [evs]
      rw [q1b (n:=(rdP (0,0,[],()) x.2.2.2.2.2.2.2.2.2.2.1 i).2.2.1.length) (r:=q0i False) (e:=rec (((i+1:Nat):Int),())) (fun j=>((j:Int),())) (fun j=>(rdP (0,()) (rdP (0,0,[],()) x.2.2.2.2.2.2.2.2.2.2.1 i).2.2.1 j).1≤x.2.2.2.2.2.2.2.2.2.2.2.2.2.2.2.2.1.length) ?h5 ?hs5 ?he5 ?hk5]
      case h5=>simp
      case hk5=>omega
      case hs5=>intro j hj _ rec2;simp (disch:=omega) only [evs,g1,Int.not_lt];rfl
      case he5=>intro _ rec2;simp (disch:=omega) only [evs];rfl
     case he4=>
      intro _ rec
      simp (disch:=omega) only [evs]
      rw [q3r (n:=x.2.2.2.2.2.2.2.2.2.2.2.2.2.1.length) (Q:=True) (fun j=>((j:Int),())) (fun i=>∀j,j<(rdP ([],()) x.2.2.2.2.2.2.2.2.2.2.2.2.2.1 i).1.length→(rdP (0,0,()) (rdP ([],()) x.2.2.2.2.2.2.2.2.2.2.2.2.2.1 i).1 j).1≤x.2.2.2.2.2.2.2.2.2.2.2.2.2.2.2.2.1.length) ?h6 ?hk6 ?hs6 ?he6]
      case h6=>simp
      case hk6=>omega
      case hs6=>
       intro i hi _ rec
       have:=hs.kept _ (by rw [qo hi];exact List.getElem_mem hi:rdP ([],()) x.2.2.2.2.2.2.2.2.2.2.2.2.2.1 i∈x.2.2.2.2.2.2.2.2.2.2.2.2.2.1)
       simp (disch:=omega) only [evs]
       rw [q1b (n:=(rdP ([],()) x.2.2.2.2.2.2.2.2.2.2.2.2.2.1 i).1.length) (r:=q0i False) (e:=rec (((i+1:Nat):Int),())) (fun j=>((j:Int),())) (fun j=>(rdP (0,0,()) (rdP ([],()) x.2.2.2.2.2.2.2.2.2.2.2.2.2.1 i).1 j).1≤x.2.2.2.2.2.2.2.2.2.2.2.2.2.2.2.2.1.length) ?h7 ?hs7 ?he7 ?hk7]
       case h7=>simp
       case hk7=>omega
       case hs7=>intro j hj _ rec2;simp (disch:=omega) only [evs,g1,Int.not_lt];rfl
       case he7=>intro _ rec2;simp (disch:=omega) only [evs];rfl
      case he6=>intro _ rec;simp (disch:=omega) only [evs]
      refine qc ?_
      rw [and_true,q5i (d:=([],())) (l:=x.2.2.2.2.2.2.2.2.2.2.2.2.2.1) (P:=fun l=>∀j,j<l.1.length→(rdP (0,0,()) l.1 j).1≤x.2.2.2.2.2.2.2.2.2.2.2.2.2.2.2.2.1.length)]
      exact forall_congr' fun l=>forall_congr' fun _=>q5i (P:=fun y:qkz=>y.1≤x.2.2.2.2.2.2.2.2.2.2.2.2.2.2.2.2.1.length)
     refine qc (and_congr_left fun _=> ?_)
     rw [q5i (d:=(0,0,[],())) (l:=x.2.2.2.2.2.2.2.2.2.2.1) (P:=fun c=>∀j,j<c.2.2.1.length→(rdP (0,()) c.2.2.1 j).1≤x.2.2.2.2.2.2.2.2.2.2.2.2.2.2.2.2.1.length)]
     exact forall_congr' fun l=>forall_congr' fun _=>q5i (P:=fun y:Int×Unit=>y.1≤x.2.2.2.2.2.2.2.2.2.2.2.2.2.2.2.2.1.length)
    exact qc (and_congr_left fun _=>q5i (P:=fun y:Int×Unit=>y.1≤x.2.2.2.2.2.2.2.2.2.2.2.2.2.2.2.2.1.length))
   exact qc (and_congr_left fun _=>q5i (P:=fun y:qnw=>y.1≤x.2.2.2.2.2.2.2.2.2.2.2.2.2.2.2.2.1.length))
 rw [q5i (d:=(0,0,0,false,0,())) (l:=x.2.2.2.2.2.2.2.2.2.2.2.2.2.2.2.1) (P:=fun f=>qfp x.2.2.2.2.2.2.2.2.2.2.1.length f)]
 simp only [g1,qma,q0g]
 refine qc ?_
 unfold q1y
 have e1:¬((20:Int)<x.2.2.2.2.2.2.2.2.2.2.2.2.2.2.2.1.length)↔x.2.2.2.2.2.2.2.2.2.2.2.2.2.2.2.1.length≤20:=by omega
 have e2:¬((60:Int)<x.2.2.2.2.2.2.2.2.2.2.2.2.2.2.2.2.1.length)↔x.2.2.2.2.2.2.2.2.2.2.2.2.2.2.2.2.1.length≤60:=by omega
 rw [e1,e2]
end Go.Proofs.YtpmjopbgccajgaaGreat.Eng
namespace Go.Proofs.YtpmjopbgccajgaaGreat.Eng
theorem q9s (k:Nat) (a:Int):q3a k a=q0i (0≤a∧a≤100000):=by
 unfold q3a;simp (disch:=omega) only [evs,q0g]
theorem q0bq (k:Nat) (a b:Int):qe0 k a b=q0i (b≤a∧a≤5000):=by
 unfold qe0;simp (disch:=omega) only [evs,q0g]
theorem q8a (k:Nat) (a b:Int):q0p k a b=q0i (1≤a∧a≤b):=by
 unfold q0p;simp (disch:=omega) only [evs,q0g]
theorem qk1 (k:Nat) (x:qu) (a:Int):q1u k x a=q0i (1≤a∧a≤x.2.2.2.2.2.2.2.2.2.2.2.2.2.2.2.1.length):=by
 unfold q1u;simp (disch:=omega) only [evs,q8a]
theorem qor (k:Nat) (x:Int×Int×Unit):q3l k x=q0i ((60≤x.1∧x.1≤2000)∧1≤x.2.1∧x.2.1≤40):=by
 unfold q3l;simp (disch:=omega) only [evs,q0g];exact qc (by grind)
theorem qvj (k:Nat) (t:Int×Int×Int×Unit):qc2 k t=q0i (TagP t):=by
 unfold qc2;simp (disch:=omega) only [evs,q0g];exact qc (by unfold TagP;grind)
theorem qk8 (k:Nat) (s:Int×Int×Int×Unit):q2l k s=q0i (q3y s):=by
 unfold q2l;simp (disch:=omega) only [evs,q9s,qma,q0g,qkp];exact qc (by unfold q3y;grind)
theorem qkc {k:Nat} (hk:K0≤k) (x:List (Int×Unit)×Unit):q2m k x=q0i (q8j x.1):=by
 unfold K0 at hk
 unfold q2m
 by_cases h:x.1.length=3
 case neg=>simp (disch:=omega) only [evs];exact qc ⟨fun z=>z.elim,fun z=>h z.1⟩
 simp (disch:=omega) only [evs]
 rw [q3r (n:=x.1.length) (Q:=True) (fun i=>((i:Int),())) (fun i=>1≤(rdP (0,()) x.1 i).1∧(rdP (0,()) x.1 i).1≤5000) ?h0 ?hk0 ?hs0 ?he0]
 case h0=>simp
 case hk0=>omega
 case hs0=>intro i hi _ rec;simp (disch:=omega) only [evs,q0bq];rw [q4t (p:=¬(0≤(i:Int))) (by omega)];rfl
 case he0=>intro _ rec;simp (disch:=omega) only [evs];exact q042 (by omega)
 refine qc ?_
 unfold q8j
 rw [q5i (d:=(0,())) (l:=x.1) (P:=fun y:Int×Unit=>1≤y.1∧y.1≤5000)]
 grind
theorem q02z {k:Nat} (hk:K0≤k) (l:List qnw) (a:Int) (hx:l.length≤1048576):qfh k l a=q0i (∃y,y∈l∧y.1=a):=by
 unfold K0 at hk
 unfold qfh
 rw [qi8 (n:=l.length) (r:=q0i True) (e:=q0i False) (fun i=>((i:Int),())) (fun i=>(rdP (0,0,0,()) l i).1=a) ?h0 ?hk ?hs ?he]
 case h0=>simp
 case hk=>omega
 case hs=>intro i hi _ rec;simp (disch:=omega) only [evs];rw [q042 (p:=0≤(i:Int)) (by omega)];rfl
 case he=>intro _ rec;simp (disch:=omega) only [evs];exact q4t (by omega)
 simp (disch:=omega) only [evs,q0g]
 exact qc (by rw [q0gk (P:=fun y:qnw=>y.1=a),and_true])
theorem q010 {α:Type} {d:α} {l:List α} {i:Nat} (hi:i≤l.length) {P:α→Prop}:(∃y,y∈l.take i∧P y)↔∃j,j<i∧P (rdP d l j):=by
 constructor
 ·rintro ⟨y,hy,hp⟩
  obtain⟨j,hj,e⟩:=List.getElem_of_mem hy
  have hj':j<i:=by rw [List.length_take]at hj;omega
  refine⟨j,hj',?_⟩
  rw [qo (by omega)]
  rw [List.getElem_take]at e
  rw [e];exact hp
 ·rintro ⟨j,hj,hp⟩
  rw [qo (by omega)]at hp
  exact⟨_,List.mem_take_iff_getElem.2 ⟨j,by omega,rfl⟩,hp⟩
theorem qik {k:Nat} (hk:K0≤k) (x:Int×Int×Bool×List qnw×Unit):q2n k x=q0i (qae x):=by
 have hk':=hk
 unfold K0 at hk
 unfold q2n
 by_cases h1:1≤x.1∧x.1≤400
 case neg=>
  have:q0i (qae x)=q0i False:=q4t fun z=>h1 z.1
  rw [this]
  by_cases h:x.1<1<;>simp (disch:=omega) only [evs]
 by_cases h2:0≤x.2.1∧x.2.1≤20
 case neg=>
  have:q0i (qae x)=q0i False:=q4t fun z=>h2 z.2.1
  rw [this]
  by_cases h:x.2.1<0<;>simp (disch:=omega) only [evs]
 by_cases h3:x.2.2.2.1.length≤40
 case neg=>simp (disch:=omega) only [evs];exact qc ⟨fun z=>z.elim,fun z=>h3 z.2.2.1⟩
 simp (disch:=omega) only [evs]
 obtain⟨most,hm0⟩:∃most:Nat→Int,∀i,most i=if i=0 then x.1 else(rdP (0,0,0,()) x.2.2.2.1 (i-1)).2.1-(rdP (0,0,0,()) x.2.2.2.1 (i-1)).2.2.1-x.2.1:=⟨_,fun _=>rfl⟩
 have hmost:∀i,(∀j,j<i→q0cz x j)→most i≤x.1:=fun i hp=>by
  rw [hm0]
  split
  ·omega
  ·obtain⟨_,_,⟨_,_⟩,_⟩:=hp (i-1) (by omega);omega
 rw [q3r (n:=x.2.2.2.1.length) (Q:=True) (fun i=>(most i,(i:Int),())) (q0cz x) ?h0 ?hk0 ?hs0 ?he0]
 case h0=>rw [hm0];rfl
 case hk0=>omega
 case he0=>intro _ rec;simp (disch:=omega) only [evs]
 case hs0=>
  intro i hi hp rec
  have hl:(x.2.2.2.1.take i).length≤1048576:=by rw [List.length_take];omega
  have hm:=hmost i hp
  simp (disch:=omega) only [evs,q02z hk' _ _ hl]
  rw [q010 (d:=(0,0,0,())) (by omega)]
  simp only [g1,g2]
  refine qko ?_ (fun z=> ?_)
  ·unfold q0cz
   have:=hm0 i
   by_cases hi0:i=0
   ·subst hi0;simp at this ⊢;grind
   ·rw [if_neg hi0]at this;grind
  ·have e:most (i+1)=(rdP (0,0,0,()) x.2.2.2.1 i).2.1-(rdP (0,0,0,()) x.2.2.2.1 i).2.2.1-x.2.1:=by rw [hm0,if_neg (by omega),Nat.add_sub_cancel]
   show rec _=rec _
   rw [e,qi (x:=(rdP (0,0,0,()) x.2.2.2.1 i).2.1) (by omega),qi (by omega)]
   rfl
 exact qc ⟨fun z=>⟨h1,h2,h3,z.1⟩,fun z=>⟨z.2.2.2,trivial⟩⟩
end Go.Proofs.YtpmjopbgccajgaaGreat.Eng
namespace Go.Proofs.YtpmjopbgccajgaaGreat.Eng
theorem qge {α β:Type} (l:List α) (a b:Option β) (h:l=[]→a=b):nilB l a b=b:=by
 cases l with
 |nil=>
  have:=h rfl
  subst this
  unfold nilB qqr
  exact if_pos rfl
 |cons x l=>rfl
theorem q0s (k:Nat) {l:List (Int×Unit)} (h:l.length≤1048576):qx k l=some (l,()):=by
 unfold qx
 have hf:=qmq (l:=([]:List (Int×Unit))) (m:=l) (by simp;omega)
 simp (disch:=omega) only [evs,hf,List.nil_append]
 exact qge _ _ _ (fun e=>by rw [e])
theorem qun {k:Nat} (hk:K0≤k) (l:List (Int×Unit)) (n:Nat) (hl:l.length≤1048576):q6f k l n=q0i (AscP l n):=by
 unfold K0 at hk
 unfold q6f
 rw [q3r (n:=l.length) (Q:=True) (fun j=>((j:Int),())) (fun i=>(0≤(rdP (0,()) l i).1∧(rdP (0,()) l i).1<n)∧(0<i→(rdP (0,()) l (i-1)).1<(rdP (0,()) l i).1)) ?h0 ?hk0 ?hs0 ?he0]
 case h0=>simp
 case hk0=>omega
 case he0=>intro _ rec;simp (disch:=omega) only [evs]
 case hs0=>
  intro i hi _ rec
  by_cases h0:0<i
  ·obtain⟨i,rfl⟩:∃m,i=m+1:=⟨i-1,by omega⟩
   simp (disch:=omega) only [evs,qfr,Nat.add_sub_cancel,g1,g2]
   exact q8m (by grind) _ _
  ·simp (disch:=omega) only [evs,g1,g2]
   exact q8m (by grind) _ _
 exact qc ⟨fun z=>z.1,fun z=>⟨z,trivial⟩⟩
theorem q4q {k:Nat} (hk:K0≤k) (l:List (Int×Unit)) (hl:l.length≤1048576):q0d k l=q0i l.Nodup:=by
 unfold K0 at hk
 unfold q0d
 have hsl:=qv8 l
 have hnd:l.Nodup↔∀i,i+1<(q4f l).length→(rdP (0,()) (q4f l) (i+1)).1≠(rdP (0,()) (q4f l) i).1:=by
  rw [←q0dg (qv7 l)];exact((qmc l).nodup_iff).symm
 simp (disch:=omega) only [evs,q0s k hl,q0k5 k hl]
 generalize hs:q4f l=s at hsl hnd
 by_cases h2:s.length<2
 ·simp (disch:=omega) only [evs]
  exact qc ⟨fun _=>hnd.2 (fun i hi=>by omega),fun _=>by omega⟩
 simp (disch:=omega) only [evs]
 rw [q1b (n:=s.length-1) (r:=q0i False) (e:=q0i True) (fun i=>(((i+1:Nat):Int),())) (fun i=>(rdP (0,()) s (i+1)).1≠(rdP (0,()) s i).1) ?h0 ?hs0 ?he0 ?hk0]
 case h0=>rfl
 case hk0=>omega
 case he0=>
  intro _ rec
  simp (disch:=omega) only [evs]
  exact q042 (by omega)
 case hs0=>
  intro i hi _ rec
  simp (disch:=omega) only [evs,qfr]
  by_cases he:(rdP (0,()) s (i+1)).1=(rdP (0,()) s i).1
  case neg=>rw [qa he,q8 he];rfl
  rw [q8 he,qa (fun z=>z he)]
  refine q0np (n:=s.length-(i+1)-1) (fun j c=>c.1.length=s.length∧∃m:Nat,c.2.1=(m:Int)∧m≤i+1+j∧c.2.2.1=((j+1:Nat):Int)) ⟨rfl,i+1,rfl,by omega,by simp⟩ ?_ ?_ (by omega)
  ·rintro j ⟨c,m',j',u'⟩ hj ⟨hc,m,e1,hm,e2⟩
   simp only at hc e1 e2
   subst e1;subst e2
   have hd:(c.drop (i+1)).length=s.length-(i+1):=by rw [List.length_drop,hc]
   by_cases hq:(rdP (0,()) c (i+1+(j+1))).1=(rdP (0,()) c (i+1+j)).1
   ·refine⟨(c,(m:Int),((j+1+1:Nat):Int),()),⟨hc,m,rfl,by omega,rfl⟩,fun rec=> ?_⟩
    simp (disch:=omega) only [evs,qfr,hd]
    rfl
   ·refine⟨(c.set m (rdP (0,()) c (i+1+(j+1))),((m+1:Nat):Int),((j+1+1:Nat):Int),()),⟨by simpa using hc,m+1,rfl,by omega,rfl⟩,fun rec=> ?_⟩
    simp (disch:=omega) only [evs,qfr,hd]
    rfl
  ·rintro ⟨c,m',j',u'⟩ ⟨hc,m,e1,hm,e2⟩ rec
   simp only at hc e1 e2
   subst e1;subst e2
   have hd:(c.drop (i+1)).length=s.length-(i+1):=by rw [List.length_drop,hc]
   have hd2:(c.take m++List.replicate (c.drop m).length ((0:Int),())).length=s.length:=by simp;omega
   simp (disch:=omega) only [evs,hd,hd2]
   refine q4t ?_
   rw [List.length_take,hd2]
   omega
 simp (disch:=omega) only [evs,q0g]
 refine qc ?_
 rw [hnd]
 constructor
 ·rintro ⟨h,_⟩ i hi;exact h i (by omega)
 ·intro h;exact⟨fun i hi=>h i (by omega),trivial⟩
theorem q0pf {R:Type} {k:Nat} (hk:K0≤k) (l:List (Int×Unit)) (hl:l.length≤1048576) (K:List (Int×Unit)→Option R) {F1:(Int×Unit→Option R)→Int×Unit→Option R} {F2:(List (Int×Unit)×Int×Int×Unit→Option R)→List (Int×Unit)×Int×Int×Unit→Option R}
  (hF1:∀(i:Nat) rec,i<l.length→F1 rec ((i:Int),())=br (dc ((rdP (0,()) l i).1=0)) (qh F2 k (l,(i:Int),((i+1:Nat):Int),())) (rec (((i+1:Nat):Int),()))) (hE1:∀rec,F1 rec ((l.length:Int),())=K l)
  (hF2:∀(c:List (Int×Unit)) (i j:Nat) rec,c.length=l.length→i≤j→j<l.length→F2 rec (c,(i:Int),(j:Int),())=br (dc ((rdP (0,()) c j).1=0)) (rec (c,(i:Int),((j+1:Nat):Int),())) (rec (c.set i (rdP (0,()) c j),((i+1:Nat):Int),((j+1:Nat):Int),())))
  (hE2:∀(c:List (Int×Unit)) (i:Nat) rec,c.length=l.length→i≤l.length→F2 rec (c,(i:Int),(l.length:Int),())=K (c.take i)):qh F1 k (0,())=K (nz l):=by
 unfold K0 at hk
 rcases qcv (F:=F1) (k:=k) (n:=l.length) (c0:=(0,())) (e:=K l) (fun i=>((i:Int),())) (fun i=>(rdP (0,()) l i).1=0) (fun i=>qh F2 k (l,(i:Int),((i+1:Nat):Int),())) (by simp) (by omega) (fun i hi _ rec=>hF1 i rec hi) (fun _ rec=>hE1 rec)with⟨i0,hi0,h0,hb,e⟩|⟨h,e⟩
 ·rw [e]
  have hpre:nz (l.take i0)=l.take i0:=by
   unfold nz
   rw [List.filter_eq_self]
   intro y hy
   obtain⟨j,hj,ey⟩:=List.getElem_of_mem hy
   rw [List.length_take]at hj
   have:=hb j (by omega)
   rw [qo (by omega)]at this
   rw [List.getElem_take]at ey
   rw [←ey];simpa using this
  have hst:∀j,(nz (l.take j)).length≤j:=fun j=>Nat.le_trans (qrf _) (by rw [List.length_take];omega)
  have hle:∀j,i0<j→(nz (l.take j)).length<j:=fun j hj=>by
   have:l.take j=l.take i0++(l.drop i0).take (j-i0):=by
    rw [←List.take_add,show i0+(j-i0)=j by omega]
   have hd:l.drop i0=rdP (0,()) l i0::l.drop (i0+1):=by rw [qo hi0];exact(List.getElem_cons_drop hi0).symm
   have hz:nz (l.take j)=l.take i0++nz ((l.drop (i0+1)).take (j-i0-1)):=by
    rw [this]
    conv=>lhs;unfold nz
    rw [List.filter_append]
    congr 1
    rw [hd,show j-i0=(j-i0-1)+1 by omega,List.take_succ_cons,List.filter_cons]
    simp [h0,nz]
   rw [hz,List.length_append,List.length_take]
   have:=qrf ((l.drop (i0+1)).take (j-i0-1))
   rw [List.length_take,List.length_drop]at this
   omega
  refine q08 (n:=l.length-(i0+1)) (fun m=>(nz (l.take (i0+1+m))++l.drop (nz (l.take (i0+1+m))).length,((nz (l.take (i0+1+m))).length:Int),((i0+1+m:Nat):Int),())) ?_ ?_ ?_ (by omega)
  ·have:nz (l.take (i0+1+0))=l.take i0:=by
    rw [Nat.add_zero,nz_s hi0,hpre,if_neg (fun z=>z h0),List.append_nil]
   simp only [this]
   rw [List.length_take,Nat.min_eq_left (by omega),List.take_append_drop]
   try rfl
  ·intro m hm rec
   have hj:i0+1+m<l.length:=by omega
   have hlt:=hle (i0+1+m) (by omega)
   have hcl:(nz (l.take (i0+1+m))++l.drop (nz (l.take (i0+1+m))).length).length=l.length:=by
    rw [List.length_append,List.length_drop];omega
   have hrd:rdP (0,()) (nz (l.take (i0+1+m))++l.drop (nz (l.take (i0+1+m))).length) (i0+1+m)=rdP (0,()) l (i0+1+m):=by
    rw [qo (by omega),qo hj,List.getElem_append_right (by omega),List.getElem_drop]
    congr 1;omega
   rw [hF2 _ _ _ rec hcl (by omega) hj,hrd]
   by_cases hz:(rdP (0,()) l (i0+1+m)).1=0
   ·have:nz (l.take (i0+1+(m+1)))=nz (l.take (i0+1+m)):=by
     rw [←Nat.add_assoc,nz_s hj,if_neg (fun z=>z hz),List.append_nil]
    rw [q8 hz,this];try rfl
   ·have hn:nz (l.take (i0+1+(m+1)))=nz (l.take (i0+1+m))++[rdP (0,()) l (i0+1+m)]:=by
     rw [←Nat.add_assoc,nz_s hj,if_pos hz]
    rw [qa hz,hn]
    have hset:(nz (l.take (i0+1+m))++l.drop (nz (l.take (i0+1+m))).length).set (nz (l.take (i0+1+m))).length (rdP (0,()) l (i0+1+m))=nz (l.take (i0+1+m))++[rdP (0,()) l (i0+1+m)]++l.drop (nz (l.take (i0+1+m))++[rdP (0,()) l (i0+1+m)]).length:=by
     rw [List.set_append_right _ _ (Nat.le_refl _),Nat.sub_self,List.length_append,List.append_assoc]
     congr 1
     rw [←List.getElem_cons_drop (show (nz (l.take (i0+1+m))).length<l.length by omega)]
     rfl
    rw [hset,List.length_append]
    rfl
  ·intro rec
   have e1:i0+1+(l.length-(i0+1))=l.length:=by omega
   rw [e1,List.take_length]
   have hcl:(nz l++l.drop (nz l).length).length=l.length:=by
    rw [List.length_append,List.length_drop];have:=qrf l;omega
   rw [hE2 _ _ rec hcl (qrf l),List.take_left']
   rfl
 ·rw [e]
  congr 1
  unfold nz
  rw [eq_comm,List.filter_eq_self]
  intro y hy
  obtain⟨j,hj,ey⟩:=List.getElem_of_mem hy
  have:=h j hj
  rw [qo hj,ey]at this
  simpa using this
end Go.Proofs.YtpmjopbgccajgaaGreat.Eng
namespace Go.Proofs.YtpmjopbgccajgaaGreat.Eng
theorem q0e9 {l:List q8k} {i:Nat}:(q22 (l.take i)).length≤(q22 l).length:=by
 conv=>rhs;rw [←List.take_append_drop i l]
 unfold q22
 rw [List.flatMap_append,List.length_append];omega
theorem q0lo {R:Type} {k:Nat} (hk:K0≤k) (l:List q8k) (c:List (Int×Unit)) (hl:l.length≤1048576) (hc:c.length≤1048576) (hb:(q22 l).length≤1048576) {F:(List (Int×Unit)×Int×Unit→Option R)→List (Int×Unit)×Int×Unit→Option R} (K:List (Int×Unit)→Option R)
  (hF:∀(d:List (Int×Unit)) (i:Nat) rec,i<l.length→d.length+(rdP (0,0,[],()) l i).2.2.1.length<68719476736→F rec (d,(i:Int),())=rec (d++(rdP (0,0,[],()) l i).2.2.1,((i+1:Nat):Int),())) (hE:∀d rec,F rec (d,(l.length:Int),())=K d):
  qh F k (c,0,())=K (c++q22 l):=by
 unfold K0 at hk
 refine q08 (n:=l.length) (fun i=>(c++q22 (l.take i),(i:Int),())) (by simp [q22]) (fun i hi rec=> ?_) (fun rec=>by rw [List.take_length];exact hE _ _) (by omega)
 have h1:=q0e9 (l:=l) (i:=i+1)
 rw [qry hi,List.length_append]at h1
 rw [hF _ _ _ hi (by rw [List.length_append];omega),qry hi,List.append_assoc]
theorem qs2 {k:Nat} (hk:K0≤k) (x:q28) (h1:x.1.length≤1048576) (h2:x.2.2.1.length≤1048576) (h3:(q22 x.2.2.1).length≤1048576):q72 k x=some (q3o x,()):=by
 have hk':=hk
 unfold K0 at hk
 unfold q72
 simp (disch:=omega) only [evs,q0s k h1]
 have key:∀c:List (Int×Unit),c.length≤1048576→qh (fun rec6 (c5:List (Int×Unit)×Int×Unit)=>br (dc (c5.2.1<x.2.2.1.length)) (br (dc (0≤c5.2.1∧c5.2.1<x.2.2.1.length)) (br (q4x c5.1 (rdP (0,0,[],()) x.2.2.1 (q6 c5.2.1)).2.2.1) (rec6 (c5.1++(rdP (0,0,[],()) x.2.2.1 (q6 c5.2.1)).2.2.1,qg .i64 c5.2.1 1,())) none) none) (some (c5.1,()))) k (c,0,())=some (c++q22 x.2.2.1,()):=fun c hc=>by
  refine q0lo hk' x.2.2.1 c h2 hc h3 (fun d=>some (d,())) (fun d i rec hi hd=> ?_) (fun d rec=> ?_)
  ·have hf:=qmq hd
   simp (disch:=omega) only [evs,hf]
   rfl
  ·simp (disch:=omega) only [evs]
 refine q0pf (F2:= ?F2) hk' x.1 h1 (fun c=>some (c++q22 x.2.2.1,())) ?f1 ?e1 ?f2 ?e2
 case f1=>intro i rec hi;simp (disch:=omega) only [evs];rfl
 case e1=>intro rec;simp (disch:=omega) only [evs];exact key _ h1
 case f2=>
  intro c i j rec hc hij hj
  by_cases hz:(rdP (0,()) c j).1=0
  ·simp (disch:=omega) only [evs];rfl
  ·simp (disch:=omega) only [evs];rfl
 case e2=>
  intro c i rec hc hi
  have hd2:(c.take i++List.replicate (c.drop i).length ((0:Int),())).length=c.length:=by simp;omega
  simp (disch:=omega) only [evs,hd2]
  rw [List.take_left' (by rw [List.length_take];omega)]
  exact key _ (by rw [List.length_take];omega)
theorem qs9 {k:Nat} (hk:K0≤k) (x:q28) (h0:x.1.length≤1048576) (hc:x.2.2.1.length≤1048576) (hb:(q22 x.2.2.1).length≤1048576) (hw:∀w∈x.2.2.2.1,w.2.1.length≤1048576) (hbl0:(q3o x).length≤1048576):q1j k x=q0i (q1n x):=by
 have hk':=hk
 unfold K0 at hk
 unfold q1j;delta W0
 by_cases h1:2≤x.1.length∧x.1.length≤60
 case neg=>
  rw [q4t (p:=q1n x) fun z=>h1 z.1]
  by_cases h:(x.1.length:Int)<2<;>simp (disch:=omega) only [evs]
 by_cases h2:0≤x.2.1∧x.2.1<x.1.length
 case neg=>
  rw [q4t (p:=q1n x) fun z=>h2 z.2.1]
  by_cases h:x.2.1<0<;>simp (disch:=omega) only [evs]
 by_cases h3:x.2.2.1.length≤8
 case neg=>rw [q4t (p:=q1n x) fun z=>h3 z.2.2.1];simp (disch:=omega) only [evs]
 by_cases h4:x.2.2.2.1.length≤60
 case neg=>rw [q4t (p:=q1n x) fun z=>h4 z.2.2.2.1];simp (disch:=omega) only [evs]
 simp (disch:=omega) only [evs,qs2 hk' (x.1,x.2.1,x.2.2.1,x.2.2.2.1,()) h0 hc hb]
 let at_:List q8k→List (Int×Unit):=fun l=>l.map fun c=>(c.1,())
 let wb:List qnr→List (Int×Unit):=fun l=>l.map fun c=>(c.1,())
 rw [q1b (n:=x.2.2.1.length) (r:=q0i False) (e:=q0i ((∀w∈x.2.2.2.1,1≤w.1∧AscP w.2.1 x.2.2.1.length)∧(∀b∈q3o x,1≤b.1)∧(q3o x).Nodup∧(at_ x.2.2.1).Nodup∧(wb x.2.2.2.1).Nodup)) (fun i=>(at_ (x.2.2.1.take i),(i:Int),())) (fun i=>qsq x.1.length (rdP (0,0,[],()) x.2.2.1 i)) ?h5 ?hs5 ?he5 ?hk5]
 case h5=>simp [at_]
 case hk5=>omega
 case hs5=>
  intro i hi _ rec
  have hl:(at_ (x.2.2.1.take i)).length≤8:=by simp [at_];omega
  have hf:=qmq (l:=at_ (x.2.2.1.take i)) (m:=[((rdP (0,0,[],()) x.2.2.1 i).1,())]) (by simp;omega)
  simp (disch:=omega) only [evs,hf,g1,g2]
  refine qko (by unfold qsq;grind) (fun _=> ?_)
  congr 2
  rw [q7b (d:=(0,0,[],())) hi]
  simp [at_]
 case he5=>
  intro _ rec
  simp (disch:=omega) only [evs,List.take_length]
  have hat:(at_ x.2.2.1).length≤1048576:=by simp [at_];omega
  rw [q1b (n:=x.2.2.2.1.length) (r:=q0i False) (e:=q0i ((∀b∈q3o x,1≤b.1)∧(q3o x).Nodup∧(at_ x.2.2.1).Nodup∧(wb x.2.2.2.1).Nodup)) (fun i=>(wb (x.2.2.2.1.take i),(i:Int),())) (fun i=>1≤(rdP (0,[],()) x.2.2.2.1 i).1∧AscP (rdP (0,[],()) x.2.2.2.1 i).2.1 x.2.2.1.length) ?h6 ?hs6 ?he6 ?hk6]
  case h6=>simp [wb]
  case hk6=>omega
  case hs6=>
   intro i hi _ rec
   have hwl:=hw _ (by rw [qo hi];exact List.getElem_mem hi:rdP (0,[],()) x.2.2.2.1 i∈x.2.2.2.1)
   have hl:(wb (x.2.2.2.1.take i)).length≤60:=by simp [wb];omega
   have hf:=qmq (l:=wb (x.2.2.2.1.take i)) (m:=[((rdP (0,[],()) x.2.2.2.1 i).1,())]) (by simp;omega)
   simp (disch:=omega) only [evs,hf,qun hk' _ _ hwl,g1,g2]
   refine qko (by grind) (fun _=> ?_)
   congr 2
   rw [q7b (d:=(0,[],())) hi]
   simp [wb]
  case he6=>
   intro _ rec
   have hbl:(q3o x).length≤2097152:=by
    unfold q3o;rw [List.length_append];have:=qrf x.1;omega
   have hbl2:(q3o x).length≤1048576:=hbl0
   have hwl:(wb x.2.2.2.1).length≤1048576:=by simp [wb];omega
   have ebag:q3o (x.1,x.2.1,x.2.2.1,x.2.2.2.1,())=q3o x:=rfl
   simp (disch:=omega) only [evs,List.take_length,ebag]
   rw [q1b (n:=(q3o x).length) (r:=q0i False) (e:=q0i ((q3o x).Nodup∧(at_ x.2.2.1).Nodup∧(wb x.2.2.2.1).Nodup)) (fun i=>((i:Int),())) (fun i=>1≤(rdP (0,()) (q3o x) i).1) ?h7 ?hs7 ?he7 ?hk7]
   case h7=>simp
   case hk7=>omega
   case hs7=>intro i hi _ rec;simp (disch:=omega) only [evs,g1,Int.not_lt];rfl
   case he7=>
    intro _ rec
    simp (disch:=omega) only [evs,q4q hk' _ hbl2,q4q hk' _ hat,q4q hk' _ hwl,q0g]
   rw [q0g]
   exact qc (and_congr_left fun _=>q5i (P:=fun y:Int×Unit=>1≤y.1))
  rw [q0g]
  exact qc (and_congr_left fun _=>q5i (P:=fun w:qnr=>1≤w.1∧AscP w.2.1 x.2.2.1.length))
 rw [q0g,q5i (P:=qsq x.1.length)]
 refine qc ?_
 have e1:(at_ x.2.2.1).Nodup↔(x.2.2.1.map (·.1)).Nodup:=by
  rw [q9n (d:=(0,0,[],()))]
  rw [q9n (d:=(0,0,[],()))]
  exact forall_congr' fun i=>forall_congr' fun _=>forall_congr' fun j=>forall_congr' fun _=>not_congr ⟨fun z=>(Prod.mk.injEq _ _ _ _▸z:_∧_).1,fun z=>by rw [z]⟩
 have e2:(wb x.2.2.2.1).Nodup↔(x.2.2.2.1.map (·.1)).Nodup:=by
  rw [q9n (d:=(0,[],()))]
  rw [q9n (d:=(0,[],()))]
  exact forall_congr' fun i=>forall_congr' fun _=>forall_congr' fun j=>forall_congr' fun _=>not_congr ⟨fun z=>(Prod.mk.injEq _ _ _ _▸z:_∧_).1,fun z=>by rw [z]⟩
 rw [e1,e2]
 unfold q1n
 grind
theorem q0jn {l:List (List qkz×Unit)} {i:Nat}:(q19 (l.take i)).length≤(q19 l).length:=by
 conv=>rhs;rw [←List.take_append_drop i l]
 unfold q19
 rw [List.flatMap_append,List.length_append];omega
theorem qnb {k:Nat} (hk:K0≤k) (x:q01) (h1:x.2.1.length≤1048576) (h2:(q19 x.2.1).length≤1048576):q2k k x=some (q19 x.2.1,()):=by
 unfold K0 at hk
 unfold q2k
 refine q08 (n:=x.2.1.length) (fun i=>(q19 (x.2.1.take i),(i:Int),())) (by simp [q19]) (fun i hi rec=> ?_) (fun rec=>by simp (disch:=omega) only [evs,List.take_length]) (by omega)
 have hb:=q0jn (l:=x.2.1) (i:=i+1)
 rw [qv0 hi,List.length_append]at hb
 simp only [q6q,List.length_map]at hb
 simp (disch:=omega) only [evs]
 rw [q08 (n:=(rdP ([],()) x.2.1 i).1.length) (r:=rec (q19 (x.2.1.take i)++q6q (rdP ([],()) x.2.1 i).1,((i+1:Nat):Int),())) (fun j=>(q19 (x.2.1.take i)++q6q ((rdP ([],()) x.2.1 i).1.take j),(j:Int),())) ?h3 ?hs3 ?he3 ?hk3]
 case h3=>simp [q6q]
 case hk3=>omega
 case hs3=>
  intro j hj rec2
  have hf:=qmq (l:=q19 (x.2.1.take i)++q6q ((rdP ([],()) x.2.1 i).1.take j)) (m:=[((rdP (0,0,()) (rdP ([],()) x.2.1 i).1 j).1,())]) (by simp only [List.length_append,q6q,List.length_map,List.length_take,List.length_cons,List.length_nil];omega)
  simp (disch:=omega) only [evs,hf]
  rw [q0mf hj,List.append_assoc]
  rfl
 case he3=>intro rec2;simp (disch:=omega) only [evs,List.take_length];rfl
 rw [qv0 hi]
theorem qm3 {k:Nat} (hk:K0≤k) (x:q01) (h0:(q19 x.2.1).length≤1048576):q3b k x=q0i (q1p x):=by
 have hk':=hk
 unfold K0 at hk
 unfold q3b
 by_cases h1:1≤x.1∧x.1≤5
 case neg=>
  rw [q4t (p:=q1p x) fun z=>h1 z.1]
  by_cases h:x.1<1<;>simp (disch:=omega) only [evs]
 by_cases h2:1≤x.2.1.length∧x.2.1.length≤4
 case neg=>
  rw [q4t (p:=q1p x) fun z=>h2 z.2.1]
  by_cases h:(x.2.1.length:Int)<1<;>simp (disch:=omega) only [evs]
 have hi:x.2.1.length≤1048576:=by omega
 have hbi:=qnb hk' (x.1,x.2.1,()) hi h0
 have had:=q4q hk' (q19 x.2.1) h0
 simp (disch:=omega) only [evs,hbi,had]
 rw [q3r (n:=x.2.1.length) (Q:=(q19 x.2.1).Nodup) (fun j=>((j:Int),())) (fun i=>((rdP ([],()) x.2.1 i).1.length:Int)≤x.1∧(∀j,j<(rdP ([],()) x.2.1 i).1.length→1≤(rdP (0,0,()) (rdP ([],()) x.2.1 i).1 j).1∧(0≤(rdP (0,0,()) (rdP ([],()) x.2.1 i).1 j).2.1∧(rdP (0,0,()) (rdP ([],()) x.2.1 i).1 j).2.1≤100000))) ?h3 ?hk3 ?hs3 ?he3]
 case h3=>simp
 case hk3=>omega
 case he3=>intro _ rec;simp (disch:=omega) only [evs]
 case hs3=>
  intro i hi _ rec
  simp (disch:=omega) only [evs]
  by_cases hd:((rdP ([],()) x.2.1 i).1.length:Int)≤x.1
  case neg=>simp (disch:=omega) only [evs]
  simp (disch:=omega) only [evs]
  rw [q1b (n:=(rdP ([],()) x.2.1 i).1.length) (r:=q0i False) (e:=rec (((i+1:Nat):Int),())) (fun j=>((j:Int),())) (fun j=>1≤(rdP (0,0,()) (rdP ([],()) x.2.1 i).1 j).1∧(0≤(rdP (0,0,()) (rdP ([],()) x.2.1 i).1 j).2.1∧(rdP (0,0,()) (rdP ([],()) x.2.1 i).1 j).2.1≤100000)) ?h4 ?hs4 ?he4 ?hk4]
  case h4=>simp
  case hk4=>omega
  case hs4=>
   intro j hj _ rec2
   simp (disch:=omega) only [evs,q9s,g1,g2]
   exact q8m (by grind) _ _
  case he4=>intro _ rec2;simp (disch:=omega) only [evs];rfl
  exact q8m (by grind) _ _
 refine qc ?_
 unfold q1p
 rw [←q5i (d:=([],())) (l:=x.2.1)]
 have e:∀l:List qkz,(∀j,j<l.length→1≤(rdP (0,0,()) l j).1∧(0≤(rdP (0,0,()) l j).2.1∧(rdP (0,0,()) l j).2.1≤100000))↔∀y∈l,1≤y.1∧(0≤y.2.1∧y.2.1≤100000):=fun l=>q5i (P:=fun y:qkz=>1≤y.1∧(0≤y.2.1∧y.2.1≤100000))
 simp only [e]
 grind
theorem qs8 (k:Nat) (n:q0a):q74 k n=q0i (qv1 n):=by
 unfold q74
 simp (disch:=omega) only [evs,q8a,qma,q0g,qkp,qq8]
 exact qc (by unfold qv1;grind)
theorem q8d {k:Nat} (hk:K0≤k) (l:List q0a) (hl:l.length≤1048576):q2e k l=q0i (q5j l):=by
 unfold K0 at hk
 unfold q2e;delta W1
 rw [q3r (n:=l.length) (Q:=l.length≤60) (fun i=>((i:Int),())) (fun i=>qv1 (rdP (0,0,0,0,0,()) l i)∧(0<i→(rdP (0,0,0,0,0,()) l (i-1)).1<(rdP (0,0,0,0,0,()) l i).1)) ?h0 ?hk0 ?hs0 ?he0]
 case h0=>simp
 case hk0=>omega
 case he0=>intro _ rec;simp (disch:=omega) only [evs];exact qc (by omega)
 case hs0=>
  intro i hi _ rec
  simp (disch:=omega) only [evs,qs8]
  by_cases h0:0<i
  ·obtain⟨i,rfl⟩:∃m,i=m+1:=⟨i-1,by omega⟩
   simp (disch:=omega) only [evs,qfr,Nat.add_sub_cancel,g1,g2]
   exact q8m (by grind) _ _
  ·simp (disch:=omega) only [evs]
   exact q8m (by grind) _ _
 refine qc ?_
 unfold q5j
 rw [←q5i (d:=(0,0,0,0,0,())) (l:=l)]
 grind
theorem qup {k:Nat} (hk:K0≤k) (x:qu):q6g k x=q0i (x.2.2.2.2.2.2.2.2.2.2.2.2.2.2.2.1.length≤20∧∀f∈x.2.2.2.2.2.2.2.2.2.2.2.2.2.2.2.1,qfp x.2.2.2.2.2.2.2.2.2.2.1.length f):=by
 unfold K0 at hk
 unfold q6g
 by_cases h:x.2.2.2.2.2.2.2.2.2.2.2.2.2.2.2.1.length≤20
 case neg=>simp (disch:=omega) only [evs];exact qc ⟨fun z=>z.elim,fun z=>h z.1⟩
 simp (disch:=omega) only [evs]
 rw [q3r (n:=x.2.2.2.2.2.2.2.2.2.2.2.2.2.2.2.1.length) (Q:=True) (fun i=>((i:Int),())) (fun i=>qfp x.2.2.2.2.2.2.2.2.2.2.1.length (rdP (0,0,0,false,0,()) x.2.2.2.2.2.2.2.2.2.2.2.2.2.2.2.1 i)) ?h0 ?hk0 ?hs0 ?he0]
 case h0=>simp
 case hk0=>omega
 case he0=>intro _ rec;simp (disch:=omega) only [evs];exact q042 (by omega)
 case hs0=>
  intro i hi _ rec
  simp (disch:=omega) only [evs]
  rw [q4t (p:=¬(0≤(i:Int))) (by omega),quy (rdP (0,0,0,false,0,()) x.2.2.2.2.2.2.2.2.2.2.2.2.2.2.2.1 i).2.2.2.1]
  simp (disch:=omega) only [evs,g1,g2,g4]
  refine qko ?_ (fun _=>rfl)
  unfold qfp
  grind
 rw [q5i (P:=qfp x.2.2.2.2.2.2.2.2.2.2.1.length)]
 exact qc (by grind)
end Go.Proofs.YtpmjopbgccajgaaGreat.Eng
namespace Go.Proofs.YtpmjopbgccajgaaGreat.Eng
def qv2 (x:qu) (e:q45):Prop:=TagP (e.1,e.2.1,e.2.2.1,())∧(1≤e.2.2.2.1∧e.2.2.2.1≤x.2.2.2.2.2.2.2.2.2.2.2.2.2.2.2.1.length)∧(1≤e.2.2.2.2.1∧e.2.2.2.2.1≤60)∧(0≤e.2.2.2.2.2.1∧e.2.2.2.2.2.1≤5)∧
 (if e.2.2.2.2.2.2.1=1 then e.2.2.2.2.2.2.2.1=0∧e.2.2.2.2.2.2.2.2.1=0∧e.2.2.2.2.2.2.2.2.2.1=0 else(q3y (e.2.2.2.2.2.2.2.1,e.2.2.2.2.2.2.2.2.1,e.2.2.2.2.2.2.2.2.2.1,())∧e.2.2.2.2.2.2.2.2.1≤x.1)∧
  if e.2.2.2.2.2.2.1=2 then e.2.2.2.2.2.2.2.2.2.1≠2 else if e.2.2.2.2.2.2.1=3∨e.2.2.2.2.2.2.1=4∨e.2.2.2.2.2.2.1=5 then e.2.2.2.2.2.2.2.2.2.1=1 else if e.2.2.2.2.2.2.1=6 then e.2.2.2.2.2.2.2.2.2.1=1∧(rdP (0,0,0,false,0,()) x.2.2.2.2.2.2.2.2.2.2.2.2.2.2.2.1 (q6 (e.2.2.2.1-1))).2.2.2.1=true else e.2.2.2.2.2.2.1=7)
theorem q0br (k:Nat) (x:qu) (e:q45) (hf:x.2.2.2.2.2.2.2.2.2.2.2.2.2.2.2.1.length≤1048576):qe1 k x e=q0i (qv2 x e):=by
 unfold qe1;delta W2 W3
 simp (disch:=omega) only [evs,qvj,qk1,q8a,qk8]
 by_cases hF:1≤e.2.2.2.1∧e.2.2.2.1≤x.2.2.2.2.2.2.2.2.2.2.2.2.2.2.2.1.length
 case neg=>
  rw [qa hF,q0mc]
  exact qc ⟨fun z=>z.elim,fun z=>hF z.2.1⟩
 rw [q8 hF,qi (x:=e.2.2.2.1) (by omega)]
 rw [quy (rdP (0,0,0,false,0,()) x.2.2.2.2.2.2.2.2.2.2.2.2.2.2.2.1 (q6 (e.2.2.2.1-1))).2.2.2.1]
 simp (disch:=omega) only [evs,qma,q0g,qkp,qq8]
 refine qc ?_
 unfold qv2
 generalize (rdP (0,0,0,false,0,()) x.2.2.2.2.2.2.2.2.2.2.2.2.2.2.2.1 (q6 (e.2.2.2.1-1))).2.2.2.1=pF
 generalize TagP (e.1,e.2.1,e.2.2.1,())=pG
 generalize q3y (e.2.2.2.2.2.2.2.1,e.2.2.2.2.2.2.2.2.1,e.2.2.2.2.2.2.2.2.2.1,())=pH
 generalize e.2.2.2.2.2.2.1=p
 generalize e.2.2.2.2.2.2.2.2.2.1=v
 by_cases h1:p=1
 ·subst h1;simp;grind
 by_cases h2:p=2
 ·subst h2;simp;grind
 by_cases h3:p=3
 ·subst h3;simp;grind
 by_cases h4:p=4
 ·subst h4;simp;grind
 by_cases h5:p=5
 ·subst h5;simp;grind
 by_cases h6:p=6
 ·subst h6;simp;grind
 simp [h1,h2,h3,h4,h5,h6];grind
theorem qs1 {k:Nat} (hk:K0≤k) (l:List q45) (t:Int×Int×Int×Unit) (hx:l.length≤1048576):q9t k l t=q0i (∃y,y∈l∧(y.1=t.1∧y.2.1=t.2.1∧y.2.2.1=t.2.2.1)):=by
 unfold K0 at hk
 unfold q9t
 rw [qi8 (n:=l.length) (r:=q0i True) (e:=q0i False) (fun i=>((i:Int),())) (fun i=>(rdP (0,0,0,0,0,0,0,0,0,0,()) l i).1=t.1∧(rdP (0,0,0,0,0,0,0,0,0,0,()) l i).2.1=t.2.1∧(rdP (0,0,0,0,0,0,0,0,0,0,()) l i).2.2.1=t.2.2.1) ?h0 ?hk ?hs ?he]
 case h0=>simp
 case hk=>omega
 case hs=>intro i hi _ rec;simp (disch:=omega) only [evs];rw [q042 (p:=0≤(i:Int)) (by omega)];rfl
 case he=>intro _ rec;simp (disch:=omega) only [evs];exact q4t (by omega)
 simp (disch:=omega) only [evs,q0g]
 exact qc (by rw [q0gk (P:=fun y:q45=>y.1=t.1∧y.2.1=t.2.1∧y.2.2.1=t.2.2.1),and_true])
def atR (l:List q45) (p:Int) (i:Nat):List (Int×Unit):=((List.range i).filter fun j=>decide ((rdP (0,0,0,0,0,0,0,0,0,0,()) l j).2.2.2.2.2.2.1=p)).map fun (j:Nat)=>((j:Int)+1,())
theorem q0tc (l:List q45) (p:Int) (i:Nat):atR l p (i+1)=atR l p i++(if (rdP (0,0,0,0,0,0,0,0,0,0,()) l i).2.2.2.2.2.2.1=p then [((i:Int)+1,())]else []):=by
 unfold atR
 rw [List.range_succ,List.filter_append,List.map_append]
 congr 1
 by_cases h:(rdP (0,0,0,0,0,0,0,0,0,0,()) l i).2.2.2.2.2.2.1=p<;>simp [h]
theorem q0qv (l:List q45) (p:Int) (i:Nat):(atR l p i).length≤i:=by
 unfold atR
 rw [List.length_map]
 exact Nat.le_trans (List.length_filter_le _ _) (by simp)
theorem q0lp {k:Nat} (hk:K0≤k) (x:qu) (p:Int) (hx:x.2.2.2.2.2.2.2.2.2.2.2.2.2.2.2.2.1.length≤1048576):qop k x p=some (atR x.2.2.2.2.2.2.2.2.2.2.2.2.2.2.2.2.1 p x.2.2.2.2.2.2.2.2.2.2.2.2.2.2.2.2.1.length,()):=by
 unfold K0 at hk
 unfold qop
 refine q08 (n:=x.2.2.2.2.2.2.2.2.2.2.2.2.2.2.2.2.1.length) (fun i=>(atR x.2.2.2.2.2.2.2.2.2.2.2.2.2.2.2.2.1 p i,(i:Int),())) (by simp [atR]) (fun i hi rec=> ?_) (fun rec=>by simp (disch:=omega) only [evs]) (by omega)
 have hl:=q0qv x.2.2.2.2.2.2.2.2.2.2.2.2.2.2.2.2.1 p i
 have hf:=qmq (l:=atR x.2.2.2.2.2.2.2.2.2.2.2.2.2.2.2.2.1 p i) (m:=[((i:Int)+1,())]) (by simp;omega)
 rw [q0tc]
 by_cases hp:(rdP (0,0,0,0,0,0,0,0,0,0,()) x.2.2.2.2.2.2.2.2.2.2.2.2.2.2.2.2.1 i).2.2.2.2.2.2.1=p
 ·simp (disch:=omega) only [evs,hf]
  rw [if_pos hp]
  rfl
 ·simp (disch:=omega) only [evs]
  rw [if_neg hp,List.append_nil]
  rfl
theorem qnt {k:Nat} (hk:K0≤k) (a b:List (Int×Unit)) (ha:a.length≤1048576):q2x k a b=q0i (a=b):=by
 unfold K0 at hk
 unfold q2x
 by_cases hl:a.length=b.length
 case neg=>simp (disch:=omega) only [evs];exact qc ⟨fun z=>z.elim,fun z=>hl (by rw [z])⟩
 simp (disch:=omega) only [evs]
 rw [q3r (n:=a.length) (Q:=True) (fun i=>((i:Int),())) (fun i=>(rdP (0,()) a i).1=(rdP (0,()) b i).1) ?h0 ?hk0 ?hs0 ?he0]
 case h0=>simp
 case hk0=>omega
 case he0=>intro _ rec;simp (disch:=omega) only [evs]
 case hs0=>
  intro i hi _ rec
  simp (disch:=omega) only [evs,g1]
  exact q8m (by grind) _ _
 refine qc ⟨fun z=> ?_,fun z=>⟨fun i _=>by rw [z],trivial⟩⟩
 refine List.ext_getElem hl (fun i h1 h2=> ?_)
 have:=z.1 i h1
 rw [qo h1,qo h2]at this
 have:∀a b:Int×Unit,a.1=b.1→a=b:=fun ⟨a,_⟩ ⟨b,_⟩ h=>by cases h;rfl
 exact this _ _ (by assumption)
theorem q8c {k:Nat} (hk:K0≤k) (x:qu) (p:Int) (l:List (Int×Unit)) (hx:x.2.2.2.2.2.2.2.2.2.2.2.2.2.2.2.2.1.length≤1048576) (hl:l.length≤1048576):q09 k x p l=some (dc (q4f l=atR x.2.2.2.2.2.2.2.2.2.2.2.2.2.2.2.2.1 p x.2.2.2.2.2.2.2.2.2.2.2.2.2.2.2.2.1.length),q4f l,()):=by
 unfold q09;delta W3
 have h1:=q0lp hk x p hx
 have h2:=qnt hk (q4f l) (atR x.2.2.2.2.2.2.2.2.2.2.2.2.2.2.2.2.1 p x.2.2.2.2.2.2.2.2.2.2.2.2.2.2.2.2.1.length) (by rw [qv8];exact hl)
 simp (disch:=omega) only [evs,q0k5 k hl,h1,h2]
def qky (l:List qnw):List (Int×Unit):=l.map fun y=>(y.1,())
theorem q0qr {l:List qnw} {i:Nat} (h:i<l.length):qky (l.take (i+1))=qky (l.take i)++[((rdP (0,0,0,()) l i).1,())]:=by
 rw [q7b (d:=(0,0,0,())) h,qky,List.map_append];rfl
def q0ox (x:qu):Prop:=(0≤x.1∧x.1≤100000)∧q8j x.2.1∧((60≤x.2.2.1∧x.2.2.1≤2000)∧1≤x.2.2.2.1∧x.2.2.2.1≤40)∧qae (x.2.2.2.2.1,x.2.2.2.2.2.1,x.2.2.2.2.2.2.1,x.2.2.2.2.2.2.2.1,())∧q1n (x.2.2.2.2.2.2.2.2.1,x.2.2.2.2.2.2.2.2.2.1,x.2.2.2.2.2.2.2.2.2.2.1,x.2.2.2.2.2.2.2.2.2.2.2.1,())∧q1p (x.2.2.2.2.2.2.2.2.2.2.2.2.1,x.2.2.2.2.2.2.2.2.2.2.2.2.2.1,())∧q5j x.2.2.2.2.2.2.2.2.2.2.2.2.2.2.1∧
 (x.2.2.2.2.2.2.2.2.2.2.2.2.2.2.2.1.length≤20∧∀f∈x.2.2.2.2.2.2.2.2.2.2.2.2.2.2.2.1,qfp x.2.2.2.2.2.2.2.2.2.2.1.length f)∧x.2.2.2.2.2.2.2.2.2.2.2.2.2.2.2.2.1.length≤60∧(∀i,i<x.2.2.2.2.2.2.2.2.2.2.2.2.2.2.2.2.1.length→qv2 x (rdP (0,0,0,0,0,0,0,0,0,0,()) x.2.2.2.2.2.2.2.2.2.2.2.2.2.2.2.2.1 i)∧∀j,j<i→¬((rdP (0,0,0,0,0,0,0,0,0,0,()) x.2.2.2.2.2.2.2.2.2.2.2.2.2.2.2.2.1 j).1=(rdP (0,0,0,0,0,0,0,0,0,0,()) x.2.2.2.2.2.2.2.2.2.2.2.2.2.2.2.2.1 i).1∧(rdP (0,0,0,0,0,0,0,0,0,0,()) x.2.2.2.2.2.2.2.2.2.2.2.2.2.2.2.2.1 j).2.1=(rdP (0,0,0,0,0,0,0,0,0,0,()) x.2.2.2.2.2.2.2.2.2.2.2.2.2.2.2.2.1 i).2.1∧(rdP (0,0,0,0,0,0,0,0,0,0,()) x.2.2.2.2.2.2.2.2.2.2.2.2.2.2.2.2.1 j).2.2.1=(rdP (0,0,0,0,0,0,0,0,0,0,()) x.2.2.2.2.2.2.2.2.2.2.2.2.2.2.2.2.1 i).2.2.1))∧
 q4f (qky x.2.2.2.2.2.2.2.1)=atR x.2.2.2.2.2.2.2.2.2.2.2.2.2.2.2.2.1 1 x.2.2.2.2.2.2.2.2.2.2.2.2.2.2.2.2.1.length∧q4f (nz x.2.2.2.2.2.2.2.2.1)=atR x.2.2.2.2.2.2.2.2.2.2.2.2.2.2.2.2.1 3 x.2.2.2.2.2.2.2.2.2.2.2.2.2.2.2.2.1.length∧q4f (q22 x.2.2.2.2.2.2.2.2.2.2.1)=atR x.2.2.2.2.2.2.2.2.2.2.2.2.2.2.2.2.1 4 x.2.2.2.2.2.2.2.2.2.2.2.2.2.2.2.2.1.length∧q4f (q19 x.2.2.2.2.2.2.2.2.2.2.2.2.2.1)=atR x.2.2.2.2.2.2.2.2.2.2.2.2.2.2.2.2.1 5 x.2.2.2.2.2.2.2.2.2.2.2.2.2.2.2.2.1.length
structure SzT (x:qu):Prop extends SzH x where
 allBags:(nz x.2.2.2.2.2.2.2.2.1).length+(q22 x.2.2.2.2.2.2.2.2.2.2.1).length≤1048576
 allKept:(q19 x.2.2.2.2.2.2.2.2.2.2.2.2.2.1).length≤1048576
theorem q0c7 {k:Nat} (hk:K0≤k) (x:qu) (hs:SzT x):q75 k x=q0i (q0ox x):=by
 have hk':=hk
 unfold K0 at hk
 have hfl:=hs.flights
 have hca:=hs.cases_
 have hit:=hs.items
 have htr:=hs.trays
 have hch:=hs.chutes
 have hla:=hs.lanes
 have hab:=hs.allBags
 have hak:=hs.allKept
 have hchl:(q22 x.2.2.2.2.2.2.2.2.2.2.1).length≤1048576:=by omega
 have hnz:(nz x.2.2.2.2.2.2.2.2.1).length≤1048576:=by omega
 have hbel:(qky x.2.2.2.2.2.2.2.1).length≤1048576:=by simpa [qky]using hit
 unfold q75;delta W0 W2 W3 W4
 have hLo:=qs9 hk' (x.2.2.2.2.2.2.2.2.1,x.2.2.2.2.2.2.2.2.2.1,x.2.2.2.2.2.2.2.2.2.2.1,x.2.2.2.2.2.2.2.2.2.2.2.1,()) htr hch hchl hs.told (by unfold q3o;rw [List.length_append];exact hab)
 have hSt:=qm3 hk' (x.2.2.2.2.2.2.2.2.2.2.2.2.1,x.2.2.2.2.2.2.2.2.2.2.2.2.2.1,()) hak
 have hNo:=q8d hk' x.2.2.2.2.2.2.2.2.2.2.2.2.2.2.1 hs.notes
 have hFl:=qup hk' x
 have hCl:=q0s k htr
 have hA1:=q8c hk' x 1 (qky x.2.2.2.2.2.2.2.1) hca hbel
 have hA3:=q8c hk' x 3 (nz x.2.2.2.2.2.2.2.2.1) hca hnz
 have hA4:=q8c hk' x 4 (q22 x.2.2.2.2.2.2.2.2.2.2.1) hca hchl
 have hA5:=q8c hk' x 5 (q19 x.2.2.2.2.2.2.2.2.2.2.2.2.2.1) hca hak
 have hBi:=qnb hk' (x.2.2.2.2.2.2.2.2.2.2.2.2.1,x.2.2.2.2.2.2.2.2.2.2.2.2.2.1,()) hla hak
 simp (disch:=omega) only [evs,q9s,qkc hk' (x.2.1,()),qor,qik hk',hLo,hSt,hNo,hFl,hCl]
 by_cases hc60:x.2.2.2.2.2.2.2.2.2.2.2.2.2.2.2.2.1.length≤60
 case neg=>
  simp (disch:=omega) only [evs,q0g]
  exact qc ⟨fun z=>z.2.2.2.2.2.2.2.2.elim,fun z=>absurd z.2.2.2.2.2.2.2.2.1 hc60⟩
 simp (disch:=omega) only [evs]
 rw [q1b (n:=x.2.2.2.2.2.2.2.2.2.2.2.2.2.2.2.2.1.length) (r:=q0i False) (e:=q0i (q4f (qky x.2.2.2.2.2.2.2.1)=atR x.2.2.2.2.2.2.2.2.2.2.2.2.2.2.2.2.1 1 x.2.2.2.2.2.2.2.2.2.2.2.2.2.2.2.2.1.length∧q4f (nz x.2.2.2.2.2.2.2.2.1)=atR x.2.2.2.2.2.2.2.2.2.2.2.2.2.2.2.2.1 3 x.2.2.2.2.2.2.2.2.2.2.2.2.2.2.2.2.1.length∧q4f (q22 x.2.2.2.2.2.2.2.2.2.2.1)=atR x.2.2.2.2.2.2.2.2.2.2.2.2.2.2.2.2.1 4 x.2.2.2.2.2.2.2.2.2.2.2.2.2.2.2.2.1.length∧q4f (q19 x.2.2.2.2.2.2.2.2.2.2.2.2.2.1)=atR x.2.2.2.2.2.2.2.2.2.2.2.2.2.2.2.2.1 5 x.2.2.2.2.2.2.2.2.2.2.2.2.2.2.2.2.1.length)) (fun i=>((i:Int),())) (fun i=>qv2 x (rdP (0,0,0,0,0,0,0,0,0,0,()) x.2.2.2.2.2.2.2.2.2.2.2.2.2.2.2.2.1 i)∧∀j,j<i→¬((rdP (0,0,0,0,0,0,0,0,0,0,()) x.2.2.2.2.2.2.2.2.2.2.2.2.2.2.2.2.1 j).1=(rdP (0,0,0,0,0,0,0,0,0,0,()) x.2.2.2.2.2.2.2.2.2.2.2.2.2.2.2.2.1 i).1∧(rdP (0,0,0,0,0,0,0,0,0,0,()) x.2.2.2.2.2.2.2.2.2.2.2.2.2.2.2.2.1 j).2.1=(rdP (0,0,0,0,0,0,0,0,0,0,()) x.2.2.2.2.2.2.2.2.2.2.2.2.2.2.2.2.1 i).2.1∧(rdP (0,0,0,0,0,0,0,0,0,0,()) x.2.2.2.2.2.2.2.2.2.2.2.2.2.2.2.2.1 j).2.2.1=(rdP (0,0,0,0,0,0,0,0,0,0,()) x.2.2.2.2.2.2.2.2.2.2.2.2.2.2.2.2.1 i).2.2.1)) ?h0 ?hs0 ?he0 ?hk0]
 case h0=>simp
 case hk0=>omega
 case hs0=>
  intro i hi _ rec
  have h1:=q0br k x (rdP (0,0,0,0,0,0,0,0,0,0,()) x.2.2.2.2.2.2.2.2.2.2.2.2.2.2.2.2.1 i) hfl
  have h2:=qs1 hk' (x.2.2.2.2.2.2.2.2.2.2.2.2.2.2.2.2.1.take i) ((rdP (0,0,0,0,0,0,0,0,0,0,()) x.2.2.2.2.2.2.2.2.2.2.2.2.2.2.2.2.1 i).1,(rdP (0,0,0,0,0,0,0,0,0,0,()) x.2.2.2.2.2.2.2.2.2.2.2.2.2.2.2.2.1 i).2.1,(rdP (0,0,0,0,0,0,0,0,0,0,()) x.2.2.2.2.2.2.2.2.2.2.2.2.2.2.2.2.1 i).2.2.1,()) (by rw [List.length_take];omega)
  simp (disch:=omega) only [evs,h1,h2]
  rw [q010 (d:=(0,0,0,0,0,0,0,0,0,0,())) (by omega)]
  simp only [g1,g2]
  exact qko (by grind) (fun _=>rfl)
 case he0=>
  intro _ rec
  simp (disch:=omega) only [evs]
  rw [q08 (n:=x.2.2.2.2.2.2.2.1.length) (r:=q0i (q4f (qky x.2.2.2.2.2.2.2.1)=atR x.2.2.2.2.2.2.2.2.2.2.2.2.2.2.2.2.1 1 x.2.2.2.2.2.2.2.2.2.2.2.2.2.2.2.2.1.length∧q4f (nz x.2.2.2.2.2.2.2.2.1)=atR x.2.2.2.2.2.2.2.2.2.2.2.2.2.2.2.2.1 3 x.2.2.2.2.2.2.2.2.2.2.2.2.2.2.2.2.1.length∧q4f (q22 x.2.2.2.2.2.2.2.2.2.2.1)=atR x.2.2.2.2.2.2.2.2.2.2.2.2.2.2.2.2.1 4 x.2.2.2.2.2.2.2.2.2.2.2.2.2.2.2.2.1.length∧q4f (q19 x.2.2.2.2.2.2.2.2.2.2.2.2.2.1)=atR x.2.2.2.2.2.2.2.2.2.2.2.2.2.2.2.2.1 5 x.2.2.2.2.2.2.2.2.2.2.2.2.2.2.2.2.1.length)) (fun i=>(qky (x.2.2.2.2.2.2.2.1.take i),(i:Int),())) ?h1 ?hs1 ?he1 ?hk1]
  case h1=>simp [qky]
  case hk1=>omega
  case hs1=>
   intro i hi rec
   have hf:=qmq (l:=qky (x.2.2.2.2.2.2.2.1.take i)) (m:=[((rdP (0,0,0,()) x.2.2.2.2.2.2.2.1 i).1,())]) (by simp [qky];omega)
   simp (disch:=omega) only [evs,hf]
   rw [q0qr hi]
   rfl
  case he1=>
   intro rec
   simp (disch:=omega) only [evs,List.take_length]
   rw [q08 (n:=x.2.2.2.2.2.2.2.2.2.2.1.length) (r:=q0i (q4f (qky x.2.2.2.2.2.2.2.1)=atR x.2.2.2.2.2.2.2.2.2.2.2.2.2.2.2.2.1 1 x.2.2.2.2.2.2.2.2.2.2.2.2.2.2.2.2.1.length∧q4f (nz x.2.2.2.2.2.2.2.2.1)=atR x.2.2.2.2.2.2.2.2.2.2.2.2.2.2.2.2.1 3 x.2.2.2.2.2.2.2.2.2.2.2.2.2.2.2.2.1.length∧q4f (q22 x.2.2.2.2.2.2.2.2.2.2.1)=atR x.2.2.2.2.2.2.2.2.2.2.2.2.2.2.2.2.1 4 x.2.2.2.2.2.2.2.2.2.2.2.2.2.2.2.2.1.length∧q4f (q19 x.2.2.2.2.2.2.2.2.2.2.2.2.2.1)=atR x.2.2.2.2.2.2.2.2.2.2.2.2.2.2.2.2.1 5 x.2.2.2.2.2.2.2.2.2.2.2.2.2.2.2.2.1.length)) (fun i=>(q22 (x.2.2.2.2.2.2.2.2.2.2.1.take i),(i:Int),())) ?h2 ?hs2 ?he2 ?hk2]
   case h2=>simp [q22]
   case hk2=>omega
   case hs2=>
    intro i hi rec
    have h1:=q0e9 (l:=x.2.2.2.2.2.2.2.2.2.2.1) (i:=i+1)
    rw [qry hi,List.length_append]at h1
    have hf:=qmq (l:=q22 (x.2.2.2.2.2.2.2.2.2.2.1.take i)) (m:=(rdP (0,0,[],()) x.2.2.2.2.2.2.2.2.2.2.1 i).2.2.1) (by omega)
    simp (disch:=omega) only [evs,hf]
    rw [qry hi]
    rfl
   case he2=>
    intro rec
    simp (disch:=omega) only [evs,List.take_length]
    refine q0pf (F2:= ?F2) hk' x.2.2.2.2.2.2.2.2.1 htr (fun c=>q0i (q4f (qky x.2.2.2.2.2.2.2.1)=atR x.2.2.2.2.2.2.2.2.2.2.2.2.2.2.2.2.1 1 x.2.2.2.2.2.2.2.2.2.2.2.2.2.2.2.2.1.length∧q4f c=atR x.2.2.2.2.2.2.2.2.2.2.2.2.2.2.2.2.1 3 x.2.2.2.2.2.2.2.2.2.2.2.2.2.2.2.2.1.length∧q4f (q22 x.2.2.2.2.2.2.2.2.2.2.1)=atR x.2.2.2.2.2.2.2.2.2.2.2.2.2.2.2.2.1 4 x.2.2.2.2.2.2.2.2.2.2.2.2.2.2.2.2.1.length∧q4f (q19 x.2.2.2.2.2.2.2.2.2.2.2.2.2.1)=atR x.2.2.2.2.2.2.2.2.2.2.2.2.2.2.2.2.1 5 x.2.2.2.2.2.2.2.2.2.2.2.2.2.2.2.2.1.length)) ?f1 ?e1 ?f2 ?e2
    case f1=>intro i rec hi;simp (disch:=omega) only [evs];rfl
    case e1=>
     intro rec
     have h3:=q8c hk' x 3 x.2.2.2.2.2.2.2.2.1 hca htr
     simp (disch:=omega) only [evs,hA1,h3,hA4,hBi,hA5,q0g]
    case f2=>
     intro c i j rec hc hij hj
     by_cases hz:(rdP (0,()) c j).1=0
     ·simp (disch:=omega) only [evs];rfl
     ·simp (disch:=omega) only [evs];rfl
    case e2=>
     intro c i rec hc hi
     have hd2:(c.take i++List.replicate (c.drop i).length ((0:Int),())).length=c.length:=by simp;omega
     have h3:=q8c hk' x 3 (c.take i) hca (by rw [List.length_take];omega)
     simp (disch:=omega) only [evs,hd2]
     rw [List.take_left' (by rw [List.length_take];omega)]
     simp (disch:=omega) only [evs,hA1,h3,hA4,hBi,hA5,q0g]
 simp (disch:=omega) only [evs,q0g]
 exact qc (by unfold q0ox;grind)
end Go.Proofs.YtpmjopbgccajgaaGreat.Eng
namespace Go.Proofs.YtpmjopbgccajgaaGreat.Eng
theorem q0la {l:List q45} {p:Int} {n:Nat} {b:Int×Unit}:b∈atR l p n↔∃i,i<n∧(rdP (0,0,0,0,0,0,0,0,0,0,()) l i).2.2.2.2.2.2.1=p∧b=((i:Int)+1,()):=by
 unfold atR
 simp only [List.mem_map,List.mem_filter,List.mem_range,decide_eq_true_eq]
 exact⟨fun ⟨i,⟨h1,h2⟩,h3⟩=>⟨i,h1,h2,h3.symm⟩,fun ⟨i,h1,h2,h3⟩=>⟨i,⟨h1,h2⟩,h3.symm⟩⟩
theorem q0qw (l:List q45) (p:Int) (n:Nat):(atR l p n).Pairwise (fun a b=>a.1<b.1):=by
 unfold atR
 rw [List.pairwise_map]
 exact(List.Pairwise.filter _ List.pairwise_lt_range).imp (fun h=>by simp only;omega)
theorem q0ai {l:List (Int×Unit)} {cs:List q45} {p:Int} (hn:l.Nodup) (h1:∀b∈l,1≤b.1):q4f l=atR cs p cs.length↔(∀b∈l,b.1≤cs.length)∧∀i,i<cs.length→((((i:Int)+1,())∈l)↔(rdP (0,0,0,0,0,0,0,0,0,0,()) cs i).2.2.2.2.2.2.1=p):=by
 constructor
 ·intro h
  have hm:∀b,b∈l↔∃i,i<cs.length∧(rdP (0,0,0,0,0,0,0,0,0,0,()) cs i).2.2.2.2.2.2.1=p∧b=((i:Int)+1,()):=fun b=>by
   rw [←q0la,←h,(qmc l).mem_iff]
  refine⟨fun b hb=> ?_,fun i hi=> ?_⟩
  ·obtain⟨i,hi,_,e⟩:=(hm b).1 hb
   rw [e];simp only;omega
  ·rw [hm]
   constructor
   ·rintro ⟨j,hj,hp,e⟩
    have:i=j:=by have:=congrArg Prod.fst e;simp only at this;omega
    rw [this];exact hp
   ·intro hp;exact⟨i,hi,hp,rfl⟩
 ·rintro ⟨h2,h3⟩
  have hs:=qv7 l
  have ha:=q0qw cs p cs.length
  have hp:(q4f l).Perm (atR cs p cs.length):=by
   rw [List.perm_ext_iff_of_nodup ((qmc l).nodup_iff.2 hn) (ha.imp (fun h e=>by rw [e]at h;omega))]
   intro b
   rw [(qmc l).mem_iff,q0la]
   constructor
   ·intro hb
    have:=h1 b hb
    have:=h2 b hb
    have e:b=(((b.1-1).toNat:Int)+1,()):=by
     obtain⟨b,u⟩:=b
     simp only at*
     congr 1;omega
    refine⟨(b.1-1).toNat,by omega,?_,e⟩
    rw [←h3 _ (by omega),←e];exact hb
   ·rintro ⟨i,hi,hp,e⟩
    rw [e,h3 i hi];exact hp
  refine hp.eq_of_pairwise (le:=fun a b=>a.1≤b.1) (fun a b _ _ h1 h2=> ?_) hs (ha.imp (fun h=>by omega))
  obtain⟨a,_⟩:=a
  obtain⟨b,_⟩:=b
  simp only at h1 h2
  congr 1;omega
theorem q0mb {x:qu} {e:q45}:qv2 x e↔TagP (e.1,e.2.1,e.2.2.1,())∧(1≤e.2.2.2.1∧e.2.2.2.1≤x.2.2.2.2.2.2.2.2.2.2.2.2.2.2.2.1.length)∧(1≤e.2.2.2.2.1∧e.2.2.2.2.1≤60)∧(0≤e.2.2.2.2.2.1∧e.2.2.2.2.2.1≤5)∧(1≤e.2.2.2.2.2.2.1∧e.2.2.2.2.2.2.1≤7)∧
 (if e.2.2.2.2.2.2.1=1 then e.2.2.2.2.2.2.2.1=0∧e.2.2.2.2.2.2.2.2.1=0∧e.2.2.2.2.2.2.2.2.2.1=0 else q3y (e.2.2.2.2.2.2.2.1,e.2.2.2.2.2.2.2.2.1,e.2.2.2.2.2.2.2.2.2.1,())∧e.2.2.2.2.2.2.2.2.1≤x.1)∧
 (e.2.2.2.2.2.2.2.2.2.1≠1→e.2.2.2.2.2.2.1≠3∧e.2.2.2.2.2.2.1≠4∧e.2.2.2.2.2.2.1≠5∧e.2.2.2.2.2.2.1≠6)∧¬(e.2.2.2.2.2.2.1=2∧e.2.2.2.2.2.2.2.2.2.1=2)∧(e.2.2.2.2.2.2.1=6→(rdP (0,0,0,false,0,()) x.2.2.2.2.2.2.2.2.2.2.2.2.2.2.2.1 (q6 (e.2.2.2.1-1))).2.2.2.1=true):=by
 unfold qv2
 generalize (rdP (0,0,0,false,0,()) x.2.2.2.2.2.2.2.2.2.2.2.2.2.2.2.1 (q6 (e.2.2.2.1-1))).2.2.2.1=pF
 generalize TagP (e.1,e.2.1,e.2.2.1,())=pG
 generalize q3y (e.2.2.2.2.2.2.2.1,e.2.2.2.2.2.2.2.2.1,e.2.2.2.2.2.2.2.2.2.1,())=pH
 generalize e.2.2.2.2.2.2.1=p
 generalize e.2.2.2.2.2.2.2.2.2.1=v
 by_cases h1:p=1
 ·subst h1;simp
 by_cases h2:p=2
 ·subst h2;simp
 by_cases h3:p=3
 ·subst h3;simp
 by_cases h4:p=4
 ·subst h4;simp
 by_cases h5:p=5
 ·subst h5;simp
 by_cases h6:p=6
 ·subst h6;simp
 simp [h1,h2,h3,h4,h5,h6];grind
theorem q0lt (x:qu):q0ox x↔q1y x:=by
 unfold q0ox q1y
 refine and_congr_right fun _=>and_congr_right fun _=>and_congr_right fun _=>and_congr_right fun hB=>and_congr_right fun hL=>and_congr_right fun hS=>and_congr_right fun _=> ?_
 have b1:(qky x.2.2.2.2.2.2.2.1).Nodup:=by
  unfold qky
  rw [q9n (d:=(0,0,0,()))]
  intro i hi j hj e
  exact(hB.2.2.2 i hi).2.2.2.1 j hj (Prod.mk.injEq _ _ _ _▸e:_∧_).1
 have b2:∀b∈qky x.2.2.2.2.2.2.2.1,1≤b.1:=by
  intro b hb
  obtain⟨y,hy,e⟩:=List.mem_map.1 hb
  obtain⟨i,hi,e2⟩:=List.getElem_of_mem hy
  have:=(hB.2.2.2 i hi).1
  rw [qo hi,e2]at this
  rw [←e];exact this
 have hnd:(nz x.2.2.2.2.2.2.2.2.1++q22 x.2.2.2.2.2.2.2.2.2.2.1).Nodup:=hL.2.2.2.2.2.2.2.1
 have hge:∀b∈nz x.2.2.2.2.2.2.2.2.1++q22 x.2.2.2.2.2.2.2.2.2.2.1,1≤b.1:=hL.2.2.2.2.2.2.1
 have k1:(q19 x.2.2.2.2.2.2.2.2.2.2.2.2.2.1).Nodup:=hS.2.2.2
 have k2:∀b∈q19 x.2.2.2.2.2.2.2.2.2.2.2.2.2.1,1≤b.1:=by
  intro b hb
  obtain⟨l,hl,h⟩:=List.mem_flatMap.1 hb
  obtain⟨y,hy,e⟩:=List.mem_map.1 h
  have:=((hS.2.2.1 l hl).2 y hy).1
  rw [←e];exact this
 obtain⟨t1,t2,_⟩:=List.nodup_append.1 hnd
 rw [q0ai b1 b2,q0ai t1 (fun b hb=>hge b (List.mem_append_left _ hb)),q0ai t2 (fun b hb=>hge b (List.mem_append_right _ hb)),q0ai k1 k2]
 have m1:∀a:Int,((a,())∈qky x.2.2.2.2.2.2.2.1)↔∃y,y∈x.2.2.2.2.2.2.2.1∧y.1=a:=fun a=>by
  unfold qky
  rw [List.mem_map]
  exact⟨fun ⟨y,h1,h2⟩=>⟨y,h1,(Prod.mk.injEq _ _ _ _▸h2:_∧_).1⟩,fun ⟨y,h1,h2⟩=>⟨y,h1,by rw [h2]⟩⟩
 have m3:∀i:Nat,((((i:Int)+1,())∈nz x.2.2.2.2.2.2.2.2.1))↔((i:Int)+1,())∈x.2.2.2.2.2.2.2.2.1:=fun i=>by
  unfold nz
  rw [List.mem_filter]
  exact⟨fun h=>h.1,fun h=>⟨h,by simp only [decide_eq_true_eq];omega⟩⟩
 have m4:∀a:Int,((a,())∈q22 x.2.2.2.2.2.2.2.2.2.2.1)↔∃c,c∈x.2.2.2.2.2.2.2.2.2.2.1∧(a,())∈c.2.2.1:=fun a=>by
  unfold q22
  rw [List.mem_flatMap]
 have m5:∀a:Int,((a,())∈q19 x.2.2.2.2.2.2.2.2.2.2.2.2.2.1)↔∃l,l∈x.2.2.2.2.2.2.2.2.2.2.2.2.2.1∧∃y,y∈l.1∧y.1=a:=fun a=>by
  unfold q19
  rw [List.mem_flatMap]
  refine exists_congr fun l=>and_congr_right fun _=> ?_
  unfold q6q
  rw [List.mem_map]
  exact⟨fun ⟨y,h1,h2⟩=>⟨y,h1,(Prod.mk.injEq _ _ _ _▸h2:_∧_).1⟩,fun ⟨y,h1,h2⟩=>⟨y,h1,by rw [h2]⟩⟩
 have n1:(∀b∈qky x.2.2.2.2.2.2.2.1,b.1≤x.2.2.2.2.2.2.2.2.2.2.2.2.2.2.2.2.1.length)↔∀y∈x.2.2.2.2.2.2.2.1,y.1≤x.2.2.2.2.2.2.2.2.2.2.2.2.2.2.2.2.1.length:=by
  unfold qky
  rw [List.forall_mem_map]
 have n3:(∀b∈nz x.2.2.2.2.2.2.2.2.1,b.1≤x.2.2.2.2.2.2.2.2.2.2.2.2.2.2.2.2.1.length)↔∀y∈x.2.2.2.2.2.2.2.2.1,y.1≤x.2.2.2.2.2.2.2.2.2.2.2.2.2.2.2.2.1.length:=by
  unfold nz
  refine⟨fun h y hy=> ?_,fun h y hy=>h y (List.mem_filter.1 hy).1⟩
  by_cases e:y.1=0
  ·rw [e];omega
  ·exact h y (List.mem_filter.2 ⟨hy,by simpa using e⟩)
 have n4:(∀b∈q22 x.2.2.2.2.2.2.2.2.2.2.1,b.1≤x.2.2.2.2.2.2.2.2.2.2.2.2.2.2.2.2.1.length)↔∀c∈x.2.2.2.2.2.2.2.2.2.2.1,∀y∈c.2.2.1,y.1≤x.2.2.2.2.2.2.2.2.2.2.2.2.2.2.2.2.1.length:=by
  unfold q22
  exact⟨fun h c hc y hy=>h y (List.mem_flatMap.2 ⟨c,hc,hy⟩),fun h y hy=>let ⟨c,hc,hy⟩:=List.mem_flatMap.1 hy;h c hc y hy⟩
 have n5:(∀b∈q19 x.2.2.2.2.2.2.2.2.2.2.2.2.2.1,b.1≤x.2.2.2.2.2.2.2.2.2.2.2.2.2.2.2.2.1.length)↔∀l∈x.2.2.2.2.2.2.2.2.2.2.2.2.2.1,∀y∈l.1,y.1≤x.2.2.2.2.2.2.2.2.2.2.2.2.2.2.2.2.1.length:=by
  unfold q19
  refine⟨fun h c hc y hy=>h (y.1,()) (List.mem_flatMap.2 ⟨c,hc,List.mem_map.2 ⟨y,hy,rfl⟩⟩),fun h y hy=> ?_⟩
  obtain⟨c,hc,hy⟩:=List.mem_flatMap.1 hy
  obtain⟨z,hz,e⟩:=List.mem_map.1 hy
  rw [←e];exact h c hc z hz
 rw [n1,n3,n4,n5]
 simp only [m1,m3,m4,m5,q0mb,q08o]
 constructor
 ·rintro ⟨⟨h1,h2⟩,h3,h4,⟨h5,h6⟩,⟨h7,h8⟩,⟨h9,h10⟩,h11,h12⟩
  refine⟨h1,h3,h2,fun i hi=> ?_,h5,h7,h9,h11⟩
  obtain⟨⟨c1,c2,c3,c4,c5,c6,c7,c8,c9⟩,c10⟩:=h4 i hi
  exact⟨c1,c2,c3,c4,c5,c10,c6,c7,c8,c9,h6 i hi,h8 i hi,h10 i hi,h12 i hi⟩
 ·rintro ⟨h1,h3,h2,h4,h5,h7,h9,h11⟩
  refine⟨⟨h1,h2⟩,h3,fun i hi=> ?_,⟨h5,fun i hi=>(h4 i hi).2.2.2.2.2.2.2.2.2.2.1⟩,⟨h7,fun i hi=>(h4 i hi).2.2.2.2.2.2.2.2.2.2.2.1⟩,⟨h9,fun i hi=>(h4 i hi).2.2.2.2.2.2.2.2.2.2.2.2.1⟩,⟨h11,fun i hi=>(h4 i hi).2.2.2.2.2.2.2.2.2.2.2.2.2⟩⟩
  obtain⟨c1,c2,c3,c4,c5,c10,c6,c7,c8,c9,_⟩:=h4 i hi
  exact⟨⟨c1,c2,c3,c4,c5,c6,c7,c8,c9⟩,c10⟩
end Go.Proofs.YtpmjopbgccajgaaGreat.Eng
