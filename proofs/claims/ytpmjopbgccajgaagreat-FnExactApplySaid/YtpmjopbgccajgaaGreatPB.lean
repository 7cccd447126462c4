/- Pure laws: PHar, PHarH, PSz. No condition. -/
import Derived.Test.YtpmjopbgccajgaaGreatPA
import Derived.Test.YtpmjopbgccajgaaGreatD1
import Derived.Test.YtpmjopbgccajgaaGreatEngD
set_option linter.unusedVariables false
set_option linter.unusedSimpArgs false
namespace Go.Proofs.YtpmjopbgccajgaaGreat.Eng
def Szr (f:Option (Int×Unit)) (n:Int) (t:Nat):Prop:=∃r:Int,f=some (r,())∧((r= -1∧n<t)∨(r=n-t∧0≤r))
theorem qp4 {α:Type} {l:List α} {n:Int} (hn:0≤n∧n≤1048576) (hl:l.length≤9223372036854775807):Szr (br (ltI (qp .i64 n (ln l)) 0) (some (-1,())) (some (qp .i64 n (ln l),()))) n l.length:=by
 rw [q31,qi (by omega)]
 by_cases h:n-(l.length:Int)<0
 ·exact⟨-1,by simp (disch:=omega) only [evs],.inl ⟨rfl,by omega⟩⟩
 ·exact⟨n-l.length,by simp (disch:=omega) only [evs],.inr ⟨rfl,by omega⟩⟩
theorem qir {f:Option (Int×Unit)} {g:Int×Unit→Option (Int×Unit)} {n:Int} {s t:Nat} (hf:Szr f n s) (hg:∀m:Int,0≤m→m≤n→m=n-s→Szr (g (m,())) m t):Szr (bnd f fun y=>br (ltI y.1 0) (some (-1,())) (g y)) n (s+t):=by
 obtain⟨r,e,h|⟨h1,h2⟩⟩:=hf
 ·rw [e,h.1]
  exact⟨-1,by simp (disch:=omega) only [evs],.inl ⟨rfl,by omega⟩⟩
 ·obtain⟨r',e',h'⟩:=hg r h2 (by omega) h1
  refine⟨r',?_,?_⟩
  ·rw [e];simp (disch:=omega) only [evs];exact e'
  ·rcases h' with⟨h3,h4⟩|⟨h3,h4⟩
   ·exact .inl ⟨h3,by omega⟩
   ·exact .inr ⟨by omega,h4⟩
theorem q0ff {n:Int} (h:0≤n):Szr (some (n,())) n 0:=⟨n,rfl,.inr ⟨by omega,h⟩⟩
theorem q09q {α:Type} {d:α} {k:Nat} (hk:K0≤k) {l:List α} {n:Int} (hn:0≤n∧n≤1048576) (hl:l.length≤9223372036854775807) (T:List α→Nat) (h0:T []=0) (s:α→Nat) (hT:∀i,i<l.length→T (l.take (i+1))=T (l.take i)+s (rdP d l i)) {F:(Int×Int×Unit→Option (Int×Unit))→Int×Int×Unit→Option (Int×Unit)}
  (hF:∀(i:Nat) (m:Int) rec,i<l.length→l.length≤1048576→0≤m∧m≤1048576→F rec (m,(i:Int),())=br (dc (0≤m-s (rdP d l i))) (rec (m-s (rdP d l i),((i+1:Nat):Int),())) (some (-1,()))) (hE:∀(m:Int) rec,F rec (m,(l.length:Int),())=some (m,())):
  Szr (br (ltI (qp .i64 n (ln l)) 0) (some (-1,())) (qh F k (qp .i64 n (ln l),0,()))) n (l.length+T l):=by
 unfold K0 at hk
 rw [q31,qi (by omega)]
 by_cases h:n-(l.length:Int)<0
 ·exact⟨-1,by simp (disch:=omega) only [evs],.inl ⟨rfl,by omega⟩⟩
 have hl2:l.length≤1048576:=by omega
 have hmono:∀i,i≤l.length→T (l.take i)≤T l:=by
  have:∀m i,i+m=l.length→T (l.take i)≤T l:=by
   intro m
   induction m with
   |zero=>intro i e;rw [show i=l.length by omega,List.take_length];exact Nat.le_refl _
   |succ m ih=>
    intro i e
    have:=ih (i+1) (by omega)
    rw [hT i (by omega)]at this
    omega
  exact fun i hi=>this (l.length-i) i (by omega)
 have hb:∀i,i≤l.length→(∀j,j<i→0≤n-l.length-T (l.take (j+1)))→0≤n-l.length-(T (l.take i):Int):=by
  intro i hi hp
  cases i with
  |zero=>rw [List.take_zero,h0];omega
  |succ i=>exact hp i (by omega)
 have e:qh F k (n-(l.length:Int),0,())=br (dc (∀i,i<l.length→0≤n-l.length-(T (l.take (i+1)):Int))) (some (n-l.length-(T l:Int),())) (some (-1,())):=by
  refine q1b (n:=l.length) (fun i=>(n-l.length-(T (l.take i):Int),(i:Int),())) (fun i=>0≤n-l.length-(T (l.take (i+1)):Int)) ?_ ?_ ?_ (by omega)
  ·simp [h0]
  ·intro i hi hp rec
   have:=hb i (by omega) hp
   rw [hF i _ rec hi hl2 ⟨this,by omega⟩,hT i hi]
   refine qko (by omega) (fun _=> ?_)
   congr 2
   omega
  ·intro _ rec
   rw [List.take_length];exact hE _ _
 simp (disch:=omega) only [evs,e]
 by_cases hall:∀i,i<l.length→0≤n-l.length-(T (l.take (i+1)):Int)
 ·have:=hb _ (Nat.le_refl _) hall
  rw [List.take_length]at this
  exact⟨_,q8 hall _ _,.inr ⟨by omega,this⟩⟩
 ·refine⟨-1,qa hall _ _,.inl ⟨rfl,?_⟩⟩
  obtain⟨i,h1⟩:=Classical.not_forall.1 hall
  obtain⟨h2,h3⟩:=Classical.not_imp.1 h1
  have:=hmono (i+1) (by omega)
  omega
theorem qmv {α:Type} {d z:α} {k:Nat} (hk:K0≤k) (l:List α) (hl:l.length≤1048576) {F:(List α×Int×Unit→Option (List α×Unit))→List α×Int×Unit→Option (List α×Unit)}
  (hF:∀(i:Nat) (c:List α) rec,i<l.length→c.length=l.length→F rec (c,(i:Int),())=rec (c.set i (rdP d l i),((i+1:Nat):Int),())) (hE:∀c rec,F rec (c,(l.length:Int),())=some (c,())):qh F k (List.replicate l.length z,0,())=some (l,()):=by
 unfold K0 at hk
 refine q08 (n:=l.length) (fun i=>(l.take i++List.replicate (l.length-i) z,(i:Int),())) (by simp) (fun i hi rec=> ?_) (fun rec=> ?_) (by omega)
 ·rw [hF i _ rec hi (by simp;omega)]
  have:(l.take i++List.replicate (l.length-i) z).set i (rdP d l i)=l.take (i+1)++List.replicate (l.length-(i+1)) z:=by
   rw [List.set_append_right _ _ (by rw [List.length_take];omega),List.length_take,Nat.min_eq_left (by omega),Nat.sub_self,q7b (d:=d) hi,List.append_assoc]
   congr 1
   rw [show l.length-i=(l.length-(i+1))+1 by omega,List.replicate_succ]
   rfl
  rw [this]
 ·rw [hE,List.take_length,Nat.sub_self]
  simp
theorem qne {k:Nat} (hk:K0≤k) {n:Nat} (hn:n≤1048576) {F:(Int×Unit→Option (Bool×Unit))→Int×Unit→Option (Bool×Unit)} (hF:∀(i:Nat) rec,i<n→F rec ((i:Int),())=rec (((i+1:Nat):Int),())) (hE:∀rec,F rec ((n:Int),())=q0i True):qh F k (0,())=q0i True:=by
 unfold K0 at hk
 exact q08 (n:=n) (fun i=>((i:Int),())) (by simp) (fun i hi rec=>hF i rec hi) hE (by omega)
end Go.Proofs.YtpmjopbgccajgaaGreat.Eng
namespace Go.Proofs.YtpmjopbgccajgaaGreat.Eng
theorem qib {k:Nat} (hk:K0≤k) (l:List (Int×Unit)) (hl:l.length≤1048576):q5a k l=some (l,()):=by
 unfold q5a
 have hf:=q2o (n:=l.length) (by omega)
 simp (disch:=omega) only [evs,hf]
 refine qmv (d:=(0,())) hk l hl (fun i c rec hi hc=> ?_) (fun c rec=>by simp (disch:=omega) only [evs])
 simp (disch:=omega) only [evs,hc]
 rfl
theorem qih {k:Nat} (hk:K0≤k) (l:List (Int×Unit)) (hl:l.length≤1048576):q5d k l l=q0i True:=by
 unfold q5d
 simp (disch:=omega) only [evs]
 refine qne hk hl (fun i rec hi=> ?_) (fun rec=>by simp (disch:=omega) only [evs])
 simp (disch:=omega) only [evs,]
 rfl
theorem q01b (k:Nat) (x:Int×Int×Unit):qd1 k x=some (x,()):=rfl
theorem q02c (k:Nat) (x:Int×Int×Unit):q93 k x x=q0i True:=by
 unfold q93
 skip
 simp (disch:=omega) only [evs,iff_self]
theorem q0b2 (k:Nat) (x:qnw):qia k x=some (x,()):=rfl
theorem q0bg (k:Nat) (x:qnw):qdt k x x=q0i True:=by
 unfold qdt
 skip
 simp (disch:=omega) only [evs,iff_self]
theorem q0b1 (k:Nat) (x:qkz):qi9 k x=some (x,()):=rfl
theorem q0bf (k:Nat) (x:qkz):qds k x x=q0i True:=by
 unfold qds
 skip
 simp (disch:=omega) only [evs,iff_self]
theorem q0az (k:Nat) (x:q0a):qcz k x=some (x,()):=rfl
theorem q0bd (k:Nat) (x:q0a):qdq k x x=q0i True:=by
 unfold qdq
 skip
 simp (disch:=omega) only [evs,iff_self]
theorem q01h (k:Nat) (x:qad):qd3 k x=some (x,()):=rfl
theorem q02i (k:Nat) (x:qad):q95 k x x=q0i True:=by
 unfold q95
 rw [quy x.2.2.2.1]
 simp (disch:=omega) only [evs,iff_self]
theorem q0e2 (k:Nat) (x:Int×Int×Int×Unit):qgg k x x=q0i True:=by
 unfold qgg
 simp (disch:=omega) only [evs,iff_self]
theorem q028 (k:Nat) (x:Int×Int×Int×Unit):q91 k x x=q0i True:=by
 unfold q91
 simp (disch:=omega) only [evs,iff_self]
theorem q0b4 (k:Nat) (x:q45):qic k x=some (x,()):=rfl
theorem q0bh (k:Nat) (x:q45):qdv k x x=q0i True:=by
 unfold qdv;delta W2
 simp (disch:=omega) only [evs,q0e2,q028]
theorem q05r {k:Nat} (hk:K0≤k) (l:List (qnw)) (hl:l.length≤1048576):qao k l=some (l,()):=by
 unfold qao;delta W2
 have hf:=q2o (n:=l.length) (by omega)
 simp (disch:=omega) only [evs,hf]
 refine qmv (d:=(0,0,0,())) hk l hl (fun i c rec hi hc=> ?_) (fun c rec=>by simp (disch:=omega) only [evs])
 simp (disch:=omega) only [evs,hc,q0b2 k]
 rfl
theorem q06v {k:Nat} (hk:K0≤k) (l:List (qnw)) (hl:l.length≤1048576):qaw k l l=q0i True:=by
 unfold qaw;delta W2
 simp (disch:=omega) only [evs]
 refine qne hk hl (fun i rec hi=> ?_) (fun rec=>by simp (disch:=omega) only [evs])
 simp (disch:=omega) only [evs,q0bg k]
 rfl
theorem q05o {k:Nat} (hk:K0≤k) (l:List (qkz)) (hl:l.length≤1048576):qan k l=some (l,()):=by
 unfold qan
 have hf:=q2o (n:=l.length) (by omega)
 simp (disch:=omega) only [evs,hf]
 refine qmv (d:=(0,0,())) hk l hl (fun i c rec hi hc=> ?_) (fun c rec=>by simp (disch:=omega) only [evs])
 simp (disch:=omega) only [evs,hc,q0b1 k]
 rfl
theorem q06s {k:Nat} (hk:K0≤k) (l:List (qkz)) (hl:l.length≤1048576):qav k l l=q0i True:=by
 unfold qav
 simp (disch:=omega) only [evs]
 refine qne hk hl (fun i rec hi=> ?_) (fun rec=>by simp (disch:=omega) only [evs])
 simp (disch:=omega) only [evs,q0bf k]
 rfl
theorem q05k {k:Nat} (hk:K0≤k) (l:List (q0a)) (hl:l.length≤1048576):qam k l=some (l,()):=by
 unfold qam;delta W1
 have hf:=q2o (n:=l.length) (by omega)
 simp (disch:=omega) only [evs,hf]
 refine qmv (d:=(0,0,0,0,0,())) hk l hl (fun i c rec hi hc=> ?_) (fun c rec=>by simp (disch:=omega) only [evs])
 simp (disch:=omega) only [evs,hc,q0az k]
 rfl
theorem q06n {k:Nat} (hk:K0≤k) (l:List (q0a)) (hl:l.length≤1048576):qau k l l=q0i True:=by
 unfold qau;delta W1
 simp (disch:=omega) only [evs]
 refine qne hk hl (fun i rec hi=> ?_) (fun rec=>by simp (disch:=omega) only [evs])
 simp (disch:=omega) only [evs,q0bd k]
 rfl
theorem qwp {k:Nat} (hk:K0≤k) (l:List (qad)) (hl:l.length≤1048576):q7j k l=some (l,()):=by
 unfold q7j;delta W1
 have hf:=q2o (n:=l.length) (by omega)
 simp (disch:=omega) only [evs,hf]
 refine qmv (d:=(0,0,0,false,0,())) hk l hl (fun i c rec hi hc=> ?_) (fun c rec=>by simp (disch:=omega) only [evs])
 simp (disch:=omega) only [evs,hc,q01h k]
 rfl
theorem qxt {k:Nat} (hk:K0≤k) (l:List (qad)) (hl:l.length≤1048576):q7u k l l=q0i True:=by
 unfold q7u;delta W1
 simp (disch:=omega) only [evs]
 refine qne hk hl (fun i rec hi=> ?_) (fun rec=>by simp (disch:=omega) only [evs])
 simp (disch:=omega) only [evs,q02i k]
 rfl
theorem q05y {k:Nat} (hk:K0≤k) (l:List (q45)) (hl:l.length≤1048576):qaq k l=some (l,()):=by
 unfold qaq;delta W4
 have hf:=q2o (n:=l.length) (by omega)
 simp (disch:=omega) only [evs,hf]
 refine qmv (d:=(0,0,0,0,0,0,0,0,0,0,())) hk l hl (fun i c rec hi hc=> ?_) (fun c rec=>by simp (disch:=omega) only [evs])
 simp (disch:=omega) only [evs,hc,q0b4 k]
 rfl
theorem q072 {k:Nat} (hk:K0≤k) (l:List (q45)) (hl:l.length≤1048576):qay k l l=q0i True:=by
 unfold qay;delta W4
 simp (disch:=omega) only [evs]
 refine qne hk hl (fun i rec hi=> ?_) (fun rec=>by simp (disch:=omega) only [evs])
 simp (disch:=omega) only [evs,q0bh k]
 rfl
theorem q018 {k:Nat} (hk:K0≤k) (x:List (Int×Unit)×Unit) (h:x.1.length≤1048576):q8w k x=some (x,()):=by
 unfold q8w;simp (disch:=omega) only [evs,qib hk _ h]
theorem q029 {k:Nat} (hk:K0≤k) (x:List (Int×Unit)×Unit) (h:x.1.length≤1048576):q92 k x x=q0i True:=by
 unfold q92;simp (disch:=omega) only [evs,qih hk _ h]
theorem q0b5 {k:Nat} (hk:K0≤k) (x:Int×Int×Bool×List qnw×Unit) (h:x.2.2.2.1.length≤1048576):qd5 k x=some (x,()):=by
 unfold qd5;simp (disch:=omega) only [evs,q05r hk _ h]
theorem q0bi {k:Nat} (hk:K0≤k) (x:Int×Int×Bool×List qnw×Unit) (h:x.2.2.2.1.length≤1048576):qdw k x x=q0i True:=by
 unfold qdw
 rw [quy x.2.2.1]
 simp (disch:=omega) only [evs,q06v hk _ h,iff_self]
theorem q05x {k:Nat} (hk:K0≤k) (x:q8k) (h:x.2.2.1.length≤1048576):qap k x=some (x,()):=by
 unfold qap;simp (disch:=omega) only [evs,qib hk _ h]
theorem q071 {k:Nat} (hk:K0≤k) (x:q8k) (h:x.2.2.1.length≤1048576):qax k x x=q0i True:=by
 unfold qax;simp (disch:=omega) only [evs,qih hk _ h]
theorem q0ax {k:Nat} (hk:K0≤k) (x:qnr) (h:x.2.1.length≤1048576):qcx k x=some (x,()):=by
 unfold qcx;simp (disch:=omega) only [evs,qib hk _ h]
theorem q0ba {k:Nat} (hk:K0≤k) (x:qnr) (h:x.2.1.length≤1048576):qdp k x x=q0i True:=by
 unfold qdp;simp (disch:=omega) only [evs,qih hk _ h]
theorem qeg {α:Type} {d:α} {l:List α} {i:Nat} (h:i<l.length):rdP d l i∈l:=by rw [qo h];exact List.getElem_mem h
theorem q01i {k:Nat} (hk:K0≤k) (l:List q8k) (hl:l.length≤1048576) (hb:∀c∈l,c.2.2.1.length≤1048576):q8y k l=some (l,()):=by
 unfold q8y;delta W2
 have hf:=q2o (n:=l.length) (by omega)
 simp (disch:=omega) only [evs,hf]
 refine qmv (d:=(0,0,[],())) hk l hl (fun i c rec hi hc=> ?_) (fun c rec=>by simp (disch:=omega) only [evs])
 have:=q05x hk (rdP (0,0,[],()) l i) (hb _ (qeg hi))
 simp (disch:=omega) only [evs,hc,this]
 rfl
theorem q02j {k:Nat} (hk:K0≤k) (l:List q8k) (hl:l.length≤1048576) (hb:∀c∈l,c.2.2.1.length≤1048576):q96 k l l=q0i True:=by
 unfold q96;delta W2
 simp (disch:=omega) only [evs]
 refine qne hk hl (fun i rec hi=> ?_) (fun rec=>by simp (disch:=omega) only [evs])
 have:=q071 hk (rdP (0,0,[],()) l i) (hb _ (qeg hi))
 simp (disch:=omega) only [evs,this]
 rfl
theorem q05g {k:Nat} (hk:K0≤k) (l:List qnr) (hl:l.length≤1048576) (hb:∀c∈l,c.2.1.length≤1048576):qak k l=some (l,()):=by
 unfold qak
 have hf:=q2o (n:=l.length) (by omega)
 simp (disch:=omega) only [evs,hf]
 refine qmv (d:=(0,[],())) hk l hl (fun i c rec hi hc=> ?_) (fun c rec=>by simp (disch:=omega) only [evs])
 have:=q0ax hk (rdP (0,[],()) l i) (hb _ (qeg hi))
 simp (disch:=omega) only [evs,hc,this]
 rfl
theorem q06j {k:Nat} (hk:K0≤k) (l:List qnr) (hl:l.length≤1048576) (hb:∀c∈l,c.2.1.length≤1048576):qas k l l=q0i True:=by
 unfold qas
 simp (disch:=omega) only [evs]
 refine qne hk hl (fun i rec hi=> ?_) (fun rec=>by simp (disch:=omega) only [evs])
 have:=q0ba hk (rdP (0,[],()) l i) (hb _ (qeg hi))
 simp (disch:=omega) only [evs,this]
 rfl
theorem q01c {k:Nat} (hk:K0≤k) (l:List (List qkz×Unit)) (hl:l.length≤1048576) (hb:∀c∈l,c.1.length≤1048576):q8x k l=some (l,()):=by
 unfold q8x
 have hf:=q2o (n:=l.length) (by omega)
 simp (disch:=omega) only [evs,hf]
 refine qmv (d:=([],())) hk l hl (fun i c rec hi hc=> ?_) (fun c rec=>by simp (disch:=omega) only [evs])
 have:=q05o hk (rdP ([],()) l i).1 (hb _ (qeg hi))
 simp (disch:=omega) only [evs,hc,this]
 rfl
theorem q02d {k:Nat} (hk:K0≤k) (l:List (List qkz×Unit)) (hl:l.length≤1048576) (hb:∀c∈l,c.1.length≤1048576):q94 k l l=q0i True:=by
 unfold q94
 simp (disch:=omega) only [evs]
 refine qne hk hl (fun i rec hi=> ?_) (fun rec=>by simp (disch:=omega) only [evs])
 have:=q06s hk (rdP ([],()) l i).1 (hb _ (qeg hi))
 simp (disch:=omega) only [evs,this]
 rfl
theorem q0b0 {k:Nat} (hk:K0≤k) (x:q28) (h1:x.1.length≤1048576) (h2:x.2.2.1.length≤1048576) (h3:∀c∈x.2.2.1,c.2.2.1.length≤1048576) (h4:x.2.2.2.1.length≤1048576) (h5:∀c∈x.2.2.2.1,c.2.1.length≤1048576):qd0 k x=some (x,()):=by
 unfold qd0;simp (disch:=omega) only [evs,qib hk _ h1,q01i hk _ h2 h3,q05g hk _ h4 h5]
theorem q0be {k:Nat} (hk:K0≤k) (x:q28) (h1:x.1.length≤1048576) (h2:x.2.2.1.length≤1048576) (h3:∀c∈x.2.2.1,c.2.2.1.length≤1048576) (h4:x.2.2.2.1.length≤1048576) (h5:∀c∈x.2.2.2.1,c.2.1.length≤1048576):qdr k x x=q0i True:=by
 unfold qdr;simp (disch:=omega) only [evs,qih hk _ h1,q02j hk _ h2 h3,q06j hk _ h4 h5]
theorem q05j {k:Nat} (hk:K0≤k) (x:q01) (h1:x.2.1.length≤1048576) (h2:∀c∈x.2.1,c.1.length≤1048576):qal k x=some (x,()):=by
 unfold qal;simp (disch:=omega) only [evs,q01c hk _ h1 h2]
theorem q06m {k:Nat} (hk:K0≤k) (x:q01) (h1:x.2.1.length≤1048576) (h2:∀c∈x.2.1,c.1.length≤1048576):qat k x x=q0i True:=by
 unfold qat;simp (disch:=omega) only [evs,q02d hk _ h1 h2]
theorem q0b3 {k:Nat} (hk:K0≤k) (x:qu) (hs:SzH x):q37 k x=some (x,()):=by
 unfold q37;delta W0
 have h1:=q018 hk (x.2.1,()) hs.wait
 have h2:=q0b5 hk (x.2.2.2.2.1,x.2.2.2.2.2.1,x.2.2.2.2.2.2.1,x.2.2.2.2.2.2.2.1,()) hs.items
 have h3:=q0b0 hk (x.2.2.2.2.2.2.2.2.1,x.2.2.2.2.2.2.2.2.2.1,x.2.2.2.2.2.2.2.2.2.2.1,x.2.2.2.2.2.2.2.2.2.2.2.1,()) hs.trays hs.chutes hs.bags hs.wants hs.told
 have h4:=q05j hk (x.2.2.2.2.2.2.2.2.2.2.2.2.1,x.2.2.2.2.2.2.2.2.2.2.2.2.2.1,()) hs.lanes hs.kept
 simp (disch:=omega) only [evs,h1,q01b,h2,h3,h4,q05k hk _ hs.notes,qwp hk _ hs.flights,q05y hk _ hs.cases_]
theorem qru {k:Nat} (hk:K0≤k) (x:qu) (hs:SzH x):q5e k x x=q0i True:=by
 unfold q5e;delta W0
 have h1:=q029 hk (x.2.1,()) hs.wait
 have h2:=q0bi hk (x.2.2.2.2.1,x.2.2.2.2.2.1,x.2.2.2.2.2.2.1,x.2.2.2.2.2.2.2.1,()) hs.items
 have h3:=q0be hk (x.2.2.2.2.2.2.2.2.1,x.2.2.2.2.2.2.2.2.2.1,x.2.2.2.2.2.2.2.2.2.2.1,x.2.2.2.2.2.2.2.2.2.2.2.1,()) hs.trays hs.chutes hs.bags hs.wants hs.told
 have h4:=q06m hk (x.2.2.2.2.2.2.2.2.2.2.2.2.1,x.2.2.2.2.2.2.2.2.2.2.2.2.2.1,()) hs.lanes hs.kept
 simp (disch:=omega) only [evs,h1,q02c,h2,h3,h4,q06n hk _ hs.notes,qxt hk _ hs.flights,q072 hk _ hs.cases_]
end Go.Proofs.YtpmjopbgccajgaaGreat.Eng
namespace Go.Proofs.YtpmjopbgccajgaaGreat.Eng
theorem qif (k:Nat) (l:List (Int×Unit)) (n:Int) (hn:0≤n∧n≤1048576) (hl:l.length≤9223372036854775807):Szr (q6z k l n) n l.length:=qp4 hn hl
theorem q06b (k:Nat) (l:List qnw) (n:Int) (hn:0≤n∧n≤1048576) (hl:l.length≤9223372036854775807):Szr (qg2 k l n) n l.length:=qp4 hn hl
theorem q06a (k:Nat) (l:List qkz) (n:Int) (hn:0≤n∧n≤1048576) (hl:l.length≤9223372036854775807):Szr (qg1 k l n) n l.length:=qp4 hn hl
theorem q067 (k:Nat) (l:List q0a) (n:Int) (hn:0≤n∧n≤1048576) (hl:l.length≤9223372036854775807):Szr (qg0 k l n) n l.length:=qp4 hn hl
theorem qwz (k:Nat) (l:List qad) (n:Int) (hn:0≤n∧n≤1048576) (hl:l.length≤9223372036854775807):Szr (qb7 k l n) n l.length:=qp4 hn hl
theorem q06g (k:Nat) (l:List q45) (n:Int) (hn:0≤n∧n≤1048576) (hl:l.length≤9223372036854775807):Szr (qg5 k l n) n l.length:=qp4 hn hl
theorem qz6 {f:Option (Int×Unit)} {n:Int} {s:Nat} (hf:Szr f n s):Szr (bnd f fun y=>br (ltI y.1 0) (some (-1,())) (some (y.1,()))) n (s+0):=qir hf (fun m h _ _=>q0ff h)
theorem q01r (k:Nat) (x:List (Int×Unit)×Unit) (n:Int) (hn:0≤n∧n≤1048576) (hl:x.1.length≤9223372036854775807):Szr (qd6 k x n) n (x.1.length+0):=qz6 (qif k _ n hn hl)
theorem q0b9 (k:Nat) (x:Int×Int×Bool×List qnw×Unit) (n:Int) (hn:0≤n∧n≤1048576) (hl:x.2.2.2.1.length≤9223372036854775807):Szr (qig k x n) n (x.2.2.2.1.length+0):=qz6 (q06b k _ n hn hl)
theorem q06f (k:Nat) (x:q8k) (n:Int) (hn:0≤n∧n≤1048576) (hl:x.2.2.1.length≤9223372036854775807):Szr (qg4 k x n) n (x.2.2.1.length+0):=qz6 (qif k _ n hn hl)
theorem q0b6 (k:Nat) (x:qnr) (n:Int) (hn:0≤n∧n≤1048576) (hl:x.2.1.length≤9223372036854775807):Szr (qid k x n) n (x.2.1.length+0):=qz6 (qif k _ n hn hl)
theorem q0fe {f:Option (Int×Unit)} {m:Int} {s:Nat} (hf:Szr f m s) (hm:0≤m) {R:Type} (a:Option R) (b:Int→Option R):(bnd f fun y=>br (ltI y.1 0) a (b y.1))=br (dc (0≤m-s)) (b (m-s)) a:=by
 obtain⟨r,e,⟨h1,h2⟩|⟨h1,h2⟩⟩:=hf
 ·rw [e,h1];simp (disch:=omega) only [evs]
 ·rw [e,h1];simp (disch:=omega) only [evs]
theorem q01z {k:Nat} (hk:K0≤k) (l:List q8k) (n:Int) (hn:0≤n∧n≤1048576) (hl:l.length≤9223372036854775807) (hb:∀c∈l,c.2.2.1.length≤9223372036854775807):Szr (q90 k l n) n (l.length+(q22 l).length):=by
 unfold q90;delta W2
 refine q09q (d:=(0,0,[],())) hk hn hl (fun l=>(q22 l).length) rfl (fun c=>c.2.2.1.length+0) (fun i hi=>by rw [qry hi,List.length_append,Nat.add_zero]) (fun i m rec hi hl2 hm=> ?_) (fun m rec=>by simp (disch:=omega) only [evs])
 have h1:=q06f k (rdP (0,0,[],()) l i) m hm (hb _ (qeg hi))
 have h2:=q0fe h1 hm.1 (some (-1,())) (fun r=>rec (r,((i+1:Nat):Int),()))
 rw [←h2]
 simp (disch:=omega) only [evs]
 rfl
def q09m (l:List qnr):List (Int×Unit):=l.flatMap fun c=>c.2.1
theorem q0ph {l:List qnr} {i:Nat} (h:i<l.length):q09m (l.take (i+1))=q09m (l.take i)++(rdP (0,[],()) l i).2.1:=by
 rw [q7b (d:=(0,[],())) h,q09m,List.flatMap_append];simp [q09m]
theorem q063 {k:Nat} (hk:K0≤k) (l:List qnr) (n:Int) (hn:0≤n∧n≤1048576) (hl:l.length≤9223372036854775807) (hb:∀c∈l,c.2.1.length≤9223372036854775807):Szr (qar k l n) n (l.length+(q09m l).length):=by
 unfold qar
 refine q09q (d:=(0,[],())) hk hn hl (fun l=>(q09m l).length) rfl (fun c=>c.2.1.length+0) (fun i hi=>by rw [q0ph hi,List.length_append,Nat.add_zero]) (fun i m rec hi hl2 hm=> ?_) (fun m rec=>by simp (disch:=omega) only [evs])
 have h1:=q0b6 k (rdP (0,[],()) l i) m hm (hb _ (qeg hi))
 have h2:=q0fe h1 hm.1 (some (-1,())) (fun r=>rec (r,((i+1:Nat):Int),()))
 rw [←h2]
 simp (disch:=omega) only [evs]
 rfl
theorem q01u {k:Nat} (hk:K0≤k) (l:List (List qkz×Unit)) (n:Int) (hn:0≤n∧n≤1048576) (hl:l.length≤9223372036854775807) (hb:∀c∈l,c.1.length≤9223372036854775807):Szr (q8z k l n) n (l.length+(q19 l).length):=by
 unfold q8z
 refine q09q (d:=([],())) hk hn hl (fun l=>(q19 l).length) rfl (fun c=>c.1.length) (fun i hi=>by rw [qv0 hi,List.length_append,q6q,List.length_map]) (fun i m rec hi hl2 hm=> ?_) (fun m rec=>by simp (disch:=omega) only [evs])
 have h1:=q06a k (rdP ([],()) l i).1 m hm (hb _ (qeg hi))
 have h2:=q0fe h1 hm.1 (some (-1,())) (fun r=>rec (r,((i+1:Nat):Int),()))
 rw [←h2]
 simp (disch:=omega) only [evs]
 rfl
theorem q0b7 {k:Nat} (hk:K0≤k) (x:q28) (n:Int) (hn:0≤n∧n≤1048576) (h1:x.1.length≤9223372036854775807) (h2:x.2.2.1.length≤9223372036854775807) (h3:∀c∈x.2.2.1,c.2.2.1.length≤9223372036854775807) (h4:x.2.2.2.1.length≤9223372036854775807) (h5:∀c∈x.2.2.2.1,c.2.1.length≤9223372036854775807):
  Szr (qie k x n) n (x.1.length+((x.2.2.1.length+(q22 x.2.2.1).length)+((x.2.2.2.1.length+(q09m x.2.2.2.1).length)+0))):=
 qir (qif k _ n hn h1) fun m a b _=>qir (q01z hk _ m ⟨a,by omega⟩ h2 h3) fun m a b _=>qir (q063 hk _ m ⟨a,by omega⟩ h4 h5) fun m a b _=>q0ff a
theorem q066 {k:Nat} (hk:K0≤k) (x:q01) (n:Int) (hn:0≤n∧n≤1048576) (h1:x.2.1.length≤9223372036854775807) (h2:∀c∈x.2.1,c.1.length≤9223372036854775807):Szr (qfz k x n) n ((x.2.1.length+(q19 x.2.1).length)+0):=
 qz6 (q01u hk _ n hn h1 h2)
structure BigH (x:qu):Prop where
 wait:x.2.1.length≤9223372036854775807
 items:x.2.2.2.2.2.2.2.1.length≤9223372036854775807
 trays:x.2.2.2.2.2.2.2.2.1.length≤9223372036854775807
 chutes:x.2.2.2.2.2.2.2.2.2.2.1.length≤9223372036854775807
 bags:∀c∈x.2.2.2.2.2.2.2.2.2.2.1,c.2.2.1.length≤9223372036854775807
 wants:x.2.2.2.2.2.2.2.2.2.2.2.1.length≤9223372036854775807
 told:∀w∈x.2.2.2.2.2.2.2.2.2.2.2.1,w.2.1.length≤9223372036854775807
 lanes:x.2.2.2.2.2.2.2.2.2.2.2.2.2.1.length≤9223372036854775807
 kept:∀l∈x.2.2.2.2.2.2.2.2.2.2.2.2.2.1,l.1.length≤9223372036854775807
 notes:x.2.2.2.2.2.2.2.2.2.2.2.2.2.2.1.length≤9223372036854775807
 flights:x.2.2.2.2.2.2.2.2.2.2.2.2.2.2.2.1.length≤9223372036854775807
 cases_:x.2.2.2.2.2.2.2.2.2.2.2.2.2.2.2.2.1.length≤9223372036854775807
theorem qoi {α β:Type} {f:α→List β} {l:List α} {c:α} (h:c∈l):(f c).length≤(l.flatMap f).length:=by
 induction l with
 |nil=>cases h
 |cons a l ih=>
  rw [List.flatMap_cons,List.length_append]
  rcases List.mem_cons.1 h with e|h
  ·subst e;omega
  ·have:=ih h;omega
theorem q0b8 {k:Nat} (hk:K0≤k) (x:qu) (hb:BigH x) (n:Int) (hn:0≤n∧n≤1048576):∃r:Int,q9o k x n=some (r,())∧(r<0∨SzT x):=by
 have h:Szr (q9o k x n) n ((x.2.1.length+0)+((x.2.2.2.2.2.2.2.1.length+0)+((x.2.2.2.2.2.2.2.2.1.length+((x.2.2.2.2.2.2.2.2.2.2.1.length+(q22 x.2.2.2.2.2.2.2.2.2.2.1).length)+((x.2.2.2.2.2.2.2.2.2.2.2.1.length+(q09m x.2.2.2.2.2.2.2.2.2.2.2.1).length)+0)))+(((x.2.2.2.2.2.2.2.2.2.2.2.2.2.1.length+(q19 x.2.2.2.2.2.2.2.2.2.2.2.2.2.1).length)+0)+(x.2.2.2.2.2.2.2.2.2.2.2.2.2.2.1.length+(x.2.2.2.2.2.2.2.2.2.2.2.2.2.2.2.1.length+(x.2.2.2.2.2.2.2.2.2.2.2.2.2.2.2.2.1.length+0))))))):=
  qir (q01r k (x.2.1,()) n hn hb.wait) fun m a b _=>qir (q0b9 k (x.2.2.2.2.1,x.2.2.2.2.2.1,x.2.2.2.2.2.2.1,x.2.2.2.2.2.2.2.1,()) m ⟨a,by omega⟩ hb.items) fun m a b _=>
  qir (q0b7 hk (x.2.2.2.2.2.2.2.2.1,x.2.2.2.2.2.2.2.2.2.1,x.2.2.2.2.2.2.2.2.2.2.1,x.2.2.2.2.2.2.2.2.2.2.2.1,()) m ⟨a,by omega⟩ hb.trays hb.chutes hb.bags hb.wants hb.told) fun m a b _=>
  qir (q066 hk (x.2.2.2.2.2.2.2.2.2.2.2.2.1,x.2.2.2.2.2.2.2.2.2.2.2.2.2.1,()) m ⟨a,by omega⟩ hb.lanes hb.kept) fun m a b _=>qir (q067 k _ m ⟨a,by omega⟩ hb.notes) fun m a b _=>
  qir (qwz k _ m ⟨a,by omega⟩ hb.flights) fun m a b _=>qir (q06g k _ m ⟨a,by omega⟩ hb.cases_) fun m a b _=>q0ff a
 obtain⟨r,e,⟨h1,_⟩|⟨h1,h2⟩⟩:=h
 ·exact⟨r,e,.inl (by omega)⟩
 ·refine⟨r,e,.inr ?_⟩
  have hnz:=qrf x.2.2.2.2.2.2.2.2.1
  refine { wait:=by omega,items:=by omega,trays:=by omega,chutes:=by omega,bags:=fun c hc=> ?_,wants:=by omega,told:=fun c hc=> ?_,lanes:=by omega,kept:=fun c hc=> ?_,notes:=by omega,flights:=by omega,cases_:=by omega,allBags:=by omega,allKept:=by omega }
  ·have:c.2.2.1.length≤(q22 x.2.2.2.2.2.2.2.2.2.2.1).length:=qoi (f:=fun c:q8k=>c.2.2.1) hc
   omega
  ·have:c.2.1.length≤(q09m x.2.2.2.2.2.2.2.2.2.2.2.1).length:=qoi (f:=fun c:qnr=>c.2.1) hc
   omega
  ·have:(q6q c.1).length≤(q19 x.2.2.2.2.2.2.2.2.2.2.2.2.2.1).length:=qoi (f:=fun c:List qkz×Unit=>q6q c.1) hc
   simp only [q6q,List.length_map]at this
   omega
theorem q0sn {x:qu} (h:Wf K42 x):BigH x:=by
 obtain⟨_,⟨h1,_⟩,_,_,_,_,_,⟨h2,_⟩,⟨h3,_⟩,_,⟨h4,h5⟩,⟨h6,h7⟩,_,⟨h8,h9⟩,⟨h10,_⟩,⟨h11,_⟩,⟨h12,_⟩,_⟩:=h
 exact⟨q7i h1,q7i h2,q7i h3,q7i h4,fun c hc=>q7i (h5 c hc).2.2.1.1,q7i h6,fun c hc=>q7i (h7 c hc).2.1.1,q7i h8,fun c hc=>q7i (h9 c hc).1.1,q7i h10,q7i h11,q7i h12⟩
end Go.Proofs.YtpmjopbgccajgaaGreat.Eng
