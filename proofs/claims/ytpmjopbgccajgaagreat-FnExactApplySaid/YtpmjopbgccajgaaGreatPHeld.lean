/- What the laws' marks do to a hall, and that they are held. No condition. -/
import Derived.Test.YtpmjopbgccajgaaGreatPB
import Derived.Test.YtpmjopbgccajgaaGreatD1
namespace Go.Proofs.YtpmjopbgccajgaaGreat.Eng
set_option linter.unusedVariables false
set_option linter.unusedSimpArgs false
theorem q00s {α:Type} {d x:α} {l:List α} {i:Nat} (h:i<l.length):rdP d (l.set i x) i=x:=by unfold rdP;simp [h]
theorem q08z {α:Type} {d x:α} {l:List α} {i j:Nat} (h:i≠j):rdP d (l.set i x) j=rdP d l j:=by unfold rdP;simp [h]
def MkH {α:Type} (f:Option (Int×α×Unit)) (g:α→Int→Option (Int×Unit)) (m:Int) (b:Nat):Prop:=∃(r:Int) (c:α),f=some (r,c,())∧g c m=some (r,())∧m≤r∧r≤m+b*1048576
theorem qn7 {α:Type} {d:α} {k:Nat} (hk:K0≤k) {l:List α} {m0 M:Int} {b:Nat} (hm:0≤m0∧m0≤M) (hl:l.length≤1048576) {F:(List α×Int×Int×Unit→Option (Int×List α×Unit))→List α×Int×Int×Unit→Option (Int×List α×Unit)} {G:List α→(Int×Int×Unit→Option (Int×Unit))→Int×Int×Unit→Option (Int×Unit)}
  (hF:∀(i:Nat) (c:List α) (m:Int),i<l.length→c.length=l.length→rdP d c i=rdP d l i→0≤m→m≤M+b*1048576→∃x m',(m≤m'∧m'≤m+b)∧(∀rec,F rec (c,m,(i:Int),())=rec (c.set i x,m',((i+1:Nat):Int),()))∧∀(c':List α) rec,c'.length=l.length→rdP d c' i=x→G c' rec (m,(i:Int),())=rec (m',((i+1:Nat):Int),()))
  (hE:∀c m rec,c.length=l.length→F rec (c,m,(l.length:Int),())=some (m,c,())) (hE':∀(c:List α) m rec,c.length=l.length→G c rec (m,(l.length:Int),())=some (m,())):MkH (qh F k (l,m0,0,())) (fun c m=>qh (G c) k (m,0,())) m0 b:=by
 unfold K0 at hk
 have key:∀n i k (c:List α) (m:Int),i+n=l.length→n<k→c.length=l.length→(∀j,i≤j→rdP d c j=rdP d l j)→m0≤m→m≤m0+b*(i:Nat)→
   (∀c' k',c'.length=l.length→(∀j,j<i→rdP d c' j=rdP d c j)→qh (G c') (k'+i) (m0,0,())=qh (G c') k' (m,(i:Int),()))→
   ∃r c2,qh F k (c,m,(i:Int),())=some (r,c2,())∧c2.length=l.length∧(∀k',qh (G c2) (k'+1+l.length) (m0,0,())=some (r,()))∧m0≤r∧r≤m0+b*(l.length:Nat):=by
  intro n
  induction n with
  |zero=>
   intro i k c m e hk hc hr h1 h2 ht
   obtain⟨k',rfl⟩:∃k',k=k'+1:=⟨k-1,by omega⟩
   obtain rfl:i=l.length:=by omega
   refine⟨m,c,hE c m _ hc,hc,fun k'=> ?_,h1,h2⟩
   rw [ht c (k'+1) hc (fun _ _=>rfl)]
   exact hE' c m _ hc
  |succ n ih=>
   intro i k c m e hk hc hr h1 h2 ht
   obtain⟨k',rfl⟩:∃k',k=k'+1:=⟨k-1,by omega⟩
   have hbi':(b:Int)*i≤b*1048576:=Int.mul_le_mul_of_nonneg_left (by omega) (by omega)
   obtain⟨x,m',⟨h3,h4⟩,h5,h6⟩:=hF i c m (by omega) hc (hr i (Nat.le_refl _)) (by omega) (by omega)
   have hbs:(b:Int)*((i+1:Nat):Int)=b*i+b:=by rw [show ((i+1:Nat):Int)=(i:Int)+1 from rfl,Int.mul_add,Int.mul_one]
   obtain⟨r,c2,h7,h8⟩:=ih (i+1) k' (c.set i x) m' (by omega) (by omega) (by simpa using hc) (fun j hj=>by rw [q08z (by omega)];exact hr j (by omega)) (by omega) (by omega) (fun c' k'' hc' hj=>by
    rw [show k''+(i+1)=(k''+1)+i by omega,ht c' (k''+1) hc' (fun j hj2=>by rw [hj j (by omega),q08z (by omega)])]
    exact h6 c' _ hc' (by rw [hj i (by omega),q00s (by omega)]))
   refine⟨r,c2,?_,h8⟩
   show F (qh F k') (c,m,(i:Int),())=_
   rw [h5]
   exact h7
 obtain⟨r,c2,h1,h2,h3,h4,h5⟩:=key l.length 0 k l m0 (by omega) (by omega) rfl (fun _ _=>rfl) (Int.le_refl _) (by simp) (fun _ _ _ _=>rfl)
 have hbi':(b:Int)*(l.length:Nat)≤b*1048576:=Int.mul_le_mul_of_nonneg_left (by omega) (by omega)
 refine⟨r,c2,h1,?_,h4,by omega⟩
 have:=h3 (k-1-l.length)
 rw [show k-1-l.length+1+l.length=k by omega]at this
 exact this
section
variable {α R:Type} {d:α} {c:List α} {i:Nat}
theorem mh_0 (hi:i<c.length) (g:α→α) (K:List α→Option R):br (inR (i:Int) (ln c)) (q9 (rdP d c (q6 (i:Int))) fun e=>q9 (upd c (q6 (i:Int)) (g e)) fun l=>K l) none=K (c.set i (g (rdP d c i))):=by
 rw [q0c,q31,q8 (by omega)]
 rfl
theorem mh_1 (hi:i<c.length) (e0:α) (g:α→α) (K:List α→Option R):br (inR (i:Int) (ln (c.set i e0))) (q9 (rdP d (c.set i e0) (q6 (i:Int))) fun e=>q9 (upd (c.set i e0) (q6 (i:Int)) (g e)) fun l=>K l) none=K (c.set i (g e0)):=by
 rw [q0c,q31,List.length_set,q8 (by omega),qk,qk,q6p,q04,List.set_set,q00s hi]
theorem mh_t (hi:i<c.length) (A B:Option R):br (ltI (i:Int) (ln c)) A B=A:=by
 rw [qn,q31,q8 (by omega)]
theorem mh_e {n:Nat} (hi:c.length=n) (A B:Option R):br (ltI (n:Int) (ln c)) A B=B:=by
 rw [qn,q31,hi,qa (by omega)]
end
theorem qde {k:Nat} (hk:K0≤k) (l:List (Int×Unit)) (hl:l.length≤1048576) (m:Int) (hm:0≤m∧m≤36028797018963968):MkH (q3g k l m) (q3h k) m 1:=by
 unfold q3g q3h
 refine qn7 (d:=(0,())) hk hm hl (fun i c m hi hc h1 h2 h3=>⟨(m,()),m+1,by omega,fun rec=> ?_,fun c' rec hc' e=> ?_⟩) (fun c m rec hc=>mh_e hc _ _) (fun c m rec hc=>mh_e hc _ _)
 ·have h:i<c.length:=by omega
  refine(mh_t h _ _).trans ?_
  refine(mh_0 h _ _).trans ?_
  simp (disch:=omega) only [evs,q0h]
  rfl
 ·simp (disch:=omega) only [evs,hc',e,q0h]
  rfl
theorem qx7 {k:Nat} (hk:K0≤k) (l:List qnw) (hl:l.length≤1048576) (m:Int) (hm:0≤m∧m≤36028797018963968):MkH (q7n k l m) (q7s k) m 3:=by
 unfold q7n q7s
 refine qn7 (d:=(0,0,0,())) hk hm hl (fun i c m hi hc h1 h2 h3=>⟨(m,m+1,m+1+1,()),m+1+1+1,by omega,fun rec=> ?_,fun c' rec hc' e=> ?_⟩) (fun c m rec hc=>mh_e hc _ _) (fun c m rec hc=>mh_e hc _ _)
 ·have h:i<c.length:=by omega
  refine(mh_t h _ _).trans ?_
  refine(mh_0 h _ _).trans ?_
  try dsimp only
  refine(mh_1 h _ _ _).trans ?_
  try dsimp only
  refine(mh_1 h _ _ _).trans ?_
  simp (disch:=omega) only [evs,q0h]
  rfl
 ·simp (disch:=omega) only [evs,hc',e,q0h]
  rfl
theorem mh_3 {R:Type} (A B:Option R):br (qm (eqI 3 0)) A B=A:=by
 rw [q02,q0o,q8 (by omega)]
theorem qx6 {k:Nat} (hk:K0≤k) (l:List qkz) (hl:l.length≤1048576) (m:Int) (hm:0≤m∧m≤36028797018963968):MkH (q7m k l m) (q7r k) m 2:=by
 unfold q7m q7r
 refine qn7 (d:=(0,0,())) hk hm hl (fun i c m hi hc h1 h2 h3=>⟨(m,m+1,()),m+1+1,by omega,fun rec=> ?_,fun c' rec hc' e=> ?_⟩) (fun c m rec hc=>mh_e hc _ _) (fun c m rec hc=>mh_e hc _ _)
 ·have h:i<c.length:=by omega
  refine(mh_t h _ _).trans ?_
  refine(mh_0 h _ _).trans ?_
  try dsimp only
  refine(mh_1 h _ _ _).trans ?_
  simp (disch:=omega) only [evs,q0h]
  rfl
 ·simp (disch:=omega) only [evs,hc',e,q0h,iff_self]
  rfl
theorem qx3 {k:Nat} (hk:K0≤k) (l:List q0a) (hl:l.length≤1048576) (m:Int) (hm:0≤m∧m≤36028797018963968):MkH (q7l k l m) (q7q k) m 5:=by
 unfold q7l q7q
 refine qn7 (d:=(0,0,0,0,0,())) hk hm hl (fun i c m hi hc h1 h2 h3=>⟨(m,m+1,m+1+1,m+1+1+1,m+1+1+1+1,()),m+1+1+1+1+1,by omega,fun rec=> ?_,fun c' rec hc' e=> ?_⟩) (fun c m rec hc=>mh_e hc _ _) (fun c m rec hc=>mh_e hc _ _)
 ·have h:i<c.length:=by omega
  refine(mh_t h _ _).trans ?_
  refine(mh_0 h _ _).trans ?_
  try dsimp only
  refine(mh_1 h _ _ _).trans ?_
  try dsimp only
  refine(mh_1 h _ _ _).trans ?_
  try dsimp only
  refine(mh_1 h _ _ _).trans ?_
  try dsimp only
  refine(mh_1 h _ _ _).trans ?_
  simp (disch:=omega) only [evs,q0h]
  rfl
 ·simp (disch:=omega) only [evs,hc',e,q0h,iff_self]
  rfl
theorem qrl {k:Nat} (hk:K0≤k) (l:List qad) (hl:l.length≤1048576) (m:Int) (hm:0≤m∧m≤36028797018963968):MkH (q5b k l m) (q5c k) m 5:=by
 unfold q5b q5c
 refine qn7 (d:=(0,0,0,false,0,())) hk hm hl (fun i c m hi hc h1 h2 h3=>⟨(m,m+1,m+1+1,eqI (remI (m+1+1+1) 3) 0,m+1+1+1+1,()),m+1+1+1+1+1,by omega,fun rec=> ?_,fun c' rec hc' e=> ?_⟩) (fun c m rec hc=>mh_e hc _ _) (fun c m rec hc=>mh_e hc _ _)
 ·have h:i<c.length:=by omega
  refine(mh_t h _ _).trans ?_
  refine(mh_0 h _ _).trans ?_
  try dsimp only
  refine(mh_1 h _ _ _).trans ?_
  try dsimp only
  refine(mh_1 h _ _ _).trans ?_
  try dsimp only
  refine(mh_3 _ _).trans ?_
  refine(mh_1 h _ _ _).trans ?_
  try dsimp only
  refine(mh_1 h _ _ _).trans ?_
  simp (disch:=omega) only [evs,q0h]
  rfl
 ·simp (disch:=omega) only [evs,hc',e,q0h,iff_self]
  rfl
theorem qxb {k:Nat} (hk:K0≤k) (l:List q45) (hl:l.length≤1048576) (m:Int) (hm:0≤m∧m≤36028797018963968):MkH (q7o k l m) (q7t k) m 10:=by
 unfold q7o q7t
 refine qn7 (d:=(0,0,0,0,0,0,0,0,0,0,())) hk hm hl (fun i c m hi hc h1 h2 h3=>⟨(m,m+1,m+1+1,m+1+1+1,m+1+1+1+1,m+1+1+1+1+1,m+1+1+1+1+1+1,m+1+1+1+1+1+1+1,m+1+1+1+1+1+1+1+1,m+1+1+1+1+1+1+1+1+1,()),m+1+1+1+1+1+1+1+1+1+1,by omega,fun rec=> ?_,fun c' rec hc' e=> ?_⟩) (fun c m rec hc=>mh_e hc _ _) (fun c m rec hc=>mh_e hc _ _)
 ·have h:i<c.length:=by omega
  refine(mh_t h _ _).trans ?_
  refine(mh_0 h _ _).trans ?_
  try dsimp only
  refine(mh_1 h _ _ _).trans ?_
  try dsimp only
  refine(mh_1 h _ _ _).trans ?_
  try dsimp only
  refine(mh_1 h _ _ _).trans ?_
  try dsimp only
  refine(mh_1 h _ _ _).trans ?_
  try dsimp only
  refine(mh_1 h _ _ _).trans ?_
  try dsimp only
  refine(mh_1 h _ _ _).trans ?_
  try dsimp only
  refine(mh_1 h _ _ _).trans ?_
  try dsimp only
  refine(mh_1 h _ _ _).trans ?_
  try dsimp only
  refine(mh_1 h _ _ _).trans ?_
  simp (disch:=omega) only [evs,q0h]
  rfl
 ·simp (disch:=omega) only [evs,hc',e,q0h,iff_self]
  rfl
theorem qu0 {k:Nat} (hk:K0≤k) (l:List q8k) (hl:l.length≤1048576) (hb:∀c∈l,c.2.2.1.length≤1048576) (m:Int) (hm:0≤m∧m≤1125899906842624):MkH (q66 k l m) (q69 k) m 1048578:=by
 unfold q66 q69
 refine qn7 (d:=(0,0,[],())) hk hm hl (fun i c m hi hc h1 h2 h3=> ?_) (fun c m rec hc=>mh_e hc _ _) (fun c m rec hc=>mh_e hc _ _)
 obtain⟨r,cc,e1,e2,h5,h6⟩:=qde hk (rdP (0,0,[],()) l i).2.2.1 (hb _ (qeg hi)) (m+1+1) (by omega)
 refine⟨(m,m+1,cc,()),r,by omega,fun rec=> ?_,fun c' rec hc' e=> ?_⟩
 ·simp (disch:=omega) only [evs,hc,h1,q00s,List.set_set,List.length_set,q0h,e1]
  rfl
 ·simp (disch:=omega) only [evs,hc',e,q0h,e2]
  rfl
theorem qx2 {k:Nat} (hk:K0≤k) (l:List qnr) (hl:l.length≤1048576) (hb:∀c∈l,c.2.1.length≤1048576) (m:Int) (hm:0≤m∧m≤1125899906842624):MkH (q7k k l m) (q7p k) m 1048577:=by
 unfold q7k q7p
 refine qn7 (d:=(0,[],())) hk hm hl (fun i c m hi hc h1 h2 h3=> ?_) (fun c m rec hc=>mh_e hc _ _) (fun c m rec hc=>mh_e hc _ _)
 obtain⟨r,cc,e1,e2,h5,h6⟩:=qde hk (rdP (0,[],()) l i).2.1 (hb _ (qeg hi)) (m+1) (by omega)
 refine⟨(m,cc,()),r,by omega,fun rec=> ?_,fun c' rec hc' e=> ?_⟩
 ·simp (disch:=omega) only [evs,hc,h1,q00s,List.set_set,List.length_set,q0h,e1]
  rfl
 ·simp (disch:=omega) only [evs,hc',e,q0h,e2]
  rfl
theorem qtv {k:Nat} (hk:K0≤k) (l:List (List qkz×Unit)) (hl:l.length≤1048576) (hb:∀c∈l,c.1.length≤1048576) (m:Int) (hm:0≤m∧m≤1125899906842624):MkH (q64 k l m) (q67 k) m 2097152:=by
 unfold q64 q67
 refine qn7 (d:=([],())) hk hm hl (fun i c m hi hc h1 h2 h3=> ?_) (fun c m rec hc=>mh_e hc _ _) (fun c m rec hc=>mh_e hc _ _)
 obtain⟨r,cc,e1,e2,h5,h6⟩:=qx6 hk (rdP ([],()) l i).1 (hb _ (qeg hi)) m (by omega)
 refine⟨(cc,()),r,by omega,fun rec=> ?_,fun c' rec hc' e=> ?_⟩
 ·simp (disch:=omega) only [evs,hc,h1,q00s,List.set_set,List.length_set,q0h,e1]
  rfl
 ·simp (disch:=omega) only [evs,hc',e,q0h,e2]
  rfl
theorem qok {k:Nat} (hk:K0≤k) (x:qu) (hs:SzH x):∃(r:Int) (y:qu),q65 k x 1=some (r,y,())∧q68 k (x.1,y.2.1,x.2.2.1,x.2.2.2.1,x.2.2.2.2.1,x.2.2.2.2.2.1,x.2.2.2.2.2.2.1,y.2.2.2.2.2.2.2.1,y.2.2.2.2.2.2.2.2.1,x.2.2.2.2.2.2.2.2.2.1,y.2.2.2.2.2.2.2.2.2.2.1,y.2.2.2.2.2.2.2.2.2.2.2.1,x.2.2.2.2.2.2.2.2.2.2.2.2.1,y.2.2.2.2.2.2.2.2.2.2.2.2.2.1,y.2.2.2.2.2.2.2.2.2.2.2.2.2.2.1,y.2.2.2.2.2.2.2.2.2.2.2.2.2.2.2.1,y.2.2.2.2.2.2.2.2.2.2.2.2.2.2.2.2.1,()) 1=some (r,())∧0≤r:=by
 obtain⟨r1,c1,e1,g1,a1,b1⟩:=qde hk x.2.1 hs.wait 1 (by omega)
 obtain⟨r2,c2,e2,g2,a2,b2⟩:=qx7 hk x.2.2.2.2.2.2.2.1 hs.items r1 (by omega)
 obtain⟨r3,c3,e3,g3,a3,b3⟩:=qde hk x.2.2.2.2.2.2.2.2.1 hs.trays r2 (by omega)
 obtain⟨r4,c4,e4,g4,a4,b4⟩:=qu0 hk x.2.2.2.2.2.2.2.2.2.2.1 hs.chutes hs.bags r3 (by omega)
 obtain⟨r5,c5,e5,g5,a5,b5⟩:=qx2 hk x.2.2.2.2.2.2.2.2.2.2.2.1 hs.wants hs.told r4 (by omega)
 obtain⟨r6,c6,e6,g6,a6,b6⟩:=qtv hk x.2.2.2.2.2.2.2.2.2.2.2.2.2.1 hs.lanes hs.kept r5 (by omega)
 obtain⟨r7,c7,e7,g7,a7,b7⟩:=qx3 hk x.2.2.2.2.2.2.2.2.2.2.2.2.2.2.1 hs.notes r6 (by omega)
 obtain⟨r8,c8,e8,g8,a8,b8⟩:=qrl hk x.2.2.2.2.2.2.2.2.2.2.2.2.2.2.2.1 hs.flights r7 (by omega)
 obtain⟨r9,c9,e9,g9,a9,b9⟩:=qxb hk x.2.2.2.2.2.2.2.2.2.2.2.2.2.2.2.2.1 hs.cases_ r8 (by omega)
 refine⟨r9,(x.1,c1,x.2.2.1,x.2.2.2.1,x.2.2.2.2.1,x.2.2.2.2.2.1,x.2.2.2.2.2.2.1,c2,c3,x.2.2.2.2.2.2.2.2.2.1,c4,c5,x.2.2.2.2.2.2.2.2.2.2.2.2.1,c6,c7,c8,c9,()),?_,?_,by omega⟩
 ·unfold q65 q9p qdg qdb qb8;delta W0
  simp only [q00,e1,e2,e3,e4,e5,e6,e7,e8,e9]
 ·unfold q68 q9q qdo qdk qba;delta W0
  simp (disch:=omega) only [evs,g1,g2,g3,g4,g5,g6,g7,g8,g9]
end Go.Proofs.YtpmjopbgccajgaaGreat.Eng
