/- Pure laws: PSym, PStab, PStab2, PStab3, PStab4. No condition. -/
import Derived.Test.YtpmjopbgccajgaaGreatPA
import Derived.Test.YtpmjopbgccajgaaGreatD
set_option linter.unusedVariables false
set_option linter.unusedSimpArgs false
namespace Go.Proofs.YtpmjopbgccajgaaGreat.Eng
section
variable {α:Type} {d:α} {lt:α→α→Prop}
structure Ord (lt:α→α→Prop):Prop where
 asymm:∀x y,lt x y→¬lt y x
 ntrans:∀x y z,¬lt y x→¬lt z y→¬lt z x
def Srt (lt:α→α→Prop) (l:List α):Prop:=l.Pairwise fun x y=>¬lt y x
theorem q0p2 (A B:List α) (x:α):rdP d (A++x::B) A.length=x:=by unfold rdP;simp
theorem q0fq (A B:List α) (x y:α):(A++x::B).set A.length y=A++y::B:=by rw [List.set_append_right _ _ (Nat.le_refl _),Nat.sub_self,List.set_cons_zero]
theorem qa7 (A B:List α) (x:α) {n:Nat} (h:n=A.length):rdP d (A++x::B) n=x:=by rw [h];exact q0p2 A B x
theorem qr9 (A B:List α) (x y:α) {n:Nat} (h:n=A.length):(A++x::B).set n y=A++y::B:=by rw [h];exact q0fq A B x y
theorem q0fz (A B:List α) (x z:α) {n:Nat} (h:n=A.length+1):rdP d (A++x::z::B) n=z:=by
 have:=qa7 (d:=d) (A++[x]) B z (n:=n) (by simp [h])
 rwa [List.append_assoc]at this
theorem q0ak (A B:List α) (x z y:α) {n:Nat} (h:n=A.length+1):(A++x::z::B).set n y=A++x::y::B:=by
 have:=qr9 (A++[x]) B z y (n:=n) (by simp [h])
 rwa [List.append_assoc,List.append_assoc]at this
theorem qpa {l:List α} (h:0<l.length):∃m x,l=m++[x]:=⟨l.dropLast,l.getLast (by intro e;rw [e]at h;simp at h),(List.dropLast_concat_getLast _).symm⟩
theorem q0h2 {A:List α} {x:α} (h:Srt lt (A++[x])):∀y∈A,¬lt x y:=fun y hy=>(List.pairwise_append.1 h).2.2 y hy x (by simp)
theorem q09t {x:α} {A:List α} (h:Srt lt (x::A)):∀y∈A,¬lt y x:=(List.pairwise_cons.1 h).1
theorem q0d6 (O:Ord lt) {X1 X2 Y1 Y2 Z1 Z2:List α} (hX:Srt lt (X1++X2)) (hY:Srt lt (Y1++Y2)) (h1:∀A x y B,X1=A++[x]→Y2=y::B→¬lt y x) (h2:∀A y x B,Y1=A++[y]→X2=x::B→¬lt x y)
  (p1:Z1.Perm (X1++Y1)) (p2:Z2.Perm (X2++Y2)) (s1:Srt lt Z1) (s2:Srt lt Z2):Srt lt (Z1++Z2):=by
 obtain⟨x1,x2,x3⟩:=List.pairwise_append.1 hX
 obtain⟨y1,y2,y3⟩:=List.pairwise_append.1 hY
 have irr:∀x,¬lt x x:=fun x h=>O.asymm x x h h
 have c1:∀x∈X1,∀y∈Y2,¬lt y x:=by
  intro x hx y hy
  obtain⟨A,x',rfl⟩:=qpa (List.length_pos_of_mem hx)
  cases Y2 with
  |nil=>cases hy
  |cons y' B=>
   have k1:=h1 A x' y' B rfl rfl
   have k2:¬lt x' x:=by
    rcases List.mem_append.1 hx with h|h
    ·exact q0h2 x1 x h
    ·rw [List.mem_singleton.1 h];exact irr _
   have k3:¬lt y y':=by
    rcases List.mem_cons.1 hy with h|h
    ·rw [h];exact irr _
    ·exact q09t y2 y h
   exact O.ntrans _ _ _ (O.ntrans _ _ _ k2 k1) k3
 have c2:∀y∈Y1,∀x∈X2,¬lt x y:=by
  intro y hy x hx
  obtain⟨A,y',rfl⟩:=qpa (List.length_pos_of_mem hy)
  cases X2 with
  |nil=>cases hx
  |cons x' B=>
   have k1:=h2 A y' x' B rfl rfl
   have k2:¬lt y' y:=by
    rcases List.mem_append.1 hy with h|h
    ·exact q0h2 y1 y h
    ·rw [List.mem_singleton.1 h];exact irr _
   have k3:¬lt x x':=by
    rcases List.mem_cons.1 hx with h|h
    ·rw [h];exact irr _
    ·exact q09t x2 x h
   exact O.ntrans _ _ _ (O.ntrans _ _ _ k2 k1) k3
 refine List.pairwise_append.2 ⟨s1,s2,fun a ha b hb=> ?_⟩
 rcases List.mem_append.1 (p1.mem_iff.1 ha)with h|h<;>rcases List.mem_append.1 (p2.mem_iff.1 hb)with h'|h'
 ·exact x3 a h b h'
 ·exact c1 a h b h'
 ·exact c2 a h b h'
 ·exact y3 a h b h'
theorem q0fh (O:Ord lt) {Y1 Y2:List α} {x:α} (hY:Srt lt (Y1++Y2)) (h1:∀A y,Y1=A++[y]→¬lt x y) (h2:∀y B,Y2=y::B→¬lt y x):Srt lt (Y1++x::Y2):=by
 have:=q0d6 O (X1:=[]) (X2:=[x]) (Y1:=Y1) (Y2:=Y2) (Z1:=Y1) (Z2:=x::Y2) (by simp [Srt]) hY (fun A y z B e _=>by simp at e) (fun A y z B e e2=>by cases e2;exact h1 A y e) (by simp) (by simp) (List.pairwise_append.1 hY).1
  (List.pairwise_cons.2 ⟨fun y hy=> ?_,(List.pairwise_append.1 hY).2.1⟩)
 ·exact this
 ·have hs:=(List.pairwise_append.1 hY).2.1
  cases Y2 with
  |nil=>cases hy
  |cons y' B=>
   have k1:=h2 y' B rfl
   rcases List.mem_cons.1 hy with h|h
   ·rw [h];exact k1
   ·exact O.ntrans _ _ _ k1 (q09t hs y h)
end
end Go.Proofs.YtpmjopbgccajgaaGreat.Eng
namespace Go.Proofs.YtpmjopbgccajgaaGreat.Eng
abbrev Pc:=Int×Int×Int×Unit
abbrev rP (l:List Pc) (i:Nat):Pc:=rdP (0,0,0,()) l i
def ltP (a b:Pc):Prop:=b.2.1<a.2.1∨(b.2.1=a.2.1∧a.1<b.1)
theorem ordP:Ord ltP:=⟨fun x y h=>by unfold ltP at*;omega,fun x y z h1 h2=>by unfold ltP at*;omega⟩
theorem qcr (e:Pc) (u:Unit):(e.1,e.2.1,e.2.2.1,u)=e:=rfl
theorem q0m7 (k:Nat) (x y:Int):q4k k x y=some (if x<y then-1 else if y<x then 1 else 0,()):=by
 unfold q4k q9e
 by_cases h1:x<y
 ·rw [if_pos h1];simp (disch:=omega) only [evs]
 ·by_cases h2:y<x
  ·rw [if_neg h1,if_pos h2];simp (disch:=omega) only [evs]
  ·rw [if_neg h1,if_neg h2];simp (disch:=omega) only [evs]
theorem q0nc {k:Nat} (hk:K0≤k) (x y:Int):qgh k [(x,()),(y,())]=some (if x≠0 then x else y,()):=by
 unfold K0 at hk
 obtain⟨k,rfl⟩:∃j,k=j+3:=⟨k-3,by omega⟩
 unfold qgh
 have r0:rdP (0,()) [(x,()),(y,())] (q6 0)=(x,()):=rfl
 have r1:rdP (0,()) [(x,()),(y,())] (q6 (0+1))=(y,()):=rfl
 simp only [qh]
 by_cases hx:x=0
 ·by_cases hy:y=0
  ·simp (disch:=omega) only [evs,r0,r1,List.length_cons,List.length_nil,q0h]
   rw [if_neg (fun h=>h hx),hy]
  ·simp (disch:=omega) only [evs,r0,r1,List.length_cons,List.length_nil,q0h]
   rw [if_neg (fun h=>h hx)]
 ·simp (disch:=omega) only [evs,r0,List.length_cons,List.length_nil]
  rw [if_pos hx]
theorem qp6 {k:Nat} (hk:K0≤k) (a b:Pc):∃c:Int,q0v k a b=some (c,())∧(c<0↔ltP a b):=by
 unfold q0v
 simp only [q0m7,q00,q0nc hk]
 refine⟨_,rfl,?_⟩
 unfold ltP
 split<;>rename_i h<;>(try split at h)<;>(repeat' split)<;>(try split at h)<;>omega
theorem q0o0 (a b:Nat) (h:a+b<4611686018427387904):qb0 .i64 (qo9 .u64 (qb0 .u64 (qg .i64 (a:Int) (b:Int))) 1)=(((a+b) / 2:Nat):Int):=by
 rw [q0h (by omega)]
 have h1:qb0 .u64 ((a:Int)+b)=(a:Int)+b:=by
  have e:∀x:Int,IntKind.u64.wrap x=x % 18446744073709551616:=fun x=>by
   unfold IntKind.wrap
   simp [IntKind.bits,IntKind.signed]
  unfold qb0
  rw [e];omega
 rw [h1]
 have h2:qo9 .u64 ((a:Int)+b) 1=(((a+b) / 2:Nat):Int):=by
  show ((a:Int)+b).fdiv 2=_
  rw [Int.fdiv_eq_ediv_of_nonneg _ (by decide)]
  omega
 rw [h2]
 exact q09k (by omega)
theorem q0l8 {x y:Int} (h: -9223372036854775808≤x*y∧x*y<9223372036854775808):mulI .i64 x y=x*y:=q09k h
section
variable {R:Type} {P:Option R→Prop}
theorem q0s3 {F:(List Pc×Int×Unit→Option R)→List Pc×Int×Unit→Option R} {J:List Pc→Option R} (A B:List Pc) (x:Pc) (h1:∀l rec,F rec (l,(A.length:Int),())=J l)
  (h2:∀(l:List Pc) (j:Nat) rec,A.length<j→j<l.length→l.length≤1048576→F rec (l,(j:Int),())=br (dc (ltP (rP l j) (rP l (j-1)))) (rec ((l.set j (rP l (j-1))).set (j-1) (rP l j),((j-1:Nat):Int),())) (J l)) {S:List Pc} {c0:List Pc×Int×Unit} {k:Nat}
  (e:c0=(A++S++x::B,((A.length+S.length:Nat):Int),())) (hs:Srt ltP S) (hl:(A++S++x::B).length≤1048576) (hk:S.length<k) (hP:∀Z,Z.Perm (S++[x])→Srt ltP Z→P (J (A++Z++B))):P (qh F k c0):=by
 refine ql6 (fun f c=>∃S1 S2,S=S1++S2∧f=S1.length∧(∀s∈S2,ltP x s)∧c=(A++S1++x::(S2++B),((A.length+S1.length:Nat):Int),())) ?step (f:=S.length) ⟨S,[],by simp,rfl,by simp,by rw [e];rfl⟩ hk
 case step=>
  rintro f c rec ⟨S1,S2,rfl,rfl,hx,rfl⟩
  have hl':A.length+(S1.length+S2.length)+(B.length+1)≤1048576:=by simp at hl;omega
  cases hn:S1.length with
  |zero=>
   left
   obtain rfl:S1=[]:=List.length_eq_zero_iff.1 hn
   rw [Nat.add_zero,h1]
   have:=hP (x::S2) (by simpa using List.perm_append_comm (l₁:=[x]) (l₂:=S2)) (List.pairwise_cons.2 ⟨fun s hs=>ordP.asymm _ _ (hx s hs),hs⟩)
   simpa using this
  |succ n=>
   obtain⟨S0,y,rfl⟩:=qpa (show 0<S1.length by omega)
   have hS:S0.length=n:=by simpa using hn
   have e0:A++(S0++[y])++x::(S2++B)=(A++S0)++y::x::(S2++B):=by simp
   have elen:A.length+(n+1)=(A++S0).length+1:=by simp [hS];omega
   rw [h2 _ _ _ (by omega) (by simp;omega) (by simp;omega),e0,elen]
   have r1:rP (A++S0++y::x::(S2++B)) ((A++S0).length+1)=x:=q0fz _ _ _ _ rfl
   have r2:rP (A++S0++y::x::(S2++B)) ((A++S0).length+1-1)=y:=qa7 _ _ _ (by omega)
   rw [r1,r2,q0ak _ _ _ _ _ rfl,qr9 _ _ _ _ (show (A++S0).length+1-1=(A++S0).length by omega)]
   by_cases hlt:ltP x y
   ·right
    rw [q8 hlt]
    refine⟨n,_,by omega,⟨S0,y::S2,by simp,hS.symm,fun s h=> ?_,?_⟩,rfl⟩
    ·rcases List.mem_cons.1 h with e|e
     ·rw [e];exact hlt
     ·exact hx s e
    ·rw [show (A++S0).length+1-1=A.length+S0.length by simp]
     simp
   ·left
    rw [qa hlt]
    have:=hP (S0++[y]++x::S2) ?_ (q0fh ordP hs (fun A' z e=> ?_) (fun z B' e=>ordP.asymm _ _ (hx z (by simp [e]))))
    ·simpa using this
    ·have:=List.Perm.append_left (S0++[y]) (List.perm_append_comm (l₁:=[x]) (l₂:=S2))
     simpa using this
    ·obtain⟨_,e2⟩:=List.append_inj' e (by simp)
     cases e2;exact hlt
theorem q0sw {F:(List Pc×Int×Unit→Option R)→List Pc×Int×Unit→Option R} {J:List Pc→Option R} (A Y B:List Pc) (x:Pc) (h1:∀l rec,F rec (l,((A.length+Y.length:Nat):Int),())=J l)
  (h2:∀(l:List Pc) (j:Nat) rec,A.length≤j→j<A.length+Y.length→j+1<l.length→l.length≤1048576→F rec (l,(j:Int),())=rec ((l.set j (rP l (j+1))).set (j+1) (rP l j),((j+1:Nat):Int),())) {c0:List Pc×Int×Unit} {k:Nat}
  (e:c0=(A++x::(Y++B),(A.length:Int),())) (hl:(A++x::(Y++B)).length≤1048576) (hk:Y.length<k) (hP:P (J (A++Y++x::B))):P (qh F k c0):=by
 have hl':A.length+(Y.length+B.length+1)≤1048576:=by simp at hl;omega
 refine qcu (n:=Y.length) (fun i c=>c=(A++Y.take i++x::(Y.drop i++B),((A.length+i:Nat):Int),())) (by simpa using e) ?_ ?_ hk
 ·rintro i c rec hi rfl
  refine⟨_,rfl,?_⟩
  have hd:Y.drop i=rP Y i::Y.drop (i+1):=qvm hi
  have e0:A++Y.take i++x::(Y.drop i++B)=(A++Y.take i)++x::rP Y i::(Y.drop (i+1)++B):=by rw [hd];simp
  have elen:A.length+i=(A++Y.take i).length:=by simp;omega
  rw [h2 _ _ _ (by omega) (by omega) (by simp;omega) (by simp;omega),e0,elen]
  have r1:rP ((A++Y.take i)++x::rP Y i::(Y.drop (i+1)++B)) (A++Y.take i).length=x:=q0p2 _ _ _
  have r2:rP ((A++Y.take i)++x::rP Y i::(Y.drop (i+1)++B)) ((A++Y.take i).length+1)=rP Y i:=q0fz _ _ _ _ rfl
  rw [r1,r2,q0fq,q0ak _ _ _ _ _ rfl,q7b (d:=(0,0,0,())) hi]
  congr 2
  ·simp
  ·congr 1
   simp;omega
 ·rintro c rec rfl
  rw [h1,List.take_length,List.drop_length,List.nil_append]
  exact hP
theorem q0t9 {F:(List Pc×Int×Unit→Option R)→List Pc×Int×Unit→Option R} {J:List Pc→Option R} (A X B:List Pc) (y:Pc) (h1:∀l rec,F rec (l,(A.length:Int),())=J l)
  (h2:∀(l:List Pc) (j:Nat) rec,A.length<j→j<l.length→l.length≤1048576→F rec (l,(j:Int),())=rec ((l.set j (rP l (j-1))).set (j-1) (rP l j),((j-1:Nat):Int),())) {c0:List Pc×Int×Unit} {k:Nat}
  (e:c0=(A++X++y::B,((A.length+X.length:Nat):Int),())) (hl:(A++X++y::B).length≤1048576) (hk:X.length<k) (hP:P (J (A++y::(X++B)))):P (qh F k c0):=by
 have hl':A.length+X.length+(B.length+1)≤1048576:=by simp at hl;omega
 refine ql6 (fun f c=>∃S1 S2,X=S1++S2∧f=S1.length∧c=(A++S1++y::(S2++B),((A.length+S1.length:Nat):Int),())) ?step (f:=X.length) ⟨X,[],by simp,rfl,by rw [e];rfl⟩ hk
 rintro f c rec ⟨S1,S2,rfl,rfl,rfl⟩
 cases hn:S1.length with
 |zero=>
  left
  obtain rfl:S1=[]:=List.length_eq_zero_iff.1 hn
  rw [Nat.add_zero,h1]
  simpa using hP
 |succ n=>
  right
  obtain⟨S0,z,rfl⟩:=qpa (show 0<S1.length by omega)
  have hS:S0.length=n:=by simpa using hn
  have e0:A++(S0++[z])++y::(S2++B)=(A++S0)++z::y::(S2++B):=by simp
  have elen:A.length+(n+1)=(A++S0).length+1:=by simp [hS];omega
  simp only [List.length_append,List.length_cons,List.length_nil]at hl'
  rw [h2 _ _ _ (by omega) (by simp;omega) (by simp;omega),e0,elen]
  have r1:rP (A++S0++z::y::(S2++B)) ((A++S0).length+1)=y:=q0fz _ _ _ _ rfl
  have r2:rP (A++S0++z::y::(S2++B)) ((A++S0).length+1-1)=z:=qa7 _ _ _ (by omega)
  rw [r1,r2,q0ak _ _ _ _ _ rfl,qr9 _ _ _ _ (show (A++S0).length+1-1=(A++S0).length by omega)]
  refine⟨n,_,by omega,⟨S0,z::S2,by simp,hS.symm,?_⟩,rfl⟩
  rw [show (A++S0).length+1-1=A.length+S0.length by simp]
  simp
theorem q0qp {F:(Int×Int×Unit→Option R)→Int×Int×Unit→Option R} {J:Nat→Option R} {lo hi k:Nat} (q:Nat→Prop) (hF1:∀(i j:Nat) rec,lo≤i→i<j→j≤hi→F rec ((i:Int),(j:Int),())=br (dc (q ((i+j) / 2))) (rec ((((i+j) / 2+1:Nat):Int),(j:Int),())) (rec ((i:Int),(((i+j) / 2:Nat):Int),())))
  (hF2:∀(i:Nat) rec,lo≤i→i≤hi→F rec ((i:Int),(i:Int),())=J i) {c0:Int×Int×Unit} (e:c0=((lo:Int),(hi:Int),())) (hlo:lo≤hi) (hk:hi-lo<k) (hP:∀i,lo≤i→i≤hi→(i=lo∨q (i-1))→(i=hi∨¬q i)→P (J i)):P (qh F k c0):=by
 refine ql6 (fun f c=>∃i j:Nat,c=((i:Int),(j:Int),())∧lo≤i∧i≤j∧j≤hi∧f=j-i∧(i=lo∨q (i-1))∧(j=hi∨¬q j)) ?step (f:=hi-lo) ⟨lo,hi,e,Nat.le_refl _,hlo,Nat.le_refl _,rfl,.inl rfl,.inl rfl⟩ hk
 rintro f c rec ⟨i,j,rfl,h1,h2,h3,rfl,h4,h5⟩
 by_cases hij:i=j
 ·subst hij
  left
  rw [hF2 i rec h1 h3]
  exact hP i h1 h3 h4 h5
 ·right
  rw [hF1 i j rec h1 (by omega) h3]
  by_cases hq:q ((i+j) / 2)
  ·rw [q8 hq]
   exact⟨_,_,by omega,⟨(i+j) / 2+1,j,rfl,by omega,by omega,h3,rfl,.inr (by rw [Nat.add_sub_cancel];exact hq),h5⟩,rfl⟩
  ·rw [qa hq]
   exact⟨_,_,by omega,⟨i,(i+j) / 2,rfl,h1,by omega,by omega,rfl,h4,.inr hq⟩,rfl⟩
end
theorem q0t4 {k:Nat} (hk:K0≤k) (A X B:List Pc) (hl:(A++X++B).length≤1048576):∃Z,qr k (A++X++B) (A.length:Int) ((A.length+X.length:Nat):Int)=some (A++Z++B,())∧Z.Perm X∧Srt ltP Z:=by
 have hk':=hk
 unfold K0 at hk
 have hl':A.length+X.length+B.length≤1048576:=by simp at hl;omega
 unfold qr;delta W2
 cases X with
 |nil=>
  refine⟨[],?_,List.Perm.refl _,List.Pairwise.nil⟩
  obtain⟨k,rfl⟩:∃j,k=j+1:=⟨k-1,by omega⟩
  simp only [qh]
  simp (disch:=omega) only [qk,q00,qj,qq,qec,qi1,qqt,qqu,not_true_eq_false,not_false_eq_true,q78,q6m,q3n,q02,qn,q13,q4d,q0o,q1c,q4e,q4s,q2r,q2i,q0c,q3p,q31,q6o,qp3,qq5,q6p,q4b,q04,q8,qa,q0n,q1a,q2c,q1g,q2o,List.length_set,List.length_append,List.length_cons,List.length_nil,Nat.add_zero]
 |cons x0 X=>
  simp only [List.length_cons]at hl' ⊢
  refine qcu (P:=fun r=>∃Z,r=some (A++Z++B,())∧Z.Perm (x0::X)∧Srt ltP Z) (n:=X.length) (fun i c=>∃Z,c=(A++Z++X.drop i++B,((A.length+1+i:Nat):Int),())∧Z.Perm (x0::X.take i)∧Srt ltP Z) ⟨[x0],by rw [q0n (by omega)];simp,by simp,by simp [Srt]⟩ ?_ ?_ (by omega)
  ·rintro i c rec hi ⟨Z,rfl,hp,hs⟩
   have hZ:Z.length=i+1:=by rw [hp.length_eq];simp;omega
   have hd:X.drop i=rP X i::X.drop (i+1):=qvm hi
   simp only [qk]
   rw [qn,q8 (show ((A.length+1+i:Nat):Int)<((A.length+(X.length+1):Nat):Int) by omega)]
   refine q0s3 (P:=fun r=>∃c',(∃Z,c'=(A++Z++X.drop (i+1)++B,((A.length+1+(i+1):Nat):Int),())∧Z.Perm (x0::X.take (i+1))∧Srt ltP Z)∧r=rec c') (J:=fun l=>rec (l,((A.length+1+(i+1):Nat):Int),())) A (X.drop (i+1)++B) (rP X i) ?h1 ?h2 (S:=Z) ?e hs ?hl (by omega) ?hP
   case h1=>intro l rec2;simp (disch:=omega) only [qk,q00,qj,qq,qec,qi1,qqt,qqu,not_true_eq_false,not_false_eq_true,q78,q6m,q3n,q02,qn,q13,q4d,q0o,q1c,q4e,q4s,q2r,q2i,q0c,q3p,q31,q6o,qp3,qq5,q6p,q4b,q04,q8,qa,q0n,q1a,q2c,q1g,q2o,List.length_set,List.length_append,List.length_cons,List.length_nil];rfl
   case h2=>
    intro l j rec2 h1 h2 h3
    obtain⟨c,hc,hlt⟩:=qp6 (k:=k) hk' (rP l j) (rP l (j-1))
    have hc':q0v k (rdP (0,0,0,()) l j) (rdP (0,0,0,()) l (j-1))=some (c,()):=hc
    simp only [qcr]
    simp (disch:=omega) only [qk,q00,qj,qq,qec,qi1,qqt,qqu,not_true_eq_false,not_false_eq_true,q78,q6m,q3n,q02,qn,q13,q4d,q0o,q1c,q4e,q4s,q2r,q2i,q0c,q3p,q31,q6o,qp3,qq5,q6p,q4b,q04,q8,qa,q0n,q1a,q2c,q1g,q2o,List.length_set,List.length_append,List.length_cons,List.length_nil,hc',qcr]
    rw [q8m hlt]
    rfl
   case e=>
    rw [hd,hZ]
    simp [Nat.add_assoc,Nat.add_comm,Nat.add_left_comm]
   case hl=>simp [hZ];omega
   case hP=>
    intro Z' p1 p2
    refine⟨_,⟨Z',rfl,p1.trans ?_,p2⟩,by simp⟩
    rw [q7b (d:=(0,0,0,())) hi,←List.cons_append]
    exact List.Perm.append_right [rP X i] hp
  ·rintro c rec ⟨Z,rfl,hp,hs⟩
   refine⟨Z,?_,by simpa using hp,hs⟩
   simp (disch:=omega) only [qk,q00,qj,qq,qec,qi1,qqt,qqu,not_true_eq_false,not_false_eq_true,q78,q6m,q3n,q02,qn,q13,q4d,q0o,q1c,q4e,q4s,q2r,q2i,q0c,q3p,q31,q6o,qp3,qq5,q6p,q4b,q04,q8,qa,q0n,q1a,q2c,q1g,q2o,List.length_set,List.length_append,List.length_cons,List.length_nil]
   simp
end Go.Proofs.YtpmjopbgccajgaaGreat.Eng
namespace Go.Proofs.YtpmjopbgccajgaaGreat.Eng
theorem q0k4 {k:Nat} (hk:K0≤k) (A X M Y B:List Pc) (hxy:X.length=Y.length) (hl:(A++X++M++Y++B).length≤1048576):
  qz k (A++X++M++Y++B) (A.length:Int) ((A.length+X.length+M.length:Nat):Int) (X.length:Int)=some (A++Y++M++X++B,()):=by
 unfold K0 at hk
 have hl':A.length+X.length+M.length+Y.length+B.length≤1048576:=by simp at hl;omega
 unfold qz
 refine qcu (P:=fun r=>r=some (A++Y++M++X++B,())) (n:=X.length) (fun i c=>c=(A++Y.take i++(X.drop i++M++X.take i++Y.drop i++B),(i:Int),())) (by simp) ?_ ?_ (by omega)
 ·rintro i c rec hi rfl
  refine⟨_,rfl,?_⟩
  have hd:X.drop i=rP X i::X.drop (i+1):=qvm hi
  have hd2:Y.drop i=rP Y i::Y.drop (i+1):=qvm (by omega)
  have e0:A++Y.take i++(X.drop i++M++X.take i++Y.drop i++B)=(A++Y.take i)++rP X i::(X.drop (i+1)++M++X.take i++Y.drop i++B):=by rw [hd];simp
  have e1:∀z,(A++Y.take i)++z::(X.drop (i+1)++M++X.take i++Y.drop i++B)=(A++Y.take i++z::(X.drop (i+1)++M++X.take i))++rP Y i::(Y.drop (i+1)++B):=fun z=>by rw [hd2];simp
  have l1:A.length+i=(A++Y.take i).length:=by simp;omega
  have l2:∀z:Pc,A.length+X.length+M.length+i=(A++Y.take i++z::(X.drop (i+1)++M++X.take i)).length:=fun z=>by simp;omega
  have hlen:(A++Y.take i++(X.drop i++M++X.take i++Y.drop i++B)).length=A.length+X.length+M.length+Y.length+B.length:=by simp;omega
  have r1:rdP (0,0,0,()) (A++Y.take i++(X.drop i++M++X.take i++Y.drop i++B)) (A.length+i)=rP X i:=by rw [e0];exact qa7 _ _ _ l1
  have r2:rdP (0,0,0,()) (A++Y.take i++(X.drop i++M++X.take i++Y.drop i++B)) (A.length+X.length+M.length+i)=rP Y i:=by rw [e0,e1];exact qa7 _ _ _ (l2 _)
  have s1:∀z,(A++Y.take i++(X.drop i++M++X.take i++Y.drop i++B)).set (A.length+i) z=(A++Y.take i)++z::(X.drop (i+1)++M++X.take i++Y.drop i++B):=fun z=>by rw [e0];exact qr9 _ _ _ _ l1
  generalize hc:A++Y.take i++(X.drop i++M++X.take i++Y.drop i++B)=c at*
  have s2:((c.set (A.length+i) (rP Y i)).set (A.length+X.length+M.length+i) (rP X i))=A++Y.take (i+1)++(X.drop (i+1)++M++X.take (i+1)++Y.drop (i+1)++B):=by
   rw [s1,e1,qr9 _ _ _ _ (l2 _),q7b (d:=(0,0,0,())) hi,q7b (d:=(0,0,0,())) (show i<Y.length by omega)]
   simp
  simp only [qcr]
  simp (disch:=omega) only [qk,q00,qj,qq,qec,qi1,qqt,qqu,not_true_eq_false,not_false_eq_true,q78,q6m,q3n,q02,qn,q13,q4d,q0o,q1c,q4e,q4s,q2r,q2i,q0c,q3p,q31,q6o,qp3,qq5,q6p,q4b,q04,q8,qa,q0n,q1a,q2c,q1g,q2o,List.length_set,List.length_append,List.length_cons,List.length_nil,r1,r2,qcr]
  rw [s2]
 ·rintro c rec rfl
  simp (disch:=omega) only [qk,q00,qj,qq,qec,qi1,qqt,qqu,not_true_eq_false,not_false_eq_true,q78,q6m,q3n,q02,qn,q13,q4d,q0o,q1c,q4e,q4s,q2r,q2i,q0c,q3p,q31,q6o,qp3,qq5,q6p,q4b,q04,q8,qa,q0n,q1a,q2c,q1g,q2o,List.length_set,List.length_append,List.length_cons,List.length_nil]
  rw [List.take_length,List.drop_length,hxy,List.take_length,List.drop_length]
  simp
theorem q0sz {k:Nat} (hk:K0≤k) (A X Y B:List Pc) (hx:0<X.length) (hy:0<Y.length) (hl:(A++X++Y++B).length≤1048576):
  q07 k (A++X++Y++B) (A.length:Int) ((A.length+X.length:Nat):Int) ((A.length+X.length+Y.length:Nat):Int)=some (A++Y++X++B,()):=by
 have hk':=hk
 unfold K0 at hk
 have hl':A.length+X.length+Y.length+B.length≤1048576:=by simp at hl;omega
 unfold q07
 refine ql6 (P:=fun r=>r=some (A++Y++X++B,())) (f:=X.length+Y.length) (fun f c=>∃A' X' Y' B',f=X'.length+Y'.length∧0<X'.length∧0<Y'.length∧A'.length+X'.length=A.length+X.length∧(A'++X'++Y'++B').length≤1048576∧A'++Y'++X'++B'=A++Y++X++B∧c=(A'++X'++Y'++B',(X'.length:Int),(Y'.length:Int),())) ?_ ⟨A,X,Y,B,rfl,hx,hy,rfl,hl,rfl,?_⟩ (by omega)
 rotate_left
 ·simp (disch:=omega) only [qk,q00,qj,qq,qec,qi1,qqt,qqu,not_true_eq_false,not_false_eq_true,q78,q6m,q3n,q02,qn,q13,q4d,q0o,q1c,q4e,q4s,q2r,q2i,q0c,q3p,q31,q6o,qp3,qq5,q6p,q4b,q04,q8,qa,q0n,q1a,q2c,q1g,q2o,List.length_set,List.length_append,List.length_cons,List.length_nil]
  rw [show A.length+X.length-A.length=X.length by omega,show A.length+X.length+Y.length-(A.length+X.length)=Y.length by omega]
 rintro f c rec ⟨A',X',Y',B',rfl,hx',hy',hm,hll,he,rfl⟩
 have hll':A'.length+X'.length+Y'.length+B'.length≤1048576:=by simp at hll;omega
 by_cases heq:X'.length=Y'.length
 ·left
  have:=q0k4 (k:=k) hk' A' X' [] Y' B' heq (by simpa using hll)
  simp only [List.append_nil,List.length_nil,Nat.add_zero]at this
  rw [←he]
  simp (disch:=omega) only [qk,q00,qj,qq,qec,qi1,qqt,qqu,not_true_eq_false,not_false_eq_true,q78,q6m,q3n,q02,qn,q13,q4d,q0o,q1c,q4e,q4s,q2r,q2i,q0c,q3p,q31,q6o,qp3,qq5,q6p,q4b,q04,q8,qa,q0n,q1a,q2c,q1g,q2o,List.length_set,List.length_append,List.length_cons,List.length_nil,show A.length+X.length-X'.length=A'.length by omega]
  rw [hm]at this
  rw [this]
  rfl
 ·right
  by_cases hlt:Y'.length<X'.length
  ·have e1:X'=X'.take Y'.length++X'.drop Y'.length:=(List.take_append_drop _ _).symm
   have l1:(X'.take Y'.length).length=Y'.length:=by simp;omega
   have l2:(X'.drop Y'.length).length=X'.length-Y'.length:=by simp
   generalize X'.take Y'.length=X1 at*
   generalize X'.drop Y'.length=X2 at*
   have:=q0k4 (k:=k) hk' A' X1 X2 Y' B' l1 (by rw [e1]at hll;simpa using hll)
   rw [show A'++X1++X2++Y'++B'=A'++X'++Y'++B' by rw [e1];simp,show A'.length+X1.length+X2.length=A.length+X.length by omega,l1]at this
   refine⟨X2.length+X1.length,_,by omega,⟨A'++Y',X2,X1,B',rfl,by omega,by omega,by simp;omega,by rw [e1]at hll;simp at hll ⊢;omega,by rw [←he,e1];simp,rfl⟩,?_⟩
   simp (disch:=omega) only [qk,q00,qj,qq,qec,qi1,qqt,qqu,not_true_eq_false,not_false_eq_true,q78,q6m,q3n,q02,qn,q13,q4d,q0o,q1c,q4e,q4s,q2r,q2i,q0c,q3p,q31,q6o,qp3,qq5,q6p,q4b,q04,q8,qa,q0n,q1a,q2c,q1g,q2o,List.length_set,List.length_append,List.length_cons,List.length_nil,show A.length+X.length-X'.length=A'.length by omega,this]
   rw [l1,l2]
  ·have e1:Y'=Y'.take (Y'.length-X'.length)++Y'.drop (Y'.length-X'.length):=(List.take_append_drop _ _).symm
   have l1:(Y'.take (Y'.length-X'.length)).length=Y'.length-X'.length:=by simp
   have l2:(Y'.drop (Y'.length-X'.length)).length=X'.length:=by simp;omega
   generalize Y'.take (Y'.length-X'.length)=Y1 at*
   generalize Y'.drop (Y'.length-X'.length)=Y2 at*
   have:=q0k4 (k:=k) hk' A' X' Y1 Y2 B' l2.symm (by rw [e1]at hll;simpa using hll)
   rw [show A'++X'++Y1++Y2++B'=A'++X'++Y'++B' by rw [e1];simp]at this
   refine⟨Y2.length+Y1.length,_,by omega,⟨A',Y2,Y1,X'++B',rfl,by omega,by omega,by omega,by rw [e1]at hll;simp at hll ⊢;omega,by rw [←he,e1];simp,rfl⟩,?_⟩
   simp (disch:=omega) only [qk,q00,qj,qq,qec,qi1,qqt,qqu,not_true_eq_false,not_false_eq_true,q78,q6m,q3n,q02,qn,q13,q4d,q0o,q1c,q4e,q4s,q2r,q2i,q0c,q3p,q31,q6o,qp3,qq5,q6p,q4b,q04,q8,qa,q0n,q1a,q2c,q1g,q2o,List.length_set,List.length_append,List.length_cons,List.length_nil,show A.length+X.length-X'.length=A'.length by omega,show A.length+X.length+Y'.length-X'.length=A'.length+X'.length+Y1.length by omega,this]
   rw [l1,l2]
   simp
end Go.Proofs.YtpmjopbgccajgaaGreat.Eng
namespace Go.Proofs.YtpmjopbgccajgaaGreat.Eng
theorem q0er {x:Nat} (h:x<4611686018427387904):qb0 .i64 (qo9 .u64 (qb0 .u64 (x:Int)) 1)=((x / 2:Nat):Int):=by
 have:=q0o0 x 0 (by omega)
 rw [show ((0:Nat):Int)=0 from rfl,q0h (by omega)]at this
 simpa using this
theorem q0no {α:Type} (i:Nat) (a b:Option α):br (ltI (i:Int) (i:Int)) a b=b:=by rw [qn,qa (by omega)]
theorem q0sy {k:Nat} (hk:K0≤k):∀(f:Nat) (A X Y B:List Pc),0<X.length→0<Y.length→X.length+Y.length≤f→(A++X++Y++B).length≤1048576→
  ∃Z,qb f k (A++X++Y++B,(A.length:Int),((A.length+X.length:Nat):Int),((A.length+X.length+Y.length:Nat):Int),())=some (A++Z++B,())∧Z.Perm (X++Y)∧(Srt ltP X→Srt ltP Y→Srt ltP Z):=by
 have hk':=hk
 unfold K0 at hk
 intro f
 induction f with
 |zero=>intro A X Y B h1 h2 h3;omega
 |succ f ih=>
 intro A X Y B hX hY hf hl
 have hl':A.length+X.length+Y.length+B.length≤1048576:=by simp at hl;omega
 show ∃Z,q0q (qb f) k (A++X++Y++B) (A.length:Int) ((A.length+X.length:Nat):Int) ((A.length+X.length+Y.length:Nat):Int)=_∧_
 unfold q0q
 rw [q1g (a:=A.length+X.length) (by omega),q1g (a:=A.length+X.length+Y.length) (b:=A.length+X.length) (by omega)]
 by_cases c1:X.length=1
 ·obtain⟨x,rfl⟩:=List.length_eq_one_iff.1 c1
  rw [q02,q8 (by simp)]
  generalize hL:A++[x]++Y++B=L at*
  have hLl:L.length=A.length+1+Y.length+B.length:=by rw [←hL];simp;omega
  have rx:rP L A.length=x:=by rw [←hL];exact qa7 A (Y++B) x rfl |> (by simpa using ·)
  refine q0qp (P:=fun r=>∃Z,r=some (A++Z++B,())∧Z.Perm ([x]++Y)∧(Srt ltP [x]→Srt ltP Y→Srt ltP Z)) (lo:=A.length+1) (hi:=A.length+1+Y.length) (J:= ?J) (fun c=>ltP (rP L c) x) ?hF1 ?hF2 rfl (by omega) (by omega) ?hP
  case hF1=>
   intro i j rec h1 h2 h3
   obtain⟨c,hc,hlt⟩:=qp6 (k:=k) hk' (rP L ((i+j) / 2)) (rP L A.length)
   have hc':q0v k (rdP (0,0,0,()) L ((i+j) / 2)) (rdP (0,0,0,()) L A.length)=some (c,()):=hc
   rw [rx]at hlt
   simp only [qcr]
   simp (disch:=omega) only [qk,q00,qj,qq,qec,qi1,qqt,qqu,not_true_eq_false,not_false_eq_true,q78,q6m,q3n,q02,qn,q13,q4d,q0o,q1c,q4e,q4s,q2r,q2i,q0c,q3p,q31,q6o,qp3,qq5,q6p,q4b,q04,q8,qa,q0n,q1a,q2c,q1g,q2o,List.length_set,List.length_append,List.length_cons,List.length_nil,q0er,hc',qcr]
   rw [q8m hlt]
  case hF2=>intro i rec h1 h2;exact q0no _ _ _
  case hP=>
   intro i h1 h2 h3 h4
   have eY:Y=Y.take (i-(A.length+1))++Y.drop (i-(A.length+1)):=(List.take_append_drop _ _).symm
   have l1:(Y.take (i-(A.length+1))).length=i-(A.length+1):=by simp;omega
   generalize Y.take (i-(A.length+1))=Y1 at*
   generalize Y.drop (i-(A.length+1))=Y2 at*
   subst eY
   have hi:i=A.length+1+Y1.length:=by omega
   refine q0sw (P:=fun r=>∃Z,r=some (A++Z++B,())∧Z.Perm ([x]++(Y1++Y2))∧(Srt ltP [x]→Srt ltP (Y1++Y2)→Srt ltP Z)) (J:=fun l=>some (l,())) A Y1 (Y2++B) x ?h1 ?h2 ?e ?hl (by omega) ⟨Y1++x::Y2,by simp,List.perm_middle,fun _ hs=> ?_⟩
   case h1=>intro l rec;simp (disch:=omega) only [qk,q00,qj,qq,qec,qi1,qqt,qqu,not_true_eq_false,not_false_eq_true,q78,q6m,q3n,q02,qn,q13,q4d,q0o,q1c,q4e,q4s,q2r,q2i,q0c,q3p,q31,q6o,qp3,qq5,q6p,q4b,q04,q8,qa,q0n,q1a,q2c,q1g,q2o,List.length_set,List.length_append,List.length_cons,List.length_nil]
   case h2=>intro l j rec q1 q2 q3 q4;simp (disch:=omega) only [qk,q00,qj,qq,qec,qi1,qqt,qqu,not_true_eq_false,not_false_eq_true,q78,q6m,q3n,q02,qn,q13,q4d,q0o,q1c,q4e,q4s,q2r,q2i,q0c,q3p,q31,q6o,qp3,qq5,q6p,q4b,q04,q8,qa,q0n,q1a,q2c,q1g,q2o,List.length_set,List.length_append,List.length_cons,List.length_nil,qcr]
   case e=>rw [←hL];simp
   case hl=>simp at hLl ⊢;omega
   refine q0fh ordP hs (fun A' y e=> ?_) (fun y B' e=> ?_)
   ·subst e
    rcases h3 with h|h
    ·simp at hi;omega
    ·have:rP L (i-1)=y:=by rw [←hL];exact(by simpa using qa7 (d:=(0,0,0,())) (A++[x]++A') (Y2++B) y (n:=i-1) (by simp at hi ⊢ <;>omega))
     rw [this]at h
     exact ordP.asymm _ _ h
   ·subst e
    rcases h4 with h|h
    ·simp at h;omega
    ·have:rP L i=y:=by rw [←hL];exact(by simpa using qa7 (d:=(0,0,0,())) (A++[x]++Y1) (B'++B) y (n:=i) (by simp;omega))
     rwa [this]at h
 by_cases c2:Y.length=1
 ·obtain⟨y,rfl⟩:=List.length_eq_one_iff.1 c2
  rw [q02,qa (by omega),q02,q8 (by simp)]
  generalize hL:A++X++[y]++B=L at*
  have hLl:L.length=A.length+X.length+1+B.length:=by rw [←hL];simp;omega
  have ry:rP L (A.length+X.length)=y:=by rw [←hL];exact(by simpa using qa7 (d:=(0,0,0,())) (A++X) B y (n:=A.length+X.length) (by simp))
  refine q0qp (P:=fun r=>∃Z,r=some (A++Z++B,())∧Z.Perm (X++[y])∧(Srt ltP X→Srt ltP [y]→Srt ltP Z)) (lo:=A.length) (hi:=A.length+X.length) (J:= ?Jb) (fun c=>¬ltP y (rP L c)) ?hF1b ?hF2b rfl (by omega) (by omega) ?hPb
  case hF1b=>
   intro i j rec h1 h2 h3
   obtain⟨c,hc,hlt⟩:=qp6 (k:=k) hk' (rP L (A.length+X.length)) (rP L ((i+j) / 2))
   have hc':q0v k (rdP (0,0,0,()) L (A.length+X.length)) (rdP (0,0,0,()) L ((i+j) / 2))=some (c,()):=hc
   rw [ry]at hlt
   simp only [qcr]
   simp (disch:=omega) only [qk,q00,qj,qq,qec,qi1,qqt,qqu,not_true_eq_false,not_false_eq_true,q78,q6m,q3n,q02,qn,q13,q4d,q0o,q1c,q4e,q4s,q2r,q2i,q0c,q3p,q31,q6o,qp3,qq5,q6p,q4b,q04,q8,qa,q0n,q1a,q2c,q1g,q2o,List.length_set,List.length_append,List.length_cons,List.length_nil,q0er,hc',qcr]
   rw [q8m (not_congr hlt)]
  case hF2b=>intro i rec h1 h2;exact q0no _ _ _
  case hPb=>
   intro i h1 h2 h3 h4
   have eX:X=X.take (i-A.length)++X.drop (i-A.length):=(List.take_append_drop _ _).symm
   have l1:(X.take (i-A.length)).length=i-A.length:=by simp;omega
   generalize X.take (i-A.length)=X1 at*
   generalize X.drop (i-A.length)=X2 at*
   subst eX
   have hi:i=A.length+X1.length:=by omega
   refine q0t9 (P:=fun r=>∃Z,r=some (A++Z++B,())∧Z.Perm (X1++X2++[y])∧(Srt ltP (X1++X2)→Srt ltP [y]→Srt ltP Z)) (J:=fun l=>some (l,())) (A++X1) X2 B y ?h1b ?h2b ?eb ?hlb (by simp at hX hl';omega) ⟨X1++y::X2,by simp,?_,fun hs _=> ?_⟩
   case h1b=>intro l rec;rw [hi];simp (disch:=omega) only [qk,q00,qj,qq,qec,qi1,qqt,qqu,not_true_eq_false,not_false_eq_true,q78,q6m,q3n,q02,qn,q13,q4d,q0o,q1c,q4e,q4s,q2r,q2i,q0c,q3p,q31,q6o,qp3,qq5,q6p,q4b,q04,q8,qa,q0n,q1a,q2c,q1g,q2o,List.length_set,List.length_append,List.length_cons,List.length_nil]
   case h2b=>intro l j rec q1 q2 q3;simp only [List.length_append]at q1;rw [hi];simp (disch:=omega) only [qk,q00,qj,qq,qec,qi1,qqt,qqu,not_true_eq_false,not_false_eq_true,q78,q6m,q3n,q02,qn,q13,q4d,q0o,q1c,q4e,q4s,q2r,q2i,q0c,q3p,q31,q6o,qp3,qq5,q6p,q4b,q04,q8,qa,q0n,q1a,q2c,q1g,q2o,List.length_set,List.length_append,List.length_cons,List.length_nil,qcr]
   case eb=>rw [←hL];simp [Nat.add_assoc]
   case hlb=>simp at hLl ⊢;omega
   ·have:=List.Perm.append_left X1 (List.perm_append_comm (l₁:=[y]) (l₂:=X2))
    simpa using this
   refine q0fh ordP hs (fun A' z e=> ?_) (fun z B' e=> ?_)
   ·subst e
    rcases h3 with h|h
    ·simp at hi;omega
    ·have:rP L (i-1)=z:=by rw [←hL];exact(by simpa using qa7 (d:=(0,0,0,())) (A++A') (X2++[y]++B) z (n:=i-1) (by simp at hi ⊢ <;>omega))
     rwa [this]at h
   ·subst e
    rcases h4 with h|h
    ·simp at h;omega
    ·have:rP L i=z:=by rw [←hL];exact(by simpa using qa7 (d:=(0,0,0,())) (A++X1) (B'++[y]++B) z (n:=i) (by simp;omega))
     rw [this]at h
     exact ordP.asymm _ _ (Classical.not_not.1 h)
 rw [q02,qa (by omega),q02,qa (by omega)]
 rw [q13,q8 (by omega)]
 generalize hL:A++X++Y++B=L at*
 have hLl:L.length=A.length+X.length+Y.length+B.length:=by rw [←hL];simp;omega
 obtain⟨m,hm⟩:∃m,m=A.length+X.length:=⟨_,rfl⟩
 obtain⟨b,hb⟩:∃b,b=A.length+X.length+Y.length:=⟨_,rfl⟩
 obtain⟨mid,hmid⟩:∃mid,mid=(A.length+b) / 2:=⟨_,rfl⟩
 rw [←hb,←hm,q1a (a:=A.length) (by omega),q0er (by omega),←hmid]
 have main:∀s0 r0:Nat,((mid<m∧s0=mid+m-b∧r0=mid)∨(m≤mid∧s0=A.length∧r0=m))→∀(F:(Int×Int×Unit→Option (List Pc×Unit))→Int×Int×Unit→Option (List Pc×Unit)) (J:Nat→Option (List Pc×Unit)),
   (∀(i j:Nat) rec,s0≤i→i<j→j≤r0→F rec ((i:Int),(j:Int),())=br (dc (¬ltP (rP L (mid+m-1-(i+j) / 2)) (rP L ((i+j) / 2)))) (rec ((((i+j) / 2+1:Nat):Int),(j:Int),())) (rec ((i:Int),(((i+j) / 2:Nat):Int),())))→
   (∀(i:Nat) rec,s0≤i→i≤r0→F rec ((i:Int),(i:Int),())=J i)→
   (∀(X1 X2 Y1 Y2:List Pc) (s:Nat),X=X1++X2→Y=Y1++Y2→A.length+X1.length=s→s+Y1.length=mid→(Srt ltP X→Srt ltP Y→∀Z1 Z2:List Pc,Z1.Perm (X1++Y1)→Z2.Perm (X2++Y2)→Srt ltP Z1→Srt ltP Z2→Srt ltP (Z1++Z2))→
    ∃Z,J s=some (A++Z++B,())∧Z.Perm (X++Y)∧(Srt ltP X→Srt ltP Y→Srt ltP Z))→
   ∃Z,qh F k ((s0:Int),(r0:Int),())=some (A++Z++B,())∧Z.Perm (X++Y)∧(Srt ltP X→Srt ltP Y→Srt ltP Z):=by
  intro s0 r0 hs F J h1 h2 h3
  refine q0qp (P:=fun r=>∃Z,r=some (A++Z++B,())∧Z.Perm (X++Y)∧(Srt ltP X→Srt ltP Y→Srt ltP Z)) (lo:=s0) (hi:=r0) (fun c=>¬ltP (rP L (mid+m-1-c)) (rP L c)) h1 h2 rfl (by omega) (by omega) ?_
  intro s g1 g2 g3 g4
  have eX:X=X.take (s-A.length)++X.drop (s-A.length):=(List.take_append_drop _ _).symm
  have l1:(X.take (s-A.length)).length=s-A.length:=by simp;omega
  have eY:Y=Y.take (mid-s)++Y.drop (mid-s):=(List.take_append_drop _ _).symm
  have l2:(Y.take (mid-s)).length=mid-s:=by simp;omega
  generalize X.take (s-A.length)=X1 at*
  generalize X.drop (s-A.length)=X2 at*
  generalize Y.take (mid-s)=Y1 at*
  generalize Y.drop (mid-s)=Y2 at*
  subst eX;subst eY
  simp only [List.length_append]at*
  refine h3 X1 X2 Y1 Y2 s rfl rfl (by omega) (by omega) (fun hsx hsy Z1 Z2 p1 p2 s1 s2=>q0d6 ordP hsx hsy (fun A' x y B' e1 e2=> ?_) (fun A' y x B' e1 e2=> ?_) p1 p2 s1 s2)
  ·subst e1;subst e2
   simp only [List.length_append,List.length_cons,List.length_nil]at*
   rcases g3 with h|h
   ·omega
   ·have q1:rP L (s-1)=x:=by rw [←hL];exact(by simpa using qa7 (d:=(0,0,0,())) (A++A') (X2++Y1++y::B'++B) x (n:=s-1) (by simp;omega))
    have q2:rP L (mid+m-1-(s-1))=y:=by rw [←hL];exact(by simpa using qa7 (d:=(0,0,0,())) (A++(A'++[x]++X2)++Y1) (B'++B) y (n:=mid+m-1-(s-1)) (by simp;omega))
    rwa [q1,q2]at h
  ·subst e1;subst e2
   simp only [List.length_append,List.length_cons,List.length_nil]at*
   rcases g4 with h|h
   ·omega
   ·have q1:rP L s=x:=by rw [←hL];exact(by simpa using qa7 (d:=(0,0,0,())) (A++X1) (B'++(A'++[y]++Y2)++B) x (n:=s) (by simp;omega))
    have q2:rP L (mid+m-1-s)=y:=by rw [←hL];exact(by simpa using qa7 (d:=(0,0,0,())) (A++(X1++x::B')++A') (Y2++B) y (n:=mid+m-1-s) (by simp;omega))
    rw [q1,q2]at h
    exact ordP.asymm _ _ (Classical.not_not.1 h)
 have ea:qg .i64 (mid:Int) (m:Int)=((mid+m:Nat):Int):=q1a (by omega)
 have ea1:qp .i64 ((mid+m:Nat):Int) 1=((mid+m-1:Nat):Int):=q2c (by omega)
 rw [qk]
 have stp:∀(s0 r0 i j:Nat) (hs:(mid<m∧s0=mid+m-b∧r0=mid)∨(m≤mid∧s0=A.length∧r0=m)) (h1:s0≤i) (h2:i<j) (h3:j≤r0) (p q z:Option (List Pc×Unit)),br (ltI (i:Int) (j:Int)) (br (dc ((0:Int)≤1)) (br (inR (qp .i64 ((mid+m-1:Nat):Int) (((i+j) / 2:Nat):Int)) (ln L)) (q9 (rdP (0,0,0,()) L (q6 (qp .i64 ((mid+m-1:Nat):Int) (((i+j) / 2:Nat):Int)))) fun e31=>br (inR (((i+j) / 2:Nat):Int) (ln L)) (q9 (rdP (0,0,0,()) L (q6 (((i+j) / 2:Nat):Int))) fun e32=>
   bnd (q0v k (e31.1,e31.2.1,e31.2.2.1,()) (e32.1,e32.2.1,e32.2.2.1,())) fun y33=>br (qm (ltI y33.1 0)) p q) none) none) none) z=br (dc (¬ltP (rP L (mid+m-1-(i+j) / 2)) (rP L ((i+j) / 2)))) p q:=by
  intro s0 r0 i j hs h1 h2 h3 p q z
  obtain⟨c,hc,hlt⟩:=qp6 (k:=k) hk' (rP L (mid+m-1-(i+j) / 2)) (rP L ((i+j) / 2))
  have hc':q0v k (rdP (0,0,0,()) L (mid+m-1-(i+j) / 2)) (rdP (0,0,0,()) L ((i+j) / 2))=some (c,()):=hc
  rw [qn,q8 (by omega),q8 (by omega),q1g (by omega),q0c,q8 ⟨by omega,by rw [q31];omega⟩,qk,q0c,q8 ⟨by omega,by rw [q31];omega⟩,qk,q04,q04,qcr,qcr,hc',q00,qn,q0o,q8m (not_congr hlt)]
 have rst:∀(X1 X2 Y1 Y2:List Pc) (s:Nat),X=X1++X2→Y=Y1++Y2→A.length+X1.length=s→s+Y1.length=mid→
   ∃Z1 Z2:List Pc,(∀j:List Pc×Unit→Option (List Pc×Unit),br (ltI (s:Int) (m:Int)) (br (ltI (m:Int) ((mid+m-s:Nat):Int)) (bnd (q07 k L (s:Int) (m:Int) ((mid+m-s:Nat):Int)) fun y=>j (y.1,())) (j (L,()))) (j (L,()))=j (A++X1++Y1++X2++Y2++B,()))∧
    (∀j:List Pc×Unit→Option (List Pc×Unit),br (ltI (A.length:Int) (s:Int)) (br (ltI (s:Int) (mid:Int)) (bnd (qb f k (A++X1++Y1++X2++Y2++B,(A.length:Int),(s:Int),(mid:Int),())) fun y=>j (y.1,())) (j (A++X1++Y1++X2++Y2++B,()))) (j (A++X1++Y1++X2++Y2++B,()))=j (A++Z1++X2++Y2++B,()))∧
    br (ltI (mid:Int) ((mid+m-s:Nat):Int)) (br (ltI ((mid+m-s:Nat):Int) (b:Int)) (bnd (qb f k (A++Z1++X2++Y2++B,(mid:Int),((mid+m-s:Nat):Int),(b:Int),())) fun y=>some (y.1,())) (some (A++Z1++X2++Y2++B,()))) (some (A++Z1++X2++Y2++B,()))=some (A++(Z1++Z2)++B,())∧
    Z1.Perm (X1++Y1)∧Z2.Perm (X2++Y2)∧(Srt ltP X→Srt ltP Y→Srt ltP Z1∧Srt ltP Z2):=by
  intro X1 X2 Y1 Y2 s eX eY hs1 hs2
  subst eX;subst eY
  simp only [List.length_append]at*
  have hsort1:Srt ltP (X1++X2)→Srt ltP (Y1++Y2)→(Srt ltP X1∧Srt ltP X2)∧Srt ltP Y1∧Srt ltP Y2:=fun h1 h2=>⟨⟨(List.pairwise_append.1 h1).1,(List.pairwise_append.1 h1).2.1⟩,(List.pairwise_append.1 h2).1,(List.pairwise_append.1 h2).2.1⟩
  have z1:∃Z1:List Pc,(∀j:List Pc×Unit→Option (List Pc×Unit),br (ltI (A.length:Int) (s:Int)) (br (ltI (s:Int) (mid:Int)) (bnd (qb f k (A++X1++Y1++X2++Y2++B,(A.length:Int),(s:Int),(mid:Int),())) fun y=>j (y.1,())) (j (A++X1++Y1++X2++Y2++B,()))) (j (A++X1++Y1++X2++Y2++B,()))=j (A++Z1++X2++Y2++B,()))∧Z1.Perm (X1++Y1)∧(Srt ltP X1→Srt ltP Y1→Srt ltP Z1):=by
   by_cases g:0<X1.length∧0<Y1.length
   ·obtain⟨Z,e1,e2,e3⟩:=ih A X1 Y1 (X2++Y2++B) g.1 g.2 (by omega) (by simp;omega)
    refine⟨Z,fun j=> ?_,e2,e3⟩
    rw [show A++X1++Y1++(X2++Y2++B)=A++X1++Y1++X2++Y2++B by simp,hs1,hs2]at e1
    rw [qn,q8 (by omega),qn,q8 (by omega),e1]
    simp [bnd]
   ·refine⟨X1++Y1,fun j=> ?_,List.Perm.refl _,fun h1 h2=> ?_⟩
    ·rw [show A++(X1++Y1)++X2++Y2++B=A++X1++Y1++X2++Y2++B by simp]
     by_cases g1:A.length<s
     ·rw [qn,q8 (by omega),qn,qa (by omega)]
     ·rw [qn,qa (by omega)]
    ·cases X1 with
     |nil=>simpa using h2
     |cons _ _=>cases Y1 with
      |nil=>simpa using h1
      |cons _ _=>exact absurd ⟨by simp,by simp⟩ g
  obtain⟨Z1,w1,w2,w3⟩:=z1
  have lz:Z1.length=X1.length+Y1.length:=by rw [w2.length_eq];simp
  have z2:∃Z2:List Pc,br (ltI (mid:Int) ((mid+m-s:Nat):Int)) (br (ltI ((mid+m-s:Nat):Int) (b:Int)) (bnd (qb f k (A++Z1++X2++Y2++B,(mid:Int),((mid+m-s:Nat):Int),(b:Int),())) fun y=>some (y.1,())) (some (A++Z1++X2++Y2++B,()))) (some (A++Z1++X2++Y2++B,()))=some (A++(Z1++Z2)++B,())∧Z2.Perm (X2++Y2)∧(Srt ltP X2→Srt ltP Y2→Srt ltP Z2):=by
   by_cases g:0<X2.length∧0<Y2.length
   ·obtain⟨Z,e1,e2,e3⟩:=ih (A++Z1) X2 Y2 B g.1 g.2 (by omega) (by simp;omega)
    refine⟨Z,?_,e2,e3⟩
    simp only [List.length_append]at e1
    rw [show A.length+Z1.length=mid by omega,show mid+X2.length=mid+m-s by omega,show mid+m-s+Y2.length=b by omega]at e1
    rw [qn,q8 (by omega),qn,q8 (by omega),e1]
    simp [bnd]
   ·refine⟨X2++Y2,?_,List.Perm.refl _,fun h1 h2=> ?_⟩
    ·rw [show A++(Z1++(X2++Y2))++B=A++Z1++X2++Y2++B by simp]
     by_cases g1:mid<mid+m-s
     ·rw [qn,q8 (by omega),qn,qa (by omega)]
     ·rw [qn,qa (by omega)]
    ·cases X2 with
     |nil=>simpa using h2
     |cons _ _=>cases Y2 with
      |nil=>simpa using h1
      |cons _ _=>exact absurd ⟨by simp,by simp⟩ g
  obtain⟨Z2,v1,v2,v3⟩:=z2
  refine⟨Z1,Z2,fun j=> ?_,w1,v1,w2,v2,fun h1 h2=>⟨w3 (hsort1 h1 h2).1.1 (hsort1 h1 h2).2.1,v3 (hsort1 h1 h2).1.2 (hsort1 h1 h2).2.2⟩⟩
  by_cases g:0<X2.length∧0<Y1.length
  ·have:=q0sz (k:=k) hk' (A++X1) X2 Y1 (Y2++B) g.1 g.2 (by simp;omega)
   simp only [List.length_append]at this
   rw [show A++X1++X2++Y1++(Y2++B)=L by rw [←hL];simp,hs1,show s+X2.length=m by omega,show m+Y1.length=mid+m-s by omega]at this
   rw [qn,q8 (by omega),qn,q8 (by omega),this]
   simp [bnd]
  ·have e:L=A++X1++Y1++X2++Y2++B:=by
    rw [←hL]
    cases X2 with
    |nil=>simp
    |cons _ _=>cases Y1 with
     |nil=>simp
     |cons _ _=>exact absurd ⟨by simp,by simp⟩ g
   rw [←e]
   by_cases g1:s<m
   ·rw [qn,q8 (by omega),qn,qa (by omega)]
   ·rw [qn,qa (by omega)]
 have fin:∀(J:Nat→Option (List Pc×Unit)),(∀s,J s=q9 (fun (c34:List Pc×Unit)=>q9 (fun (c36:List Pc×Unit)=>br (ltI (mid:Int) (qp .i64 ((mid+m:Nat):Int) (s:Int))) (br (ltI (qp .i64 ((mid+m:Nat):Int) (s:Int)) (b:Int)) (bnd (qb f k (c36.1,(mid:Int),qp .i64 ((mid+m:Nat):Int) (s:Int),(b:Int),())) fun y38=>some (y38.1,())) (some (c36.1,()))) (some (c36.1,()))) fun j37=>br (ltI (A.length:Int) (s:Int)) (br (ltI (s:Int) (mid:Int)) (bnd (qb f k (c34.1,(A.length:Int),(s:Int),(mid:Int),())) fun y39=>j37 (y39.1,())) (j37 (c34.1,()))) (j37 (c34.1,()))) fun j35=>
    br (ltI (s:Int) (m:Int)) (br (ltI (m:Int) (qp .i64 ((mid+m:Nat):Int) (s:Int))) (bnd (q07 k L (s:Int) (m:Int) (qp .i64 ((mid+m:Nat):Int) (s:Int))) fun y40=>j35 (y40.1,())) (j35 (L,()))) (j35 (L,())))→
   ∀(X1 X2 Y1 Y2:List Pc) (s:Nat),X=X1++X2→Y=Y1++Y2→A.length+X1.length=s→s+Y1.length=mid→(Srt ltP X→Srt ltP Y→∀Z1 Z2:List Pc,Z1.Perm (X1++Y1)→Z2.Perm (X2++Y2)→Srt ltP Z1→Srt ltP Z2→Srt ltP (Z1++Z2))→
    ∃Z,J s=some (A++Z++B,())∧Z.Perm (X++Y)∧(Srt ltP X→Srt ltP Y→Srt ltP Z):=by
  intro J hJ X1 X2 Y1 Y2 s eX eY hs1 hs2 hsort
  have e3:qp .i64 ((mid+m:Nat):Int) (s:Int)=((mid+m-s:Nat):Int):=q1g (by omega)
  obtain⟨Z1,Z2,a1,a2,a3,a4,a5,a6⟩:=rst X1 X2 Y1 Y2 s eX eY hs1 hs2
  refine⟨Z1++Z2,?_,(a4.append a5).trans ?_,fun h1 h2=>hsort h1 h2 Z1 Z2 a4 a5 (a6 h1 h2).1 (a6 h1 h2).2⟩
  ·rw [hJ s,e3]
   have h36:=a2 (fun c36=>br (ltI (mid:Int) ((mid+m-s:Nat):Int)) (br (ltI ((mid+m-s:Nat):Int) (b:Int)) (bnd (qb f k (c36.1,(mid:Int),((mid+m-s:Nat):Int),(b:Int),())) fun y38=>some (y38.1,())) (some (c36.1,()))) (some (c36.1,())))
   have h35:=a1 (fun (c34:List Pc×Unit)=>q9 (fun (c36:List Pc×Unit)=>br (ltI (mid:Int) ((mid+m-s:Nat):Int)) (br (ltI ((mid+m-s:Nat):Int) (b:Int)) (bnd (qb f k (c36.1,(mid:Int),((mid+m-s:Nat):Int),(b:Int),())) fun y38=>some (y38.1,())) (some (c36.1,()))) (some (c36.1,()))) fun j37=>br (ltI (A.length:Int) (s:Int)) (br (ltI (s:Int) (mid:Int)) (bnd (qb f k (c34.1,(A.length:Int),(s:Int),(mid:Int),())) fun y39=>j37 (y39.1,())) (j37 (c34.1,()))) (j37 (c34.1,())))
   exact Eq.trans h35 (Eq.trans h36 a3)
  ·rw [eX,eY]
   have:=(List.perm_append_comm (l₁:=Y1) (l₂:=X2)).append_left X1
   have:=this.append_right Y2
   simpa using this
 by_cases hlt:mid<m
 ·have eb:qp .i64 ((mid+m:Nat):Int) (b:Int)=((mid+m-b:Nat):Int):=q1g (by omega)
  rw [qn,q8 (by omega)]
  simp only [ea,ea1,eb]
  refine main (mid+m-b) mid (.inl ⟨hlt,rfl,rfl⟩) _ ?J1 ?s1 ?t1 ?u1
  case t1=>intro i rec h1 h2;exact q0no _ _ _
  case s1=>
   intro i j rec h1 h2 h3
   simp (disch:=omega) only [q1a,q0er,q0n]
   exact stp (mid+m-b) mid i j (.inl ⟨hlt,rfl,rfl⟩) h1 h2 h3 _ _ _
  case u1=>exact fin _ (fun s=>rfl)
 ·rw [qn,qa (by omega)]
  simp only [ea,ea1]
  refine main A.length m (.inr ⟨by omega,rfl,rfl⟩) _ ?J2 ?s2 ?t2 ?u2
  case t2=>intro i rec h1 h2;exact q0no _ _ _
  case s2=>
   intro i j rec h1 h2 h3
   simp (disch:=omega) only [q1a,q0er,q0n]
   exact stp A.length m i j (.inr ⟨by omega,rfl,rfl⟩) h1 h2 h3 _ _ _
  case u2=>exact fin _ (fun s=>rfl)
end Go.Proofs.YtpmjopbgccajgaaGreat.Eng
namespace Go.Proofs.YtpmjopbgccajgaaGreat.Eng
def seg {α:Type} (l:List α) (p q:Nat):List α:=(l.take q).drop p
theorem qqc {α:Type} {l:List α} {p q:Nat} (h:q≤l.length):(seg l p q).length=q-p:=by unfold seg;simp;omega
theorem qoc {α:Type} (l:List α) {p q:Nat} (h:p≤q):l=l.take p++seg l p q++l.drop q:=by
 have e:l.take p++seg l p q=l.take q:=by
  have:=List.take_append_drop p (l.take q)
  rw [List.take_take,Nat.min_eq_left h]at this
  exact this
 rw [e,List.take_append_drop]
theorem qtc {α:Type} {l:List α} {p q:Nat} (h:l.length≤q):seg l p q=seg l p l.length:=by unfold seg;rw [List.take_of_length_le h,List.take_length]
theorem q0fs {α:Type} {l:List α} {p q:Nat} (h:l.length≤p):seg l p q=[]:=by unfold seg;exact List.drop_eq_nil_of_le (by simp;omega)
section
variable {α:Type} {l Z:List α} {a b:Nat}
theorem q0ko (hab:a≤b) (hb:b≤l.length) (hZ:Z.length=b-a):(l.take a++Z++l.drop b).length=l.length:=by simp [hZ];omega
theorem qp8 (hab:a≤b) (hb:b≤l.length) {p q:Nat} (h:q≤a):seg (l.take a++Z++l.drop b) p q=seg l p q:=by
 unfold seg
 rw [List.append_assoc,List.take_append_of_le_length (by simp;omega),List.take_take,Nat.min_eq_left h]
theorem q0iw (hab:a≤b) (hb:b≤l.length) (hZ:Z.length=b-a) {p q:Nat} (h:b≤p):seg (l.take a++Z++l.drop b) p q=seg l p q:=by
 unfold seg
 rw [List.drop_take,List.drop_take]
 congr 1
 have hl:(l.take a++Z).length=b:=by simp [hZ];omega
 have e1:∀m:List α,m.drop p=(m.drop b).drop (p-b):=fun m=>by rw [List.drop_drop];congr 1;omega
 rw [e1,e1 l]
 congr 1
 have:=List.drop_left (l₁:=l.take a++Z) (l₂:=l.drop b)
 rwa [hl]at this
theorem q0h9 (hab:a≤b) (hb:b≤l.length) (hZ:Z.length=b-a):seg (l.take a++Z++l.drop b) a b=Z:=by
 unfold seg
 have hl:(l.take a++Z).length=b:=by simp [hZ];omega
 have ha:(l.take a).length=a:=by simp;omega
 have h1:=List.take_left (l₁:=l.take a++Z) (l₂:=l.drop b)
 rw [hl]at h1
 rw [h1]
 have h2:=List.drop_left (l₁:=l.take a) (l₂:=Z)
 rwa [ha]at h2
theorem qyo (hab:a≤b) (hp:Z.Perm (seg l a b)):(l.take a++Z++l.drop b).Perm l:=by
 conv=>rhs;rw [qoc l hab]
 exact(hp.append_left _).append_right _
end
theorem q0pc {k:Nat} (hk:K0≤k) (l:List Pc) {a b:Nat} (hab:a≤b) (hb:b≤l.length) (hl:l.length≤1048576):∃Z,qr k l (a:Int) (b:Int)=some (l.take a++Z++l.drop b,())∧Z.Perm (seg l a b)∧Srt ltP Z:=by
 have hs:=qoc l hab
 obtain⟨Z,e,h1,h2⟩:=q0t4 hk (l.take a) (seg l a b) (l.drop b) (by rw [←hs];exact hl)
 rw [←hs,qqc hb,show (l.take a).length=a by simp;omega,show a+(b-a)=b by omega]at e
 exact⟨Z,e,h1,h2⟩
theorem q0p0 {k:Nat} (hk:K0≤k) (l:List Pc) {a m b:Nat} (ham:a<m) (hmb:m<b) (hb:b≤l.length) (hl:l.length≤1048576):
  ∃Z,q25 k l (a:Int) (m:Int) (b:Int)=some (l.take a++Z++l.drop b,())∧Z.Perm (seg l a b)∧(Srt ltP (seg l a m)→Srt ltP (seg l m b)→Srt ltP Z):=by
 have hk':=hk
 unfold K0 at hk'
 have hs:=qoc l (show a≤m by omega)
 have hs2:l.drop m=seg l m b++l.drop b:=by
  have:=qoc l (show m≤b by omega)
  have h2:=List.take_append_drop m l
  rw [List.append_assoc]at this
  exact List.append_cancel_left (h2.trans this)
 have e0:seg l a m++seg l m b=seg l a b:=by
  have h1:=qoc l (show a≤b by omega)
  rw [hs2,←List.append_assoc]at hs
  have:=hs.symm.trans h1
  have:=List.append_cancel_right this
  rw [List.append_assoc]at this
  exact List.append_cancel_left this
 have l1:(seg l a m).length=m-a:=qqc (by omega)
 have l2:(seg l m b).length=b-m:=qqc hb
 have hs3:l=l.take a++seg l a m++seg l m b++l.drop b:=by
  conv=>lhs;rw [hs,hs2]
  simp
 obtain⟨Z,e,h1,h2⟩:=q0sy hk k (l.take a) (seg l a m) (seg l m b) (l.drop b) (by omega) (by omega) (by omega) (by rw [←hs3];exact hl)
 rw [←hs3,l1,l2,show (l.take a).length=a by simp;omega,show a+(m-a)=m by omega,show m+(b-m)=b by omega]at e
 exact⟨Z,e,by rw [←e0];exact h1,h2⟩
def Runs (q:Nat) (l:List Pc):Prop:=∀j,Srt ltP (seg l (q*j) (q*j+q))
theorem q0rb {k:Nat} (hk:K0≤k) (l:List Pc) (hl:l.length≤1048576):∃z,q0m k l=some (z,())∧z.Perm l∧Srt ltP z:=by
 have hk':=hk
 unfold K0 at hk'
 unfold q0m q18
 generalize hn:l.length=n at*
 have srt0:Srt ltP ([]:List Pc):=List.Pairwise.nil
 rw [q31,hn]
 have fin:∀r:Option (List Pc×Unit),(∃z,r=some (z,())∧z.Perm l∧Srt ltP z)→∃z,(bnd r fun y1=>some (y1.1,()))=some (z,())∧z.Perm l∧Srt ltP z:=by
  rintro r ⟨z,rfl,h⟩
  exact⟨z,rfl,h⟩
 apply fin
 refine qcu (P:=fun r=>∃z,r=some (z,())∧z.Perm l∧Srt ltP z) (n:=n / 20) (fun i c=>∃c',c=(c',((20*i:Nat):Int),((20*i+20:Nat):Int),())∧c'.Perm l∧∀j,j<i→Srt ltP (seg c' (20*j) (20*j+20))) ⟨l,rfl,List.Perm.refl _,fun j hj=>by omega⟩ ?_ ?_ (by omega)
 ·rintro i c rec hi ⟨c',rfl,hp,hr⟩
  have hcl:c'.length=n:=by rw [hp.length_eq,hn]
  obtain⟨Z,e,z1,z2⟩:=q0pc hk c' (a:=20*i) (b:=20*i+20) (by omega) (by omega) (by omega)
  have hZ:Z.length=20:=by rw [z1.length_eq,qqc (by omega)];omega
  refine⟨_,⟨c'.take (20*i)++Z++c'.drop (20*i+20),rfl,(qyo (by omega) z1).trans hp,fun j hj=> ?_⟩,?_⟩
  ·by_cases hji:j=i
   ·subst hji;rw [q0h9 (by omega) (by omega) (by omega)];exact z2
   ·rw [qp8 (by omega) (by omega) (by omega)];exact hr j (by omega)
  ·have ha:qg .i64 ((20*i+20:Nat):Int) 20=((20*(i+1)+20:Nat):Int):=by rw [q0h (by omega)];omega
   simp only [q13]
   rw [q8 (by omega),e,q00,ha]
   rfl
 ·rintro c rec ⟨c',rfl,hp,hr⟩
  have hcl:c'.length=n:=by rw [hp.length_eq,hn]
  simp only [q13]
  rw [qa (by omega)]
  obtain⟨Z,e,z1,z2⟩:=q0pc hk c' (a:=20*(n / 20)) (b:=n) (by omega) (by omega) (by omega)
  have hZ:Z.length=n-20*(n / 20):=by rw [z1.length_eq,qqc (by omega)]
  rw [e,q00]
  have hp2:=(qyo (by omega) z1).trans hp
  have hl2:=q0ko (l:=c') (Z:=Z) (a:=20*(n / 20)) (b:=n) (by omega) (by omega) hZ
  have hr2:Runs 20 (c'.take (20*(n / 20))++Z++c'.drop n):=by
   intro j
   by_cases h1:j<n / 20
   ·rw [qp8 (by omega) (by omega) (by omega)];exact hr j h1
   ·by_cases h2:j=n / 20
    ·rw [qtc (by omega),hl2,hcl,h2,q0h9 (by omega) (by omega) hZ];exact z2
    ·rw [q0fs (by omega)];exact srt0
  generalize c'.take (20*(n / 20))++Z++c'.drop n=c1 at*
  refine ql6 (P:=fun r=>∃z,r=some (z,())∧z.Perm l∧Srt ltP z) (fun f c=>∃(c':List Pc) (q:Nat),c=(c',(q:Int),())∧f=n-q∧0<q∧q≤2097152+40∧c'.Perm l∧Runs q c') ?_ (f:=n-20) ⟨c1,20,rfl,rfl,by omega,by omega,hp2,hr2⟩ (by omega)
  rintro f c rec2 ⟨c',q,rfl,rfl,hq0,hq1,hp,hr⟩
  have hcl:c'.length=n:=by rw [hp.length_eq,hn]
  by_cases hqn:q<n
  case neg=>
   left
   refine⟨c',?_,hp,?_⟩
   ·simp only [qn];rw [qa (by omega)]
   ·have:=hr 0
    rw [Nat.mul_zero,Nat.zero_add,qtc (by omega)]at this
    unfold seg at this
    rwa [List.take_length,List.drop_zero]at this
  right
  have em:mulI .i64 2 (q:Int)=((2*q:Nat):Int):=by rw [q0l8 (by omega)];omega
  have em2:mulI .i64 (q:Int) 2=((2*q:Nat):Int):=by rw [q0l8 (by omega)];omega
  simp only [qn,q13,qk,em,em2]
  rw [q8 (show (q:Int)<(n:Int) by omega)]
  have hd:=Nat.div_add_mod n (2*q)
  have hm:=Nat.mod_lt n (show 0<2*q by omega)
  have hdl:n / (2*q)≤n:=Nat.div_le_self _ _
  have hle:∀i,i<n / (2*q)→2*q*i+2*q≤n:=fun i hi=>by
   have:=Nat.mul_le_mul_left (2*q) (show i+1≤n / (2*q) by omega)
   rw [Nat.mul_succ]at this
   omega
  have hblk:∀ {i j:Nat},j<i→2*q*j+2*q≤2*q*i:=fun {i j} h=>by
   have:=Nat.mul_le_mul_left (2*q) (show j+1≤i by omega)
   rwa [Nat.mul_succ]at this
  have h2i:∀i,q*(2*i)=2*q*i:=fun i=>by rw [←Nat.mul_assoc,Nat.mul_comm q 2]
  have h2i1:∀i,q*(2*i+1)=2*q*i+q:=fun i=>by rw [Nat.mul_succ,h2i]
  have hge:∀ {i j:Nat},2*i≤j→2*q*i≤q*j:=fun {i j} h=>by
   rw [←h2i];exact Nat.mul_le_mul_left q h
  refine qcu (P:=fun r=>∃f' c'',f'<n-q∧(∃(c3:List Pc) (q':Nat),c''=(c3,(q':Int),())∧f'=n-q'∧0<q'∧q'≤2097152+40∧c3.Perm l∧Runs q' c3)∧r=rec2 c'') (n:=n / (2*q)) (fun i c=>∃c',c=(c',((2*q*i:Nat):Int),((2*q*i+2*q:Nat):Int),())∧c'.Perm l∧(∀j,j<i→Srt ltP (seg c' (2*q*j) (2*q*j+2*q)))∧∀j,2*i≤j→Srt ltP (seg c' (q*j) (q*j+q))) ⟨c',by simp,hp,fun j hj=>by omega,fun j _=>hr j⟩ ?_ ?_ (by omega)
  ·rintro i c rec hi ⟨c',rfl,hp,h1,h2⟩
   have hcl:c'.length=n:=by rw [hp.length_eq,hn]
   have hb:=hle i hi
   obtain⟨Z,e,z1,z2⟩:=q0p0 hk c' (a:=2*q*i) (m:=2*q*i+q) (b:=2*q*i+2*q) (by omega) (by omega) (by omega) (by omega)
   have hZ:Z.length=2*q*i+2*q-2*q*i:=by rw [z1.length_eq,qqc (by omega)]
   have s1:=h2 (2*i) (by omega)
   have s2:=h2 (2*i+1) (by omega)
   rw [h2i]at s1
   rw [h2i1,show 2*q*i+q+q=2*q*i+2*q by omega]at s2
   refine⟨_,⟨c'.take (2*q*i)++Z++c'.drop (2*q*i+2*q),rfl,(qyo (by omega) z1).trans hp,fun j hj=> ?_,fun j hj=> ?_⟩,?_⟩
   ·by_cases hji:j=i
    ·subst hji;rw [q0h9 (by omega) (by omega) hZ];exact z2 s1 s2
    ·rw [qp8 (by omega) (by omega) (hblk (by omega))];exact h1 j (by omega)
   ·have:=hge hj
    rw [Nat.mul_succ]at this
    rw [q0iw (by omega) (by omega) hZ this];exact h2 j (by omega)
   ·have e1:qg .i64 ((2*q*i:Nat):Int) (q:Int)=((2*q*i+q:Nat):Int):=q1a (by omega)
    have e2:qg .i64 ((2*q*i+2*q:Nat):Int) ((2*q:Nat):Int)=((2*q*(i+1)+2*q:Nat):Int):=by rw [q1a (by omega),Nat.mul_succ]
    have e3:((2*q*(i+1):Nat):Int)=((2*q*i+2*q:Nat):Int):=by rw [Nat.mul_succ]
    rw [q8 (show ((2*q*i+2*q:Nat):Int)≤(n:Int) by omega),e1,e,q00,e2,e3]
  ·rintro c rec ⟨c',rfl,hp,h1,h2⟩
   have hcl:c'.length=n:=by rw [hp.length_eq,hn]
   rw [qa (show ¬((2*q*(n / (2*q))+2*q:Nat):Int)≤(n:Int) by omega)]
   have e1:qg .i64 ((2*q*(n / (2*q)):Nat):Int) (q:Int)=((2*q*(n / (2*q))+q:Nat):Int):=q1a (by omega)
   have s1:=h2 (2*(n / (2*q))) (by omega)
   have s2:=h2 (2*(n / (2*q))+1) (by omega)
   rw [h2i]at s1
   rw [h2i1,show 2*q*(n / (2*q))+q+q=2*q*(n / (2*q))+2*q by omega]at s2
   have hout:∀ {j},n / (2*q)<j→n≤2*q*j:=fun {j} h=>by have:=hblk h;omega
   rw [e1]
   generalize n / (2*q)=i at*
   by_cases hmn:2*q*i+q<n
   ·obtain⟨Z,e,z1,z2⟩:=q0p0 hk c' (a:=2*q*i) (m:=2*q*i+q) (b:=n) (by omega) hmn (by omega) (by omega)
    have hZ:Z.length=n-2*q*i:=by rw [z1.length_eq,qqc (by omega)]
    have hl2:=q0ko (l:=c') (Z:=Z) (a:=2*q*i) (b:=n) (by omega) (by omega) hZ
    rw [q8 (by omega),e,q00]
    refine⟨n-2*q,_,by omega,⟨c'.take (2*q*i)++Z++c'.drop n,2*q,rfl,rfl,by omega,by omega,(qyo (by omega) z1).trans hp,fun j=> ?_⟩,rfl⟩
    by_cases g1:j<i
    ·rw [qp8 (by omega) (by omega) (hblk g1)];exact h1 j g1
    ·by_cases g2:j=i
     ·rw [qtc (by rw [hl2,hcl,g2];omega),hl2,hcl,g2,q0h9 (by omega) (by omega) hZ]
      refine z2 s1 ?_
      rwa [qtc (by omega),hcl]at s2
     ·rw [q0fs (by rw [hl2,hcl];exact hout (by omega))];exact srt0
   ·rw [qa (by omega)]
    refine⟨n-2*q,_,by omega,⟨c',2*q,rfl,rfl,by omega,by omega,hp,fun j=> ?_⟩,rfl⟩
    by_cases g1:j<i
    ·exact h1 j g1
    ·by_cases g2:j=i
     ·rw [qtc (by rw [hcl,g2];omega),g2]
      rwa [qtc (by omega)]at s1
     ·rw [q0fs (by rw [hcl];exact hout (by omega))];exact srt0
end Go.Proofs.YtpmjopbgccajgaaGreat.Eng
