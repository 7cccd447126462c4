/- Who owns a bag, who is aboard, what was pulled, what may fly: what the program's functions compute. No condition. -/
import Derived.Test.YtpmjopbgccajgaaGreatPIc
import Derived.Test.YtpmjopbgccajgaaGreatPQnote
import Derived.Test.YtpmjopbgccajgaaGreatD
namespace Go.Proofs.YtpmjopbgccajgaaGreat.Eng
set_option linter.unusedVariables false
set_option linter.unusedSimpArgs false
theorem q082 {k:Nat} (hk:K0≤k) (l:List q0a) (b:Int) (hl:l.length≤1048576):qaz k l b=some (ownM l b):=by
 have h1:=q8d hk l hl
 unfold qaz ownM q0bj
 rw [qk,q31,qi (by omega)]
 by_cases hP:q5j l
 ·rw [if_pos hP]
  refine(qmm (p:=ownP b) (hit:=fun n=>some ((n.2.2.1,n.2.2.2.2.1,()),true,())) (e:=some ((0,0,()),false,())) hk hl (fun i rec hi=> ?_) (fun rec=>by simp (disch:=omega) only [evs])).trans (by cases bk (ownP b) l l.length<;>rfl)
  by_cases h2:(rdP (0,0,0,0,0,()) l i).2.1=1
  ·by_cases h3:(rdP (0,0,0,0,0,()) l i).2.2.2.1=b
   ·rw [if_pos (by simp [ownP,h2,h3])]
    simp (disch:=omega) only [evs,h1,hP]
   ·rw [if_neg (by simp [ownP,h3])]
    simp (disch:=omega) only [evs,h1,hP,qi]
  ·rw [if_neg (by simp [ownP,h2])]
   simp (disch:=omega) only [evs,h1,hP,qi]
 ·rw [if_neg hP]
  cases hlen:l.length with
  |zero=>refine q08 (n:=0) (fun _=>(-1,())) (by simp) (fun i hi=>absurd hi (by omega)) (fun rec=>by simp (disch:=omega) only [evs]) (by unfold K0 at hk;omega)
  |succ m=>
   refine q08 (n:=0) (fun _=>((m:Int),())) (by simp) (fun i hi=>absurd hi (by omega)) (fun rec=> ?_) (by unfold K0 at hk;omega)
   simp (disch:=omega) only [evs,h1]
theorem q0ce {k:Nat} (hk:K0≤k) (l:List q0a) (w f:Int) (hl:l.length≤1048576):qe9 k l w f=q0i (abM l w f):=by
 have h1:=q8d hk l hl
 unfold qe9 abM q0bj
 rw [qk,q31,qi (by omega)]
 by_cases hP:q5j l
 ·rw [if_pos hP]
  refine(qmm (p:=abP w f) (hit:=fun n=>q0i (n.2.1=2)) (e:=q0i False) hk hl (fun i rec hi=> ?_) (fun rec=>by simp (disch:=omega) only [evs];exact q4t (by omega))).trans ?_
  ·by_cases hp:abP w f (rdP (0,0,0,0,0,()) l i)=true
   ·have hp':=hp
    simp only [abP,decide_eq_true_eq]at hp'
    rw [if_pos hp]
    obtain⟨h2|h2,h3,h4⟩:=hp'
    ·simp (disch:=omega) only [evs,h1,hP]
    ·simp (disch:=omega) only [evs,h1,hP]
   ·have hp':=hp
    simp only [abP,decide_eq_true_eq]at hp'
    rw [if_neg hp]
    by_cases h3:(rdP (0,0,0,0,0,()) l i).2.2.1=w<;>by_cases h4:(rdP (0,0,0,0,0,()) l i).2.2.2.2.1=f<;>by_cases h2:(rdP (0,0,0,0,0,()) l i).2.1=2<;>by_cases h5:(rdP (0,0,0,0,0,()) l i).2.1=3
    all_goals try omega
    all_goals simp (disch:=omega) only [evs,h1,hP,qi]
  ·cases bk (abP w f) l l.length with
   |none=>exact qc ⟨fun z=>z.elim,fun ⟨n,e,_⟩=>by cases e⟩
   |some n=>exact qc ⟨fun z=>⟨n,rfl,z⟩,fun ⟨m,e,z⟩=>by cases e;exact z⟩
 ·rw [if_neg hP,q4t (fun ⟨n,e,_⟩=>by cases e)]
  cases hlen:l.length with
  |zero=>refine q08 (n:=0) (fun _=>(-1,())) (by simp) (fun i hi=>absurd hi (by omega)) (fun rec=>by simp (disch:=omega) only [evs];exact q4t (by omega)) (by unfold K0 at hk;omega)
  |succ m=>
   refine q08 (n:=0) (fun _=>((m:Int),())) (by simp) (fun i hi=>absurd hi (by omega)) (fun rec=> ?_) (by unfold K0 at hk;omega)
   simp (disch:=omega) only [evs,h1]
   exact q4t (by omega)
theorem q0c1 {k:Nat} (hk:K0≤k) (l:List q0a) (w f:Int) (hl:l.length≤1048576):qe6 k l w f=q0i (puM l w f):=by
 have h1:=q8d hk l hl
 unfold qe6 puM q0bj
 rw [qk,q31,qi (by omega)]
 by_cases hP:q5j l
 ·rw [if_pos hP]
  refine(qmm (p:=puP w f) (hit:=fun n=>q0i (n.2.1=4)) (e:=q0i False) hk hl (fun i rec hi=> ?_) (fun rec=>by simp (disch:=omega) only [evs];exact q4t (by omega))).trans ?_
  ·by_cases hp:puP w f (rdP (0,0,0,0,0,()) l i)=true
   ·have hp':=hp
    simp only [puP,decide_eq_true_eq]at hp'
    rw [if_pos hp]
    obtain⟨h2|h2,h3,h4⟩:=hp'
    ·simp (disch:=omega) only [evs,h1,hP]
    ·simp (disch:=omega) only [evs,h1,hP]
   ·have hp':=hp
    simp only [puP,decide_eq_true_eq]at hp'
    rw [if_neg hp]
    by_cases h3:(rdP (0,0,0,0,0,()) l i).2.2.2.1=w<;>by_cases h4:(rdP (0,0,0,0,0,()) l i).2.2.2.2.1=f<;>by_cases h2:(rdP (0,0,0,0,0,()) l i).2.1=1<;>by_cases h5:(rdP (0,0,0,0,0,()) l i).2.1=4
    all_goals try omega
    all_goals simp (disch:=omega) only [evs,h1,hP,qi]
  ·cases bk (puP w f) l l.length with
   |none=>exact qc ⟨fun z=>z.elim,fun ⟨n,e,_⟩=>by cases e⟩
   |some n=>exact qc ⟨fun z=>⟨n,rfl,z⟩,fun ⟨m,e,z⟩=>by cases e;exact z⟩
 ·rw [if_neg hP,q4t (fun ⟨n,e,_⟩=>by cases e)]
  cases hlen:l.length with
  |zero=>refine q08 (n:=0) (fun _=>(-1,())) (by simp) (fun i hi=>absurd hi (by omega)) (fun rec=>by simp (disch:=omega) only [evs];exact q4t (by omega)) (by unfold K0 at hk;omega)
  |succ m=>
   refine q08 (n:=0) (fun _=>((m:Int),())) (by simp) (fun i hi=>absurd hi (by omega)) (fun rec=> ?_) (by unfold K0 at hk;omega)
   simp (disch:=omega) only [evs,h1]
   exact q4t (by omega)
theorem q0c2 {k:Nat} (hk:K0≤k) (l:List q0a) (b f:Int) (hl:l.length≤1048576):qe8 k l b f=q0i (flyP l b f):=by
 unfold qe8 flyP
 rw [q082 hk l b hl,q00]
 generalize ownM l b=o
 obtain⟨⟨w,g,_⟩,ok,_⟩:=o
 dsimp only
 cases ok with
 |false=>rw [qi1,q6m];exact qc ⟨fun z=>z.elim,fun z=>by cases z.1⟩
 |true=>
  rw [qec,q02,q0ce hk l w f hl,qj,q0c1 hk l b f hl,qj,q0o,q6m,q3n,q0g,q0g]
  exact qc ⟨fun z=>⟨rfl,z⟩,fun z=>z.2⟩
theorem q0ge {k:Nat} (hk:K0≤k) (l:List q0a) (hl:l.length≤1048576):qfm k l=some (q0o1 l,()):=q0gf hk l hl
end Go.Proofs.YtpmjopbgccajgaaGreat.Eng
