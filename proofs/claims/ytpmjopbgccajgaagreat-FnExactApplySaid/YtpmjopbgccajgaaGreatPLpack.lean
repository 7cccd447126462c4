/- Repacked pieces. No condition. -/
import Derived.Test.YtpmjopbgccajgaaGreatPLfit
import Derived.Test.YtpmjopbgccajgaaGreatD
namespace Go.Proofs.YtpmjopbgccajgaaGreat.Eng
set_option linter.unusedVariables false
set_option linter.unusedSimpArgs false
theorem q0my {l a b:List Pc} (hn:(l.map (·.1)).Nodup) (h1:a.Perm l) (h2:b.Perm l) (s1:Srt ltP a) (s2:Srt ltP b):a=b:=by
 refine List.Perm.eq_of_pairwise (le:=fun x y=>¬ltP y x) (fun x y hx hy hxy hyx=> ?_) s1 s2 (h1.trans h2.symm)
 have hx':=h1.mem_iff.1 hx
 have hy':=h2.mem_iff.1 hy
 obtain⟨i,hi,rfl⟩:=List.getElem_of_mem hx'
 obtain⟨j,hj,rfl⟩:=List.getElem_of_mem hy'
 have hkey:l[i].1=l[j].1:=by unfold ltP at hxy hyx;omega
 unfold List.Nodup at hn
 rw [List.pairwise_iff_getElem]at hn
 rcases Nat.lt_trichotomy i j with h|h|h
 ·have:=hn i j (by simpa using hi) (by simpa using hj) h
  simp only [List.getElem_map]at this
  exact absurd hkey this
 ·subst h;rfl
 ·have:=hn j i (by simpa using hj) (by simpa using hi) h
  simp only [List.getElem_map]at this
  exact absurd hkey.symm this
theorem q0ik {m:LimT} {l a b:List Pc} (h1:a.Perm l) (h2:b.Perm l) (s1:Srt ltP a) (s2:Srt ltP b):FFm m a=FFm m b:=by
 by_cases hl:qks l
 ·rw [q0my hl.2.2 h1 h2 s1 s2]
 ·unfold FFm
  rw [if_neg (fun z=>hl ((qoe h1).1 z.2)),if_neg (fun z=>hl ((qoe h2).1 z.2))]
theorem q0q5 (x y:Pc):¬ltP x y∨¬ltP y x:=by unfold ltP;omega
noncomputable def srtL (l:List Pc):List Pc:=l.mergeSort fun x y=>dc (¬ltP y x)
theorem qz9 (l:List Pc):(srtL l).Perm l:=List.mergeSort_perm l _
theorem q0h3 (l:List Pc):Srt ltP (srtL l):=by
 have:=List.pairwise_mergeSort (le:=fun x y:Pc=>dc (¬ltP y x)) (by intro a b c h1 h2;rw [qux]at*;exact ordP.ntrans _ _ _ h1 h2) (by intro a b;rw [Bool.or_eq_true,qux,qux];exact(q0q5 a b).symm) l
 exact this.imp fun h=>qux.1 h
noncomputable def repM (m:LimT) (l:List Pc):List Bx:=FFm m (srtL l)
theorem q0jt (k:Nat) {l:List Pc} (h:l.length≤1048576):q1t k l=some (l,()):=by
 unfold q1t
 rw [qge _ _ _ (by rintro rfl;simp (disch:=omega) only [evs,qyv (l:=([]:List Pc)) (by simp)];rfl)]
 have:=qyv h
 simp (disch:=omega) only [evs,this,List.nil_append]
theorem q0bz {k:Nat} (hk:K0≤k) (m:LimT) (l:List Pc) (hl:l.length≤1048576):q9x k m l=some (repM m l,()):=by
 obtain⟨z,h1,h2,h3⟩:=q0rb hk l hl
 have h4:=q03k hk (m.1,m.2.1,()) z (by rw [h2.length_eq];exact hl)
 unfold q9x
 rw [q0jt k hl,q00,h1,q00,h4,q00]
 unfold repM
 rw [show (m.1,m.2.1,())=m from rfl,q0ik h2 (qz9 l) h3 (q0h3 l)]
theorem q0mx {l:List Pc} {i j:Nat} (hi:i<l.length) (hj:j<l.length):((l.set i (rP l j)).set j (rP l i)).Perm l:=by
 unfold rP
 rw [qo hi,qo hj]
 exact List.set_set_perm hi hj
theorem q0h1 {l:List Pc} {i j a:Nat} (hi:i<l.length) (hj:j<l.length):rP ((l.set i (rP l j)).set j (rP l i)) a=if a=j then rP l i else if a=i then rP l j else rP l a:=by
 unfold rP rdP
 simp only [List.getD_eq_getElem?_getD]
 rw [List.getElem?_set]
 by_cases h1:j=a
 ·subst h1;rw [if_pos rfl,if_pos rfl,if_pos (by simpa using hj)];simp
 ·rw [if_neg h1,if_neg (fun e=>h1 e.symm),List.getElem?_set]
  by_cases h2:i=a
  ·subst h2;rw [if_pos rfl,if_pos rfl,if_pos hi];simp
  ·rw [if_neg h2,if_neg (fun e=>h2 e.symm)]
theorem q0a4 {k:Nat} (hk:K0≤k) (m:LimT) (l:List Pc) (hl0:l.length≤1048576):q9g k m l=some (repM m l,()):=by
 have h1:q1r k (m.1,m.2.1,())=q0i (LimP m):=qo6 k m
 have h2:=qo5 hk l
 have hno:¬(LimP m∧qks l)→repM m l=[]:=fun h=>by
  unfold repM FFm
  exact if_neg (fun z=>h ⟨z.1,(qoe (qz9 l)).1 z.2⟩)
 unfold q9g
 rw [h1,qj,qq]
 by_cases hm:LimP m
 case neg=>rw [qa hm,hno (fun z=>hm z.1)]
 rw [q8 hm,h2,qj,qq]
 by_cases hl:qks l
 case neg=>rw [qa hl,hno (fun z=>hl z.2)]
 rw [q8 hl,qyv hl0,qec,qk,q6o,List.nil_append]
 have h40:=hl.1
 have hk':=hk
 unfold K0 at hk'
 refine qcu (P:=fun r=>r=some (repM m l,())) (n:=l.length) (fun i c=>∃c',c=(c',(i:Int),())∧c'.Perm l∧∀a b,a<i→a<b→b<l.length→¬ltP (rP c' b) (rP c' a)) ⟨l,rfl,List.Perm.refl _,fun a b h=>by omega⟩ ?_ ?_ (by omega)
 ·rintro i c rec hi ⟨c',rfl,hp,hs⟩
  have hcl:=hp.length_eq
  simp only [qk]
  rw [qn,q31,q8 (by omega),q0n (by omega)]
  refine qcu (P:=fun r=>∃c'',(∃c',c''=(c',((i+1:Nat):Int),())∧c'.Perm l∧∀a b,a<i+1→a<b→b<l.length→¬ltP (rP c' b) (rP c' a))∧r=rec c'') (n:=l.length-(i+1)) (fun t c=>∃c',c=(c',((i+1+t:Nat):Int),())∧c'.Perm l∧(∀a b,a<i→a<b→b<l.length→¬ltP (rP c' b) (rP c' a))∧∀b,i<b→b<i+1+t→¬ltP (rP c' b) (rP c' i)) ⟨c',rfl,hp,hs,fun b h1 h2=>by omega⟩ ?_ ?_ (by omega)
  ·rintro t c rec2 ht ⟨c',rfl,hp,hs,ht2⟩
   have hcl:=hp.length_eq
   have hadd:qg .i64 ((i+1+t:Nat):Int) 1=((i+1+(t+1):Nat):Int):=q0n (by omega)
   by_cases hlt:ltP (rP c' (i+1+t)) (rP c' i)
   ·refine⟨_,⟨(c'.set i (rP c' (i+1+t))).set (i+1+t) (rP c' i),rfl,(q0mx (by omega) (by omega)).trans hp,fun a b g1 g2 g3=> ?_,fun b g1 g2=> ?_⟩,?_⟩
    ·rw [q0h1 (by omega) (by omega),q0h1 (by omega) (by omega),if_neg (show ¬a=i+1+t by omega),if_neg (show ¬a=i by omega)]
     split
     ·exact hs a i g1 g1 (by omega)
     ·split
      ·exact hs a (i+1+t) g1 (by omega) (by omega)
      ·exact hs a b g1 g2 g3
    ·rw [q0h1 (by omega) (by omega),q0h1 (by omega) (by omega),if_neg (show ¬i=i+1+t by omega),if_pos rfl]
     split
     ·exact ordP.asymm _ _ hlt
     ·rw [if_neg (by omega)]
      exact ordP.ntrans _ _ _ (ordP.asymm _ _ hlt) (ht2 b g1 (by omega))
    ·rcases hlt with hlt|⟨hlt,hlt2⟩
     ·have hlt:(rdP (0,0,0,()) c' i).2.1<(rdP (0,0,0,()) c' (i+1+t)).2.1:=hlt
      simp (disch:=omega) only [qk,q00,qj,qq,qec,qi1,qqt,qqu,not_true_eq_false,not_false_eq_true,q78,q6m,q3n,q02,qn,q13,q4d,q0o,q1c,q4e,q4s,q2r,q2i,q0c,q3p,q31,q6o,qp3,qq5,q6p,q4b,q04,q8,qa,q0n,q1a,q2c,q1g,q2o,List.length_set,List.length_append,List.length_cons,List.length_nil,hadd,qcr]
     ·have hlt:(rdP (0,0,0,()) c' i).2.1=(rdP (0,0,0,()) c' (i+1+t)).2.1:=hlt
      have hlt2:(rdP (0,0,0,()) c' (i+1+t)).1<(rdP (0,0,0,()) c' i).1:=hlt2
      simp (disch:=omega) only [qk,q00,qj,qq,qec,qi1,qqt,qqu,not_true_eq_false,not_false_eq_true,q78,q6m,q3n,q02,qn,q13,q4d,q0o,q1c,q4e,q4s,q2r,q2i,q0c,q3p,q31,q6o,qp3,qq5,q6p,q4b,q04,q8,qa,q0n,q1a,q2c,q1g,q2o,List.length_set,List.length_append,List.length_cons,List.length_nil,hadd,qcr]
   ·refine⟨_,⟨c',rfl,hp,hs,fun b g1 g2=> ?_⟩,?_⟩
    ·by_cases e:b=i+1+t
     ·rw [e];exact hlt
     ·exact ht2 b g1 (by omega)
    ·have h1:¬(rdP (0,0,0,()) c' i).2.1<(rdP (0,0,0,()) c' (i+1+t)).2.1:=fun z=>hlt (.inl z)
     by_cases h2:(rdP (0,0,0,()) c' (i+1+t)).2.1=(rdP (0,0,0,()) c' i).2.1
     ·have h3:¬(rdP (0,0,0,()) c' (i+1+t)).1<(rdP (0,0,0,()) c' i).1:=fun z=>hlt (.inr ⟨h2.symm,z⟩)
      simp (disch:=omega) only [qk,q00,qj,qq,qec,qi1,qqt,qqu,not_true_eq_false,not_false_eq_true,q78,q6m,q3n,q02,qn,q13,q4d,q0o,q1c,q4e,q4s,q2r,q2i,q0c,q3p,q31,q6o,qp3,qq5,q6p,q4b,q04,q8,qa,q0n,q1a,q2c,q1g,q2o,List.length_set,List.length_append,List.length_cons,List.length_nil,hadd,qcr]
     ·simp (disch:=omega) only [qk,q00,qj,qq,qec,qi1,qqt,qqu,not_true_eq_false,not_false_eq_true,q78,q6m,q3n,q02,qn,q13,q4d,q0o,q1c,q4e,q4s,q2r,q2i,q0c,q3p,q31,q6o,qp3,qq5,q6p,q4b,q04,q8,qa,q0n,q1a,q2c,q1g,q2o,List.length_set,List.length_append,List.length_cons,List.length_nil,hadd,qcr]
  ·rintro c rec2 ⟨c',rfl,hp,hs,ht2⟩
   have hcl:=hp.length_eq
   refine⟨_,⟨c',rfl,hp,fun a b g1 g2 g3=> ?_⟩,?_⟩
   ·by_cases e:a=i
    ·subst e;exact ht2 b g2 (by omega)
    ·exact hs a b (by omega) g2 g3
   ·simp (disch:=omega) only [qk,q00,qj,qq,qec,qi1,qqt,qqu,not_true_eq_false,not_false_eq_true,q78,q6m,q3n,q02,qn,q13,q4d,q0o,q1c,q4e,q4s,q2r,q2i,q0c,q3p,q31,q6o,qp3,qq5,q6p,q4b,q04,q8,qa,q0n,q1a,q2c,q1g,q2o,List.length_set,List.length_append,List.length_cons,List.length_nil]
 ·rintro c rec ⟨c',rfl,hp,hs⟩
  have hcl:=hp.length_eq
  have h4:q5y k (m.1,m.2.1,()) c'=some (FFm m c',()):=q009 hk m c'
  have hsrt:Srt ltP c':=by
   unfold Srt
   rw [List.pairwise_iff_getElem]
   intro a b ha hb hab
   have:=hs a b (by omega) hab (by omega)
   unfold rP at this
   rwa [qo ha,qo hb]at this
  simp (disch:=omega) only [qk,q00,qj,qq,qec,qi1,qqt,qqu,not_true_eq_false,not_false_eq_true,q78,q6m,q3n,q02,qn,q13,q4d,q0o,q1c,q4e,q4s,q2r,q2i,q0c,q3p,q31,q6o,qp3,qq5,q6p,q4b,q04,q8,qa,q0n,q1a,q2c,q1g,q2o,List.length_set,List.length_append,List.length_cons,List.length_nil,h4]
  unfold repM
  rw [q0ik hp (qz9 l) hsrt (q0h3 l)]
end Go.Proofs.YtpmjopbgccajgaaGreat.Eng
