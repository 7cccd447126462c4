/- Notes: what the program's functions compute, and merging. No condition. -/
import Derived.Test.YtpmjopbgccajgaaGreatPMerge
import Derived.Test.YtpmjopbgccajgaaGreatEngSortN
import Derived.Test.YtpmjopbgccajgaaGreatD
namespace Go.Proofs.YtpmjopbgccajgaaGreat.Eng
set_option linter.unusedVariables false
set_option linter.unusedSimpArgs false
theorem q0f0 (k:Nat) {l:List q0a} (h:l.length≤1048576):q0k k l=some (l,()):=by
 unfold q0k
 simp (disch:=omega) only [evs,qyv h,List.nil_append]
 exact qge _ _ _ (fun e=>by rw [e])
theorem q0e8 (n:q0a):∀l:List q0a,(qss n l).Perm (l++[n])
 | []=>List.Perm.refl _
 |x::xs=>by
  rw [qss]
  split
  ·exact(List.perm_append_singleton n (x::xs)).symm
  ·exact(q0e8 n xs).cons x
theorem q0mz (k:Nat) {l:List q0a} {n:q0a} (h:q5j l) (hn:∀x∈l,x.1≠n.1):q0fl k (l++[n])=some (qss n l,()):=by
 have h60:=h.1
 have hasc:=q092 h
 have hnd:((l++[n]).map (·.1)).Nodup:=by
  rw [List.map_append]
  unfold List.Nodup
  rw [List.pairwise_append]
  refine⟨?_,List.pairwise_singleton _ _,fun a ha b hb=> ?_⟩
  ·rw [List.pairwise_map]
   exact hasc.imp (fun h=>by omega)
  ·obtain⟨x,hx,rfl⟩:=List.mem_map.1 ha
   simp only [List.map_cons,List.map_nil,List.mem_singleton]at hb
   rw [hb]
   exact hn x hx
 unfold q0fl
 rw [if_pos ⟨by simp,by simp;omega,hnd⟩]
 congr 2
 exact q08u (·.1) (l++[n]) _ _ hnd (List.mergeSort_perm _ _) (q0e8 n l)
  ((List.pairwise_mergeSort (fun a b c h1 h2=>by simp at*;omega) (fun a b=>by simp;omega) (l++[n])).imp (fun h=>by simpa using h)) ((q0g8 n l hasc hn).imp fun h=>by omega)
theorem q0nm {k:Nat} (hk:K0≤k) (l:List q0a) (s:Int) (hl:l.length≤1048576):
  (∃i,i<l.length∧(rN l i).1=s∧q9r k l s=some ((i:Int),()))∨((∀x∈l,x.1≠s)∧q9r k l s=some (-1,())):=by
 unfold K0 at hk
 unfold q9r
 refine q0gi (P:=fun r=>(∃i,i<l.length∧(rN l i).1=s∧r=some ((i:Int),()))∨((∀x∈l,x.1≠s)∧r=some (-1,()))) (n:=l.length) (J:=fun i=>some ((i:Int),())) (E:=some (-1,())) (fun i=>(rN l i).1=s) ?_ ?_ (by omega) ?_ ?_
 ·intro i rec hi;simp (disch:=omega) only [qk,q00,qj,qq,qec,qi1,qqt,qqu,not_true_eq_false,not_false_eq_true,q78,q6m,q3n,q02,qn,q13,q4d,q0o,q1c,q4e,q4s,q2r,q2i,q0c,q3p,q31,q6o,qp3,qq5,q6p,q4b,q04,q8,qa,q0n,q1a,q2c,q1g,q2o,List.length_set,List.length_append,List.length_cons,List.length_nil]
 ·intro rec;simp (disch:=omega) only [qk,q00,qj,qq,qec,qi1,qqt,qqu,not_true_eq_false,not_false_eq_true,q78,q6m,q3n,q02,qn,q13,q4d,q0o,q1c,q4e,q4s,q2r,q2i,q0c,q3p,q31,q6o,qp3,qq5,q6p,q4b,q04,q8,qa,q0n,q1a,q2c,q1g,q2o,List.length_set,List.length_append,List.length_cons,List.length_nil]
 ·intro i hi _ h;exact .inl ⟨i,hi,h,rfl⟩
 ·intro h;exact .inr ⟨(q5i (d:=(0,0,0,0,0,()))).1 h,rfl⟩
theorem q08h {k:Nat} (hk:K0≤k) (l:List q0a) (n:q0a) (hl:l.length≤1048576):q8f k l n=some (addM l n):=by
 have h1:=q8d hk l hl
 have h2:q74 k (n.1,n.2.1,n.2.2.1,n.2.2.2.1,n.2.2.2.2.1,())=q0i (qv1 n):=qs8 k n
 unfold q8f addM;delta W1
 rw [q0f0 k hl,q00,h1,qj,qq]
 by_cases hP:q5j l
 case neg=>rw [qa hP,if_neg (fun z=>hP z.1)]
 rw [q8 hP,h2,qj,qq]
 by_cases hN:qv1 n
 case neg=>rw [qa hN,if_neg (fun z=>hN z.2)]
 rw [q8 hN,if_pos ⟨hP,hN⟩]
 have hn0:=hN.1
 have hlen:=hP.1
 have hasc:=q092 hP
 rcases q0nm hk l n.1 hl with⟨i,hi,hs,e⟩|⟨hno,e⟩
 ·have hat:atN n.1 l=rN l i:=by rw [←hs];exact q0qx hasc (q0rk hi)
  rw [e,q00,hat]
  simp only [q2y,q02,q4e,q1c]
  by_cases he:rN l i=n
  ·rw [if_pos he]
   have he':=(q0q2 (rN l i) n).2 he
   simp (disch:=omega) only [evs,dc_T he']
  ·rw [if_neg he,if_pos (.inl (by omega))]
   have he':¬_:=fun z=>he ((q0q2 (rN l i) n).1 z)
   simp (disch:=omega) only [evs,dc_F he']
 ·have hat:atN n.1 l=nt0:=q0oq hno
  have hne:¬nt0=n:=fun z=>by rw [←z]at hn0;exact absurd hn0.1 (by decide)
  rw [e,q00,hat,if_neg hne,q13,qa (by omega)]
  by_cases h60:60≤l.length
  ·rw [if_pos (.inr h60)];simp (disch:=omega) only [evs]
  ·rw [if_neg (fun z=>z.elim (fun z=>z rfl) h60)]
   have hf:q4x l [(n.1,n.2.1,n.2.2.1,n.2.2.2.1,n.2.2.2.2.1,())]=true:=qny n hl
   have hs:q0fl k (l++[(n.1,n.2.1,n.2.2.1,n.2.2.2.1,n.2.2.2.2.1,())])=some (qss n l,()):=q0mz k hP hno
   simp (disch:=omega) only [evs,hf,hs]
theorem q0gf {k:Nat} (hk:K0≤k) (l:List q0a) (hl:l.length≤1048576):qfm k l=some (@ite _ (q5j l) (Classical.propDecidable _) (if l.length=0 then 0 else(rdP (0,0,0,0,0,()) l (l.length-1)).1-l.length) (-1),()):=by
 have h1:=q8d hk l hl
 unfold qfm
 rw [h1,qj,qq]
 by_cases hP:q5j l
 case neg=>rw [qa hP,if_neg hP]
 rw [q8 hP,if_pos hP]
 have hlen:=hP.1
 by_cases h0:l.length=0
 ·rw [if_pos h0];simp (disch:=omega) only [evs]
 ·rw [if_neg h0]
  have hb:=hP.2.1 _ (by rw [qo (show l.length-1<l.length by omega)];exact List.getElem_mem _:rdP (0,0,0,0,0,()) l (l.length-1)∈l)
  have hb1:=hb.1
  simp (disch:=omega) only [qk,q00,qj,qq,qec,qi1,qqt,qqu,not_true_eq_false,not_false_eq_true,q78,q6m,q3n,q02,qn,q13,q4d,q0o,q1c,q4e,q4s,q2r,q2i,q0c,q3p,q31,q6o,qp3,qq5,q6p,q4b,q04,q8,qa,q0n,q1a,q2c,q1g,q2o,List.length_set,List.length_append,List.length_cons,List.length_nil]
  rw [qi (by omega)]
end Go.Proofs.YtpmjopbgccajgaaGreat.Eng
