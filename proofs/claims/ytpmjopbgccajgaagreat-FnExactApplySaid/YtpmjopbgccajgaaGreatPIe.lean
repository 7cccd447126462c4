/- A flight departs: what the program's functions compute. No condition. -/
import Derived.Test.YtpmjopbgccajgaaGreatPId
import Derived.Test.YtpmjopbgccajgaaGreatPLpack
import Derived.Test.YtpmjopbgccajgaaGreatD
namespace Go.Proofs.YtpmjopbgccajgaaGreat.Eng
set_option linter.unusedVariables false
set_option linter.unusedSimpArgs false
theorem q0c6 {k:Nat} (hk:K0≤k) (x:qu) (hs:SzT x):q75 k x=q0i (q1y x):=by
 rw [q0c7 hk x hs];exact qc (q0lt x)
abbrev DqS:=List q45×List Pc×List (Int×Unit)
noncomputable def dqC (no:List q0a) (f:Int) (s:DqS) (b:Int×Unit):DqS:=
 if (q1o s.1 b.1).2.2.2.1=f then
  @ite _ (flyP no b.1 f) (Classical.propDecidable _) (s.1.set (q6 (b.1-1)) (qi2 (q1o s.1 b.1) 6),s.2.1++[pcOf b.1 (q1o s.1 b.1)],s.2.2) (s.1.set (q6 (b.1-1)) (qi2 (q1o s.1 b.1) 7),s.2.1,s.2.2)
 else(s.1,s.2.1,s.2.2++[b])
noncomputable def dqS (no:List q0a) (f:Int) (s:DqS) (l:List (Int×Unit)):DqS:=l.foldl (dqC no f) s
theorem q0t7 {no:List q0a} {f:Int} {s:DqS} {l:List (Int×Unit)} {j:Nat} (h:j<l.length):dqS no f s (l.take (j+1))=dqC no f (dqS no f s (l.take j)) (rdP (0,()) l j):=by
 rw [q7b (d:=(0,())) h,dqS,List.foldl_append];rfl
theorem q0s9 (no:List q0a) (f:Int):∀(l:List (Int×Unit)) (s:DqS) (t:DpS),s.1=t.2.1→s.2.1=t.2.2→(dqS no f s l).1=(dpS no f t l).2.1∧(dqS no f s l).2.1=(dpS no f t l).2.2
 | [],s,t,h1,h2=>⟨h1,h2⟩
 |b::l,s,t,h1,h2=>by
  have e1:dqS no f s (b::l)=dqS no f (dqC no f s b) l:=rfl
  have e2:dpS no f t (b::l)=dpS no f (dpC no f t b) l:=rfl
  rw [e1,e2]
  refine q0s9 no f l _ _ ?_ ?_
  ·unfold dqC dpC
   rw [h1,h2]
   repeat' split
   all_goals rfl
  ·unfold dqC dpC
   rw [h1,h2]
   repeat' split
   all_goals rfl
theorem q0co (no:List q0a) (f:Int):∀(l:List (Int×Unit)) (s:DqS) (cs:List q45),s.1.length=cs.length→(∀i,i<cs.length→(rdP (0,0,0,0,0,0,0,0,0,0,()) s.1 i).2.2.2.1=(rdP (0,0,0,0,0,0,0,0,0,0,()) cs i).2.2.2.1)→(∀b∈l,1≤b.1∧b.1≤cs.length)→(dqS no f s l).1.length=cs.length∧(dqS no f s l).2.2=s.2.2++l.filter (fun b=>decide ((q1o cs b.1).2.2.2.1≠f))∧(dqS no f s l).2.2.length≤s.2.2.length+l.length
 | [],s,cs,h1,_,_=>⟨h1,by show s.2.2=s.2.2++[];rw [List.append_nil],Nat.le_refl _⟩
 |b::l,s,cs,h1,h2,h3=>by
  have e1:dqS no f s (b::l)=dqS no f (dqC no f s b) l:=rfl
  obtain⟨b1,b2⟩:=h3 b (List.mem_cons_self ..)
  have hn:q6 (b.1-1)<cs.length:=by unfold q6;omega
  have hfl:(q1o s.1 b.1).2.2.2.1=(q1o cs b.1).2.2.2.1:=h2 _ hn
  have hk:∀p:Int,∀i,i<cs.length→(rdP (0,0,0,0,0,0,0,0,0,0,()) (s.1.set (q6 (b.1-1)) (qi2 (q1o s.1 b.1) p)) i).2.2.2.1=(rdP (0,0,0,0,0,0,0,0,0,0,()) cs i).2.2.2.1:=by
   intro p i hi
   by_cases e:q6 (b.1-1)=i
   ·rw [e,q6y (by omega),←e];exact hfl
   ·rw [q9l e];exact h2 i hi
  have hl:∀c∈l,1≤c.1∧c.1≤cs.length:=fun c hc=>h3 c (List.mem_cons_of_mem _ hc)
  rw [e1]
  unfold dqC
  by_cases e:(q1o s.1 b.1).2.2.2.1=f
  ·rw [if_pos e]
   have ef:(b::l).filter (fun b=>decide ((q1o cs b.1).2.2.2.1≠f))=l.filter (fun b=>decide ((q1o cs b.1).2.2.2.1≠f)):=by
    rw [List.filter_cons_of_neg];simp [←hfl,e]
   rw [ef]
   by_cases hf:flyP no b.1 f
   ·rw [if_pos hf]
    obtain⟨r1,r2,r3⟩:=q0co no f l (s.1.set (q6 (b.1-1)) (qi2 (q1o s.1 b.1) 6),s.2.1++[pcOf b.1 (q1o s.1 b.1)],s.2.2) cs (by simpa using h1) (hk 6) hl
    exact⟨r1,r2,by rw [List.length_cons];dsimp only at r3;omega⟩
   ·rw [if_neg hf]
    obtain⟨r1,r2,r3⟩:=q0co no f l (s.1.set (q6 (b.1-1)) (qi2 (q1o s.1 b.1) 7),s.2.1,s.2.2) cs (by simpa using h1) (hk 7) hl
    exact⟨r1,r2,by rw [List.length_cons];dsimp only at r3;omega⟩
  ·rw [if_neg e]
   have ef:(b::l).filter (fun b=>decide ((q1o cs b.1).2.2.2.1≠f))=b::l.filter (fun b=>decide ((q1o cs b.1).2.2.2.1≠f)):=by
    rw [List.filter_cons_of_pos];simp [←hfl,e]
   rw [ef]
   obtain⟨r1,r2,r3⟩:=q0co no f l (s.1,s.2.1,s.2.2++[b]) cs h1 h2 hl
   refine⟨r1,by rw [r2];dsimp only;rw [List.append_assoc];rfl,by rw [List.length_cons];simp only [List.length_append,List.length_singleton]at r3;omega⟩
theorem q0ez {l:q28} {b:Int} {j:Nat} (h:q1n l) (hj:j<l.2.2.1.length) (hb:1≤b) (hm:(b,())∈(rdP (0,0,[],()) l.2.2.1 j).2.2.1):q3s l b=(l.1,l.2.1,l.2.2.1.set j ((rdP (0,0,[],()) l.2.2.1 j).1,(rdP (0,0,[],()) l.2.2.1 j).2.1,(rdP (0,0,[],()) l.2.2.1 j).2.2.1.filter (fun y=>decide (y.1≠b)),()),l.2.2.2.1,()):=by
 have hnd:=h.2.2.2.2.2.2.2.1
 obtain⟨_,hn2,hn3⟩:=List.nodup_append.1 (show (nz l.1++q22 l.2.2.1).Nodup from hnd)
 have hbi:(b,())∈q22 l.2.2.1:=by
  unfold q22
  exact List.mem_flatMap.2 ⟨_,by rw [qo hj]at hm ⊢;exact List.getElem_mem hj,hm⟩
 have ht:(b,())∉l.1:=by
  intro z
  have:(b,())∈nz l.1:=by unfold nz;rw [List.mem_filter];exact⟨z,by simp;omega⟩
  exact hn3 _ this _ hbi rfl
 have hoff:l.1.map (offT b)=l.1:=by
  conv=>rhs;rw [←List.map_id l.1]
  refine List.map_congr_left (fun y hy=> ?_)
  unfold offT
  rw [if_neg]
  ·rfl
  ·intro e
   apply ht
   obtain⟨y,u⟩:=y
   cases u
   dsimp only at e
   rw [←e];exact hy
 have hoth:∀i,i<l.2.2.1.length→i≠j→(b,())∉(rdP (0,0,[],()) l.2.2.1 i).2.2.1:=by
  intro i hi hij z
  have key:∀(m:List q8k) (i j:Nat),i<j→j<m.length→(q22 m).Nodup→(b,())∈(rdP (0,0,[],()) m i).2.2.1→(b,())∈(rdP (0,0,[],()) m j).2.2.1→False:=by
   intro m i j hij hj hn h1 h2
   have hs:q22 m=q22 (m.take j)++q22 (m.drop j):=by
    conv=>lhs;rw [←List.take_append_drop j m]
    unfold q22
    rw [List.flatMap_append]
   rw [hs]at hn
   refine(List.nodup_append.1 hn).2.2 (b,()) ?_ (b,()) ?_ rfl
   ·unfold q22
    refine List.mem_flatMap.2 ⟨rdP (0,0,[],()) m i,?_,h1⟩
    rw [qo (by omega)]
    exact List.mem_take_iff_getElem.2 ⟨i,by omega,rfl⟩
   ·unfold q22
    refine List.mem_flatMap.2 ⟨rdP (0,0,[],()) m j,?_,h2⟩
    rw [qo hj,List.drop_eq_getElem_cons hj]
    exact List.mem_cons_self ..
  rcases Nat.lt_or_gt_of_ne hij with q|q
  ·exact key _ i j q hj hn2 z hm
  ·exact key _ j i q hi hn2 hm z
 have hch:l.2.2.1.map (fun c=>(c.1,c.2.1,c.2.2.1.filter (fun y=>decide (y.1≠b)),()))=l.2.2.1.set j ((rdP (0,0,[],()) l.2.2.1 j).1,(rdP (0,0,[],()) l.2.2.1 j).2.1,(rdP (0,0,[],()) l.2.2.1 j).2.2.1.filter (fun y=>decide (y.1≠b)),()):=by
  apply List.ext_getElem?
  intro i
  rw [List.getElem?_map]
  by_cases e:j=i
  ·subst e
   rw [List.getElem?_set_self hj,List.getElem?_eq_getElem hj,qo hj];rfl
  ·rw [List.getElem?_set_ne e]
   by_cases hi:i<l.2.2.1.length
   ·rw [List.getElem?_eq_getElem hi]
    have:=hoth i hi (fun z=>e z.symm)
    rw [qo hi]at this
    have hf:l.2.2.1[i].2.2.1.filter (fun y=>decide (y.1≠b))=l.2.2.1[i].2.2.1:=by
     rw [List.filter_eq_self]
     intro y hy
     obtain⟨y,u⟩:=y
     cases u
     simp only [ne_eq,decide_not,Bool.not_eq_eq_eq_not,Bool.not_true,decide_eq_false_iff_not]
     intro e';subst e';exact this hy
    simp only [Option.map_some,hf]
   ·rw [List.getElem?_eq_none (by omega)];rfl
 unfold q3s
 rw [hoff]
 exact congrArg (fun z=>(l.1,l.2.1,z,l.2.2.2.1,())) hch
end Go.Proofs.YtpmjopbgccajgaaGreat.Eng
