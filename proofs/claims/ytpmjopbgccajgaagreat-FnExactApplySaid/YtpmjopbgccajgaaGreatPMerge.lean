/- Merged lists of notes: what is held, what is refused. No condition. -/
import Derived.Test.YtpmjopbgccajgaaGreatPC
namespace Go.Proofs.YtpmjopbgccajgaaGreat.Eng
set_option linter.unusedVariables false
set_option linter.unusedSimpArgs false
abbrev rN (l:List q0a) (i:Nat):q0a:=rdP (0,0,0,0,0,()) l i
theorem q0rk {l:List q0a} {i:Nat} (h:i<l.length):rN l i∈l:=by unfold rN;rw [qo h];exact List.getElem_mem h
theorem q092 {l:List q0a} (h:q5j l):l.Pairwise (fun a b=>a.1<b.1):=(q0gr l).1 h.2.2
theorem q0or {l:List q0a} (h:l.Pairwise (fun a b=>a.1<b.1)) {x y:q0a} (hx:x∈l) (hy:y∈l) (he:x.1=y.1):x=y:=by
 obtain⟨i,hi,rfl⟩:=List.getElem_of_mem hx
 obtain⟨j,hj,rfl⟩:=List.getElem_of_mem hy
 rw [List.pairwise_iff_getElem]at h
 rcases Nat.lt_trichotomy i j with c|c|c
 ·have:=h i j hi hj c;omega
 ·subst c;rfl
 ·have:=h j i hj hi c;omega
theorem q0qx {l:List q0a} (h:l.Pairwise (fun a b=>a.1<b.1)) {x:q0a} (hx:x∈l):atN x.1 l=x:=by
 rcases qsp x.1 l with⟨h1,h2⟩|⟨_,h1⟩
 ·exact q0or h h1 hx h2
 ·exact absurd rfl (h1 x hx)
theorem q0oq {l:List q0a} {s:Int} (h:∀x∈l,x.1≠s):atN s l=nt0:=by
 rcases qsp s l with⟨h1,h2⟩|⟨h1,_⟩
 ·exact absurd h2 (h _ h1)
 ·exact h1
def q0tu (a b:List q0a):Prop:=∀x∈a,∀y∈b,x.1=y.1→x=y
end Go.Proofs.YtpmjopbgccajgaaGreat.Eng
