/- slices.SortFunc at notes by their numbers, as a contract of the engine. No condition. -/
import Derived.Test.YtpmjopbgccajgaaGreatEngD
import Derived.Shelf.GgSortFunc.RowK
import Derived.Shelf.GgSortFunc.InsertionK
namespace Go.Proofs.YtpmjopbgccajgaaGreat.Eng
open Go.RowKit
set_option linter.unusedVariables false
abbrev NtT:=Int×Int×Int×Int×Int×Unit
def encN (x:NtT):List Value:=[.int .i64 x.1,.int .i64 x.2.1,.int .i64 x.2.2.1,.int .i64 x.2.2.2.1,.int .i64 x.2.2.2.2.1]
instance:Inhabited NtT:=⟨(0,0,0,0,0,())⟩
theorem q0ql (x:NtT) (c:Nat) (hc:c<5):(encN x)[c]! =match c with|0=> .int .i64 x.1|1=> .int .i64 x.2.1|2=> .int .i64 x.2.2.1|3=> .int .i64 x.2.2.2.1|_=> .int .i64 x.2.2.2.2.1:=by
 match c,hc with
 |0,_=>rfl
 |1,_=>rfl
 |2,_=>rfl
 |3,_=>rfl
 |4,_=>rfl
theorem q08u {α:Type} (key:α→Int) (l d1 d2:List α) (hn:(l.map key).Nodup) (h1:d1.Perm l) (h2:d2.Perm l) (s1:d1.Pairwise (fun a b=>key a≤key b)) (s2:d2.Pairwise (fun a b=>key a≤key b)):d1=d2:=by
 refine List.Perm.eq_of_pairwise (le:=fun a b=>key a≤key b) (fun a b ha hb hab hba=> ?_) s1 s2 (h1.trans h2.symm)
 have ha':=h1.mem_iff.1 ha
 have hb':=h2.mem_iff.1 hb
 obtain⟨i,hi,rfl⟩:=List.getElem_of_mem ha'
 obtain⟨j,hj,rfl⟩:=List.getElem_of_mem hb'
 have hkey:key l[i]=key l[j]:=by omega
 unfold List.Nodup at hn
 rw [List.pairwise_iff_getElem]at hn
 rcases Nat.lt_trichotomy i j with h|h|h
 ·have:=hn i j (by simpa using hi) (by simpa using hj) h
  simp only [List.getElem_map]at this
  exact absurd hkey this
 ·subst h;rfl
 ·have:=hn j i (by simpa using hj) (by simpa using hi) h
  simp only [List.getElem_map]at this
  exact absurd hkey.symm this
theorem sortN_ok {P:Program} {f c:Nat} (hHas:qpj P f)
  (hS:∀(blk off cap:Nat) (zs:List NtT) (w:World),Go.Sort.HoldsK encN 5 w blk off zs.toArray→blk<w.heap.size→zs.length<140737488355328→Calls P f #[.slice (some ⟨blk,off,none⟩) zs.length cap,.func (.func c) #[] #[]] w fun e w'=>
   e= .returned (.tuple #[])∧∃(d:List NtT) (n:Nat) (os:Array Obj),d.Perm zs∧d.Pairwise (fun a b=>a.1≤b.1)∧w'=sortWorldK encN 5 w blk off n d.toArray os):FnOk P f (sortNSig c):=by
 refine⟨hHas,fun k x y hy G w vals _ hall=> ?_⟩
 obtain⟨l,u⟩:=x
 change List NtT at l
 have hy:q0fl k l=some y:=hy
 unfold q0fl at hy
 split at hy
 case isFalse=>cases hy
 rename_i hsz
 obtain⟨hpos,hsz,hnd⟩:=hsz
 cases hy
 cases vals with
 |nil=>exact hall.elim
 |cons v vals=>
  cases vals with
  |cons _ _=>exact hall.2.elim
  |nil=>
   generalize hl':(l.mergeSort fun x y=>decide (x.1≤y.1))=l'
   have hll:l'.length=l.length:=by rw [←hl'];simp
   obtain⟨a,cp,ev,hrow,_⟩:∃a cp,v= .slice a (List.length l) cp∧q8n G w (qea (vw G w)) (.of 0 0) N5 l a cp∧(false=true→(0:Nat)=0):=hall.1
   obtain⟨hlc,hrow⟩:=hrow
   have hlc:l.length≤cp:=hlc
   have fin:∀(G':Gh) (w':World),q8n G' w' (qea (vw G' w')) (.of 0 0) N5 l' a cp→qyf G' w' (sortNSig c).res (l',()) (sortNSig c).rm ([]++qlx (sortNSig c).pm [v]) (qnm 0 (q40 (sortNSig c).res (sortNSig c).rm)):=fun G' w' h=>⟨⟨a,cp,by rw [ev];show Value.slice a (List.length l) cp=Value.slice a (List.length l') cp;rw [hll],h,fun e=>by cases e⟩,trivial⟩
   rcases hrow with h0|⟨b,o,ea,h1,h2⟩
   ·have h0:l.length=0:=by omega
    omega
   ·have h2:∀i,i<l.length→elG (at_ w) (qea (vw G w)) N5 (rd N5 l i) b (o+i*5) (i*5):=h2
    have hel:∀i,i<l.length→∀c,c<5→at_ w b (o+(i*5+c))=some ((encN (l.getD i (0,0,0,0,0,())))[c]!):=fun i hi c hc=>by
     obtain⟨⟨v0,p0,q0⟩,⟨v1,p1,q1⟩,⟨v2,p2,q2⟩,⟨v3,p3,q3⟩,⟨v4,p4,q4⟩,_⟩:=h2 i hi
     have q0:v0= .int .i64 (rd N5 l i).1:=q0
     have q1:v1= .int .i64 (rd N5 l i).2.1:=q1
     have q2:v2= .int .i64 (rd N5 l i).2.2.1:=q2
     have q3:v3= .int .i64 (rd N5 l i).2.2.2.1:=q3
     have q4:v4= .int .i64 (rd N5 l i).2.2.2.2.1:=q4
     subst q0;subst q1;subst q2;subst q3;subst q4
     rw [←Nat.add_assoc,q0ql _ _ hc]
     match c,hc with
     |0,_=>exact p0
     |1,_=>exact p1
     |2,_=>exact p2
     |3,_=>exact p3
     |4,_=>exact p4
    have hcell:∀j,j<cp*5→G.own b (o+j)= .of 0 0∧w.frozen? ⟨b,o+j,none⟩=false∧(at_ w b (o+j)).isSome=true:=fun j hj=>h1 j hj
    have hblt:b<w.heap.size:=q1z (hel 0 hpos 0 (by omega))
    have hH:Go.Sort.HoldsK encN 5 w b o l.toArray:=fun t ht=>by
     rw [Go.Sort.size_flatK]at ht
     have ht2:t<l.length*5:=by simpa using ht
     refine⟨?_,(hcell t (by omega)).2.1⟩
     have hj:t / 5<l.length:=by omega
     have:=hel (t / 5) hj (t % 5) (by omega)
     rw [show t / 5*5+t % 5=t by omega]at this
     rw [show w.cell? ⟨b,o+t,none⟩=at_ w b (o+t)from rfl,this,Go.Sort.get_flatK _ _ _ _ ht]
     simp [getElem!_pos,hj,List.getD_eq_getElem?_getD]
    have hS':=hS b o cp l w hH hblt hsz
    rw [←ea]at hS'
    have ev2:([v]++qq4 (sortNSig c).fns:List Value).toArray= #[.slice a l.length cp,.func (.func c) #[] #[]]:=by rw [ev];rfl
    rw [←ev2]at hS'
    refine hS'.mono ?_
    rintro e w' ⟨e1,d,q,os,hperm,hsorted,ew⟩
    subst e1
    have hd:d=l':=by
     rw [←hl']
     exact q08u (·.1) l _ _ hnd hperm (List.mergeSort_perm l _) hsorted ((List.pairwise_mergeSort (fun a b c h1 h2=>by simp at*;omega) (fun a b=>by simp;omega) l).imp (fun h=>by simpa using h))
    subst hd
    unfold sortWorldK Go.Sort.putRowK at ew
    generalize hD:Go.Sort.flatK encN 5 d.toArray=D at ew
    have hDs:D.size=l.length*5:=by rw [←hD,Go.Sort.size_flatK];simp [hll]
    have hDe:∀i,i<l.length→∀c,c<5→D[i*5+c]! =(encN (d.getD i (0,0,0,0,0,())))[c]! :=fun i hi c hc=>by
     rw [←hD,Go.Sort.get_flatK _ _ _ _ (by simp [hll];omega),show (i*5+c) / 5=i by omega,show (i*5+c) % 5=c by omega]
     simp [getElem!_pos,hll,hi,List.getD_eq_getElem?_getD]
    have hwsz:(Go.Sort.putRow id (Go.Sort.ahead w q) b o D).heap.size=w.heap.size:=by simp [Go.Sort.putRow,Go.Sort.mapBlock,Go.Sort.ahead]
    have hsz':w'.heap.size=w.heap.size+os.size:=by rw [ew,Go.Sort.size_grow,hwsz]
    have hblk:∀k,k<w.heap.size→w'.heap[k]? =if k=b then(w.heap[b]?).map (Go.Sort.onCells (Go.Sort.putCells id o D))else w.heap[k]? :=fun k hk=>by
     rw [ew,Go.Sort.heap_grow_old _ _ (by rw [hwsz];exact hk)]
     simp only [Go.Sort.putRow,Go.Sort.mapBlock,Go.Sort.ahead,Array.getElem?_modify]
     by_cases e:b=k
     ·subst e;simp
     ·rw [if_neg e,if_neg (Ne.symm e)]
    have hshp:∀k,k<w.heap.size→shp w' k=shp w k:=fun k hk=>by
     unfold shp
     rw [hblk k hk]
     split
     ·rename_i e
      subst e
      cases w.heap[k]? with
      |none=>rfl
      |some x=>cases x<;>simp [Go.Sort.onCells,shpO,Go.Sort.putCells]
     ·rfl
    have hfr:∀k p,k<w.heap.size→w'.frozen? ⟨k,p,none⟩=w.frozen? ⟨k,p,none⟩:=fun k p hk=>by
     unfold World.frozen?
     simp only [hblk k hk]
     by_cases e:k=b
     ·subst e
      rw [if_pos rfl]
      cases w.heap[k]? with
      |none=>rfl
      |some x=>cases x<;>simp [Go.Sort.onCells]
     ·rw [if_neg e]
    have hfz:∀k p,k<w.heap.size→fz w' k p=fz w k p:=fun k p hk=>by unfold fz;rw [hfr k p hk,hshp k hk]
    have hat:∀k p,k<w.heap.size→¬(k=b∧o≤p∧p<o+D.size)→at_ w' k p=at_ w k p:=fun k p hk hn=>by
     unfold at_ World.cell?
     simp only [hblk k hk]
     by_cases e:k=b
     ·subst e
      rw [if_pos rfl]
      cases hw:w.heap[k]? with
      |none=>simp
      |some x=>
       cases x with
       |cells cs t fr=>
        simp only [Option.map_some,Go.Sort.onCells,Go.Sort.putCells,Array.getElem?_mapIdx,Option.isSome_none,Bool.false_eq_true,if_false]
        cases hc:cs[p]? with
        |none=>rfl
        |some z=>simp only [Option.map_some];rw [if_neg (fun h=>hn ⟨rfl,h⟩)]
       |_=>rfl
     ·rw [if_neg e]
    have hat2:∀j,j<D.size→at_ w' b (o+j)=some D[j]! :=fun j hj=>by
     have h0:=(hcell j (by omega)).2.2
     unfold at_ World.cell? at h0 ⊢
     simp only at h0 ⊢
     rw [hblk b hblt,if_pos rfl]
     cases hw:w.heap[b]? with
     |none=>rw [hw]at h0;cases h0
     |some x=>
      rw [hw]at h0
      cases x with
      |cells cs t fr=>
       simp only [Option.isSome_none,Bool.false_eq_true,if_false]at h0
       obtain⟨z,hz⟩:=Option.isSome_iff_exists.1 h0
       simp only [Option.map_some,Go.Sort.onCells,Go.Sort.putCells,Array.getElem?_mapIdx,Option.isSome_none,Bool.false_eq_true,if_false,hz]
       rw [if_pos ⟨by omega,by omega⟩,Nat.add_sub_cancel_left]
       rfl
      |_=>cases h0
    let G':Gh:=⟨fun b o=>if b<w.heap.size then G.own b o else .hid,G.anch⟩
    have hlk:∀L,L≠ .of 0 0→Lk G w G' w' L L:=fun L hL b' o' hb' e=>by
     refine⟨by show (if _ then _ else _)=_;rw [if_pos hb'];exact e,hat b' o' hb' (fun ⟨e1,e2,e3⟩=> ?_),hfz b' o' hb'⟩
     subst e1
     have:=(hcell (o'-o) (by omega)).1
     rw [show o+(o'-o)=o' by omega,e]at this
     exact hL this
    have:=fin G' w' ⟨by show d.length≤cp;omega,.inr ⟨b,o,ea,fun j hj=> ?_,fun i hi=> ?_⟩⟩
    ·refine⟨[],G',rfl,rfl,this,⟨?_,?_,?_,by omega,hlk _ (fun e=>by cases e),hlk _ (fun e=>by cases e)⟩⟩
     ·rw [ew];rfl
     ·rw [ew];rfl
     ·rw [ew];rfl
    ·have hj:j<cp*5:=hj
     obtain⟨c1,c2,c3⟩:=hcell j hj
     refine⟨by show (if _ then _ else _)=_;rw [if_pos hblt];exact c1,by rw [hfr b _ hblt];exact c2,?_⟩
     by_cases hjl:j<D.size
     ·rw [hat2 j hjl];rfl
     ·rw [hat b _ hblt (fun h=>by omega)];exact c3
    ·have hi:i<l.length:=by rw [←hll];exact hi
     have key:∀c,c<5→at_ w' b (o+i*5+c)=some ((encN (d.getD i (0,0,0,0,0,())))[c]!):=fun c hc=>by
      rw [Nat.add_assoc,hat2 (i*5+c) (by omega),hDe i hi c hc]
     exact⟨⟨_,key 0 (by omega),rfl⟩,⟨_,key 1 (by omega),rfl⟩,⟨_,key 2 (by omega),rfl⟩,⟨_,key 3 (by omega),rfl⟩,⟨_,key 4 (by omega),rfl⟩,trivial⟩
end Go.Proofs.YtpmjopbgccajgaaGreat.Eng
