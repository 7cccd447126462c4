/- Pure laws: PSend, PSend2, PSend3, PChk, PTick, PTick2. No condition. -/
import Derived.Test.YtpmjopbgccajgaaGreatPC
import Derived.Test.YtpmjopbgccajgaaGreatD
set_option linter.unusedVariables false
set_option linter.unusedSimpArgs false
namespace Go.Proofs.YtpmjopbgccajgaaGreat.Eng
def loopOf (x:HallT):LoopT:=(x.2.2.2.2.2.2.2.2.1,x.2.2.2.2.2.2.2.2.2.1,x.2.2.2.2.2.2.2.2.2.2.1,x.2.2.2.2.2.2.2.2.2.2.2.1,())
def storeOf (x:HallT):StoreT:=(x.2.2.2.2.2.2.2.2.2.2.2.2.1,x.2.2.2.2.2.2.2.2.2.2.2.2.2.1,())
def InC (l:LoopT) (b:Int):Prop:=∃c,c∈l.2.2.1∧(b,())∈c.2.2.1
def placed (e:CaseT) (p:Int):CaseT:=(e.1,e.2.1,e.2.2.1,e.2.2.2.1,e.2.2.2.2.1,e.2.2.2.2.2.1,p,e.2.2.2.2.2.2.2.1,e.2.2.2.2.2.2.2.2.1,e.2.2.2.2.2.2.2.2.2.1,())
def mvH (x:HallT) (l:LoopT) (s:StoreT) (i:Nat) (p:Int):HallT:=(x.1,x.2.1,x.2.2.1,x.2.2.2.1,x.2.2.2.2.1,x.2.2.2.2.2.1,x.2.2.2.2.2.2.1,x.2.2.2.2.2.2.2.1,l.1,l.2.1,l.2.2.1,l.2.2.2.1,s.1,s.2.1,x.2.2.2.2.2.2.2.2.2.2.2.2.2.2.1,x.2.2.2.2.2.2.2.2.2.2.2.2.2.2.2.1,x.2.2.2.2.2.2.2.2.2.2.2.2.2.2.2.2.1.set i (placed (rdP (0,0,0,0,0,0,0,0,0,0,()) x.2.2.2.2.2.2.2.2.2.2.2.2.2.2.2.2.1 i) p),())
theorem mv_ok {x:HallT} {i:Nat} {p:Int} {l:LoopT} {s:StoreT} (h:HallP x) (hi:i<x.2.2.2.2.2.2.2.2.2.2.2.2.2.2.2.2.1.length) (hl:LoopP l) (hs:StoreP s) (hch:l.2.2.1.length=x.2.2.2.2.2.2.2.2.2.2.1.length) (hold:(rdP (0,0,0,0,0,0,0,0,0,0,()) x.2.2.2.2.2.2.2.2.2.2.2.2.2.2.2.2.1 i).2.2.2.2.2.2.1≠1) (hp:2≤p∧p≤7) (hcl:(rdP (0,0,0,0,0,0,0,0,0,0,()) x.2.2.2.2.2.2.2.2.2.2.2.2.2.2.2.2.1 i).2.2.2.2.2.2.2.2.2.1≠1→p=2∨p=7) (hal:¬(p=2∧(rdP (0,0,0,0,0,0,0,0,0,0,()) x.2.2.2.2.2.2.2.2.2.2.2.2.2.2.2.2.1 i).2.2.2.2.2.2.2.2.2.1=2))
  (hgo:p=6→(rdP (0,0,0,false,0,()) x.2.2.2.2.2.2.2.2.2.2.2.2.2.2.2.1 (natI ((rdP (0,0,0,0,0,0,0,0,0,0,()) x.2.2.2.2.2.2.2.2.2.2.2.2.2.2.2.2.1 i).2.2.2.1-1))).2.2.2.1=true)
  (same:∀b:Int,b≠0→b≠(i:Int)+1→((b,())∈l.1↔(b,())∈x.2.2.2.2.2.2.2.2.1)∧(InC l b↔InC (loopOf x) b)∧(InS s b↔InS (storeOf x) b))
  (own:(((i:Int)+1,())∈l.1↔p=3)∧(InC l ((i:Int)+1)↔p=4)∧(InS s ((i:Int)+1)↔p=5)):HallP (mvH x l s i p):=by
 have hx:=h
 obtain⟨h1,h2,h3,h4,h5,h6,h7,h8,h9,h10,h11,h12,h13,h14,h15⟩:=hx
 obtain⟨c1,c2,c3,c4,c5,c6,c7,c8,c9,c10,c11,c12,c13,c14⟩:=h11 i hi
 rw [if_neg hold]at c7
 have bnd:∀b:Int,b=0∨b=(i:Int)+1→b≤x.2.2.2.2.2.2.2.2.2.2.2.2.2.2.2.2.1.length:=by intro b hb;omega
 refine hall_move (i0:=i) (e':=placed (rdP (0,0,0,0,0,0,0,0,0,0,()) x.2.2.2.2.2.2.2.2.2.2.2.2.2.2.2.2.1 i) p) h hi rfl rfl rfl h2 h3 h4 hl hs h7 hch (fun b ⟨y,hy,e⟩=>by subst e;exact h12 y hy) (fun b hb=> ?_) (fun b hb=> ?_) (fun b hb=> ?_) (fun j hj hjl=> ?_) ⟨rfl,rfl,rfl⟩ ?_
 ·by_cases e:b=0∨b=(i:Int)+1
  ·exact bnd b e
  ·exact h13 _ ((same b (fun z=>e (.inl z)) (fun z=>e (.inr z))).1.1 hb)
 ·by_cases e:b=0∨b=(i:Int)+1
  ·exact bnd b e
  ·obtain⟨c,hc,hb⟩:=(same b (fun z=>e (.inl z)) (fun z=>e (.inr z))).2.1.1 hb
   exact h14 c hc _ hb
 ·by_cases e:b=0∨b=(i:Int)+1
  ·exact bnd b e
  ·obtain⟨l,hl,y,hy,e⟩:=(same b (fun z=>e (.inl z)) (fun z=>e (.inr z))).2.2.1 hb
   subst e;exact h15 l hl y hy
 ·obtain⟨s1,s2,s3⟩:=same ((j:Int)+1) (by omega) (by omega)
  exact⟨Iff.rfl,s1,s2,s3⟩
 ·generalize he:rdP (0,0,0,0,0,0,0,0,0,0,()) x.2.2.2.2.2.2.2.2.2.2.2.2.2.2.2.2.1 i=e at*
  have hp1:¬(placed e p).2.2.2.2.2.2.1=1:=by intro z;have z:p=1:=z;omega
  refine⟨c1,c2,c3,c4,by show 1≤p∧p≤7;omega,fun j hj=> ?_,?_,?_,hal,hgo,?_,own.1,own.2.1,own.2.2⟩
  ·have:rdP (0,0,0,0,0,0,0,0,0,0,()) (mvH x l s i p).2.2.2.2.2.2.2.2.2.2.2.2.2.2.2.2.1 j=rdP (0,0,0,0,0,0,0,0,0,0,()) x.2.2.2.2.2.2.2.2.2.2.2.2.2.2.2.2.1 j:=rd_set_o (by omega)
   intro q
   refine c6 j hj ?_
   rw [←this]
   exact q
  ·rw [if_neg hp1];exact c7
  ·intro hv
   have:=hcl hv
   show p≠3∧p≠4∧p≠5∧p≠6
   omega
  ·exact⟨fun q=>absurd (c11.1 q) hold,fun q=>absurd q hp1⟩
end Go.Proofs.YtpmjopbgccajgaaGreat.Eng
namespace Go.Proofs.YtpmjopbgccajgaaGreat.Eng
theorem hallP_case {x:HallT} {i:Nat} (h:HallP x) (hi:i<x.2.2.2.2.2.2.2.2.2.2.2.2.2.2.2.2.1.length):CaseP x i (rdP (0,0,0,0,0,0,0,0,0,0,()) x.2.2.2.2.2.2.2.2.2.2.2.2.2.2.2.2.1 i):=h.2.2.2.2.2.2.2.2.2.2.1 i hi
end Go.Proofs.YtpmjopbgccajgaaGreat.Eng
namespace Go.Proofs.YtpmjopbgccajgaaGreat.Eng
theorem drop_facts {l:LoopT} {b:Int} (hb:b≠0):(b,())∉(dropLp l b).1∧¬InC (dropLp l b) b∧∀a:Int,a≠0→a≠b→((a,())∈(dropLp l b).1↔(a,())∈l.1)∧(InC (dropLp l b) a↔InC l a):=by
 unfold dropLp InC
 dsimp only
 refine⟨fun z=> ?_,fun ⟨c,hc,hm⟩=> ?_,fun a ha hab=>⟨⟨fun z=> ?_,fun z=> ?_⟩,⟨fun ⟨c,hc,hm⟩=> ?_,fun ⟨c,hc,hm⟩=> ?_⟩⟩⟩
 ·obtain⟨y,hy,e⟩:=List.mem_map.1 z
  unfold offT at e
  split at e
  ·cases e;exact hb rfl
  ·rename_i hn;subst e;exact hn rfl
 ·obtain⟨d,hd,rfl⟩:=List.mem_map.1 hc
  have:=(List.mem_filter.1 hm).2
  simp at this
 ·obtain⟨y,hy,e⟩:=List.mem_map.1 z
  unfold offT at e
  split at e
  ·cases e;exact absurd rfl ha
  ·subst e;exact hy
 ·exact List.mem_map.2 ⟨_,z,by unfold offT;exact if_neg hab⟩
 ·obtain⟨d,hd,rfl⟩:=List.mem_map.1 hc
  exact⟨d,hd,(List.mem_filter.1 hm).1⟩
 ·exact⟨_,List.mem_map.2 ⟨c,hc,rfl⟩,List.mem_filter.2 ⟨hm,by simpa using hab⟩⟩
end Go.Proofs.YtpmjopbgccajgaaGreat.Eng
namespace Go.Proofs.YtpmjopbgccajgaaGreat.Eng
end Go.Proofs.YtpmjopbgccajgaaGreat.Eng
namespace Go.Proofs.YtpmjopbgccajgaaGreat.Eng
theorem mem_inCh {l:List Chute} {b:Int}:(b,())∈inCh l↔∃c,c∈l∧(b,())∈c.2.2.1:=by unfold inCh;simp [List.mem_flatMap]
theorem mem_bagsL {l:LoopT} {b:Int}:(b,())∈bagsL l↔((b,())∈l.1∧b≠0)∨InC l b:=by
 unfold bagsL InC nz
 rw [List.mem_append,mem_inCh,List.mem_filter]
 simp
end Go.Proofs.YtpmjopbgccajgaaGreat.Eng
namespace Go.Proofs.YtpmjopbgccajgaaGreat.Eng
end Go.Proofs.YtpmjopbgccajgaaGreat.Eng
