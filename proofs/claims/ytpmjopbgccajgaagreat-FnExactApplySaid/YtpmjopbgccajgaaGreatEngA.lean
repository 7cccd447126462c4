/- The engine, in four texts: this one holds EngEv, EngWords, EngRel, EngOps. No condition. -/
import Derived.OrdersHeld
import Derived.Below
import Derived.Laws.IdiomCopy
import Derived.Laws.Cells
import Derived.Laws.StructEq
import Derived.Laws.Slices
import Derived.Deep.AppendSrc
import Derived.Lib.SliceRun
import Derived.WalkSpells
set_option linter.unusedVariables false
set_option linter.unusedSimpArgs false
namespace Go.Proofs.YtpmjopbgccajgaaGreat.Eng
noncomputable section
inductive Ty where
 |bool|int (k:IntKind)|str|slice (ts:Ty)|nil|cons (t ts:Ty)
def Ty.den:Ty→Type
 | .bool=>Bool| .int _=>Int| .str=>ByteArray| .slice ts=>List ts.den| .nil=>Unit| .cons t ts=>t.den×ts.den
def Ty.eq? :(a b:Ty)→Option (PLift (a=b))
 | .bool,.bool=>some ⟨rfl⟩
 | .str,.str=>some ⟨rfl⟩
 | .nil,.nil=>some ⟨rfl⟩
 | .int j,.int k=>if h:j=k then some ⟨h▸rfl⟩else none
 | .slice a,.slice b=>match a.eq? b with|some ⟨h⟩=>some ⟨h▸rfl⟩|none=>none
 | .cons a b,.cons c d=>match a.eq? c,b.eq? d with|some ⟨h⟩,some ⟨g⟩=>some ⟨h▸g▸rfl⟩|_,_=>none
 |_,_=>none
def Ty.cast (a b:Ty) (x:a.den):Option b.den:=match a.eq? b with|some ⟨h⟩=>some (h▸x)|none=>none
def Ty.dflt:(t:Ty)→t.den
 | .bool=>false| .int _=>(0:Int)| .str=>ByteArray.empty| .slice _=>[]| .nil=>()| .cons t ts=>(t.dflt,ts.dflt)
def Ty.size:Ty→Nat
 | .cons _ ts=>ts.size+1|_=>0
def Ty.isSl:Ty→Bool| .slice _=>true|_=>false
def Ty.hasSl:Ty→Bool| .cons t ts=>t.isSl||ts.hasSl|_=>false
def qg (k:IntKind) (x y:Int):Int:=k.wrap (x+y)
def qp (k:IntKind) (x y:Int):Int:=k.wrap (x-y)
def mulI (k:IntKind) (x y:Int):Int:=k.wrap (x*y)
def quoI (k:IntKind) (x y:Int):Int:=k.wrap (x.tdiv y)
def remI (x y:Int):Int:=x.tmod y
def andI (k:IntKind) (x y:Int):Int:=k.wrap (BitVec.ofInt k.bits x &&& BitVec.ofInt k.bits y).toNat
def orI (k:IntKind) (x y:Int):Int:=k.wrap (BitVec.ofInt k.bits x ||| BitVec.ofInt k.bits y).toNat
def xorI (k:IntKind) (x y:Int):Int:=k.wrap (BitVec.ofInt k.bits x ^^^ BitVec.ofInt k.bits y).toNat
def q0gu (k:IntKind) (x y:Int):Int:=k.wrap (BitVec.ofInt k.bits x &&& ~~~ BitVec.ofInt k.bits y).toNat
def shlI (k:IntKind) (x y:Int):Int:=k.wrap (x*2 ^ min y.toNat k.bits)
def qo9 (k:IntKind) (x y:Int):Int:=x.fdiv (2 ^ min y.toNat k.bits)
def qb0 (k:IntKind) (x:Int):Int:=k.wrap x
def maxI (x y:Int):Int:=if y>x then y else x
def minI (x y:Int):Int:=if y<x then y else x
def eqI (x y:Int):Bool:=decide (x=y)
def ltI (x y:Int):Bool:=decide (x<y)
def leI (x y:Int):Bool:=decide (x≤y)
def eqN (i j:Nat):Bool:=decide (i=j)
def qm (x:Bool):Bool:= !x
def eqB (x y:Bool):Bool:=x==y
def qnv (x y:Bool):Bool:=x&&y
def fitS (x y:ByteArray):Bool:=Nat.ble (x.size+y.size) 1048576
def catS (x y:ByteArray):ByteArray:=x++y
def eqS (x y:ByteArray):Bool:=x.toList==y.toList
def q0qo (n:Int):ByteArray:=ByteArray.empty.push (UInt8.ofNat n.toNat)
def inR (i n:Int):Bool:=decide (0≤i)&&decide (i<n)
def upR (i n:Int):Bool:=decide (0≤i)&&decide (i≤n)
def q6 (i:Int):Nat:=i.toNat
def ln {α:Type} (l:List α):Int:=(l.length:Int)
def rd (ts:Ty) (l:List ts.den) (i:Nat):ts.den:=l.getD i ts.dflt
def upd {α:Type} (l:List α) (i:Nat) (y:α):List α:=l.set i y
def app {α:Type} (l m:List α):List α:=l++m
def tk {α:Type} (l:List α) (i:Nat):List α:=l.take i
def dp {α:Type} (l:List α) (i:Nat):List α:=l.drop i
def qmb {α:Type} (n:Nat) (x:α):List α:=List.replicate n x
def q4x {α:Type} (l m:List α):Bool:= !Nat.ble 68719476736 (l.length+m.length)
def fitN (n:Int):Bool:=decide (0≤n)&& !Nat.ble 68719476736 n.toNat
def br {α:Type} (c:Bool) (a b:Option α):Option α:=if c then a else b
def qqr {α:Type} (x y:Option α):Option α:= @ite _ (x=y) (Classical.propDecidable _) x none
def nilB {α β:Type} (l:List α) (a b:Option β):Option β:=match l with| []=>qqr a b|_::_=>b
def bnd {α β:Type} (x:Option α) (f:α→Option β):Option β:=x.bind f
abbrev chk {α:Type} (b:Bool) (x:Option α):Option α:=match b with|true=>x|false=>none
def q9 {α β:Type} (x:α) (f:α→Option β):Option β:=f x
def qh {R:Type} {α:Type} (F:(α→Option R)→α→Option R):Nat→α→Option R
 |0,_=>none
 |k+1,c=>F (qh F k) c
inductive AV where
 |undef
 |val (t:Ty) (x:t.den)
 |nl (ts:Ty)
 |agg (cs:AV)
 |tup (vs:AV)
 |rp (ts:Ty) (x:ts.den) (f:Nat)
 |bp (r f:Nat)
 |ep (r a i f:Nat)
 |sl (r a:Nat)
 |hd (r a n:Nat)
 |tl (r a lo:Nat)
 |il (r v i f:Nat)
 |ip (r v i f j g:Nat)
 |pd (r v i f:Nat) (us:Ty) (l:List us.den)
 |fn (f:Nat) (caps:AV)
 |nil
 |cons (a as:AV)
def AV.toList:AV→List AV| .cons a as=>a::as.toList|_=>[]
def AV.ofList:List AV→AV| []=> .nil|a::as=> .cons a (AV.ofList as)
inductive RK where
 |box (cs:List AV) (st:List Nat)
 |row (own:Bool) (ts:Ty) (l:List ts.den)
 |fro (ts:Ty) (l:List ts.den)
 |dead
structure Root where
 k:RK
 ver:Nat
 anc:Nat
structure St where
 tmps:List AV
 roots:List Root
structure TI where
 agg:Bool
 cells:Ty
 elem:Nat
 own:Bool
 eq:Bool
 offs:List (Nat×Nat×Bool)
structure Md where
 ptr:Bool
 sm:Nat
structure Sig where
 params:Ty
 pm:List Md
 res:Ty
 rm:List Md
 n:Nat
 f:Nat→params.den→Option res.den
 fns:List Nat
abbrev Sig.re (g:Sig) (F:Nat→g.params.den→Option g.res.den):Sig:=⟨g.params,g.pm,g.res,g.rm,g.n,F,g.fns⟩
abbrev tI:Ty:= .cons (.int .i64) .nil
abbrev CutF:=Nat→List (Int×Unit)×(Int×Unit)×Unit→Option (Int×List (Int×Unit)×(Int×Unit)×Unit)
abbrev qyg (F:CutF):Sig:=⟨.cons (.slice tI) (.cons tI .nil),[⟨false,2⟩,⟨true,0⟩],.cons (.int .i64) (.cons (.slice tI) (.cons tI .nil)),[⟨false,0⟩,⟨false,2⟩,⟨true,0⟩],1,fun k x=>F k x,[]⟩
inductive Place where
 |slot (s:Nat)|cell (r f:Nat)|root (r:Nat)
structure It where
 p:Place
 m:Md
 t:Ty
structure Hint where
 id:Nat
 drops:List Nat
 items:List It
inductive Ent where
 |sig (s:Sig)
 |inl (fn:Func) (H:List Hint)
 |cut (F:CutF) (c:Nat)
def q0k9:List Nat→List Nat→Bool
 | [],[]=>true
 |s::ss,t::ts=>Nat.beq s t&&q0k9 ss ts
 |_,_=>false
def qpf (R R':List Root) (r:Nat):Bool:=match R[r]?,R'[r]? with
 |some p,some q=>match p.k,q.k with
  | .box _ ss,.box _ ts=>q0k9 ss ts
  | .row _ _ _,.row _ _ _=>Nat.beq p.ver q.ver
  |_,_=>false
 |_,_=>false
def qkt {α:Type}:List (Nat×α)→Nat→Option α
 | [],_=>none
 |(k,x)::l,n=>match Nat.beq k n with|true=>some x|false=>qkt l n
def St.get (σ:St) (t:Nat):AV:=σ.tmps.getD t .undef
def St.put (σ:St) (d:Option Nat) (v:AV):St:=match d with|some d=>⟨σ.tmps.set d v,σ.roots⟩|none=>σ
def qz0 (σ:St) (qs:List Root):St:=⟨σ.tmps,σ.roots++qs⟩
def q8i (σ:St) (k:RK):St:=qz0 σ [⟨k,0,0⟩]
def q2z (σ:St) (r:Nat) (q:Root):St:=⟨σ.tmps,σ.roots.set r q⟩
def qsr (n:Nat):List Nat→Bool
 | []=>false
 |m::ms=>Nat.beq n m||qsr n ms
def qve:List Nat→Bool
 | []=>true
 |m::ms=> !qsr m ms&&qve ms
def qvp (l:List Nat):List Nat→Bool
 | []=>true
 |m::ms=> !qsr m l&&qvp l ms
def q2u:(ts:Ty)→ts.den→Nat→Option ((us:Ty)×List us.den)
 | .cons (.slice us) _,x,0=>some ⟨us,x.1⟩
 | .cons _ ts,x,f+1=>q2u ts x.2 f
 |_,_,_=>none
def q5m:(ts:Ty)→ts.den→Nat→(us:Ty)→List us.den→Option ts.den
 | .cons (.slice vs) _,x,0,us,l=>match (Ty.slice us).cast (.slice vs) l with|some y=>some (y,x.2)|none=>none
 | .cons _ ts,x,f+1,us,l=>match q5m ts x.2 f us l with|some y=>some (x.1,y)|none=>none
 |_,_,_,_,_=>none
def q3u (σ:St):AV→Option ((ts:Ty)×List ts.den)
 | .val (.slice ts) l=>some ⟨ts,l⟩
 | .nl ts=>some ⟨ts,[]⟩
 | .sl r a=>match σ.roots[r]? with
  |some ⟨.row _ ts l,_,b⟩=>match Nat.beq a b with|true=>some ⟨ts,l⟩|false=>none
  |some ⟨.fro ts l,_,b⟩=>match Nat.beq a b with|true=>some ⟨ts,l⟩|false=>none
  |_=>none
 | .hd r a n=>match σ.roots[r]? with
  |some ⟨.row _ ts l,_,b⟩=>match Nat.beq a b with|true=>some ⟨ts,tk l n⟩|false=>none
  |some ⟨.fro ts l,_,b⟩=>match Nat.beq a b with|true=>some ⟨ts,tk l n⟩|false=>none
  |_=>none
 | .tl r a n=>match σ.roots[r]? with
  |some ⟨.row _ ts l,_,b⟩=>match Nat.beq a b with|true=>some ⟨ts,dp l n⟩|false=>none
  |some ⟨.fro ts l,_,b⟩=>match Nat.beq a b with|true=>some ⟨ts,dp l n⟩|false=>none
  |_=>none
 | .il r v i f=>match σ.roots[r]? with
  |some ⟨.row true ts l,w,_⟩=>match Nat.beq v w with|true=>q2u ts (rd ts l i) f|false=>none
  |_=>none
 | .pd r v i f us l=>match σ.roots[r]? with
  |some ⟨.row true _ _,w,_⟩=>match Nat.beq v w with|true=>some ⟨us,l⟩|false=>none
  |_=>none
 |_=>none
def q08t (own:Bool) (r v i:Nat):(ts:Ty)→ts.den→(f n k:Nat)→AV
 | .cons t ts,x,0,n+1,k=> .cons (match own&&t.isSl with|true=> .il r v i k|false=> .val t x.1) (q08t own r v i ts x.2 0 n (k+1))
 | .cons _ ts,x,f+1,n,k=>q08t own r v i ts x.2 f n (k+1)
 |_,_,_,_,_=> .nil
def q0d4 (ts:Ty) (x:ts.den) (f n:Nat):AV:=q08t false 0 0 0 ts x f n 0
def q05c (sm:Nat) (own:Bool) (ts:Ty):Bool:=own==(Nat.beq sm 2&&ts.hasSl)
def qq7 (σ:St) (own:Bool) (t:Ty):AV→Option t.den
 | .val u x=>match own&&t.isSl with|true=>none|false=>u.cast t x
 | .nl ts=>(Ty.slice ts).cast t []
 | .sl r a=>match σ.roots[r]? with
  |some ⟨.row o ts l,_,b⟩=>match Nat.beq a b&&(!own|| !o)with|true=>(Ty.slice ts).cast t l|false=>none
  |some ⟨.fro ts l,_,b⟩=>match Nat.beq a b&& !own with|true=>(Ty.slice ts).cast t l|false=>none
  |_=>none
 | .hd r a n=>match σ.roots[r]? with
  |some ⟨.row o ts l,_,b⟩=>match Nat.beq a b&&(!own|| !o)with|true=>(Ty.slice ts).cast t (tk l n)|false=>none
  |some ⟨.fro ts l,_,b⟩=>match Nat.beq a b&& !own with|true=>(Ty.slice ts).cast t (tk l n)|false=>none
  |_=>none
 | .tl r a n=>match σ.roots[r]? with
  |some ⟨.row o ts l,_,b⟩=>match Nat.beq a b&& !o with|true=>(Ty.slice ts).cast t (dp l n)|false=>none
  |some ⟨.fro ts l,_,b⟩=>match Nat.beq a b&& !own with|true=>(Ty.slice ts).cast t (dp l n)|false=>none
  |_=>none
 |_=>none
def q0dk (σ:St) (r:Nat):Bool:=match σ.roots[r]? with|some ⟨.row _ _ _,_,_⟩=>true|_=>false
def q0fv (σ:St):AV→List Nat
 | .sl r _=>(match q0dk σ r with|true=>[r]|false=>[])
 | .hd r _ _=>(match q0dk σ r with|true=>[r]|false=>[])
 | .tl r _ _=>(match q0dk σ r with|true=>[r]|false=>[])
 |_=>[]
def qcq (σ:St):AV→List Nat
 | .cons v as=>q0fv σ v++qcq σ as
 |_=>[]
def qre (σ:St) (own:Bool):(ts:Ty)→ts.den→Nat→AV→Option ts.den
 | .cons _ ts,x,f+1,a=>match qre σ own ts x.2 f a with|some y=>some (x.1,y)|none=>none
 | .cons t ts,x,0,.cons v a=>match qq7 σ own t v,qre σ own ts x.2 0 a with|some v,some y=>some (v,y)|_,_=>none
 |_,x,_,.nil=>some x
 |_,_,_,_=>none
def qox (own:Bool) (q:Root):Root:=match own,q.k with
 |true,.row _ _ _=>⟨.dead,q.ver+1,q.anc+1⟩
 |false,.row _ ts l=>⟨.fro ts l,q.ver+1,q.anc⟩
 |_,_=>q
def q0m2 (own:Bool) (σ:St) (r:Nat):St:=match σ.roots[r]? with|some q=>q2z σ r (qox own q)|none=>σ
def eat (own:Bool) (σ:St):List Nat→St
 | []=>σ
 |r::rs=>eat own (q0m2 own σ r) rs
def q0m1 (own:Bool) (rs:List Nat):Bool:= !own||qve rs
def qog (σ:St):AV→Bool
 | .val .nil _=>false
 | .val (.cons _ _) _=>false
 | .val _ _=>true
 | .nl _=>true
 | .sl r a=>match σ.roots[r]? with
  |some ⟨.row _ _ _,_,b⟩=>Nat.beq a b
  |some ⟨.fro _ _,_,b⟩=>Nat.beq a b
  |_=>false
 | .hd r a _=>match σ.roots[r]? with
  |some ⟨.row _ _ _,_,b⟩=>Nat.beq a b
  |some ⟨.fro _ _,_,b⟩=>Nat.beq a b
  |_=>false
 | .tl r a _=>match σ.roots[r]? with
  |some ⟨.row _ _ _,_,b⟩=>Nat.beq a b
  |some ⟨.fro _ _,_,b⟩=>Nat.beq a b
  |_=>false
 | .il r v i f=>match σ.roots[r]? with
  |some ⟨.row true ts l,w,_⟩=>Nat.beq v w
  |_=>false
 | .pd r v _ _ _ _=>match σ.roots[r]? with
  |some ⟨.row true _ _,w,_⟩=>Nat.beq v w
  |_=>false
 | .bp r _=>match σ.roots[r]? with|some ⟨.box _ _,_,_⟩=>true|_=>false
 | .fn _ _=>true
 |_=>false
def q00x (σ:St):AV→Bool
 | .nil=>true
 | .cons a as=>qog σ a&&q00x σ as
 |_=>false
def cellsOf (σ:St):AV→AV
 | .agg cs=>match q00x σ cs with|true=>cs|false=> .nil
 |v=>match qog σ v with|true=> .cons v .nil|false=> .nil
def qbs (σ:St):AV→AV×St
 | .hd r a n=>match σ.roots[r]? with
  |some ⟨.row o ts l,v,b⟩=>match Nat.beq a b with
   |true=>(.sl r (a+1),q2z σ r ⟨.row o ts (tk l n),v+1,a+1⟩)
   |false=>(.undef,σ)
  |some ⟨.fro ts l,v,b⟩=>match Nat.beq a b with
   |true=>(.val (.slice ts) (tk l n),σ)
   |false=>(.undef,σ)
  |_=>(.undef,σ)
 | .tl r a n=>match σ.roots[r]? with
  |some ⟨.row false ts l,v,b⟩=>match Nat.beq a b with
   |true=>(.sl r (a+1),q2z σ r ⟨.row false ts (dp l n),v+1,a+1⟩)
   |false=>(.undef,σ)
  |some ⟨.fro ts l,v,b⟩=>match Nat.beq a b with
   |true=>(.val (.slice ts) (dp l n),σ)
   |false=>(.undef,σ)
  |_=>(.undef,σ)
 |v=>(v,σ)
def q0q1:Value→AV
 | .bool b=> .val .bool b
 | .int k n=> .val (.int k) n
 | .string s=> .val .str s
 |_=> .undef
def q0l2:List Value→AV| []=> .nil|v::vs=> .cons (q0q1 v) (q0l2 vs)
def St.eval (σ:St):Operand→AV
 | .tmp t=>σ.get t
 | .const (.agg cs)=> .agg (q0l2 cs.toList)
 | .const v=>q0q1 v
 | .func f=> .fn f .nil
 | .global _=> .undef
def binI (op:BinOp) (k:IntKind) (x y:Int):Option (Option Bool×AV):=match op with
 | .add=>some (none,.val (.int k) (qg k x y))
 | .sub=>some (none,.val (.int k) (qp k x y))
 | .mul=>some (none,.val (.int k) (mulI k x y))
 | .quo=>some (some (qm (eqI y 0)),.val (.int k) (quoI k x y))
 | .rem=>some (some (qm (eqI y 0)),.val (.int k) (remI x y))
 | .and=>some (none,.val (.int k) (andI k x y))
 | .or=>some (none,.val (.int k) (orI k x y))
 | .xor=>some (none,.val (.int k) (xorI k x y))
 | .andNot=>some (none,.val (.int k) (q0gu k x y))
 | .eql=>some (none,.val .bool (eqI x y))
 | .neq=>some (none,.val .bool (qm (eqI x y)))
 | .lss=>some (none,.val .bool (ltI x y))
 | .leq=>some (none,.val .bool (leI x y))
 | .gtr=>some (none,.val .bool (ltI y x))
 | .geq=>some (none,.val .bool (leI y x))
 |_=>none
def eqCs:Ty→AV→AV→Option Bool
 | .nil,.nil,.nil=>some true
 | .cons (.int _) ts,.cons (.val (.int j) x) a,.cons (.val (.int k) y) b=>match decide (j=k),eqCs ts a b with|true,some c=>some (qnv (eqI x y) c)|_,_=>none
 | .cons .bool ts,.cons (.val .bool x) a,.cons (.val .bool y) b=>match eqCs ts a b with|some c=>some (qnv (eqB x y) c)|none=>none
 |_,_,_=>none
def q0om (tab:List (Nat×TI)) (T:Nat) (op:BinOp) (x y:AV):Option (Option Bool×AV):=match x,y with
 | .val (.int j) x,.val (.int k) y=>match op with
  | .shl=>some (some (leI 0 y),.val (.int j) (shlI j x y))
  | .shr=>some (some (leI 0 y),.val (.int j) (qo9 j x y))
  |op=>if j=k then binI op j x y else none
 | .val .bool x,.val .bool y=>match qkt tab T with
  |some ⟨false,.cons .bool .nil,_,_,_,_⟩=>(match op with
   | .eql=>some (none,.val .bool (eqB x y))| .neq=>some (none,.val .bool (qm (eqB x y)))|_=>none)
  |_=>none
 | .val .str x,.val .str y=>match op with
  | .add=>some (some (fitS x y),.val .str (catS x y))
  | .eql=>some (none,.val .bool (eqS x y))
  | .neq=>some (none,.val .bool (qm (eqS x y)))
  |_=>none
 | .agg a,.agg b=>match qkt tab T with
  |some ⟨true,ts,_,_,true,_⟩=>(match op with
   | .eql=>match eqCs ts a b with|some c=>some (none,.val .bool c)|none=>none
   | .neq=>match eqCs ts a b with|some c=>some (none,.val .bool (qm c))|none=>none
   |_=>none)
  |_=>none
 |_,_=>none
section
variable (tab:List (Nat×TI)) (soft:Bool) (Γ:List (Nat×Ent)) {R:Type}
def q0iy (σ:St):AV→Bool
 | .rp _ _ _=>true
 | .bp r _=>match σ.roots[r]? with|some ⟨.box _ _,_,_⟩=>true|_=>false
 | .ep r a _ _=>match σ.roots[r]? with|some ⟨.row _ _ _,_,b⟩=>Nat.beq a b|_=>false
 | .ip r v _ _ _ _=>match σ.roots[r]? with|some ⟨.row true _ _,w,_⟩=>Nat.beq v w|_=>false
 |_=>false
def qa3 (T:Nat):Option (Bool×Ty):=match qkt tab T with
 |some ⟨false,.cons (.slice _) .nil,e,o,_,_⟩=>match qkt tab e with|some j=>some (o&&j.cells.hasSl,j.cells)|none=>none
 |_=>none
def oneB (g:Bool) (a:AV):AV:=match g with|true=> .agg a|false=>match a with| .cons v _=>v|_=> .undef
def one (i:TI) (a:AV):AV:=oneB i.agg a
def qi3:Nat→AV→AV
 |0,a=>a
 |n+1,.cons _ a=>qi3 n a
 |_,_=> .nil
def qei:Nat→AV→AV
 |n+1,.cons v a=> .cons v (qei n a)
 |_,_=> .nil
def setCells:List AV→List Nat→Nat→AV→List AV×List Nat
 |c::cs,s::ss,f+1,a=>let q:=setCells cs ss f a;(c::q.1,s::q.2)
 |_::cs,s::ss,0,.cons v a=>let q:=setCells cs ss 0 a;(v::q.1,(s+1)::q.2)
 |cs,ss,_,_=>(cs,ss)
def qgz:AV→Nat| .cons _ a=>qgz a+1|_=>0
def q0d2:(ts:Ty)→AV
 | .cons (.slice us) ts=> .cons (.nl us) (q0d2 ts)
 | .cons t ts=> .cons (.val t t.dflt) (q0d2 ts)
 |_=> .nil
def q0dp:Nat→AV→AV→AV
 |0,.cons v a,.cons _ cs=> .cons v (q0dp 0 a cs)
 |0,_,cs=>cs
 |n+1,a,.cons c cs=> .cons c (q0dp n a cs)
 |_,_,cs=>cs
def q0as (σ:St) (offs:List (Nat×Nat×Bool)):List (Nat×Operand)→AV→Option AV
 | [],cs=>some cs
 |(i,x)::ps,cs=>match offs[i]? with
  |some o=>chk (Nat.beq (qgz (cellsOf σ (σ.eval x))) o.2.1&&Nat.ble (o.1+o.2.1) (qgz cs)) (q0as σ offs ps (q0dp o.1 (cellsOf σ (σ.eval x)) cs))
  |none=>none
def q0cl (σ:St) (own:Bool) (ts:Ty):List (Nat×Operand)→List ts.den→Option (List ts.den)
 | [],l=>some l
 |(i,x)::ps,l=>match qre σ own ts ts.dflt 0 (cellsOf σ (σ.eval x))with
  |some y=>chk (Nat.beq (qgz (cellsOf σ (σ.eval x))) ts.size&&Nat.blt i l.length) (q0cl σ own ts ps (l.set i y))
  |none=>none
def q9m (σ:St):List (Nat×Operand)→List Nat
 | []=>[]
 |(_,x)::ps=>qcq σ (cellsOf σ (σ.eval x))++q9m σ ps
inductive Sr where
 |nul|row (r:Nat)|inn (r i f:Nat)|box (r f n:Nat)
def Sr.id:Sr→List Nat
 | .nul=>[]| .row r=>[r]| .inn r _ _=>[r]| .box r _ _=>[r]
def q11:List Sr→List Nat
 | []=>[]
 |s::ss=>s.id++q11 ss
def q5f (sm:Nat) (t:Ty):Bool:= !Nat.beq sm 0&&t.isSl
def qof (σ:St) (sm:Nat) (t:Ty) (v:AV):Option t.den:=
 match q5f sm t with
 |false=>match t,v with
  | .slice us,v=>match q3u σ v with|some l=>(Ty.slice l.1).cast (.slice us) l.2|none=>none
  |t,.val u x=>u.cast t x
  |_,_=>none
 |true=>match v with
  | .nl ts=>(Ty.slice ts).cast t []
  | .sl r a=>match σ.roots[r]? with
   |some ⟨.row o ts l,_,b⟩=>match Nat.beq a b&&q05c sm o ts with|true=>(Ty.slice ts).cast t l|false=>none
   |_=>none
  | .hd r a n=>match σ.roots[r]? with
   |some ⟨.row o ts l,_,b⟩=>match Nat.beq a b&&q05c sm o ts with|true=>(Ty.slice ts).cast t (tk l n)|false=>none
   |_=>none
  | .tl r a n=>match σ.roots[r]? with
   |some ⟨.row o ts l,_,b⟩=>match Nat.beq a b&&q05c sm o ts&& !o with|true=>(Ty.slice ts).cast t (dp l n)|false=>none
   |_=>none
  | .il r v i f=>match σ.roots[r]? with
   |some ⟨.row true ts l,w,_⟩=>match q2u ts (rd ts l i) f with
    |some ⟨us,m⟩=>match Nat.beq v w&&q05c sm false us with|true=>(Ty.slice us).cast t m|false=>none
    |none=>none
   |_=>none
  |_=>none
def q24 (sm:Nat) (t:Ty) (v:AV):List Sr:=match q5f sm t with
 |false=>[]
 |true=>match v with
  | .sl r _=>[.row r]
  | .hd r _ _=>[.row r]
  | .tl r _ _=>[.row r]
  | .il r _ i f=>[.inn r i f]
  |_=>[.nul]
def ql1 (σ:St) (sm:Nat) (t:Ty) (v:AV):List Nat:=match q5f sm t with
 |true=>[]
 |false=>match v with
  | .sl r _=>(match σ.roots[r]? with|some ⟨.row _ _ _,_,_⟩=>[r]|_=>[])
  | .hd r _ _=>(match σ.roots[r]? with|some ⟨.row _ _ _,_,_⟩=>[r]|_=>[])
  | .tl r _ _=>(match σ.roots[r]? with|some ⟨.row _ _ _,_,_⟩=>[r]|_=>[])
  | .il r _ _ _=>(match σ.roots[r]? with|some ⟨.row _ _ _,_,_⟩=>[r]|_=>[])
  | .pd r _ _ _ _ _=>(match σ.roots[r]? with|some ⟨.row _ _ _,_,_⟩=>[r]|_=>[])
  |_=>[]
def qb6 (σ:St) (sm:Nat):(ts:Ty)→AV→Option ts.den
 | .nil,.nil=>some ()
 | .cons t ts,.cons v a=>match qof σ sm t v,qb6 σ sm ts a with|some x,some y=>some (x,y)|_,_=>none
 |_,_=>none
def q32 (sm:Nat):Ty→AV→List Sr
 | .cons t ts,.cons v a=>q24 sm t v++q32 sm ts a
 |_,_=>[]
def q00p (σ:St) (sm:Nat):Ty→AV→List Nat
 | .cons t ts,.cons v a=>ql1 σ sm t v++q00p σ sm ts a
 |_,_=>[]
def q7a (σ:St) (r f n:Nat):AV:=match σ.roots[r]? with
 |some ⟨.box cs _,_,_⟩=>qei n (qi3 f (.ofList cs))
 |_=> .nil
def q97 (R:List Root) (r:Nat):Bool:=match R[r]? with|some ⟨.box _ _,_,_⟩=>true|_=>false
def qbz:Ty→Bool| .cons _ _=>true| .nil=>true|_=>false
def qpu (σ:St) (m:Md) (t:Ty) (v:AV):Option t.den:=match m.ptr with
 |true=>match v with
  | .bp r f=>match q97 σ.roots r with|true=>qb6 σ m.sm t (q7a σ r f t.size)|false=>none
  |_=>none
 |false=>match qbz t with
  |true=>match v with
   | .agg cs=>qb6 σ m.sm t cs
   |_=>none
  |false=>qof σ m.sm t v
def q5n (σ:St) (m:Md) (t:Ty) (v:AV):List Sr:=match m.ptr with
 |true=>match v with
  | .bp r f=> .box r f t.size::q32 m.sm t (q7a σ r f t.size)
  |_=>[]
 |false=>match qbz t with
  |true=>match v with
   | .agg cs=>q32 m.sm t cs
   |_=>[]
  |false=>q24 m.sm t v
def q0kf (σ:St) (m:Md) (t:Ty) (v:AV):List Nat:=match m.ptr with
 |true=>match v with
  | .bp r f=>q00p σ m.sm t (q7a σ r f t.size)
  |_=>[]
 |false=>match qbz t with
  |true=>match v with
   | .agg cs=>q00p σ m.sm t cs
   |_=>[]
  |false=>ql1 σ m.sm t v
def ql4 (σ:St):(ts:Ty)→List Md→List AV→Option ts.den
 | .nil,[],[]=>some ()
 | .cons t ts,m::ms,v::vs=>match qpu σ m t v,ql4 σ ts ms vs with|some x,some y=>some (x,y)|_,_=>none
 |_,_,_=>none
def q46 (σ:St):Ty→List Md→List AV→List Sr
 | .cons t ts,m::ms,v::vs=>q5n σ m t v++q46 σ ts ms vs
 |_,_,_=>[]
def qwg (σ:St):Ty→List Md→List AV→List Nat
 | .cons t ts,m::ms,v::vs=>q0kf σ m t v++qwg σ ts ms vs
 |_,_,_=>[]
def q0hv (sm:Nat) (t:Ty) (x:t.den) (n:Nat):AV:=match q5f sm t with|true=> .sl n 0|false=> .val t x
def qtd (sm:Nat) (t:Ty) (x:t.den):List Root:=match q5f sm t with
 |true=>match t,x with
  | .slice us,x=>[⟨.row (Nat.beq sm 2&&us.hasSl) us x,0,0⟩]
  |_,_=>[]
 |false=>[]
def q1w (sm:Nat) (t:Ty):Nat:=match q5f sm t with|true=>1|false=>0
def qol (sm:Nat):(ts:Ty)→ts.den→Nat→AV
 | .cons t ts,x,n=> .cons (q0hv sm t x.1 n) (qol sm ts x.2 (n+q1w sm t))
 |_,_,_=> .nil
def qn4 (sm:Nat):(ts:Ty)→ts.den→List Root
 | .cons t ts,x=>qtd sm t x.1++qn4 sm ts x.2
 |_,_=>[]
def q10 (sm:Nat):Ty→Nat
 | .cons t ts=>q1w sm t+q10 sm ts
 |_=>0
def qxy (m:Md) (t:Ty) (x:t.den) (n:Nat):AV:=match m.ptr with
 |true=> .bp n 0
 |false=>match qbz t with|true=> .agg (qol m.sm t x n)|false=>q0hv m.sm t x n
def qrd (m:Md) (t:Ty) (x:t.den) (n:Nat):List Root:=match m.ptr with
 |true=>let cs:=(qol m.sm t x (n+1)).toList;⟨.box cs (cs.map fun _=>0),0,0⟩::qn4 m.sm t x
 |false=>match qbz t with|true=>qn4 m.sm t x|false=>qtd m.sm t x
def q0l (m:Md) (t:Ty):Nat:=match m.ptr with
 |true=>1+q10 m.sm t
 |false=>match qbz t with|true=>q10 m.sm t|false=>q1w m.sm t
def q0ga:(ts:Ty)→ts.den→List Md→Nat→List AV
 | .cons t ts,x,m::ms,n=>qxy m t x.1 n::q0ga ts x.2 ms (n+q0l m t)
 |_,_,_,_=>[]
def q00l:(ts:Ty)→ts.den→List Md→Nat→List Root
 | .cons t ts,x,m::ms,n=>qrd m t x.1 n++q00l ts x.2 ms (n+q0l m t)
 |_,_,_,_=>[]
inductive Put where
 |root (r:Nat) (q:Root)|cell (r f:Nat) (v:AV)
def setCell (q:Root) (f:Nat) (v:AV):Root:=match q.k with| .box cs ss=>⟨.box (cs.set f v) (ss.set f (ss.getD f 0+1)),q.ver,q.anc⟩|_=>q
def q8v (r:Nat):List Put→Root→Root
 | [],q=>q
 | .root r' q'::ps,q=>q8v r ps (match Nat.beq r' r with|true=>q'|false=>q)
 | .cell r' f v::ps,q=>q8v r ps (match Nat.beq r' r with|true=>setCell q f v|false=>q)
def qvb (ps:List Put):Nat→List Root→List Root
 |_,[]=>[]
 |r,q::qs=>q8v r ps q::qvb ps (r+1) qs
def puts (ps:List Put) (R:List Root):List Root:=match ps with| []=>R|_=>qvb ps 0 R
def qpd (σ:St) (sm:Nat) (t:Ty) (y:t.den) (v:AV):Option (List Put):=match q5f sm t with
 |false=>some []
 |true=>match t,y,v with
  | .slice _,_,.nl _=>some []
  | .slice us,y,.sl r a=>match σ.roots[r]? with
   |some ⟨.row o ts l,v,b⟩=>match Nat.beq a b&&q05c sm o ts,(Ty.slice us).cast (.slice ts) y with
    |true,some y=>some [.root r ⟨.row o ts y,v+1,a⟩]
    |_,_=>none
   |_=>none
  | .slice us,y,.il r v i f=>match σ.roots[r]? with
   |some ⟨.row true ts l,w,a⟩=>match Nat.beq v w&&q05c sm false us,q5m ts (rd ts l i) f us y with
    |true,some z=>some [.root r ⟨.row true ts (upd l i z),w+1,a⟩]
    |_,_=>none
   |_=>none
  |_,_,_=>none
def qmu (σ:St) (sm:Nat):(ts:Ty)→ts.den→AV→Option (List Put)
 | .nil,_,.nil=>some []
 | .cons t ts,y,.cons v a=>match qpd σ sm t y.1 v,qmu σ sm ts y.2 a with|some p,some ps=>some (p++ps)|_,_=>none
 |_,_,_=>none
def q30 (q:Root):Root:=match q.k with| .box _ _=>q| .dead=>q|_=>⟨.dead,q.ver+1,q.anc+1⟩
def q0e6 (σ:St) (r:Nat):St:=match σ.roots[r]? with|some q=>q2z σ r (q30 q)|none=>σ
def kill (σ:St):List Nat→St
 | []=>σ
 |r::rs=>kill (q0e6 σ r) rs
def q2q:List Sr→List Nat
 | []=>[]
 | .row r::ss=>r::q2q ss
 | .inn r _ _::ss=>r::q2q ss
 |_::ss=>q2q ss
def qg7 (σ:St):List Nat→List Put
 | []=>[]
 |r::rs=>match σ.roots[r]? with|some q=> .root r (q30 q)::qg7 σ rs|none=>qg7 σ rs
def qni (r:Nat):Nat→AV→List Put
 |f,.cons v a=> .cell r f v::qni r (f+1) a
 |_,_=>[]
def q0gp (σ:St) (m:Md) (t:Ty) (y:t.den) (v:AV) (n:Nat):Option (List Put×List Root):=match m.ptr with
 |true=>match v with
  | .bp r f=>match q97 σ.roots r with
   |true=>some (qg7 σ (q2q (q32 m.sm t (q7a σ r f t.size)))++qni r f (qol m.sm t y n),qn4 m.sm t y)
   |false=>none
  |_=>none
 |false=>match qbz t with
  |true=>match v with
   | .agg cs=>match qmu σ m.sm t y cs with|some ps=>some (ps,[])|none=>none
   |_=>none
  |false=>match qpd σ m.sm t y v with|some ps=>some (ps,[])|none=>none
def qnn (m:Md):Bool:=m.ptr|| !Nat.beq m.sm 0
def q046 (σ:St):List (Md×Ty×AV)→(ts:Ty)→ts.den→List Md→Nat→Option (List Put×List Root)
 | [],.nil,_,[],_=>some ([],[])
 |(p,T,v)::vs,ts,y,ms,n=>match qnn p with
  |false=>q046 σ vs ts y ms n
  |true=>match ts,y,ms with
   | .cons t ts,y,m::ms=>match (m.ptr==p.ptr)&&Nat.beq m.sm p.sm&&(T.eq? t).isSome,q0gp σ m t y.1 v n with
    |true,some (ps,rs)=>(match q046 σ vs ts y.2 ms (n+rs.length)with|some (ps',rs')=>some (ps++ps',rs++rs')|none=>none)
    |_,_=>none
   |_,_,_=>none
 |_,_,_,_,_=>none
def q4m:Ty→List Md→List AV→List (Md×Ty×AV)
 | .cons t ts,m::ms,v::vs=>(m,t,v)::q4m ts ms vs
 |_,_,_=>[]
def q0im:List AV→AV
 | [v]=>v
 |vs=> .tup (.ofList vs)
def qpw (soft:Bool) (m:Md):Md:=match soft with|true=>⟨m.ptr,match m.sm with|2=>1|n=>n⟩|false=>m
def q0gq (vs:List (Md×Ty×AV)) (K:AV→St→Option R) (σ:St) (ts:Ty) (y:ts.den) (ms:List Md) (acc:List AV) (N:List Root):Option R:=
 match q046 σ vs ts y ms (σ.roots.length+N.length)with
 |some (ps,N')=>K (q0im acc) ⟨σ.tmps,puts ps σ.roots++(N++N')⟩
 |none=>none
def qso (soft:Bool) (vs:List (Md×Ty×AV)) (K:AV→St→Option R) (σ:St):(n:Nat)→(ts:Ty)→ts.den→List Md→List AV→List Root→Option R
 |0,ts,y,ms,acc,N=>q0gq vs K σ ts y ms acc N
 |n+1,.cons t ts,y,m::ms,acc,N=>qso soft vs K σ n ts y.2 ms (acc++[qxy (qpw soft m) t y.1 (σ.roots.length+N.length)]) (N++qrd (qpw soft m) t y.1 (σ.roots.length+N.length))
 |_,_,_,_,_,_=>none
def Ty.deep:Ty→Bool| .cons (.slice vs) ts=>vs.hasSl||ts.deep| .cons _ ts=>ts.deep|_=>false
def qos (sm:Nat):Ty→Bool
 | .slice us=>match sm with|0=>true|1=>us.hasSl|2=>us.deep|_=>true
 |_=>false
def qi0 (sm:Nat):Ty→Bool
 | .cons t ts=>qos sm t||qi0 sm ts
 |t=>qos sm t
def qse:Ty→List Md→Bool
 | .cons t ts,m::ms=>qi0 m.sm t||qse ts ms
 |_,_=>false
def q0nw:List Nat→List AV→Bool
 | [],[]=>true
 |f::fs,.fn g .nil::as=>Nat.beq f g&&q0nw fs as
 |_,_=>false
def q0cj (fs:List Nat):List AV:=fs.map fun f=> .fn f .nil
abbrev q0jx (as:List AV):List Nat→List AV
 | []=>as
 |f::fs=>as++q0cj (f::fs)
def qnj (soft:Bool) (k:Nat) (g:Sig) (as:List AV) (σ:St) (K:AV→St→Option R):Option R:=
 match ql4 σ g.params g.pm as with
 |some x=>chk (qve (q11 (q46 σ g.params g.pm as))&&qvp (q11 (q46 σ g.params g.pm as)) (qwg σ g.params g.pm as))
   (bnd (g.f k x) fun y=>qso soft (q4m g.params g.pm as) K (match qse g.res g.rm with|true=>eat false σ (qwg σ g.params g.pm as)|false=>σ) g.n g.res y g.rm [] [])
 |none=>none
abbrev qqp (soft:Bool) (k:Nat) (g:Sig) (as:List AV) (σ:St) (K:AV→St→Option R):Option R:=match g.fns with
 | []=>qnj soft k g as σ K
 |f::fs=>chk (q0nw (f::fs) (as.drop g.pm.length)) (qnj soft k g (as.take g.pm.length) σ K)
def qqq (soft:Bool) (k:Nat) (F:CutF) (c:Nat) (as:List AV) (σ:St) (K:AV→St→Option R):Option R:=match as with
 | [.il r v i f,.fn d (.cons cv .nil)]=>chk (Nat.beq d c) (qnj soft k (qyg F) [.il r v i f,cv] σ fun u σ'=>match u,σ.roots[r]?,σ'.roots[r]? with
  | .val (.int .i64) m,some ⟨.row true _ _,_,a0⟩,some ⟨.row true ts l,w,a⟩=>(match q2u ts (rd ts l i) f with
   |some ⟨us,n⟩=>chk (Nat.beq a0 a) (br (upR m (ln n)) (K (.pd r w i f us (tk n (q6 m))) σ') none)
   |none=>none)
  |_,_,_=>none)
 |_=>none
def q0fj (σ:St) (own:Bool) (ts:Ty) (v:AV):Option (List ts.den×List Nat):=
 match ts.hasSl with
 |false=>match q3u σ v with
  |some l=>(match (Ty.slice l.1).cast (.slice ts) l.2 with|some m=>some (m,[])|none=>none)
  |none=>none
 |true=>match v with
  | .nl us=>match (Ty.slice us).cast (.slice ts) []with|some m=>some (m,[])|none=>none
  | .val (.slice us) m=>match own with|true=>none|false=>match (Ty.slice us).cast (.slice ts) m with|some m=>some (m,[])|none=>none
  | .sl r a=>match σ.roots[r]? with
   |some ⟨.row o us m,_,b⟩=>match Nat.beq a b&&(o|| !own),(Ty.slice us).cast (.slice ts) m with
    |true,some m=>some (m,[r])
    |_,_=>none
   |some ⟨.fro us m,_,b⟩=>match Nat.beq a b&& !own,(Ty.slice us).cast (.slice ts) m with
    |true,some m=>some (m,[])
    |_,_=>none
   |_=>none
  |_=>none
def q0gs (b:Builtin) (Ts:List Nat):Option (Bool×Ty):=match b with
 | .append=>match Ts with
  | [T,T']=>match qa3 tab T' with|some _=>qa3 tab T|none=>none
  |_=>none
 |_=>match Ts with
  | [T]=>qa3 tab T
  |_=>none
def q4r (b:Builtin) (us:Option (Bool×Ty)) (as:List AV) (σ:St) (K:AV→St→Option R):Option R:=
 match b,as with
 | .len,[v]=>match us,q3u σ v with
  |some _,some l=>K (.val (.int .i64) (ln l.2)) σ
  |_,_=>none
 | .max,[.val (.int j) x,.val (.int k) y]=>match decide (j=k)with|true=>K (.val (.int j) (maxI x y)) σ|false=>none
 | .min,[.val (.int j) x,.val (.int k) y]=>match decide (j=k)with|true=>K (.val (.int j) (minI x y)) σ|false=>none
 | .append,[s,x]=>match us with
  |some us=>match s with
   | .nl ts=>chk (Nat.beq us.2.size ts.size&&(us.1==(us.1&&ts.hasSl))) (match q0fj σ us.1 ts x with
    |some (m,rs)=>br (q4x ([]:List ts.den) m) (K (.sl σ.roots.length 0) (q8i (eat us.1 σ rs) (.row us.1 ts m))) none
    |none=>none)
   | .sl r a=>match σ.roots[r]? with
    |some ⟨.row o ts l,v,b⟩=>chk (Nat.beq a b&&Nat.beq us.2.size ts.size) (match q0fj σ o ts x with
      |some (m,rs)=>chk (!qsr r rs) (br (q4x l m) (q9 (app l m) fun l'=>K (.sl r (b+1)) (q2z (eat o σ rs) r ⟨.row o ts l',v+1,b+1⟩)) none)
      |none=>none)
    |_=>none
   | .hd r a n=>match σ.roots[r]? with
    |some ⟨.row o ts l,v,b⟩=>chk (Nat.beq a b&&Nat.beq us.2.size ts.size) (match q0fj σ o ts x with
      |some (m,rs)=>chk (!qsr r rs) (br (q4x (tk l n) m) (q9 (app (tk l n) m) fun l'=>K (.sl r (b+1)) (q2z (eat o σ rs) r ⟨.row o ts l',v+1,b+1⟩)) none)
      |none=>none)
    |_=>none
   | .il r v i f=>match σ.roots[r]? with
    |some ⟨.row true ts l,w,b⟩=>match q2u ts (rd ts l i) f with
     |some ⟨vs,n⟩=>chk (Nat.beq v w&&Nat.beq us.2.size vs.size&& !vs.hasSl) (match q0fj σ false vs x with
      |some (m,_)=>br (q4x n m) (q9 (app n m) fun l'=>K (.pd r (w+1) i f vs l') (q2z σ r ⟨.row true ts l,w+1,b⟩)) none
      |none=>none)
     |none=>none
    |_=>none
   |_=>none
  |none=>none
 | .clear,[.tl r a lo]=>match us,σ.roots[r]? with
  |some us,some ⟨.row false ts l,v,b⟩=>chk (Nat.beq a b) (match us.2.cast ts us.2.dflt with
   |some y=>K (.tup .nil) (q2z σ r ⟨.row false ts (app (tk l lo) (qmb (dp l lo).length y)),v+1,b⟩)
   |none=>none)
  |_,_=>none
 |_,_=>none
def qa1 (call:Nat→List AV→St→(AV→St→Option R)→Option R) (k:Nat) (o:Oper) (σ:St) (K:AV→St→Option R):Option R:=
 match o.op with
 | .move (.const (.slice none 0 0))=>match qa3 tab o.type with
  |some ts=>K (.nl ts.2) σ
  |none=>none
 | .assign (.const (.slice none 0 0))=>match qa3 tab o.type with
  |some ts=>K (.nl ts.2) σ
  |none=>none
 | .move x=>K (σ.eval x) σ
 | .assign x=>K (σ.eval x) σ
 | .pick c a b=>match σ.eval c with
  | .val .bool c=>br c (K (σ.eval a) σ) (K (σ.eval b) σ)
  |_=>none
 | .alloc T=>match qkt tab T with
  |some i=>let cs:=(q0d2 i.cells).toList;K (.bp σ.roots.length 0) (q8i σ (.box cs (cs.map fun _=>0)))
  |none=>none
 | .box T x=>match qkt tab T with
  |some i=>let cs:=(cellsOf σ (σ.eval x)).toList
   chk (Nat.beq cs.length i.cells.size) (K (.bp σ.roots.length 0) (q8i σ (.box cs (cs.map fun _=>0))))
  |none=>none
 | .load T x=>match qkt tab T with
  |some i=>match σ.eval x with
   | .rp ts x f=>chk (Nat.ble (f+i.cells.size) ts.size) (K (one i (q0d4 ts x f i.cells.size)) σ)
   | .bp r f=>match σ.roots[r]? with
    |some ⟨.box cs _,_,_⟩=>chk (Nat.ble (f+i.cells.size) cs.length) (K (one i (qei i.cells.size (qi3 f (.ofList cs)))) σ)
    |_=>none
   | .ep r a j f=>match σ.roots[r]? with
    |some ⟨.row o ts l,v,b⟩=>chk (Nat.beq a b&&Nat.ble (f+i.cells.size) ts.size) (q9 (rd ts l j) fun e=>K (one i (q08t o r v j ts e f i.cells.size 0)) σ)
    |_=>none
   | .ip r v j f m g=>match σ.roots[r]? with
    |some ⟨.row true ts l,w,_⟩=>match q2u ts (rd ts l j) f with
     |some ⟨us,n⟩=>chk (Nat.beq v w&&Nat.ble (g+i.cells.size) us.size) (q9 (rd us n m) fun e=>K (one i (q0d4 us e g i.cells.size)) σ)
     |none=>none
    |_=>none
   |_=>none
  |none=>none
 | .store T x v=>match qkt tab T with
  |some i=>match σ.eval x with
   | .bp r f=>chk (Nat.beq (qgz (cellsOf σ (σ.eval v))) i.cells.size) (match σ.roots[r]? with
    |some ⟨.box cs ss,w,b⟩=>chk (Nat.ble (f+i.cells.size) cs.length) (K (.tup .nil) (q2z σ r ⟨.box (setCells cs ss f (cellsOf σ (σ.eval v))).1 (setCells cs ss f (cellsOf σ (σ.eval v))).2,w,b⟩))
    |_=>none)
   | .ep r a j f=>chk (Nat.beq (qgz (cellsOf σ (σ.eval v))) i.cells.size) (match σ.roots[r]? with
    |some ⟨.row o ts l,w,b⟩=>chk (Nat.beq a b&&Nat.ble (f+i.cells.size) ts.size) (match σ.eval v with
     | .pd r' v' i' f' us m=>chk (o&&Nat.beq r' r&&Nat.beq v' w&&Nat.beq f' f) (q9 (rd ts l j) fun e=>br (eqN i' j) (match q5m ts e f us m with
      |some y=>q9 (upd l j y) fun l'=>K (.tup .nil) (q2z σ r ⟨.row o ts l',w+1,b⟩)
      |none=>none) none)
     | .il r' v' i' f'=>chk (o&&Nat.beq r' r&&Nat.beq v' w&&Nat.beq f' f) (q9 (rd ts l j) fun e=>br (eqN i' j) (match q2u ts (rd ts l i') f' with
      |some ⟨us,m⟩=>(match q5m ts e f us m with
       |some y=>q9 (upd l j y) fun l'=>K (.tup .nil) (q2z σ r ⟨.row o ts l',w+1,b⟩)
       |none=>none)
      |none=>none) none)
     |_=>q9 (rd ts l j) fun e=>match qre σ o ts e f (cellsOf σ (σ.eval v))with
      |some y=>chk (q0m1 o (qcq σ (cellsOf σ (σ.eval v)))&& !qsr r (qcq σ (cellsOf σ (σ.eval v))))
        (q9 (upd l j y) fun l'=>K (.tup .nil) (q2z (eat o σ (qcq σ (cellsOf σ (σ.eval v)))) r ⟨.row o ts l',w+1,b⟩))
      |none=>none)
    |_=>none)
   | .ip r v' j f m g=>chk (Nat.beq (qgz (cellsOf σ (σ.eval v))) i.cells.size) (match σ.roots[r]? with
    |some ⟨.row true ts l,w,b⟩=>q9 (rd ts l j) fun e=>match q2u ts e f with
     |some ⟨us,n⟩=>chk (Nat.beq v' w&&Nat.ble (g+i.cells.size) us.size&& !us.hasSl) (match qre σ false us (rd us n m) g (cellsOf σ (σ.eval v))with
      |some y=>match q5m ts e f us (upd n m y)with
       |some z=>q9 (upd l j z) fun l'=>K (.tup .nil) (q2z σ r ⟨.row true ts l',w+1,b⟩)
       |none=>none
      |none=>none)
     |none=>none
    |_=>none)
   |_=>none
  |none=>none
 | .nilCheck x=>chk (q0iy σ (σ.eval x)) (K (σ.eval x) σ)
 | .binOp .eql T x (.const (.slice none 0 0)) _=>match qa3 tab T,q3u σ (σ.eval x)with
  |some _,some l=>nilB l.2 (K (.val .bool true) σ) (K (.val .bool false) σ)
  |_,_=>none
 | .binOp .neq T x (.const (.slice none 0 0)) _=>match qa3 tab T,q3u σ (σ.eval x)with
  |some _,some l=>nilB l.2 (K (.val .bool false) σ) (K (.val .bool true) σ)
  |_,_=>none
 | .binOp op T x y _=>match q0om tab T op (σ.eval x) (σ.eval y)with|some (none,v)=>K v σ|some (some b,v)=>br b (K v σ) none|none=>none
 | .unOp .not _ x=>match σ.eval x with| .val .bool b=>K (.val .bool (qm b)) σ|_=>none
 | .unOp .neg _ x=>match σ.eval x with| .val (.int k) n=>K (.val (.int k) (qp k 0 n)) σ|_=>none
 | .convert S D x=>match σ.eval x,qkt tab D with
  | .val (.int _) n,some ⟨false,.cons (.int d) .nil,_,_,_,_⟩=>match qkt tab S with
   |some ⟨false,.cons (.int _) .nil,_,_,_,_⟩=>K (.val (.int d) (qb0 d n)) σ
   |_=>none
  | .sl r a,some ⟨false,.cons .str .nil,_,_,_,_⟩=>match σ.roots[r]?,qkt tab S with
   |some ⟨.row false (.cons (.int .u8) .nil) [x],_,b⟩,some ⟨false,.cons (.slice _) .nil,e,_,_,_⟩=>(match qkt tab e with
    |some ⟨false,.cons (.int .u8) .nil,_,_,_,_⟩=>chk (Nat.beq a b) (K (.val .str (q0qo x.1)) σ)
    |_=>none)
   |_,_=>none
  |_,_=>none
 | .fieldAddr s x f=>match qkt tab s with
  |some i=>match i.offs[f]? with
   |some off=>chk (q0iy σ (σ.eval x))<|match σ.eval x with
    | .rp ts x g=>K (.rp ts x (g+off.1)) σ
    | .bp r g=>K (.bp r (g+off.1)) σ
    | .ep r a j g=>K (.ep r a j (g+off.1)) σ
    | .ip r v j f m g=>K (.ip r v j f m (g+off.1)) σ
    |_=>none
   |none=>none
  |none=>none
 | .field s x f=>match qkt tab s with
  |some i=>match i.offs[f]?,σ.eval x with
   |some off,.agg cs=>chk (Nat.ble (off.1+off.2.1) (qgz cs)) (K (oneB off.2.2 (qei off.2.1 (qi3 off.1 cs))) σ)
   |_,_=>none
  |none=>none
 | .indexAddr T x ix=>match qa3 tab T,σ.eval ix with
  |some us,.val (.int _) n=>match σ.eval x with
   | .val (.slice ts) l=>chk (Nat.beq us.2.size ts.size) (br (inR n (ln l)) (q9 (rd ts l (q6 n)) fun e=>K (.rp ts e 0) σ) none)
   | .nl ts=>chk (Nat.beq us.2.size ts.size) (br (inR n (ln ([]:List ts.den))) (q9 (rd ts [] (q6 n)) fun e=>K (.rp ts e 0) σ) none)
   | .sl r a=>match σ.roots[r]? with
    |some ⟨.row _ ts l,_,b⟩=>chk (Nat.beq a b&&Nat.beq us.2.size ts.size) (br (inR n (ln l)) (K (.ep r a (q6 n) 0) σ) none)
    |some ⟨.fro ts l,_,b⟩=>chk (Nat.beq a b&&Nat.beq us.2.size ts.size) (br (inR n (ln l)) (q9 (rd ts l (q6 n)) fun e=>K (.rp ts e 0) σ) none)
    |_=>none
   | .hd r a m=>match σ.roots[r]? with
    |some ⟨.row _ ts l,_,b⟩=>chk (Nat.beq a b&&Nat.beq us.2.size ts.size) (br (inR n (ln (tk l m))) (K (.ep r a (q6 n) 0) σ) none)
    |_=>none
   | .tl r a m=>match σ.roots[r]? with
    |some ⟨.row _ ts l,_,b⟩=>chk (Nat.beq a b&&Nat.beq us.2.size ts.size) (br (inR n (ln (dp l m))) (K (.ep r a (m+q6 n) 0) σ) none)
    |_=>none
   | .il r v i f=>match σ.roots[r]? with
    |some ⟨.row true ts l,w,_⟩=>match q2u ts (rd ts l i) f with
     |some ⟨vs,m⟩=>chk (Nat.beq v w&&Nat.beq us.2.size vs.size) (br (inR n (ln m)) (K (.ip r v i f (q6 n) 0) σ) none)
     |none=>none
    |_=>none
   |_=>none
  |_,_=>none
 | .extract x n=>match σ.eval x with
  | .tup vs=>match vs.toList[n]? with
   |some v=>K v σ
   |none=>none
  |_=>none
 | .build T ps=>match qkt tab T with
  |some i=>match q0as σ i.offs ps.toList (q0d2 i.cells)with
   |some cs=>chk i.agg (K (.agg cs) σ)
   |none=>none
  |none=>none
 | .buildSlice T n ps=>match qa3 tab T with
  |some ts=>match q0cl σ ts.1 ts.2 ps.toList (List.replicate n ts.2.dflt)with
   |some l=>chk (q0m1 ts.1 (q9m σ ps.toList)&&Nat.ble (n*ts.2.size) 16777216) (K (.sl σ.roots.length 0) (q8i (eat ts.1 σ (q9m σ ps.toList)) (.row ts.1 ts.2 l)))
   |none=>none
  |none=>none
 | .makeSlice T l c=>match qa3 tab T with
  |some ts=>match σ.eval l,σ.eval c with
   | .val (.int .i64) n,.val (.int .i64) m=>br (fitN n) (br (eqI n m) (K (.sl σ.roots.length 0) (q8i σ (.row ts.1 ts.2 (qmb (q6 n) ts.2.dflt)))) none) none
   |_,_=>none
  |none=>none
 | .slice T x lo hi none=>match qa3 tab T with
  |some us=>match σ.eval x with
   | .val (.slice ts) l=>chk (Nat.beq us.2.size ts.size) (match lo.map σ.eval,hi.map σ.eval with
    |none,some (.val (.int _) h)=>br (upR h (ln l)) (K (.val (.slice ts) (tk l (q6 h))) σ) none
    |some (.val (.int _) g),none=>br (upR g (ln l)) (K (.val (.slice ts) (dp l (q6 g))) σ) none
    |_,_=>none)
   | .sl r a=>match σ.roots[r]? with
    |some ⟨.row _ ts l,w,b⟩=>chk (Nat.beq a b&&Nat.beq us.2.size ts.size) (match lo.map σ.eval,hi.map σ.eval with
     |none,some (.val (.int _) h)=>br (upR h (ln l)) (K (.hd r a (q6 h)) σ) none
     |some (.val (.int _) g),none=>br (upR g (ln l)) (K (.tl r a (q6 g)) σ) none
     |_,_=>none)
    |some ⟨.fro ts l,w,b⟩=>chk (Nat.beq a b&&Nat.beq us.2.size ts.size) (match lo.map σ.eval,hi.map σ.eval with
     |none,some (.val (.int _) h)=>br (upR h (ln l)) (K (.val (.slice ts) (tk l (q6 h))) σ) none
     |some (.val (.int _) g),none=>br (upR g (ln l)) (K (.val (.slice ts) (dp l (q6 g))) σ) none
     |_,_=>none)
    |_=>none
   | .il r v i f=>match σ.roots[r]? with
    |some ⟨.row true ts l,w,_⟩=>match q2u ts (rd ts l i) f with
     |some ⟨vs,m⟩=>chk (Nat.beq v w&&Nat.beq us.2.size vs.size) (match lo.map σ.eval,hi.map σ.eval with
      |none,some (.val (.int _) h)=>br (upR h (ln m)) (K (.pd r v i f vs (tk m (q6 h))) σ) none
      |_,_=>none)
     |none=>none
    |_=>none
   |_=>none
  |none=>none
 | .slice T x none (some (.const (.int _ 0))) (some (.const (.int _ 0)))=>match qa3 tab T,q3u σ (σ.eval x)with
  |some us,some l=>K (.nl l.1) σ
  |_,_=>none
 | .makeFunc (.func f) fs cs=>match fs.toList with
  | []=>K (.fn f (.ofList (cs.toList.map σ.eval))) σ
  |_=>none
 | .call c=>match c.callee with
  | .builtin b=>q4r b (q0gs tab b c.argTypes.toList) (c.args.toList.map σ.eval) σ K
  | .value f=>match σ.eval f with
   | .fn f caps=>match qkt Γ f with
    |some (.sig g)=>qqp soft k g (c.args.toList.map σ.eval++caps.toList) σ K
    |some (.cut F d)=>qqq soft k F d (c.args.toList.map σ.eval++caps.toList) σ K
    |_=>call f (c.args.toList.map σ.eval++caps.toList) σ K
   |_=>none
  |_=>none
 |_=>none
inductive Ex where
 |normal|exit (id:Nat)|ret
def q0gg (all:List Oper) (σ:St) (j:Nat):Option (Nat×Option Bool):=match all[j]? with
 |some o=>match o.dst with
  |some d=>match σ.get d with
   | .val .bool b=>some (d,some b)
   | .tup .nil=>some (d,none)
   |_=>none
  |none=>none
 |none=>none
def q0ly (call:Nat→List AV→St→(AV→St→Option R)→Option R) (k:Nat) (all:List Oper) (o:Oper) (σ:St) (K:St→Option R):Option R:=match o.guard with
 |none=>qa1 tab soft Γ call k o σ fun v σ=>K (σ.put o.dst v)
 |some (j,want)=>match q0gg all σ j with
  |some (d,none)=>K (σ.put o.dst (.tup .nil))
  |some (d,some b)=>br b
    (let σ:=σ.put (some d) (.val .bool true)
     match want with|true=>qa1 tab soft Γ call k o σ fun v σ=>K (σ.put o.dst v)|false=>K (σ.put o.dst (.tup .nil)))
    (let σ:=σ.put (some d) (.val .bool false)
     match want with|true=>K (σ.put o.dst (.tup .nil))|false=>qa1 tab soft Γ call k o σ fun v σ=>K (σ.put o.dst v))
  |none=>none
def q0qf (call:Nat→List AV→St→(AV→St→Option R)→Option R) (k:Nat) (all:List Oper):List Oper→St→(St→Option R)→Option R
 | [],σ,K=>K σ
 |o::os,σ,K=>q0ly tab soft Γ call k all o σ fun σ=>q0qf call k all os σ K
def ql5 (o:Oper):Nat:=match o.op with
 | .load _ _=>1
 | .move _| .pick _ _ _| .binOp _ _ _ _ _| .unOp _ _ _| .convert _ _ _| .fieldAddr _ _ _| .field _ _ _| .indexAddr _ _ _| .extract _ _| .nilCheck _| .build _ _| .makeFunc _ _ _| .slice _ _ _ _ _=>0
 | .alloc _| .box _ _| .buildSlice _ _ _| .makeSlice _ _ _=>2
 | .call c=>match c.callee with
  | .builtin .len=>0
  | .builtin .max=>0
  | .builtin .min=>0
  | .builtin .append=>3
  | .value (.func f)=>match qkt Γ f with
   |some (.sig g)=>(match g.pm.any qnn with|true=>4|false=>2)
   |_=>4
  |_=>4
 |_=>4
def q0lr:List Md→List AV→Nat→Bool
 |m::ms,v::vs,r=>(m.ptr&&(match v with| .bp r' _=>Nat.beq r' r|_=>true))||q0lr ms vs r
 |_,_,_=>false
def q0s6 (σ:St) (o:Oper) (r:Nat):Bool:=match Nat.ble (ql5 Γ o) 3 with
 |true=>false
 |false=>match o.op with
  | .store _ x _=>match σ.eval x with
   | .bp r' _=>Nat.beq r' r
   | .ep _ _ _ _=>false
   | .ip _ _ _ _ _ _=>false
   |_=>true
  | .call c=>match c.callee with
   | .value (.func f)=>match qkt Γ f with
    |some (.sig g)=>q0lr g.pm (c.args.toList.map σ.eval) r
    |_=>true
   |_=>true
  |_=>true
def clear (σ sw:St) (oi oj:Oper):Bool:=match oi.op with
 | .load _ x=>match σ.eval x with
  | .rp _ _ _=>true
  | .bp r _=> !q0s6 Γ sw oj r
  |_=>Nat.ble (ql5 Γ oj) 2
 |_=>true
def ql3 (listed:List Bool):List Oper→Nat→List Nat
 | [],_=>[]
 |o::os,i=>match !listed.getD i true&&o.after.toList.all (fun e=> !Region.binds .any e||listed.getD e.on false)with
  |true=>i::ql3 listed os (i+1)
  |false=>ql3 listed os (i+1)
def waits (all:List Oper) (i:Nat):Nat→Nat→Bool
 |0,_=>false
 |n+1,j=>match all[j]? with
  |some o=>o.after.toList.any fun e=>Region.binds .any e&&(Nat.beq e.on i||waits all i n e.on)
  |none=>false
def q0r7:List Oper→List Bool→St→St
 |o::os,b::bs,σ=>q0r7 os bs (match b with|true=>σ|false=>σ.put o.dst .undef)
 |_,_,σ=>σ
def q0s2:Op→Bool| .select _ _=>true|_=>false
def q0nn:List Oper→Bool
 | []=>true
 |o::os=> !q0s2 o.op&&q0nn os
def q0lx (σ:St) (all:List Oper) (listed:List Bool) (i:Nat):Bool:=match all[i]? with
 |some oi=>Nat.ble (ql5 Γ oi) 1&&q0nn all&&(List.range all.length).all fun j=>Nat.beq j i||listed.getD j true||(match all[j]? with
   |some oj=>oi.apart all.toArray oj&&clear Γ σ (q0r7 all listed σ) oi oj
   |none=>true)||waits all i all.length j
 |none=>false
def q0ck (p:Nat→Bool):List Nat→Option Nat
 | []=>none
 |i::is=>match p i with|true=>some i|false=>q0ck p is
def allO (f:Nat→Option R):List Nat→Option R
 | []=>none
 | [i]=>f i
 |i::is=>qqr (f i) (allO f is)
def q8u (σ:St) (o:Oper):List Nat:=match o.op with
 | .load _ x=>match σ.eval x with
  | .bp r _=>[r]
  | .ep r _ _ _=>[r]
  | .ip r _ _ _ _ _=>[r]
  |_=>[]
 | .convert _ _ x=>match σ.eval x with
  | .sl r _=>[r]
  |_=>[]
 |_=>[]
def q00w (all:List Oper) (k:Nat) (R R':List Root):List (Nat×Nat)→Bool
 | []=>true
 |(i,r)::ps=>(waits all i all.length k||qpf R R' r)&&q00w all k R R' ps
def q0p4 (σ:St) (all:List Oper) (i:Nat):List (Nat×Nat):=match all[i]? with|some o=>(q8u σ o).map fun r=>(i,r)|none=>[]
def q03s (call:Nat→List AV→St→(AV→St→Option R)→Option R) (k:Nat) (all:List Oper) (i:Nat) (σ:St) (K:St→Option R):Option R:=
 match all[i]? with|some o=>q0ly tab soft Γ call k all o σ K|none=>none
def qow (call:Nat→List AV→St→(AV→St→Option R)→Option R) (k:Nat) (all:List Oper):Nat→List Bool→List (Nat×Nat)→St→(St→Option R)→Option R
 |0,listed,_,σ,K=>match ql3 listed all 0 with
  | []=>K σ
  |_=>none
 |n+1,listed,pend,σ,K=>match ql3 listed all 0 with
  | []=>K σ
  | [i]=>q03s tab soft Γ call k all i σ fun σ'=>chk (q00w all i σ.roots σ'.roots pend) (qow call k all n (listed.set i true) pend σ' K)
  |rs=>match q0ck (q0lx Γ σ all listed) rs with
   |some i=>q03s tab soft Γ call k all i σ fun σ'=>qow call k all n (listed.set i true) (q0p4 σ all i++pend) σ' K
   |none=>allO (fun i=>q03s tab soft Γ call k all i σ fun σ'=>chk (q00w all i σ.roots σ'.roots pend) (qow call k all n (listed.set i true) pend σ' K)) rs
def qyy:Code→List Nat
 | .region _ ops _=>ops.toList.filterMap (·.dst)
 | .seq a b=>qyy a++qyy b
 | .cond _ a b=>qyy a++qyy b
 | .block _ b=>qyy b
 | .loop b=>qyy b
 |_=>[]
def q05b (σ:St):Place→AV
 | .slot s=>σ.get s
 | .cell r f=>match σ.roots[r]? with|some ⟨.box cs _,_,_⟩=>cs.getD f .undef|_=> .undef
 | .root r=>match σ.roots[r]? with|some ⟨_,_,a⟩=> .sl r a|none=> .undef
def places (σ:St):List It→List AV
 | []=>[]
 |i::is=>q05b σ i.p::places σ is
def q1f:List It→Ty
 | []=> .nil
 |i::is=> .cons i.t (q1f is)
def qrw:List It→List Md
 | []=>[]
 |i::is=>i.m::qrw is
def qrx:It→Bool|⟨.root _,_,_⟩=>true|_=>false
def q51:List It→List Nat
 | []=>[]
 |⟨.root r,_,_⟩::is=>r::q51 is
 |_::is=>q51 is
def q0sg (σ:St) (is:List It):List Nat:=
 q11 (q46 σ (q1f is) (qrw is) (places σ is))++qwg σ (q1f is) (qrw is) (places σ is)
def qvn (σ:St) (h:Hint):List Nat:=q0sg σ (h.items.filter fun i=> !qrx i)++h.drops
def wipe (σ:St):List Nat→St
 | []=>σ
 |s::ss=>wipe (σ.put (some s) .undef) ss
def qej (σ:St) (h:Hint) (ds:List Nat):St:=wipe (kill σ (qvn σ h)) ds
def q00m (σ:St) (r:Nat) (t:Ty) (x:t.den):List Put:=match σ.roots[r]?,t,x with
 |some ⟨.row o _ _,v,a⟩,.slice us,y=>[.root r ⟨.row o us y,v+1,a⟩]
 |_,_,_=>[]
def quw:List It→(t:Ty)→t.den→Nat→List Root
 |i::is,.cons t ts,x,n=>match qrx i with
  |true=>quw is ts x.2 n
  |false=>qrd i.m t x.1 n++quw is ts x.2 (n+q0l i.m t)
 |_,_,_,_=>[]
def qbr (σ:St):List It→(t:Ty)→t.den→Nat→List Put
 |i::is,.cons t ts,x,n=>match i.p with
  | .root r=>q00m σ r t x.1++qbr σ is ts x.2 n
  | .cell r f=> .cell r f (qxy i.m t x.1 n)::qbr σ is ts x.2 (n+q0l i.m t)
  | .slot _=>qbr σ is ts x.2 (n+q0l i.m t)
 |_,_,_,_=>[]
def qoy:List It→(t:Ty)→t.den→Nat→List AV→List AV
 |i::is,.cons t ts,x,n,l=>match i.p with
  | .root _=>qoy is ts x.2 n l
  | .cell _ _=>qoy is ts x.2 (n+q0l i.m t) l
  | .slot s=>qoy is ts x.2 (n+q0l i.m t) (l.set s (qxy i.m t x.1 n))
 |_,_,_,_,l=>l
def dec (σ:St) (is:List It) (t:Ty) (x:t.den):St:=⟨qoy is t x σ.roots.length σ.tmps,puts (qbr σ is t x σ.roots.length) σ.roots++quw is t x σ.roots.length⟩
def q02t (is:List It) (r f:Nat):Bool:=is.any fun|⟨.cell s g,_,_⟩=>Nat.beq s r&&Nat.beq g f|_=>false
def q0hp (is:List It) (r:Nat):Nat→List Nat→List Nat→Bool
 |f,s::ss,t::ts=>(Nat.beq s t||q02t is r f)&&q0hp is r (f+1) ss ts
 |_,[],[]=>true
 |_,_,_=>false
def quh (is:List It) (dead:List Nat) (r:Nat) (p q:Root):Bool:=match p.k,q.k with
 | .box _ ss,.box _ ts=>q0hp is r 0 ss ts
 | .box _ _,_=>false
 |_,_=>qsr r dead||(qsr r (q51 is)&&Nat.beq p.anc q.anc)||Nat.beq p.ver q.ver
def q02r (is:List It) (dead:List Nat):Nat→List Root→List Root→Bool
 |_,[],_=>true
 |r,p::ps,q::qs=>quh is dead r p q&&q02r is dead (r+1) ps qs
 |_,_::_,[]=>false
def qyu (R:List Root) (ok:List Nat):List Nat→Bool
 | []=>true
 |r::rs=>(Nat.ble R.length r||(qsr r ok&& !q97 R r))&&qyu R ok rs
def qaj (R:List Root):List It→Bool
 | []=>true
 |⟨.root r,m,t⟩::is=>(match R[r]?,t with
  |some ⟨.row o ts _,_,_⟩,.slice us=> !m.ptr&& !Nat.beq m.sm 0&&q05c m.sm o us&&(ts.eq? us).isSome
  |_,_=>false)&&qaj R is
 |_::is=>qaj R is
def enc (base σ:St) (dead:List Nat) (is:List It) (t:Ty):Option t.den:=
 let ss:=q11 (q46 σ t (qrw is) (places σ is))
 let ro:=qwg σ t (qrw is) (places σ is)
 match qve ss&&qvp ss ro&&qyu base.roots (dead++q51 is) ss&&qyu base.roots dead ro&&qvp dead (q51 is)&&qaj base.roots is&&qaj σ.roots is&&q02r is dead 0 base.roots σ.roots with
 |true=>ql4 σ t (qrw is) (places σ is)
 |false=>none
def qqo:Code→Nat
 | .region id _ _=>id
 | .seq a _=>qqo a
 | .block _ b=>qqo b
 | .loop b=>qqo b
 | .cond _ a b=>match qqo a with|0=>qqo b|n+1=>n+1
 |_=>0
def q0ls:List Hint→Nat→Option Hint
 | [],_=>none
 |h::hs,n=>match Nat.beq h.id n with|true=>some h|false=>q0ls hs n
abbrev q048 (f:St→Option R) (K:Ex→St→Option R):Ex→St→Option R
 | .normal,σ=>f σ
 | .exit j,σ=>K (.exit j) σ
 | .ret,σ=>K .ret σ
abbrev q0s5 (id:Nat) (K:Ex→St→Option R):Ex→St→Option R
 | .normal,σ=>K .normal σ
 | .exit j,σ=>match Nat.beq j id with|true=>K .normal σ|false=>K (.exit j) σ
 | .ret,σ=>K .ret σ
def ev (call:Nat→List AV→St→(AV→St→Option R)→Option R) (H:List Hint) (k:Nat):Code→St→(Ex→St→Option R)→Option R
 | .skip,σ,K=>K .normal σ
 | .region _ ops false,σ,K=>q0qf tab soft Γ call k ops.toList ops.toList σ (K .normal)
 | .region _ ops true,σ,K=>qow tab soft Γ call k ops.toList ops.toList.length (ops.toList.map fun _=>false) [] σ (K .normal)
 | .seq a b,σ,K=>match q0ls H (2*qqo b)with
  |none=>ev call H k a σ (q048 (fun σ=>ev call H k b σ K) K)
  |some h=>q9 (fun c:(q1f h.items).den=>ev call H k b (dec (qej σ h (qyy a)) h.items (q1f h.items) c) K) fun j=>
    ev call H k a σ (q048 (fun σ'=>bnd (enc (qej σ h (qyy a)) σ' (qvn σ h) h.items (q1f h.items)) j) K)
 | .cond c a b,σ,K=>match σ.eval c with
  | .val .bool t=>br t (ev call H k a σ K) (ev call H k b σ K)
  |_=>none
 | .block id b,σ,K=>ev call H k b σ (q0s5 id K)
 | .loop b,σ,K=>match q0ls H (2*qqo b+1)with
  |some h=>bnd (enc (qej σ h (qyy b)) σ (qvn σ h) h.items (q1f h.items)) fun c0=>
    qh (fun rec c=>ev call H k b (dec (qej σ h (qyy b)) h.items (q1f h.items) c) (q048 (fun σ'=>bnd (enc (qej σ h (qyy b)) σ' (qvn σ h) h.items (q1f h.items)) rec) K)) k c0
  |none=>none
 | .exit j,σ,K=>K (.exit j) σ
 | .ret,σ,K=>K .ret σ
 |_,_,_=>none
def ql2 (σ:St):ResultVar→AV
 | .tmp t=>σ.get t
 | .cell a T=>match qkt tab T with
  |some i=>match σ.get a with
   | .bp r f=>match σ.roots[r]? with
    |some ⟨.box cs _,_,_⟩=>match Nat.ble (f+i.cells.size) cs.length with|true=>one i (qei i.cells.size (qi3 f (.ofList cs)))|false=> .undef
    |_=> .undef
   |_=> .undef
  |none=> .undef
def q0iv (σ:St):ResultVar→Bool
 | .tmp _=>true
 | .cell a T=>match qkt tab T,σ.get a with
  |some i,.bp r f=>match σ.roots[r]? with
   |some ⟨.box cs _,_,_⟩=>Nat.ble (f+i.cells.size) cs.length
   |_=>false
  |_,_=>false
def q0h5 (σ:St):List ResultVar→Bool
 | []=>true
 |r::rs=>q0iv tab σ r&&q0h5 (qbs σ (ql2 tab σ r)).2 rs
def qi4 (σ:St):List ResultVar→List AV×St
 | []=>([],σ)
 |r::rs=>let p:=qbs σ (ql2 tab σ r);let q:=qi4 p.2 rs;(p.1::q.1,q.2)
abbrev q0qy (f:St→Option R):Ex→St→Option R
 | .normal,σ=>f σ
 | .ret,σ=>f σ
 | .exit _,_=>none
def q0f4 (k:Nat):Nat→Nat→List AV→St→(AV→St→Option R)→Option R
 |0,_,_,_,_=>none
 |n+1,f,as,σ,K=>match qkt Γ f with
  |some (.inl fn H)=>match fn.body with
   |some c=>ev tab soft Γ (q0f4 k n) H k c ⟨as++List.replicate (fn.ntmps-as.length) .undef,σ.roots⟩ (q0qy fun σ'=>chk (q0h5 tab σ' fn.results.toList) (K (q0im (qi4 tab σ' fn.results.toList).1) ⟨σ.tmps,(qi4 tab σ' fn.results.toList).2.roots⟩))
   |none=>none
  |_=>none
def qly:List (Md×Ty×AV)→List AV
 | []=>[]
 |(m,_,v)::vs=>match qnn m with|true=>v::qly vs|false=>qly vs
def q0pt (g:Sig) (as:List AV) (rs:List ResultVar) (σ:St):Option g.res.den:=
 let vs:=rs.map (ql2 tab σ)++qly (q4m g.params g.pm as)
 let ss:=q11 (q46 σ g.res g.rm vs)
 chk (rs.all (q0iv tab σ)&&qve ss&&qvp ss (qwg σ g.res g.rm vs)&&Nat.beq rs.length g.n) (ql4 σ g.res g.rm vs)
def q0p5 (σ:St) (rs:List ResultVar):Option (Int×List (Int×Unit)×(Int×Unit)×Unit):=match rs with
 | [rv]=>chk (q0iv tab σ rv) (match ql2 tab σ rv,σ.roots[(0:Nat)]?,σ.roots[(1:Nat)]? with
  | .sl 0 a,some ⟨.row false (.cons (.int .i64) .nil) l,_,b⟩,some ⟨.box [.val (.int .i64) z] _,_,_⟩=>chk (Nat.beq a 0&&Nat.beq b 0) (some (Int.ofNat (List.length l),l,(z,()),()))
  | .hd 0 a m,some ⟨.row false (.cons (.int .i64) .nil) l,_,b⟩,some ⟨.box [.val (.int .i64) z] _,_,_⟩=>chk (Nat.beq a 0&&Nat.beq b 0) (some (Int.ofNat m,l,(z,()),()))
  |_,_,_=>none)
 |_=>none
def q0o7 (H:List Hint) (fn:Func) (c k:Nat) (x:List (Int×Unit)×(Int×Unit)×Unit):Option (Int×List (Int×Unit)×(Int×Unit)×Unit):=
 match fn.body with
 |some code=>ev tab soft Γ (q0f4 tab soft Γ k 8) H k code ⟨[.sl 0 0,.fn c (.cons (.bp 1 0) .nil)]++List.replicate (fn.ntmps-2) .undef,[⟨.row false tI x.1,0,0⟩,⟨.box [.val (.int .i64) x.2.1.1] [0],0,0⟩]⟩ (q0qy fun σ=>q0p5 tab σ fn.results.toList)
 |none=>none
def q03 (H:List Hint) (fn:Func) (g:Sig) (k:Nat) (x:g.params.den):Option g.res.den:=
 match fn.body with
 |some c=>
  let as:=q0ga g.params x g.pm 0
  let bs:=q0jx as g.fns
  ev tab soft Γ (q0f4 tab soft Γ k 8) H k c ⟨bs++List.replicate (fn.ntmps-bs.length) .undef,q00l g.params x g.pm 0⟩ (q0qy fun σ=>q0pt tab g as fn.results.toList σ)
 |none=>none
end
end
end Go.Proofs.YtpmjopbgccajgaaGreat.Eng
namespace Go.Proofs.YtpmjopbgccajgaaGreat.Eng
def rdP {α:Type} (d:α) (l:List α) (i:Nat):α:=l.getD i d
def q4f (l:List (Int×Unit)):List (Int×Unit):=((l.map Prod.fst).mergeSort fun x y=>decide (x≤y)).map fun x=>(x,())
def q0fm (k:Nat) (l:List (Int×Unit)):Option (List (Int×Unit)×Unit):=if l.length<4611686018427387904 then some (q4f l,())else none
noncomputable def sortSig:Sig:=⟨.cons (.slice (.cons (.int .i64) .nil)) .nil,[⟨false,2⟩],.cons (.slice (.cons (.int .i64) .nil)) .nil,[⟨false,2⟩],0,fun k x=>q0fm k x.1,[]⟩
def q0fl (k:Nat) (l:List (Int×Int×Int×Int×Int×Unit)):Option (List (Int×Int×Int×Int×Int×Unit)×Unit):=if 0<l.length∧l.length<140737488355328∧(l.map (·.1)).Nodup then some (l.mergeSort fun x y=>decide (x.1≤y.1),())else none
noncomputable def N5:Ty:= .cons (.int .i64) (.cons (.int .i64) (.cons (.int .i64) (.cons (.int .i64) (.cons (.int .i64) .nil))))
noncomputable def sortNSig (c:Nat):Sig:=⟨.cons (.slice N5) .nil,[⟨false,2⟩],.cons (.slice N5) .nil,[⟨false,2⟩],0,fun k x=>q0fl k x.1,[c]⟩
end Go.Proofs.YtpmjopbgccajgaaGreat.Eng
namespace Go.Proofs.YtpmjopbgccajgaaGreat.Eng
open Go.RowKit
inductive Lab where
 |free|hid|of (r s:Nat)
structure Gh where
 own:Nat→Nat→Lab
 anch:Nat→Option Addr×Nat
def at_ (w:World) (b o:Nat):Option Value:=w.cell? ⟨b,o,none⟩
def vw (G:Gh) (w:World) (b o:Nat):Option Value:=match G.own b o with| .free=>at_ w b o|_=>none
def ro (u:Nat→Nat→Option Value):(t:Ty)→(t.den→Value→Prop)×(t.den→Nat→Nat→Prop)
 | .bool=>(fun x v=>v= .bool x,fun _ _ _=>True)
 | .int k=>(fun x v=>v= .int k x,fun _ _ _=>True)
 | .str=>(fun x v=>v= .string x,fun _ _ _=>True)
 | .slice ts=>(fun l v=>∃(a:Option Addr) (c:Nat),v= .slice a (List.length l) c∧List.length l≤c∧
   ∀i,i<List.length l→∃b o,a=some ⟨b,o,none⟩∧(ro u ts).2 (rd ts l i) b (o+i*ts.size),fun _ _ _=>True)
 | .nil=>(fun _ _=>False,fun _ _ _=>True)
 | .cons t ts=>(fun _ _=>False,fun x b o=>(∃v,u b o=some v∧(ro u t).1 x.1 v)∧(ro u ts).2 x.2 b (o+1))
theorem q8t {u u':Nat→Nat→Option Value} (h:∀b o v,u b o=some v→u' b o=some v):
  ∀(t:Ty),(∀x v,(ro u t).1 x v→(ro u' t).1 x v)∧(∀x b o,(ro u t).2 x b o→(ro u' t).2 x b o)
 | .bool=>⟨fun _ _ h=>h,fun _ _ _ h=>h⟩
 | .int _=>⟨fun _ _ h=>h,fun _ _ _ h=>h⟩
 | .str=>⟨fun _ _ h=>h,fun _ _ _ h=>h⟩
 | .nil=>⟨fun _ _ h=>h,fun _ _ _ h=>h⟩
 | .slice ts=>⟨fun l v ⟨a,c,e,d,g⟩=>⟨a,c,e,d,fun i hi=>let ⟨b,o,ea,k⟩:=g i hi;⟨b,o,ea,(q8t h ts).2 _ _ _ k⟩⟩,fun _ _ _ h=>h⟩
 | .cons t ts=>⟨fun _ _ h=>h,fun x b o ⟨⟨v,e,g⟩,k⟩=>⟨⟨v,h _ _ _ e,(q8t h t).1 _ _ g⟩,(q8t h ts).2 _ _ _ k⟩⟩
def elG (c:Nat→Nat→Option Value) (cv:Nat→(t:Ty)→t.den→Value→Prop):(t:Ty)→t.den→(b o k:Nat)→Prop
 | .cons t ts,x,b,o,k=>(∃v,c b o=some v∧cv k t x.1 v)∧elG c cv ts x.2 b (o+1) (k+1)
 |_,_,_,_,_=>True
def qea (u:Nat→Nat→Option Value):Nat→(t:Ty)→t.den→Value→Prop:=fun _ t x v=>(ro u t).1 x v
theorem q09a {u:Nat→Nat→Option Value}:∀(t:Ty) (x:t.den) (b o k:Nat),(ro u t).2 x b o↔elG u (qea u) t x b o k
 | .bool,_,_,_,_=>Iff.rfl
 | .int _,_,_,_,_=>Iff.rfl
 | .str,_,_,_,_=>Iff.rfl
 | .nil,_,_,_,_=>Iff.rfl
 | .slice _,_,_,_,_=>Iff.rfl
 | .cons t ts,x,b,o,k=>and_congr Iff.rfl (q09a ts x.2 b (o+1) (k+1))
theorem qga {c c':Nat→Nat→Option Value} {cv cv':Nat→(t:Ty)→t.den→Value→Prop}:∀(t:Ty) (x:t.den) (b o k b' o' k':Nat),
  (∀j v,j<t.size→c b (o+j)=some v→c' b' (o'+j)=some v)→(∀j,j<t.size→∀t x v,cv (k+j) t x v→cv' (k'+j) t x v)→elG c cv t x b o k→elG c' cv' t x b' o' k'
 | .bool,_,_,_,_,_,_,_,_,_,_=>trivial
 | .int _,_,_,_,_,_,_,_,_,_,_=>trivial
 | .str,_,_,_,_,_,_,_,_,_,_=>trivial
 | .nil,_,_,_,_,_,_,_,_,_,_=>trivial
 | .slice _,_,_,_,_,_,_,_,_,_,_=>trivial
 | .cons t ts,x,b,o,k,b',o',k',hc,hv,⟨⟨v,e,g⟩,h⟩=>⟨⟨v,by simpa using hc 0 v (by simp [Ty.size]) (by simpa using e),by simpa using hv 0 (by simp [Ty.size]) _ _ _ (by simpa using g)⟩,
   qga ts x.2 b (o+1) (k+1) b' (o'+1) (k'+1) (fun j v hj e=>by
     have:=hc (j+1) v (by simp only [Ty.size];omega) (by rw [show o+(j+1)=o+1+j by omega];exact e)
     rwa [show o'+(j+1)=o'+1+j by omega]at this)
    (fun j hj t x v h=>by
     have:=hv (j+1) (by simp only [Ty.size];omega) t x v (by rw [show k+(j+1)=k+1+j by omega];exact h)
     rwa [show k'+(j+1)=k'+1+j by omega]at this) h⟩
theorem q3c {c c':Nat→Nat→Option Value} {cv cv':Nat→(t:Ty)→t.den→Value→Prop} (t:Ty) (x:t.den) (b o k:Nat)
  (hc:∀j v,j<t.size→c b (o+j)=some v→c' b (o+j)=some v) (hv:∀k t x v,cv k t x v→cv' k t x v) (h:elG c cv t x b o k):elG c' cv' t x b o k:=
 qga t x b o k b o k hc (fun j _=>hv (k+j)) h
def shpO:Obj→Obj
 | .cells c t f=> .cells (Array.replicate c.size undef) t f
 |o=>o
def shp (w:World) (b:Nat):Option Obj:=(w.heap[b]?).map shpO
def fz (w:World) (b o:Nat):Bool×Option Obj:=(w.frozen? ⟨b,o,none⟩,shp w b)
theorem q0o2 {w w':World} {b o:Nat} (h:fz w' b o=fz w b o):w'.frozen? ⟨b,o,none⟩=w.frozen? ⟨b,o,none⟩:=congrArg Prod.fst h
theorem q0k7 {x y:Obj} (h:shpO x=shpO y) (hc:∀c t f c' t' f',x= .cells c t f→y= .cells c' t' f'→c=c'):x=y:=by
 cases x with
 |cells c t f=>
  cases y with
  |cells c' t' f'=>
   simp only [shpO,Obj.cells.injEq]at h
   rw [hc _ _ _ _ _ _ rfl rfl,h.2.1,h.2.2]
  |_=>cases h
 |_=>cases y<;>first|exact h|cases h
theorem q0ic {w w':World} {b:Nat} (hs:shp w' b=shp w b) (hc:∀o,at_ w' b o=at_ w b o):w'.heap[b]? =w.heap[b]? :=by
 unfold shp at hs
 have cell:∀(w:World) c t f,w.heap[b]? =some (.cells c t f)→∀o,at_ w b o=c[o]? :=fun w c t f h o=>by unfold at_ World.cell?;simp [h]
 cases h:w.heap[b]? with
 |none=>
  rw [h]at hs
  cases h':w'.heap[b]? with
  |none=>rfl
  |some x=>rw [h']at hs;cases hs
 |some y=>
  cases h':w'.heap[b]? with
  |none=>rw [h,h']at hs;cases hs
  |some x=>
   rw [h,h']at hs
   rw [q0k7 (Option.some.inj hs) (fun c t f c' t' f' e e'=>by
    subst e;subst e'
    apply Array.ext_getElem?
    intro o
    rw [←cell w' c t f h' o,hc o,cell w c' t' f' h o])]
def Lk (G:Gh) (w:World) (G':Gh) (w':World) (L L':Lab):Prop:=
 ∀b o,b<w.heap.size→G.own b o=L→G'.own b o=L'∧at_ w' b o=at_ w b o∧fz w' b o=fz w b o
theorem Lk.refl (G:Gh) (w:World) (L:Lab):Lk G w G w L L:=fun _ _ _ h=>⟨h,rfl,rfl⟩
theorem Lk.trans {G G' G'':Gh} {w w' w'':World} {L L' L'':Lab} (hs:w.heap.size≤w'.heap.size) (h:Lk G w G' w' L L') (k:Lk G' w' G'' w'' L' L''):Lk G w G'' w'' L L'':=
 fun b o hb e=>let ⟨h1,h2,h3⟩:=h b o hb e;let ⟨k1,k2,k3⟩:=k b o (Nat.lt_of_lt_of_le hb hs) h1;⟨k1,k2.trans h2,k3.trans h3⟩
def tabs:List (Nat×Array Value):=[]
def Inv (G:Gh) (w:World):Prop:=∀t∈tabs,(∀o,G.own t.1 o= .free)∧∃ty fr,w.heap[t.1]? =some (.cells t.2 ty fr)
theorem inv_nil (h:tabs=[]) (G:Gh) (w:World):Inv G w:=fun t ht=>by rw [h]at ht;cases ht
theorem Inv.keep {G G':Gh} {w w':World} (hi:Inv G w) (h:Lk G w G' w' .free .free):Inv G' w':=fun t ht=>by
 obtain⟨h1,ty,fr,h2⟩:=hi t ht
 have hb:t.1<w.heap.size:=by
  by_cases e:t.1<w.heap.size
  ·exact e
  ·rw [Array.getElem?_eq_none (by omega)]at h2;cases h2
 refine⟨fun o=>(h _ o hb (h1 o)).1,ty,fr,?_⟩
 rw [←h2]
 exact q0ic (congrArg Prod.snd (h _ 0 hb (h1 0)).2.2) (fun o=>(h _ o hb (h1 o)).2.1)
theorem q1z {w:World} {b o:Nat} {v:Value} (h:at_ w b o=some v):b<w.heap.size:=World.block_lt_of_cell? w _ h
theorem qth {w:World} {b o:Nat} (h:(at_ w b o).isSome=true):b<w.heap.size:=by
 cases e:at_ w b o with
 |none=>rw [e]at h;cases h
 |some v=>exact q1z e
def q8n (G:Gh) (w:World) (cv:Nat→(t:Ty)→t.den→Value→Prop) (L:Lab) (ts:Ty) (l:List ts.den) (a:Option Addr) (n:Nat):Prop:=
 List.length l≤n∧(n=0∨∃b o,a=some ⟨b,o,none⟩∧
  (∀j,j<n*ts.size→G.own b (o+j)=L∧w.frozen? ⟨b,o+j,none⟩=false∧(at_ w b (o+j)).isSome=true)∧
  ∀i,i<List.length l→elG (at_ w) cv ts (rd ts l i) b (o+i*ts.size) (i*ts.size))
theorem qvf {i n c s j:Nat} (hi:i<n) (hn:n≤c) (hj:j<s):i*s+j<c*s:=by
 have:(i+1)*s≤c*s:=Nat.mul_le_mul_right _ (by omega)
 rw [Nat.add_mul,Nat.one_mul]at this;omega
theorem q61 {G G':Gh} {w w':World} {cv cv':Nat→(t:Ty)→t.den→Value→Prop} {L L':Lab} {ts:Ty} {l:List ts.den} {a:Option Addr} {n:Nat} (hv:∀k t x v,cv k t x v→cv' k t x v) (hc:Lk G w G' w' L L')
  (h:q8n G w cv L ts l a n):q8n G' w' cv' L' ts l a n:=by
 obtain⟨h0,h⟩:=h
 refine⟨h0,h.imp id ?_⟩
 rintro ⟨b,o,ea,h1,h2⟩
 refine⟨b,o,ea,fun j hj=> ?_,fun i hi=> ?_⟩
 ·obtain⟨k1,k2,k3⟩:=h1 j hj
  obtain⟨c1,c2,c3⟩:=hc _ _ (qth k3) k1
  exact⟨c1,(q0o2 c3).trans k2,by rw [c2];exact k3⟩
 ·refine q3c ts _ b _ _ (fun j v hj e=> ?_) hv (h2 i hi)
  have hlt:=qvf hi h0 hj
  obtain⟨k1,_,_⟩:=h1 _ hlt
  rw [show o+i*ts.size+j=o+(i*ts.size+j) by omega]at e ⊢
  rw [(hc _ _ (q1z e) k1).2.1];exact e
def qim (G:Gh) (w:World) (r:Nat):Nat→(t:Ty)→t.den→Value→Prop
 |k,.slice us,x,v=>∃a n,v= .slice a (List.length x) n∧q8n G w (qea (vw G w)) (.of r (k+1)) us x a n
 |_,t,x,v=>(ro (vw G w) t).1 x v
def qc4 (G:Gh) (w:World) (r:Nat):Bool→Nat→(t:Ty)→t.den→Value→Prop
 |true=>qim G w r
 |false=>qea (vw G w)
theorem q4j {u u':Nat→Nat→Option Value} (h:∀b o v,u b o=some v→u' b o=some v) (k k':Nat) (t:Ty) (x:t.den) (v:Value) (g:qea u k t x v):qea u' k' t x v:=(q8t h t).1 _ _ g
theorem qio {G G':Gh} {w w':World} {r r' k k':Nat} (hu:∀b o v,vw G w b o=some v→vw G' w' b o=some v) (hc:Lk G w G' w' (.of r (k+1)) (.of r' (k'+1))):
  ∀(t:Ty) (x:t.den) (v:Value),qim G w r k t x v→qim G' w' r' k' t x v
 | .slice us,x,v,⟨a,n,e,h⟩=>⟨a,n,e,q61 (fun k t x v g=>q4j hu k k t x v g) hc h⟩
 | .bool,x,v,h=>h
 | .int _,x,v,h=>h
 | .str,x,v,h=>h
 | .nil,x,v,h=>h
 | .cons _ _,x,v,h=>h
theorem qmr {G G':Gh} {w w':World} {r r' k k':Nat} (own:Bool) (hu:∀b o v,vw G w b o=some v→vw G' w' b o=some v) (hc:own=true→Lk G w G' w' (.of r (k+1)) (.of r' (k'+1))) (t:Ty) (x:t.den) (v:Value)
  (h:qc4 G w r own k t x v):qc4 G' w' r' own k' t x v:=by
 cases own with
 |true=>exact qio hu (hc rfl) t x v h
 |false=>exact q4j hu k k' t x v h
def RK.hd:RK→Option (Bool×Ty×Nat)
 | .box cs _=>some (true,.nil,cs.length)
 | .row _ ts l=>some (false,ts,List.length l)
 | .fro ts l=>some (false,ts,List.length l)
 | .dead=>none
def avR (G:Gh) (R:List Root) (w:World):AV→(Value→Prop)×(List Value→Prop)
 | .undef=>(fun _=>True,fun _=>False)
 | .val t x=>(fun v=>(ro (vw G w) t).1 x v,fun _=>False)
 | .nl _=>(fun v=>∃a,v= .slice a 0 0,fun _=>False)
 | .agg cs=>(fun v=>∃vs:List Value,v= .agg vs.toArray∧(avR G R w cs).2 vs,fun _=>False)
 | .tup cs=>(fun v=>∃vs:List Value,v= .tuple vs.toArray∧(avR G R w cs).2 vs,fun _=>False)
 | .rp ts x f=>(fun v=>∃b o,v= .pointer (some ⟨b,o+f,none⟩)∧(ro (vw G w) ts).2 x b o,fun _=>False)
 | .bp r f=>(fun v=>∃q,R[r]? =some q∧∀n t,q.k.hd=some (true,t,n)→∃b o,(G.anch r).1=some ⟨b,o,none⟩∧v= .pointer (some ⟨b,o+f,none⟩),fun _=>False)
 | .ep r a i f=>(fun v=>∃q,R[r]? =some q∧a≤q.anc∧(q.anc=a→∀ts n,q.k.hd=some (false,ts,n)→i<n∧∃b o,(G.anch r).1=some ⟨b,o,none⟩∧v= .pointer (some ⟨b,o+i*ts.size+f,none⟩)),fun _=>False)
 | .sl r a=>(fun v=>∃q,R[r]? =some q∧a≤q.anc∧(q.anc=a→∀ts n,q.k.hd=some (false,ts,n)→v= .slice (G.anch r).1 n (G.anch r).2),fun _=>False)
 | .hd r a m=>(fun v=>∃q,R[r]? =some q∧a≤q.anc∧(q.anc=a→∀ts n,q.k.hd=some (false,ts,n)→m≤n∧v= .slice (G.anch r).1 m (G.anch r).2),fun _=>False)
 | .tl r a lo=>(fun v=>∃q,R[r]? =some q∧a≤q.anc∧(q.anc=a→∀ts n,q.k.hd=some (false,ts,n)→lo≤n∧
   v= .slice (if (G.anch r).2=lo then(G.anch r).1 else((G.anch r).1).map (·.add (lo*ts.size))) (n-lo) ((G.anch r).2-lo)),fun _=>False)
 | .il r s i f=>(fun v=>∃q,R[r]? =some q∧s≤q.ver∧(q.ver=s→∀own ts l,q.k= .row own ts l→i<List.length l∧f<ts.size∧∃b o,(G.anch r).1=some ⟨b,o,none⟩∧
   G.own b (o+i*ts.size+f)= .of r 0∧at_ w b (o+i*ts.size+f)=some v),fun _=>False)
 | .ip r s i f j g=>(fun v=>∃q,R[r]? =some q∧s≤q.ver∧(q.ver=s→∀own ts l,q.k= .row own ts l→i<List.length l∧f<ts.size∧∃us m,q2u ts (rd ts l i) f=some ⟨us,m⟩∧j<List.length m∧∃b o b' o' n c,(G.anch r).1=some ⟨b,o,none⟩∧
   G.own b (o+i*ts.size+f)= .of r 0∧at_ w b (o+i*ts.size+f)=some (.slice (some ⟨b',o',none⟩) n c)∧v= .pointer (some ⟨b',o'+j*us.size+g,none⟩)),fun _=>False)
 | .pd r s i f us l=>(fun v=>∃q,R[r]? =some q∧s≤q.ver∧(q.ver=s→∀own ts m,q.k= .row own ts m→i<List.length m∧f<ts.size∧
   ∃a n,v= .slice a (List.length l) n∧q8n G w (qea (vw G w)) (.of r (i*ts.size+f+1)) us l a n),fun _=>False)
 | .fn f cs=>(fun v=>∃vs:List Value,v= .func (.func f) #[] vs.toArray∧(avR G R w cs).2 vs,fun _=>False)
 | .nil=>(fun _=>False,fun vs=>vs=[])
 | .cons a as=>(fun _=>False,fun vs=>∃v vs',vs=v::vs'∧(avR G R w a).1 v∧(avR G R w as).2 vs')
def q8s (G:Gh) (R:List Root) (w:World) (r:Nat) (q:Root):Prop:=
 match q.k with
 | .box cs ss=>ss.length=cs.length∧∃b o,(G.anch r).1=some ⟨b,o,none⟩∧∀f,f<cs.length→G.own b (o+f)= .of r 0∧w.frozen? ⟨b,o+f,none⟩=false∧
   ∃v,at_ w b (o+f)=some v∧(avR G R w (cs.getD f .undef)).1 v
 | .row own ts l=>q8n G w (qc4 G w r own) (.of r 0) ts l (G.anch r).1 (G.anch r).2
 | .fro ts l=>(ro (vw G w) (.slice ts)).1 l (.slice (G.anch r).1 (List.length l) (G.anch r).2)
 | .dead=>True
def RelR (G:Gh) (R:List Root) (w:World):Prop:=∀r q,R[r]? =some q→q8s G R w r q
structure Rel (G:Gh) (σ:St) (a:Act) (w:World):Prop where
 roots:RelR G σ.roots w
 defers:a.defers=[]
 inv:Inv G w
 size:σ.tmps.length≤a.tmps.size
 tmps:∀t,(avR G σ.roots w (σ.get t)).1 (a.tmps.getD t undef)
def Root.le (q q':Root):Prop:=
 match q.k with
 | .box cs ss=>∃cs' ss',q'.k= .box cs' ss'∧cs'.length=cs.length∧∀f,ss.getD f 0≤ss'.getD f 0∧(ss'.getD f 0=ss.getD f 0→cs'.getD f .undef=cs.getD f .undef)
 |_=>(∀cs' ss',q'.k≠ .box cs' ss')∧q.ver≤q'.ver∧(q'.ver=q.ver→q'=q)
theorem Root.le_refl (q:Root):q.le q:=by
 unfold Root.le
 cases hk:q.k with
 |box cs ss=>exact⟨cs,ss,rfl,rfl,fun f=>⟨Nat.le_refl _,fun _=>rfl⟩⟩
 |_=>exact⟨fun _ _ h=>(by simp at h),Nat.le_refl _,fun _=>rfl⟩
theorem Root.le_trans {q q' q'':Root} (h:q.le q') (k:q'.le q''):q.le q'':=by
 unfold Root.le at h k ⊢
 cases hk:q.k with
 |box cs ss=>
  rw [hk]at h
  obtain⟨cs',ss',e,l,g⟩:=h
  rw [e]at k
  obtain⟨cs'',ss'',e',l',g'⟩:=k
  refine⟨cs'',ss'',e',l'.trans l,fun f=>⟨Nat.le_trans (g f).1 (g' f).1,fun he=> ?_⟩⟩
  have h1:=(g f).1
  have h2:=(g' f).1
  rw [(g' f).2 (by omega),(g f).2 (by omega)]
 |_=>
  rw [hk]at h
  obtain⟨h1,h2,h3⟩:=h
  cases hk':q'.k with
  |box cs ss=>exact absurd hk' (h1 cs ss)
  |_=>
   rw [hk']at k
   obtain⟨k1,k2,k3⟩:=k
   refine⟨k1,Nat.le_trans h2 k2,fun he=> ?_⟩
   have e1:q''.ver=q'.ver:=by omega
   have e2:q'.ver=q.ver:=by omega
   exact(k3 e1).trans (h3 e2)
structure RLe (G:Gh) (w:World) (G':Gh) (w':World) (r:Nat) (q q':Root):Prop where
 anc:q.anc≤q'.anc
 ver:q.ver≤q'.ver
 hd:q'.anc=q.anc→q'.k.hd=none∨(q'.k.hd=q.k.hd∧G'.anch r=G.anch r)
 box:∀t n,q'.k.hd=some (true,t,n)→q.k.hd=some (true,t,n)∧G'.anch r=G.anch r
 le:q.le q'
 same:∀own ts l,q.k= .row own ts l→q'.ver=q.ver→∀s,Lk G w G' w' (.of r s) (.of r s)
 cell:∀cs ss cs' ss',q.k= .box cs ss→q'.k= .box cs' ss'→∀f,ss'.getD f 0=ss.getD f 0→∀b o,(G.anch r).1=some ⟨b,o,none⟩→G.own b (o+f)= .of r 0→b<w.heap.size→G'.own b (o+f)= .of r 0∧at_ w' b (o+f)=at_ w b (o+f)
theorem RLe.refl (G:Gh) (w:World) (r:Nat) (q:Root):RLe G w G w r q q:=⟨Nat.le_refl _,Nat.le_refl _,fun _=> .inr ⟨rfl,rfl⟩,fun _ _ e=>⟨e,rfl⟩,q.le_refl,fun _ _ _ _ _ s=>Lk.refl _ _ _,fun _ _ _ _ _ _ _ _ _ _ _ h _=>⟨h,rfl⟩⟩
theorem RLe.trans {G G' G'':Gh} {w w' w'':World} {r:Nat} {q q' q'':Root} (hs:w.heap.size≤w'.heap.size) (h:RLe G w G' w' r q q') (k:RLe G' w' G'' w'' r q' q''):RLe G w G'' w'' r q q'' where
 anc:=Nat.le_trans h.anc k.anc
 ver:=Nat.le_trans h.ver k.ver
 hd:=fun ha=>by
  have:=h.anc
  have:=k.anc
  rcases k.hd (by omega)with d|⟨d,g⟩
  ·exact .inl d
  ·rcases h.hd (by omega)with c|⟨c,f⟩
   ·exact .inl (d.trans c)
   ·exact .inr ⟨d.trans c,g.trans f⟩
 box:=fun t n e=>let ⟨h1,h2⟩:=k.box t n e;let ⟨h3,h4⟩:=h.box t n h1;⟨h3,h2.trans h4⟩
 le:=Root.le_trans h.le k.le
 same:=fun own ts l e hv s=>by
  have l1:=h.le
  have l2:=k.le
  unfold Root.le at l1 l2
  rw [e]at l1
  obtain⟨n1,v1,c1⟩:=l1
  cases e':q'.k with
  |box cs ss=>exact absurd e' (n1 cs ss)
  |_=>
   rw [e']at l2
   obtain⟨n2,v2,c2⟩:=l2
   have eq1:=c1 (by omega)
   exact(h.same own ts l e (by omega) s).trans hs (k.same own ts l (by rw [eq1];exact e) (by omega) s)
 cell:=fun cs ss cs'' ss'' e e'' f hf b o ha ho hb=>by
  have l1:=h.le
  have l2:=k.le
  unfold Root.le at l1 l2
  rw [e]at l1
  obtain⟨cs',ss',e',_,g1⟩:=l1
  rw [e']at l2
  obtain⟨cs2,ss2,e2,_,g2⟩:=l2
  rw [e'']at e2;cases e2
  have h1:=(g1 f).1
  have h2:=(g2 f).1
  obtain⟨o1,v1⟩:=h.cell cs ss cs' ss' e e' f (by omega) b o ha ho hb
  have ha':(G'.anch r).1=some ⟨b,o,none⟩:=by rw [(h.box .nil cs'.length (by rw [e'];rfl)).2];exact ha
  obtain⟨o2,v2⟩:=k.cell cs' ss' cs'' ss'' e' e'' f (by omega) b o ha' o1 (Nat.lt_of_lt_of_le hb hs)
  exact⟨o2,v2.trans v1⟩
structure Evo (G:Gh) (R:List Root) (w:World) (G':Gh) (R':List Root) (w':World):Prop where
 os:w'.os=w.os
 tape:w'.tape=w.tape
 output:w'.output=w.output
 size:w.heap.size≤w'.heap.size
 free:Lk G w G' w' .free .free
 hid:Lk G w G' w' .hid .hid
 root:∀r q,R[r]? =some q→∃q',R'[r]? =some q'∧RLe G w G' w' r q q'
theorem Evo.refl (G:Gh) (R:List Root) (w:World):Evo G R w G R w:=⟨rfl,rfl,rfl,Nat.le_refl _,Lk.refl _ _ _,Lk.refl _ _ _,fun r q h=>⟨q,h,RLe.refl _ _ _ _⟩⟩
theorem Evo.trans {G G' G'':Gh} {R R' R'':List Root} {w w' w'':World} (h:Evo G R w G' R' w') (k:Evo G' R' w' G'' R'' w''):Evo G R w G'' R'' w'' where
 os:=k.os.trans h.os
 tape:=k.tape.trans h.tape
 output:=k.output.trans h.output
 size:=Nat.le_trans h.size k.size
 free:=h.free.trans h.size k.free
 hid:=h.hid.trans h.size k.hid
 root:=fun r q hq=>by
  obtain⟨q',hq',l⟩:=h.root r q hq
  obtain⟨q'',hq'',l'⟩:=k.root r q' hq'
  exact⟨q'',hq'',l.trans h.size l'⟩
theorem qsu {G:Gh} {w:World} {b o:Nat} {v:Value}:vw G w b o=some v↔G.own b o= .free∧at_ w b o=some v:=by
 unfold vw
 cases h:G.own b o<;>simp
theorem q6s {G G':Gh} {w w':World} (h:Lk G w G' w' .free .free) (b o:Nat) (v:Value) (e:vw G w b o=some v):vw G' w' b o=some v:=by
 obtain⟨e1,e2⟩:=qsu.1 e
 obtain⟨h1,h2,_⟩:=h b o (q1z e2) e1
 exact qsu.2 ⟨h1,h2.trans e2⟩
theorem qv3 {G G':Gh} {R R':List Root} {w w':World} (h:Evo G R w G' R' w') (b o:Nat) (v:Value) (e:vw G w b o=some v):vw G' w' b o=some v:=q6s h.free b o v e
theorem RLe.row {G G':Gh} {w w':World} {r:Nat} {q q':Root} (h:RLe G w G' w' r q q') {s:Nat} (hs:s≤q.ver) (e:q'.ver=s) {own:Bool} {ts:Ty} {l:List ts.den} (k:q'.k= .row own ts l):
  q.ver=s∧q.k= .row own ts l∧G'.anch r=G.anch r∧∀s,Lk G w G' w' (.of r s) (.of r s):=by
 have l1:=h.le
 unfold Root.le at l1
 cases hk:q.k with
 |box cs ss=>rw [hk]at l1;obtain⟨cs',ss',e',_⟩:=l1;rw [e']at k;cases k
 |row o us m=>
  rw [hk]at l1
  obtain⟨_,v1,c1⟩:=l1
  have hv:q'.ver=q.ver:=by omega
  have e1:=c1 hv
  have hk':q.k= .row own ts l:=by rw [←e1];exact k
  rw [←hk]
  refine⟨by omega,hk',?_,h.same o us m hk hv⟩
  rcases h.hd (by rw [e1])with d|⟨_,d⟩
  ·rw [k]at d;cases d
  ·exact d
 |_=>
  rw [hk]at l1
  obtain⟨_,v1,c1⟩:=l1
  have e1:=c1 (by omega)
  rw [e1,hk]at k;cases k
theorem qac {G G':Gh} {R R':List Root} {w w':World} (h:Evo G R w G' R' w'):
  ∀(a:AV),(∀v,(avR G R w a).1 v→(avR G' R' w' a).1 v)∧(∀vs,(avR G R w a).2 vs→(avR G' R' w' a).2 vs)
 | .undef=>⟨fun _ h=>h,fun _ h=>h⟩
 | .val t x=>⟨fun v k=>(q8t (qv3 h) t).1 _ _ k,fun _ h=>h⟩
 | .nl _=>⟨fun _ h=>h,fun _ h=>h⟩
 | .agg cs=>⟨fun v ⟨vs,e,k⟩=>⟨vs,e,(qac h cs).2 _ k⟩,fun _ h=>h⟩
 | .tup cs=>⟨fun v ⟨vs,e,k⟩=>⟨vs,e,(qac h cs).2 _ k⟩,fun _ h=>h⟩
 | .fn _ cs=>⟨fun v ⟨vs,e,k⟩=>⟨vs,e,(qac h cs).2 _ k⟩,fun _ h=>h⟩
 | .rp ts x f=>⟨fun v ⟨b,o,e,k⟩=>⟨b,o,e,(q8t (qv3 h) ts).2 _ _ _ k⟩,fun _ h=>h⟩
 | .bp r f=>⟨fun v ⟨q,hq,k⟩=>by
   obtain⟨q',hq',l⟩:=h.root r q hq
   refine⟨q',hq',fun n t hh=> ?_⟩
   obtain⟨h1,h2⟩:=l.box t n hh
   rw [h2];exact k n t h1,fun _ h=>h⟩
 | .ep r a i f=>⟨fun v ⟨q,hq,ha,k⟩=>by
   obtain⟨q',hq',l⟩:=h.root r q hq
   have:=l.anc
   refine⟨q',hq',by omega,fun ea ts n hh=> ?_⟩
   rcases l.hd (by omega)with d|⟨d,g⟩
   ·rw [d]at hh;cases hh
   ·rw [g];exact k (by omega) ts n (d▸hh),fun _ h=>h⟩
 | .sl r a=>⟨fun v ⟨q,hq,ha,k⟩=>by
   obtain⟨q',hq',l⟩:=h.root r q hq
   have:=l.anc
   refine⟨q',hq',by omega,fun ea ts n hh=> ?_⟩
   rcases l.hd (by omega)with d|⟨d,g⟩
   ·rw [d]at hh;cases hh
   ·rw [g];exact k (by omega) ts n (d▸hh),fun _ h=>h⟩
 | .hd r a m=>⟨fun v ⟨q,hq,ha,k⟩=>by
   obtain⟨q',hq',l⟩:=h.root r q hq
   have:=l.anc
   refine⟨q',hq',by omega,fun ea ts n hh=> ?_⟩
   rcases l.hd (by omega)with d|⟨d,g⟩
   ·rw [d]at hh;cases hh
   ·rw [g];exact k (by omega) ts n (d▸hh),fun _ h=>h⟩
 | .tl r a lo=>⟨fun v ⟨q,hq,ha,k⟩=>by
   obtain⟨q',hq',l⟩:=h.root r q hq
   have:=l.anc
   refine⟨q',hq',by omega,fun ea ts n hh=> ?_⟩
   rcases l.hd (by omega)with d|⟨d,g⟩
   ·rw [d]at hh;cases hh
   ·rw [g];exact k (by omega) ts n (d▸hh),fun _ h=>h⟩
 | .il r s i f=>⟨fun v ⟨q,hq,ha,k⟩=>by
   obtain⟨q',hq',l⟩:=h.root r q hq
   refine⟨q',hq',Nat.le_trans ha l.ver,fun ea own ts m hk=> ?_⟩
   obtain⟨e1,e2,e3,e4⟩:=l.row ha ea hk
   obtain⟨h1,h2,b,o,h3,h4,h5⟩:=k e1 own ts m e2
   obtain⟨c1,c2,_⟩:=e4 0 _ _ (q1z h5) h4
   exact⟨h1,h2,b,o,by rw [e3];exact h3,c1,c2.trans h5⟩,fun _ h=>h⟩
 | .ip r s i f j g=>⟨fun v ⟨q,hq,ha,k⟩=>by
   obtain⟨q',hq',l⟩:=h.root r q hq
   refine⟨q',hq',Nat.le_trans ha l.ver,fun ea own ts m hk=> ?_⟩
   obtain⟨e1,e2,e3,e4⟩:=l.row ha ea hk
   obtain⟨h1,h2,us,m',h6,h7,b,o,b',o',n,c,h3,h4,h5,h8⟩:=k e1 own ts m e2
   obtain⟨c1,c2,_⟩:=e4 0 _ _ (q1z h5) h4
   exact⟨h1,h2,us,m',h6,h7,b,o,b',o',n,c,by rw [e3];exact h3,c1,c2.trans h5,h8⟩,fun _ h=>h⟩
 | .pd r s i f us m=>⟨fun v ⟨q,hq,ha,k⟩=>by
   obtain⟨q',hq',l⟩:=h.root r q hq
   refine⟨q',hq',Nat.le_trans ha l.ver,fun ea own ts m' hk=> ?_⟩
   obtain⟨e1,e2,e3,e4⟩:=l.row ha ea hk
   obtain⟨h1,h2,a,n,h3,h4⟩:=k e1 own ts m' e2
   exact⟨h1,h2,a,n,h3,q61 (fun k t x v g=>q4j (qv3 h) k k t x v g) (e4 _) h4⟩,fun _ h=>h⟩
 | .nil=>⟨fun _ h=>h,fun _ h=>h⟩
 | .cons a as=>⟨fun _ h=>h,fun vs ⟨v,vs',e,k1,k2⟩=>⟨v,vs',e,(qac h a).1 _ k1,(qac h as).2 _ k2⟩⟩
theorem Rel.put {G:Gh} {σ:St} {a:Act} {w:World} (h:Rel G σ a w) {v:AV} {x:Value} (hv:(avR G σ.roots w v).1 x) (d:Option Nat):Rel G (σ.put d v) (a.put d x) w:=by
 cases d with
 |none=>exact h
 |some d=>
  refine { roots:=h.roots,defers:=h.defers,inv:=h.inv,size:=by simp [St.put,Act.put];exact h.size,tmps:=fun t=> ?_ }
  show (avR G σ.roots w ((σ.tmps.set d v).getD t .undef)).1 ((a.tmps.setIfInBounds d x).getD t undef)
  by_cases hd:d<σ.tmps.length
  ·have hd':d<a.tmps.size:=Nat.lt_of_lt_of_le hd h.size
   by_cases e:t=d
   ·subst e
    rw [List.getD_eq_getElem?_getD,List.getElem?_set_self hd]
    simp [hd'];exact hv
   ·have:=h.tmps t
    rw [List.getD_eq_getElem?_getD,List.getElem?_set_ne (Ne.symm e)]
    simpa [St.get,List.getD_eq_getElem?_getD,Array.getElem?_setIfInBounds_ne (Ne.symm e)]using this
  ·rw [List.set_eq_of_length_le (by omega)]
   by_cases e:t=d
   ·subst e
    rw [List.getD_eq_getElem?_getD,List.getElem?_eq_none (by omega)];exact trivial
   ·have:=h.tmps t
    simpa [St.get,List.getD_eq_getElem?_getD,Array.getElem?_setIfInBounds_ne (Ne.symm e)]using this
theorem Rel.evo {G G':Gh} {σ:St} {R':List Root} {a:Act} {w w':World} (h:Rel G σ a w) (k:RelR G' R' w') (e:Evo G σ.roots w G' R' w'):Rel G' ⟨σ.tmps,R'⟩ a w':=
 {roots:=k,defers:=h.defers,inv:=h.inv.keep e.free,size:=h.size,tmps:=fun t=>(qac e _).1 _ (h.tmps t) }
theorem Evo.drew (G:Gh) (R:List Root) (w:World):Evo G R w G R w.drew:=⟨rfl,rfl,rfl,Nat.le_refl _,fun _ _ _ h=>⟨h,rfl,rfl⟩,fun _ _ _ h=>⟨h,rfl,rfl⟩,fun r q h=>⟨q,h,Nat.le_refl _,Nat.le_refl _,fun _=> .inr ⟨rfl,rfl⟩,fun _ _ e=>⟨e,rfl⟩,q.le_refl,fun _ _ _ _ _ s _ _ _ h=>⟨h,rfl,rfl⟩,fun _ _ _ _ _ _ _ _ _ _ _ h _=>⟨h,rfl⟩⟩⟩
theorem q0fw {G G':Gh} {R R':List Root} {w w':World} (hf:Lk G w G' w' .free .free) (hav:∀c v,(avR G R w c).1 v→(avR G' R' w' c).1 v) {r r':Nat} {q:Root} (ha:G'.anch r'=G.anch r)
  (hc:∀s,Lk G w G' w' (.of r s) (.of r' s)) (h:q8s G R w r q):q8s G' R' w' r' q:=by
 unfold q8s at h ⊢
 rw [ha]
 have hu:=q6s hf
 cases hk:q.k with
 |dead=>trivial
 |fro ts l=>rw [hk]at h;exact(q8t hu (.slice ts)).1 _ _ h
 |box cs ss=>
  rw [hk]at h
  obtain⟨h0,b,o,h1,h2⟩:=h
  refine⟨h0,b,o,h1,fun f hf=> ?_⟩
  obtain⟨k1,k2,v,k3,k4⟩:=h2 f hf
  obtain⟨c1,c2,c3⟩:=hc 0 _ _ (q1z k3) k1
  exact⟨c1,(q0o2 c3).trans k2,v,c2.trans k3,hav _ _ k4⟩
 |row own ts l=>
  rw [hk]at h
  exact q61 (fun k t x v g=>qmr own hu (fun _=>hc (k+1)) t x v g) (hc 0) h
theorem qja {G G':Gh} {R R':List Root} {w w':World} (e:Evo G R w G' R' w') {r:Nat} {q:Root} (ha:G'.anch r=G.anch r) (hc:∀s,Lk G w G' w' (.of r s) (.of r s)) (h:q8s G R w r q):q8s G' R' w' r q:=
 q0fw e.free (fun c v=>(qac e c).1 v) ha hc h
theorem RelR.drew {G:Gh} {R:List Root} {w:World} (h:RelR G R w):RelR G R w.drew:=
 fun r q hq=>qja (Evo.drew G R w) rfl (fun s _ _ _ h=>⟨h,rfl,rfl⟩) (h r q hq)
theorem q0qe {G:Gh} {R:List Root} {w:World} {σ:St} {a:Act} (h:∀t,(avR G R w (σ.get t)).1 (a.tmps.getD t undef)):∀(x:Operand),(avR G R w (σ.eval x)).1 (a.eval x)
 | .tmp t=>h t
 | .func f=>⟨[],rfl,rfl⟩
 | .global _=>trivial
 | .const v=>by
  have one:∀v:Value,(avR G R w (q0q1 v)).1 v:=by
   intro v
   cases v with
   |bool b=>exact rfl
   |int k n=>exact rfl
   |string s=>exact rfl
   |_=>exact trivial
  have many:∀l:List Value,(avR G R w (q0l2 l)).2 l:=by
   intro l
   induction l with
   |nil=>exact rfl
   |cons v vs ih=>exact⟨v,vs,rfl,one v,ih⟩
  have h1:=one v
  cases v with
  |agg cs=>exact⟨cs.toList,by simp [Act.eval],many _⟩
  |_=>exact h1
theorem Rel.eval {G:Gh} {σ:St} {a:Act} {w:World} (h:Rel G σ a w) (x:Operand):(avR G σ.roots w (σ.eval x)).1 (a.eval x):=q0qe h.tmps x
end Go.Proofs.YtpmjopbgccajgaaGreat.Eng
namespace Go.Proofs.YtpmjopbgccajgaaGreat.Eng
open Go.RowKit
def q17:Ty→List Value
 | .cons .bool ts=> .bool false::q17 ts
 | .cons (.int k) ts=> .int k 0::q17 ts
 | .cons .str ts=> .string ByteArray.empty::q17 ts
 | .cons (.slice _) ts=> .slice none 0 0::q17 ts
 | .cons _ ts=>undef::q17 ts
 |_=>[]
def Ty.flat:Ty→Bool
 | .cons .bool ts=>ts.flat
 | .cons (.int _) ts=>ts.flat
 | .cons .str ts=>ts.flat
 | .cons (.slice _) ts=>ts.flat
 | .nil=>true
 |_=>false
def catT:Ty→Ty→Ty
 | .nil,ts=>ts
 | .cons t us,ts=> .cons t (catT us ts)
 |t,_=>t
def eqF (P:Program):Nat→Ty→List Field→Nat→Prop
 |_,ts,[],_=>ts= .nil
 |0,_,_::_,_=>False
 |d+1,ts,f::fs,off=>f.name≠ "_" ∧f.offset=off∧((∃u ts',ts= .cons u ts'∧((u= .bool∧P.underlying f.type=some .bool)∨∃k,u= .int k∧P.underlying f.type=some (.int k))∧eqF P d ts' fs (off+1))∨
  ∃t1 t2 I,ts=catT t1 t2∧P.underlying f.type=some (.struct (P.fieldsOf f.type))∧P.stoodInHeld f.type=false∧P.info? f.type=some I∧I.size=t1.size∧eqF P d t1 (P.fieldsOf f.type).toList 0∧eqF P d t2 fs (off+t1.size))
def aggD:TypeDesc→Bool| .struct _| .array _ _=>true|_=>false
structure TyOk (P:Program) (T:Nat) (i:TI):Prop where
 info:∃I,P.info? T=some I∧I.size=i.cells.size∧I.bytes≤512
 zero:∃I z,P.info? T=some I∧I.zero=some z∧z.cells=(q17 i.cells).toArray
 flat:i.cells.flat=true
 pos:i.cells.size≠0
 und:∃d,P.underlying T=some d∧aggD d=i.agg
 offs:∀(f:Nat) (off:Nat×Nat×Bool),i.offs[f]? =some off→∃fs:Array Field,P.underlying T=some (.struct fs)∧∃fl:Field,fs[f]? =some fl∧fl.offset=off.1∧(∃I,P.info? fl.type=some I∧I.size=off.2.1∧0<off.2.1)∧
  (off.2.2=false→off.2.1=1)∧∃d,P.underlying fl.type=some d∧aggD d=off.2.2
 bool:i.agg=false→i.cells= .cons .bool .nil→P.underlying T=some .bool
 int:∀k,i.agg=false→i.cells= .cons (.int k) .nil→P.underlying T=some (.int k)
 one:i.agg=false→i.cells.size=1
 str:i.agg=false→i.cells= .cons .str .nil→P.underlying T=some .string
 slice:∀us,i.agg=false→i.cells= .cons (.slice us) .nil→P.underlying T=some (.slice i.elem)
 places:i.agg=true→∃fs:Array Field,P.underlying T=some (.struct fs)∧fs.toList.mapM (fun f=>(P.info? f.type).map fun j=>(f.offset,j.size))=some (i.offs.map fun o=>(o.1,o.2.1))
 eq:i.agg=true→i.eq=true→P.underlying T=some (.struct (P.fieldsOf T))∧P.stoodInHeld T=false∧P.eqGuardType P.depth T=false∧eqF P 64 i.cells (P.fieldsOf T).toList 0
def q7w (P:Program) (tab:List (Nat×TI)):Prop:=∀T i,qkt tab T=some i→TyOk P T i
def Ext (w w':World):Prop:=w.heap.size≤w'.heap.size∧∀b o,b<w.heap.size→at_ w' b o=at_ w b o
theorem Ext.refl (w:World):Ext w w:=⟨Nat.le_refl _,fun _ _ _=>rfl⟩
theorem Ext.trans {w w' w'':World} (h:Ext w w') (k:Ext w' w''):Ext w w'':=⟨Nat.le_trans h.1 k.1,fun b o hb=>(k.2 b o (Nat.lt_of_lt_of_le hb h.1)).trans (h.2 b o hb)⟩
theorem Ext.at {w w':World} (h:Ext w w') {b o:Nat} {v:Value} (e:at_ w b o=some v):at_ w' b o=some v:=(h.2 b o (q1z e)).trans e
theorem Ext.drew (w:World):Ext w w.drew:=⟨Nat.le_refl _,fun _ _ _=>rfl⟩
section
variable {P:Program}
theorem qlc (b o j:Nat):(⟨b,o,none⟩:Addr).add j=⟨b,o+j,none⟩:=by unfold Addr.add;split<;>simp_all
theorem q44 {α:Type} {c:Bool} {x y:Option α} {r:α} (h:br c x y=some r):(c=true∧x=some r)∨(c=false∧y=some r):=by
 unfold br at h;cases c<;>simp_all
theorem qw {α:Type} {c:Bool} {x:Option α} {r:α} (h:chk c x=some r):c=true∧x=some r:=by
 unfold chk at h;cases c<;>simp_all
theorem q0cu {α β:Type} {x:Option α} {f:α→Option β} {r:β} (h:bnd x f=some r):∃y,x=some y∧f y=some r:=Option.bind_eq_some_iff.1 h
theorem qd {i j:Nat} (h:Nat.beq i j=true):i=j:=Nat.eq_of_beq_eq_true h
theorem qab {i j:Nat} (h:Nat.ble i j=true):i≤j:=Nat.le_of_ble_eq_true h
theorem and2 {a b:Bool} (h:(a&&b)=true):a=true∧b=true:=by cases a<;>cases b<;>simp_all
def Nxt {R:Type} (q:Bool) (G:Gh) (σ:St) (w:World) (a:Act) (d:Option Tmp) (K:AV→St→Option R) (r:R) (next:Act→World→Prop):Prop:=
 ∀v R' G' x w',K v ⟨σ.tmps,R'⟩=some r→RelR G' R' w'→(avR G' R' w' v).1 x→Evo G σ.roots w G' R' w'→(q=true→Ext w w')→next (a.put d x) w'
def Rd (P:Program) (G:Gh) (R:List Root) (w:World) (o:Oper) (a:Act) (x:Value) (rs:List Nat):Prop:=(execOp a.eval o).run P w= .ok (.value x) w∧
 ∀G' R' w',Evo G R w G' R' w'→(∀r∈rs,qpf R R' r=true)→(execOp a.eval o).run P w'= .ok (.value x) w'
theorem q4l {o:Oper} {a:Act} {w w':World} {x:Value} {next:Act→World→Prop} {Q:Exit→Act→World→Prop} (h:(execOp a.eval o).run P w= .ok (.value x) w') (hn:next (a.put o.dst x) w'):o.wp P a w next Q:=by
 unfold Oper.wp;rw [h];exact hn
theorem q0il {o:Oper} {a:Act} {w w':World} {next:Act→World→Prop} {Q:Exit→Act→World→Prop} (h:(execOp a.eval o).run P w= .ok .skip w') (hn:next (a.put o.dst undef) w'):o.wp P a w next Q:=by
 unfold Oper.wp;rw [h];exact hn
section
variable {R:Type} {G:Gh} {σ:St} {a:Act} {w:World} {K:AV→St→Option R} {r:R} {next:Act→World→Prop} {Q:Exit→Act→World→Prop} {o:Oper} {tab:List (Nat×TI)}
def Reads (P:Program) (G:Gh) (σ:St) (w:World) (o:Oper) (a:Act) (K:AV→St→Option R) (r:R):Prop:=
 ∃v x,K v σ=some r∧Rd P G σ.roots w o a x (q8u σ o)∧(avR G σ.roots w v).1 x
theorem Reads.wp (h:Reads P G σ w o a K r) (hR:RelR G σ.roots w) {q:Bool} (hn:Nxt q G σ w a o.dst K r next):o.wp P a w next Q:=by
 obtain⟨v,x,hK,hr,hv⟩:=h
 exact q4l hr.1 (hn v σ.roots G x w hK hR hv (Evo.refl _ _ _) (fun _=>Ext.refl w))
theorem Reads.mk' {v:AV} {x:Value} (hK:K v σ=some r) (hrun:∀w',True→(execOp a.eval o).run P w'= .ok (.value x) w') (hv:(avR G σ.roots w v).1 x):Reads P G σ w o a K r:=⟨v,x,hK,⟨hrun w trivial,fun _ _ w' _ _=>hrun w' trivial⟩,hv⟩
theorem q00f:∀ {ss ts:List Nat},q0k9 ss ts=true→ss=ts
 | [],[],_=>rfl
 | [],_::_,h=>by cases h
 |_::_,[],h=>by cases h
 |s::ss,t::ts,h=>by
  obtain⟨h1,h2⟩:=and2 h
  rw [qd h1,q00f h2]
theorem q0kb {R R':List Root} {r:Nat} {cs:List AV} {ss:List Nat} {v b:Nat} (hq:R[r]? =some ⟨.box cs ss,v,b⟩) (h:qpf R R' r=true):∃q' cs',R'[r]? =some q'∧q'.k= .box cs' ss:=by
 unfold qpf at h
 rw [hq]at h
 cases hq':R'[r]? with
 |none=>rw [hq']at h;cases h
 |some q'=>
  rw [hq']at h
  cases hk:q'.k with
  |box cs' ss'=>simp only [hk]at h;rw [q00f h];exact⟨q',cs',rfl,hk⟩
  |_=>simp only [hk]at h;cases h
theorem q0ka {R R':List Root} {r:Nat} {o:Bool} {ts:Ty} {l:List ts.den} {v b:Nat} (hq:R[r]? =some ⟨.row o ts l,v,b⟩) (h:qpf R R' r=true):∃q',R'[r]? =some q'∧q'.ver=v:=by
 unfold qpf at h
 rw [hq]at h
 cases hq':R'[r]? with
 |none=>rw [hq']at h;cases h
 |some q'=>
  rw [hq']at h
  refine⟨q',rfl,?_⟩
  cases hk:q'.k<;>simp only [hk]at h<;>first|exact(qd h).symm|cases h
theorem q0ft {R R' R'':List Root} {r:Nat} (h:qpf R R' r=true) (k:qpf R' R'' r=true):qpf R R'' r=true:=by
 unfold qpf at h k ⊢
 cases h1:R[r]? with
 |none=>rw [h1]at h;cases h
 |some p=>
  cases h2:R'[r]? with
  |none=>rw [h1,h2]at h;cases h
  |some q=>
   cases h3:R''[r]? with
   |none=>rw [h2,h3]at k;cases k
   |some q'=>
    rw [h1,h2]at h
    rw [h2,h3]at k
    simp only at h k ⊢
    cases e1:p.k with
    |box cs ss=>
     rw [e1]at h
     cases e2:q.k with
     |box cs' ss'=>
      rw [e2]at h k
      cases e3:q'.k with
      |box cs2 ss2=>rw [e3]at k;simp only at h k ⊢;rw [q00f h];exact k
      |_=>rw [e3]at k;cases k
     |_=>rw [e2]at h;cases h
    |row o ts l=>
     rw [e1]at h
     cases e2:q.k with
     |row o' ts' l'=>
      rw [e2]at h k
      cases e3:q'.k with
      |row o2 ts2 l2=>rw [e3]at k;simp only at h k ⊢;rw [qd h];exact k
      |_=>rw [e3]at k;cases k
     |_=>rw [e2]at h;cases h
    |_=>rw [e1]at h;cases h
theorem q0ol {G':Gh} {R R':List Root} {w':World} {r:Nat} {cs:List AV} {ss:List Nat} {v b0:Nat} (hE:Evo G R w G' R' w') (hq:R[r]? =some ⟨.box cs ss,v,b0⟩) (h:qpf R R' r=true) {b o f:Nat} (ha:(G.anch r).1=some ⟨b,o,none⟩)
  (ho:G.own b (o+f)= .of r 0) (hb:b<w.heap.size):at_ w' b (o+f)=at_ w b (o+f):=by
 obtain⟨q',cs',hq',hk⟩:=q0kb hq h
 obtain⟨q2,hq2,hle⟩:=hE.root r _ hq
 rw [hq']at hq2;cases hq2
 exact(hle.cell cs ss cs' ss rfl hk f rfl b o ha ho hb).2
theorem q0ao {G':Gh} {R R':List Root} {w':World} {r:Nat} {ow:Bool} {ts:Ty} {l:List ts.den} {v b0:Nat} (hE:Evo G R w G' R' w') (hq:R[r]? =some ⟨.row ow ts l,v,b0⟩) (h:qpf R R' r=true) (s:Nat):Lk G w G' w' (.of r s) (.of r s):=by
 obtain⟨q',hq',hk⟩:=q0ka hq h
 obtain⟨q2,hq2,hle⟩:=hE.root r _ hq
 rw [hq']at hq2;cases hq2
 exact hle.same ow ts l rfl hk s
theorem at_u {G:Gh} {w:World} {b o:Nat} {v:Value} (h:vw G w b o=some v):at_ w b o=some v:=(qsu.1 h).2
theorem qlw (hT:q7w P tab) {T:Nat} {i:TI} (hi:qkt tab T=some i) {w:World} {b o:Nat} (vs:List Value) (hl:vs.length=i.cells.size)
  (hc:∀j,j<vs.length→at_ w b (o+j)=some (vs.getD j undef)):
  (loadVar T ⟨b,o,none⟩).run P w= .ok (if i.agg then .agg vs.toArray else vs.getD 0 undef) w:=by
 obtain⟨d,e3,e4⟩:=(hT T i hi).und
 obtain⟨I,e1,e2,_⟩:=(hT T i hi).info
 have h1:=(hT T i hi).one
 have hagg:(isAgg T).run P w= .ok i.agg w:=by
  unfold isAgg
  rw [Sem.run_bind,run_underlying e3 w]
  cases d<;>simp_all [aggD]
 have hload:(loadCells ⟨b,o,none⟩ vs.length).run P w= .ok vs.toArray w:=run_loadCells_list (P:=P) w ⟨b,o,none⟩ vs (fun j v hv=>by
  rw [qlc]
  have hj:j<vs.length:=(List.getElem?_eq_some_iff.1 hv).1
  have:=hc j hj
  rw [List.getD_eq_getElem?_getD,hv]at this;exact this)
 cases ha:i.agg with
 |true=>
  rw [ha]at hagg
  simp [loadVar,Sem.run_bind,hagg,sizeOf,typeInfo,e1,e2,←hl,hload]
 |false=>
  rw [ha]at hagg
  have h0:=hc 0 (by rw [hl,h1 ha];omega)
  simp only [Nat.add_zero]at h0
  have h0':w.cell? ⟨b,o,none⟩=some (vs.getD 0 undef):=h0
  simp [loadVar,Sem.run_bind,hagg,run_load,h0']
theorem q0p6 {R':List Root} {i:TI} {cs:AV} {vs:List Value} (hl:vs.length=i.cells.size) (h1:i.agg=false→i.cells.size=1) (h:(avR G R' w cs).2 vs):
  (avR G R' w (one i cs)).1 (if i.agg then .agg vs.toArray else vs.getD 0 undef):=by
 unfold one
 cases ha:i.agg with
 |true=>exact⟨vs,rfl,h⟩
 |false=>
  have:=h1 ha
  cases cs with
  |cons v as=>obtain⟨x,xs,e,g,_⟩:=h;subst e;exact g
  |_=>exact trivial
theorem qmx {R':List Root} {own:Bool} {r s i:Nat} {c:Nat→Nat→Option Value} {cv:Nat→(t:Ty)→t.den→Value→Prop} {b:Nat} {w:World}
  (hf:∀k t x v,(own&&t.isSl)=false→cv k t x v→(ro (vw G w) t).1 x v):
  ∀(ts:Ty) (x:ts.den) (o f n k k0:Nat),elG c cv ts x b o k0→f+n≤ts.size→
   (∀j t x v,own=true→t.isSl=true→j<ts.size→c b (o+j)=some v→cv (k0+j) t x v→(avR G R' w (.il r s i (k+j))).1 v)→
   ∃vs:List Value,vs.length=n∧(∀j,j<n→c b (o+f+j)=some (vs.getD j undef))∧(avR G R' w (q08t own r s i ts x f n k)).2 vs
 | .cons t ts,x,o,0,n+1,k,k0,⟨⟨v,e,g⟩,h⟩,hn,hi=>by
  obtain⟨vs,hl,hc,ha⟩:=qmx hf ts x.2 (o+1) 0 n (k+1) (k0+1) h (by simp only [Ty.size]at hn;omega) (fun j t x v h1 h2 h3 h4 h5=>by
   rw [show k+1+j=k+(j+1) by omega]
   exact hi (j+1) t x v h1 h2 (by simp only [Ty.size];omega) (by rw [show o+(j+1)=o+1+j by omega];exact h4) (by rw [show k0+(j+1)=k0+1+j by omega];exact h5))
  refine⟨v::vs,by simp [hl],fun j hj=> ?_,v,vs,rfl,?_,ha⟩
  ·cases j with
   |zero=>simpa using e
   |succ j=>
    have:=hc j (by omega)
    rw [show o+0+(j+1)=o+1+0+j by omega];simpa using this
  ·cases hb:own&&t.isSl with
   |false=>exact hf k0 t x.1 v hb g
   |true=>
    obtain⟨h1,h2⟩:=and2 hb
    exact hi 0 t x.1 v h1 h2 (by simp [Ty.size]) (by simpa using e) (by simpa using g)
 | .cons t ts,x,o,f+1,n,k,k0,⟨_,h⟩,hn,hi=>by
  obtain⟨vs,hl,hc,ha⟩:=qmx hf ts x.2 (o+1) f n (k+1) (k0+1) h (by simp only [Ty.size]at hn;omega) (fun j t x v h1 h2 h3 h4 h5=>by
   rw [show k+1+j=k+(j+1) by omega]
   exact hi (j+1) t x v h1 h2 (by simp only [Ty.size];omega) (by rw [show o+(j+1)=o+1+j by omega];exact h4) (by rw [show k0+(j+1)=k0+1+j by omega];exact h5))
  exact⟨vs,hl,fun j hj=>by rw [show o+(f+1)+j=o+1+f+j by omega];exact hc j hj,ha⟩
 | .cons t ts,x,o,0,0,k,k0,_,_,_=>⟨[],rfl,fun j hj=>by omega,rfl⟩
 | .bool,x,o,f,n,k,k0,_,h,_=>⟨[],by simp only [Ty.size]at h;simp;omega,fun j hj=>by simp only [Ty.size]at h;omega,rfl⟩
 | .int _,x,o,f,n,k,k0,_,h,_=>⟨[],by simp only [Ty.size]at h;simp;omega,fun j hj=>by simp only [Ty.size]at h;omega,rfl⟩
 | .str,x,o,f,n,k,k0,_,h,_=>⟨[],by simp only [Ty.size]at h;simp;omega,fun j hj=>by simp only [Ty.size]at h;omega,rfl⟩
 | .nil,x,o,f,n,k,k0,_,h,_=>⟨[],by simp only [Ty.size]at h;simp;omega,fun j hj=>by simp only [Ty.size]at h;omega,rfl⟩
 | .slice _,x,o,f,n,k,k0,_,h,_=>⟨[],by simp only [Ty.size]at h;simp;omega,fun j hj=>by simp only [Ty.size]at h;omega,rfl⟩
theorem qz5 {R':List Root} {w:World} {c:Nat→Nat→Option Value} (ts:Ty) (x:ts.den) (b o k f n:Nat) (h:elG c (qea (vw G w)) ts x b o k) (hn:f+n≤ts.size):
  ∃vs:List Value,vs.length=n∧(∀j,j<n→c b (o+f+j)=some (vs.getD j undef))∧(avR G R' w (q0d4 ts x f n)).2 vs:=
 qmx (own:=false) (fun k t x v _ h=>h) ts x o f n 0 k h hn (fun _ _ _ _ h=>by cases h)
theorem qp2 {G:Gh} {R':List Root} {w:World} {b:Nat}:∀(cs:List AV) (p f n:Nat),(∀f,f<cs.length→∃v,at_ w b (p+f)=some v∧(avR G R' w (cs.getD f .undef)).1 v)→f+n≤cs.length→
  ∃vs:List Value,vs.length=n∧(∀j,j<n→at_ w b (p+f+j)=some (vs.getD j undef))∧(avR G R' w (qei n (qi3 f (.ofList cs)))).2 vs
 |cs,p,0,0,_,_=>⟨[],rfl,fun j hj=>by omega,by cases cs<;>exact rfl⟩
 |c::cs,p,0,n+1,h,hl=>by
  obtain⟨v,e,g⟩:=h 0 (by simp)
  obtain⟨vs,h1,h2,h3⟩:=qp2 cs (p+1) 0 n (fun f hf=>by
   obtain⟨v,e,g⟩:=h (f+1) (by simp;omega)
   exact⟨v,by rw [show p+1+f=p+(f+1) by omega];exact e,g⟩) (by simp at hl;omega)
  refine⟨v::vs,by simp [h1],fun j hj=> ?_,v,vs,rfl,g,h3⟩
  cases j with
  |zero=>simpa using e
  |succ j=>have:=h2 j (by omega);rw [show p+0+(j+1)=p+1+0+j by omega];simpa using this
 |c::cs,p,f+1,n,h,hl=>by
  obtain⟨vs,h1,h2,h3⟩:=qp2 cs (p+1) f n (fun f hf=>by
   obtain⟨v,e,g⟩:=h (f+1) (by simp;omega)
   exact⟨v,by rw [show p+1+f=p+(f+1) by omega];exact e,g⟩) (by simp at hl;omega)
  exact⟨vs,h1,fun j hj=>by rw [show p+(f+1)+j=p+1+f+j by omega];exact h2 j hj,h3⟩
 | [],p,f+1,n,_,hl=>by simp at hl
 | [],p,0,n+1,_,hl=>by simp at hl
theorem q4u {G:Gh} {w:World} {cv:Nat→(t:Ty)→t.den→Value→Prop} {L:Lab} {ts:Ty} {l:List ts.den} {a:Option Addr} {n:Nat} (h:q8n G w cv L ts l a n) {i:Nat} (hi:i<List.length l):
  ∃b p,a=some ⟨b,p,none⟩∧(∀j,j<ts.size→G.own b (p+i*ts.size+j)=L∧w.frozen? ⟨b,p+i*ts.size+j,none⟩=false∧(at_ w b (p+i*ts.size+j)).isSome=true)∧
   elG (at_ w) cv ts (rd ts l i) b (p+i*ts.size) (i*ts.size):=by
 obtain⟨h0,h|⟨b,p,ea,h1,h2⟩⟩:=h
 ·omega
 ·refine⟨b,p,ea,fun j hj=> ?_,h2 i hi⟩
  have:=h1 _ (qvf hi h0 hj)
  rwa [show p+i*ts.size+j=p+(i*ts.size+j) by omega]
theorem quj {c:Nat→Nat→Option Value} {cv:Nat→(t:Ty)→t.den→Value→Prop} {b:Nat}:∀(ts:Ty) (x:ts.den) (o k f:Nat) (us:Ty) (m:List us.den),q2u ts x f=some ⟨us,m⟩→elG c cv ts x b o k→
  f<ts.size∧∃v,c b (o+f)=some v∧cv (k+f) (.slice us) m v
 | .cons (.slice vs) ts,x,o,k,0,us,m,h,⟨⟨v,e,g⟩,_⟩=>by cases h;exact⟨by simp [Ty.size],v,e,g⟩
 | .cons t ts,x,o,k,f+1,us,m,h,⟨_,hk⟩=>by
  have h:q2u ts x.2 f=some ⟨us,m⟩:=by cases t<;>exact h
  obtain⟨h1,v,h2,h3⟩:=quj ts x.2 (o+1) (k+1) f us m h hk
  exact⟨by simp only [Ty.size];omega,v,by rw [show o+(f+1)=o+1+f by omega];exact h2,by rw [show k+(f+1)=k+1+f by omega];exact h3⟩
 | .cons .bool ts,x,o,k,0,us,m,h,_=>by cases h
 | .cons (.int _) ts,x,o,k,0,us,m,h,_=>by cases h
 | .cons .str ts,x,o,k,0,us,m,h,_=>by cases h
 | .cons .nil ts,x,o,k,0,us,m,h,_=>by cases h
 | .cons (.cons _ _) ts,x,o,k,0,us,m,h,_=>by cases h
 | .bool,_,_,_,_,_,_,h,_=>by cases h
 | .int _,_,_,_,_,_,_,h,_=>by cases h
 | .str,_,_,_,_,_,_,h,_=>by cases h
 | .slice _,_,_,_,_,_,_,h,_=>by cases h
 | .nil,_,_,_,_,_,_,h,_=>by cases h
theorem qkj {Rs:List Root} (hR:RelR G Rs w) {rr s i f ver anc:Nat} {ts:Ty} {l:List ts.den} {us:Ty} {m:List us.den} {v:Value} (hq:Rs[rr]? =some ⟨.row true ts l,ver,anc⟩) (hs:ver=s) (hin:q2u ts (rd ts l i) f=some ⟨us,m⟩)
  (hv:(avR G Rs w (.il rr s i f)).1 v):i<List.length l∧f<ts.size∧∃a n,v= .slice a (List.length m) n∧q8n G w (qea (vw G w)) (.of rr (i*ts.size+f+1)) us m a n:=by
 obtain⟨q,hq',_,k⟩:=hv
 rw [hq]at hq';cases hq'
 obtain⟨h1,h2,b,o,h3,h4,h5⟩:=k hs true ts l rfl
 refine⟨h1,h2,?_⟩
 have hro:=hR rr _ hq
 obtain⟨b',o',ea,_,hel⟩:=q4u (show q8n G w (qim G w rr) (.of rr 0) ts l (G.anch rr).1 (G.anch rr).2 from hro) h1
 rw [h3]at ea;cases ea
 obtain⟨_,v',e1,a,n,e2,e3⟩:=quj ts _ _ _ f us m hin hel
 rw [h5]at e1;cases e1
 exact⟨a,n,e2,e3⟩
theorem q0pw {T:Nat} {x:Operand} (hT:q7w P tab) (ho:o.op= .load T x) {i:TI} (hi:qkt tab T=some i) (hR:Rel G σ a w)
  (h:(match σ.eval x with
   | .rp ts x f=>chk (Nat.ble (f+i.cells.size) ts.size) (K (one i (q0d4 ts x f i.cells.size)) σ)
   | .bp r f=>match σ.roots[r]? with
    |some ⟨.box cs _,_,_⟩=>chk (Nat.ble (f+i.cells.size) cs.length) (K (one i (qei i.cells.size (qi3 f (.ofList cs)))) σ)
    |_=>none
   | .ep r a j f=>match σ.roots[r]? with
    |some ⟨.row o ts l,v,b⟩=>chk (Nat.beq a b&&Nat.ble (f+i.cells.size) ts.size) (K (one i (q08t o r v j ts (rd ts l j) f i.cells.size 0)) σ)
    |_=>none
   | .ip r v j f m g=>match σ.roots[r]? with
    |some ⟨.row true ts l,w,_⟩=>match q2u ts (rd ts l j) f with
     |some ⟨us,n⟩=>chk (Nat.beq v w&&Nat.ble (g+i.cells.size) us.size) (K (one i (q0d4 us (rd us n m) g i.cells.size)) σ)
     |none=>none
    |_=>none
   |_=>none)=some r):Reads P G σ w o a K r:=by
 have hx:=hR.eval x
 have h1:=(hT T i hi).one
 have fin:∀(b p:Nat) (vs:List Value) (cs:AV),a.eval x= .pointer (some ⟨b,p,none⟩)→vs.length=i.cells.size→(∀j,j<vs.length→at_ w b (p+j)=some (vs.getD j undef))→
   (∀G' R' w',Evo G σ.roots w G' R' w'→(∀r∈q8u σ o,qpf σ.roots R' r=true)→∀j,j<vs.length→at_ w' b (p+j)=some (vs.getD j undef))→
   (avR G σ.roots w cs).2 vs→K (one i cs) σ=some r→Reads P G σ w o a K r:=by
  intro b p vs cs e hl hc hkp hcs hK
  refine⟨_,if i.agg then .agg vs.toArray else vs.getD 0 undef,hK,⟨?_,fun G' R' w' hE hs=> ?_⟩,q0p6 hl h1 hcs⟩
  ·have:=qlw hT hi (w:=w) vs hl hc
   simp [execOp,ho,Instr.loadAt,e,Instr.sureAddr,this]
  ·have:=qlw hT hi (w:=w') vs hl (hkp G' R' w' hE hs)
   simp [execOp,ho,Instr.loadAt,e,Instr.sureAddr,this]
 have hrr:q8u σ o=(match σ.eval x with| .bp r _=>[r]| .ep r _ _ _=>[r]| .ip r _ _ _ _ _=>[r]|_=>[]):=by simp only [q8u,ho]<;>cases σ.eval x<;>rfl
 generalize σ.eval x=av at h hx hrr
 cases av with
 |rp ts y f=>
  obtain⟨hb,hK⟩:=qw h
  obtain⟨b,p,e,g⟩:=hx
  obtain⟨vs,hl,hc,ha⟩:=qz5 (c:=vw G w) (R':=σ.roots) ts y b p 0 f i.cells.size ((q09a ts y b p 0).1 g) (qab hb)
  exact fin b (p+f) vs _ e hl (fun j hj=>at_u (hc j (hl▸hj))) (fun G' R' w' hE _ j hj=>at_u (qv3 hE _ _ _ (hc j (hl▸hj)))) ha hK
 |bp r' f=>
  obtain⟨q,hq,g⟩:=hx
  simp only [hq]at h
  obtain⟨k,ver,anc⟩:=q
  cases k with
  |box cs ss=>
   obtain⟨hb,hK⟩:=qw h
   obtain⟨b,p,ea,e⟩:=g cs.length .nil rfl
   obtain⟨_,b',p',ea',hcs⟩:=hR.roots r' _ hq
   rw [ea]at ea';cases ea'
   obtain⟨vs,hl,hc,ha⟩:=qp2 cs p f i.cells.size (fun f hf=>let ⟨_,_,v,e,g⟩:=hcs f hf;⟨v,e,g⟩) (qab hb)
   refine fin b (p+f) vs _ e hl (fun j hj=>hc j (hl▸hj)) (fun G' R' w' hE hs j hj=> ?_) ha hK
   have hb':=qab hb
   obtain⟨c1,_,u,c2,_⟩:=hcs (f+j) (by omega)
   have:=q0ol hE hq (hs r' (by rw [hrr];exact List.mem_singleton.2 rfl)) ea c1 (q1z c2)
   rw [show p+f+j=p+(f+j) by omega,this,show p+(f+j)=p+f+j by omega]
   exact hc j (hl▸hj)
  |_=>cases h
 |ep r' a' j f=>
  obtain⟨q,hq,hle,g⟩:=hx
  simp only [hq]at h
  obtain⟨k,ver,anc⟩:=q
  cases k with
  |row ow ts l=>
   obtain⟨hb,hK⟩:=qw h
   obtain⟨hb1,hb2⟩:=and2 hb
   have hb1:=qd hb1
   obtain⟨hj,b,p,ea,e⟩:=g hb1.symm ts (List.length l) rfl
   have hro:=hR.roots r' _ hq
   obtain⟨b',p',ea',hc0,hel⟩:=q4u (show q8n G w (qc4 G w r' ow) (.of r' 0) ts l (G.anch r').1 (G.anch r').2 from hro) hj
   rw [ea]at ea';cases ea'
   obtain⟨vs,hl,hc,ha⟩:=qmx (G:=G) (c:=at_ w) (R':=σ.roots) (own:=ow) (r:=r') (s:=ver) (i:=j) (w:=w) (fun k t x v hs h=>by
     cases ow with
     |false=>exact h
     |true=>cases t<;>first|exact h|cases hs) ts (rd ts l j) (p+j*ts.size) f i.cells.size 0 (j*ts.size) hel (qab hb2) (fun k t x v h1 h2 h3 h4 h5=>by
     refine⟨_,hq,Nat.le_refl _,fun _ ow' us m hk=> ?_⟩
     cases hk
     simp only [Nat.zero_add]
     exact⟨hj,h3,b,p,ea,(hc0 k h3).1,h4⟩)
   refine fin b (p+j*ts.size+f) vs _ e hl (fun j hj=>hc j (hl▸hj)) (fun G' R' w' hE hs j' hj'=> ?_) ha hK
   have hb':=qab hb2
   have c0:=hc j' (hl▸hj')
   have c1:=(hc0 (f+j') (by omega)).1
   rw [show p+j*ts.size+(f+j')=p+j*ts.size+f+j' by omega]at c1
   rw [(q0ao hE hq (hs r' (by rw [hrr];exact List.mem_singleton.2 rfl)) 0 _ _ (q1z c0) c1).2.1]
   exact c0
  |_=>cases h
 |ip r' s' j f m g=>
  obtain⟨q,hq,hle,gg⟩:=hx
  simp only [hq]at h
  obtain⟨k,ver,anc⟩:=q
  cases k with
  |row ow ts l=>
   cases ow with
   |false=>cases h
   |true=>
    cases hin:q2u ts (rd ts l j) f with
    |none=>simp only [hin]at h;cases h
    |some p=>
     obtain⟨us,n⟩:=p
     simp only [hin]at h
     obtain⟨hb,hK⟩:=qw h
     obtain⟨hb1,hb2⟩:=and2 hb
     have hb1:=qd hb1
     obtain⟨i1,i2,us',m',i3,i4,b,p,b',p',n',c',i5,i6,i7,e⟩:=gg hb1.symm true ts l rfl
     rw [hin]at i3;cases i3
     have hil:(avR G σ.roots w (.il r' s' j f)).1 (.slice (some ⟨b',p',none⟩) n' c'):=⟨_,hq,hle,fun he ow' ts' l' hk=>by
      cases hk;exact⟨i1,i2,b,p,i5,i6,i7⟩⟩
     obtain⟨_,_,a1,n1,e1,e2⟩:=qkj hR.roots hq hb1.symm hin hil
     obtain⟨bb,pp,ea,hc0,hel⟩:=q4u e2 i4
     cases e1;cases ea
     obtain⟨vs,hl,hc,ha⟩:=qz5 (c:=at_ w) (R':=σ.roots) us (rd us n m) b' (p'+m*us.size) (m*us.size) g i.cells.size hel (qab hb2)
     refine fin b' (p'+m*us.size+g) vs _ e hl (fun j hj=>hc j (hl▸hj)) (fun G' R' w' hE hs j' hj'=> ?_) ha hK
     have hb':=qab hb2
     have c0:=hc j' (hl▸hj')
     have c1:=(hc0 (g+j') (by omega)).1
     rw [show p'+m*us.size+(g+j')=p'+m*us.size+g+j' by omega]at c1
     rw [(q0ao hE hq (hs r' (by rw [hrr];exact List.mem_singleton.2 rfl)) _ _ _ (q1z c0) c1).2.1]
     exact c0
  |_=>cases h
 |_=>cases h
variable {soft:Bool} {Γ:List (Nat×Ent)} {call:Nat→List AV→St→(AV→St→Option R)→Option R} {k:Nat}
theorem q0pv {x:Operand} (ho:o.op= .move x) (hR:Rel G σ a w) (h:qa1 tab soft Γ call k o σ K=some r):Reads P G σ w o a K r:=by
 have fin:K (σ.eval x) σ=some r→Reads P G σ w o a K r:=fun h=>Reads.mk' h (fun w' _=>by simp [execOp,ho]) (hR.eval x)
 by_cases hc:x= .const (.slice none 0 0)
 ·subst hc
  simp only [qa1,ho]at h
  split at h
  ·rename_i ts he
   exact Reads.mk' h (x:= .slice none 0 0) (fun w' _=>by simp [execOp,ho,Act.eval]) ⟨none,rfl⟩
  ·cases h
 ·refine fin ?_
  unfold qa1 at h
  rw [ho]at h
  split at h
  all_goals first
   |contradiction
   |(simp only [Op.move.injEq]at*;subst_vars;first|exact h|exact absurd rfl hc)
theorem q0kx {x:Operand} (ho:o.op= .assign x) (hR:Rel G σ a w) (h:qa1 tab soft Γ call k o σ K=some r):Reads P G σ w o a K r:=by
 have fin:K (σ.eval x) σ=some r→Reads P G σ w o a K r:=fun h=>Reads.mk' h (fun w' _=>by simp [execOp,ho]) (hR.eval x)
 by_cases hc:x= .const (.slice none 0 0)
 ·subst hc
  simp only [qa1,ho]at h
  split at h
  ·rename_i ts he
   exact Reads.mk' h (x:= .slice none 0 0) (fun w' _=>by simp [execOp,ho,Act.eval]) ⟨none,rfl⟩
  ·cases h
 ·refine fin ?_
  unfold qa1 at h
  rw [ho]at h
  split at h
  all_goals first
   |contradiction
   |(simp only [Op.assign.injEq]at*;subst_vars;first|exact h|exact absurd rfl hc)
theorem q0pu {c x y:Operand} (ho:o.op= .pick c x y) (hR:Rel G σ a w) (h:qa1 tab soft Γ call k o σ K=some r):Reads P G σ w o a K r:=by
 have hc:=hR.eval c
 simp only [qa1,ho]at h
 generalize σ.eval c=av at h hc
 split at h
 ·rename_i cb
  have hc:a.eval c= .bool cb:=hc
  rcases q44 h with⟨e,hK⟩|⟨e,hK⟩
  ·exact Reads.mk' hK (x:=a.eval x) (fun w' _=>by simp [execOp,ho,hc,e,asBool]) (hR.eval x)
  ·exact Reads.mk' hK (x:=a.eval y) (fun w' _=>by simp [execOp,ho,hc,e,asBool]) (hR.eval y)
 ·cases h
theorem q0rp {T:Nat} {x:Operand} (ho:o.op= .unOp .not T x) (hR:Rel G σ a w) (h:qa1 tab soft Γ call k o σ K=some r):Reads P G σ w o a K r:=by
 have hx:=hR.eval x
 simp only [qa1,ho]at h
 generalize σ.eval x=av at h hx
 split at h
 ·rename_i b
  have hx:a.eval x= .bool b:=hx
  exact Reads.mk' h (x:= .bool (!b)) (fun w' _=>by simp [execOp,ho,hx,Op.unary]) rfl
 ·cases h
theorem q0rq {T:Nat} {x:Operand} (ho:o.op= .unOp .neg T x) (hR:Rel G σ a w) (h:qa1 tab soft Γ call k o σ K=some r):Reads P G σ w o a K r:=by
 have hx:=hR.eval x
 simp only [qa1,ho]at h
 generalize σ.eval x=av at h hx
 split at h
 ·rename_i kd n
  have hx:a.eval x= .int kd n:=hx
  exact Reads.mk' h (x:= .int kd (qp kd 0 n)) (fun w' _=>by simp [execOp,ho,hx,Op.unary,Op.intArith,qp]) rfl
 ·cases h
theorem q0do {Rs:List Root} {tm:List AV} {av:AV} {v:Value} (hp:q0iy ⟨tm,Rs⟩ av=true) (h:(avR G Rs w av).1 v):
  ∃b p,v= .pointer (some ⟨b,p,none⟩)∧∀off,(match av with
   | .rp ts x g=>(avR G Rs w (.rp ts x (g+off))).1 (.pointer (some ⟨b,p+off,none⟩))
   | .bp r g=>(avR G Rs w (.bp r (g+off))).1 (.pointer (some ⟨b,p+off,none⟩))
   | .ep r a j g=>(avR G Rs w (.ep r a j (g+off))).1 (.pointer (some ⟨b,p+off,none⟩))
   | .ip r s j f m g=>(avR G Rs w (.ip r s j f m (g+off))).1 (.pointer (some ⟨b,p+off,none⟩))
   |_=>True):=by
 cases av with
 |rp ts x g=>
  obtain⟨b,p,e,k⟩:=h
  exact⟨b,p+g,e,fun off=>⟨b,p,by rw [Nat.add_assoc],k⟩⟩
 |bp r g=>
  obtain⟨q,hq,k⟩:=h
  simp only [q0iy,hq]at hp
  obtain⟨kk,ver,anc⟩:=q
  cases kk with
  |box cs ss=>
   obtain⟨b,p,ea,e⟩:=k cs.length .nil rfl
   exact⟨b,p+g,e,fun off=>⟨_,hq,fun n t hh=>⟨b,p,ea,by rw [Nat.add_assoc]⟩⟩⟩
  |_=>cases hp
 |ep r a j g=>
  obtain⟨q,hq,hle,k⟩:=h
  simp only [q0iy,hq]at hp
  obtain⟨kk,ver,anc⟩:=q
  cases kk with
  |row ow ts l=>
   obtain⟨hj,b,p,ea,e⟩:=k (qd hp).symm ts (List.length l) rfl
   exact⟨b,p+j*ts.size+g,e,fun off=>⟨_,hq,hle,fun ha ts' n hh=>by
    cases hh;exact⟨hj,b,p,ea,by rw [Nat.add_assoc]⟩⟩⟩
  |_=>cases hp
 |ip r s j f m g=>
  obtain⟨q,hq,hle,k⟩:=h
  simp only [q0iy,hq]at hp
  obtain⟨kk,ver,anc⟩:=q
  cases kk with
  |row ow ts l=>
   cases ow with
   |false=>cases hp
   |true=>
    obtain⟨h1,h2,us,m',h3,h4,b,o,b',o',n,c,h5,h6,h7,e⟩:=k (qd hp).symm true ts l rfl
    exact⟨b',_,e,fun off=>⟨_,hq,hle,fun ha ow ts' l' hh=>by
     cases hh;exact⟨h1,h2,us,m',h3,h4,b,o,b',o',n,c,h5,h6,h7,by rw [Nat.add_assoc]⟩⟩⟩
  |_=>cases hp
 |_=>cases hp
theorem q0g3 {x:Operand} (ho:o.op= .nilCheck x) (hR:Rel G σ a w) (h:qa1 tab soft Γ call k o σ K=some r):Reads P G σ w o a K r:=by
 simp only [qa1,ho]at h
 obtain⟨hp,hK⟩:=qw h
 obtain⟨b,p,e,_⟩:=q0do hp (hR.eval x)
 exact Reads.mk' hK (x:=a.eval x) (fun w' _=>by simp [execOp,ho,e]) (hR.eval x)
theorem q0dt {T f:Nat} {x:Operand} (hT:q7w P tab) (ho:o.op= .fieldAddr T x f) (hR:Rel G σ a w) (h:qa1 tab soft Γ call k o σ K=some r):Reads P G σ w o a K r:=by
 simp only [qa1,ho]at h
 split at h
 ·rename_i i hi
  cases hf:i.offs[f]? with
  |none=>rw [hf]at h;cases h
  |some off=>
   rw [hf]at h
   obtain⟨hp,hK⟩:=qw h
   obtain⟨fs,hu,fl,e1,e2,⟨I,e3,e4,e5⟩,_⟩:=(hT T i hi).offs f off hf
   obtain⟨b,p,e,hs⟩:=q0do hp (hR.eval x)
   have hrun:∀w',True→(execOp a.eval o).run P w'= .ok (.value (.pointer (some ⟨b,p+off.1,none⟩))) w':=by
    intro w' _
    have h0:¬I.size=0:=by omega
    simp [execOp,ho,Instr.fieldAt,run_underlying hu,e1,e,Instr.sureAddr,fieldPlace,sizeOf,typeInfo,e3,h0,qlc,e2]
   have hsv:=hs off.1
   generalize σ.eval x=av at hK hsv hp
   cases av with
   |rp ts y g=>exact Reads.mk' hK hrun hsv
   |bp r' g=>exact Reads.mk' hK hrun hsv
   |ep r' a' j g=>exact Reads.mk' hK hrun hsv
   |ip r' s' j f' m g=>exact Reads.mk' hK hrun hsv
   |_=>cases hK
 ·cases h
theorem q0px {op:BinOp} {T T':Nat} {x y:Operand} (ho:o.op= .binOp op T x y T') {k:IntKind} {m n:Int} (hx:a.eval x= .int k m) (hy:a.eval y= .int k n) {v:AV} {c:Option Bool} (hv:binI op k m n=some (c,v)) (hc:∀b,c=some b→b=true):
  ∃z,(∀w',(execOp a.eval o).run P w'= .ok (.value z) w')∧(avR G σ.roots w v).1 z:=by
 have hne:∀ {n:Int},qm (eqI n 0)=true→n≠0:=fun h=>by simpa [qm,eqI]using h
 cases op<;>simp only [binI,Option.some.injEq,Prod.mk.injEq,reduceCtorEq]at hv
 case add=>obtain⟨_,e⟩:=hv;subst e;exact⟨_,fun w'=>by simp [execOp,ho,hx,hy,eqGuard,binOp,Op.intArith];rfl,rfl⟩
 case sub=>obtain⟨_,e⟩:=hv;subst e;exact⟨_,fun w'=>by simp [execOp,ho,hx,hy,eqGuard,binOp,Op.intArith];rfl,rfl⟩
 case mul=>obtain⟨_,e⟩:=hv;subst e;exact⟨_,fun w'=>by simp [execOp,ho,hx,hy,eqGuard,binOp,Op.intArith];rfl,rfl⟩
 case quo=>obtain⟨h0,e⟩:=hv;subst e;subst h0;exact⟨_,fun w'=>by simp [execOp,ho,hx,hy,eqGuard,binOp,Op.intDiv,hne (hc _ rfl)];rfl,rfl⟩
 case rem=>obtain⟨h0,e⟩:=hv;subst e;subst h0;exact⟨_,fun w'=>by simp [execOp,ho,hx,hy,eqGuard,binOp,Op.intDiv,hne (hc _ rfl)];rfl,rfl⟩
 case and=>obtain⟨_,e⟩:=hv;subst e;exact⟨_,fun w'=>by simp [execOp,ho,hx,hy,eqGuard,binOp,Op.intBits];rfl,rfl⟩
 case or=>obtain⟨_,e⟩:=hv;subst e;exact⟨_,fun w'=>by simp [execOp,ho,hx,hy,eqGuard,binOp,Op.intBits];rfl,rfl⟩
 case xor=>obtain⟨_,e⟩:=hv;subst e;exact⟨_,fun w'=>by simp [execOp,ho,hx,hy,eqGuard,binOp,Op.intBits];rfl,rfl⟩
 case andNot=>obtain⟨_,e⟩:=hv;subst e;exact⟨.int k (q0gu k m n),fun w'=>by simp [execOp,ho,hx,hy,eqGuard,binOp,Op.intBits,q0gu,-BitVec.toNat_and,-BitVec.toNat_not],rfl⟩
 all_goals
  obtain⟨_,e⟩:=hv;subst e
  exact⟨_,fun w'=>by simp [execOp,ho,hx,hy,eqGuard,binOp,Op.intCmp];rfl,by simp [avR,ro,eqI,ltI,leI,qm];try first|rfl|(rw [bne];congr 1)⟩
theorem q0dj {T:Nat} {m n:Bool} {w:World} (h:P.underlying T=some .bool):(binOp .eql T (.bool m) (.bool n)).run P w= .ok (.bool (m==n)) w:=by
 show ((Op.equalIn (9999+1) T (.bool m) (.bool n)).bind fun b=>Sem.pure (Value.bool b)).run P w=_
 have:=run_equalIn_bool' w 9999 T m n h
 have hb:=Sem.run_bind P w (Op.equalIn (9999+1) T (.bool m) (.bool n)) (fun b=>Sem.pure (Value.bool b))
 refine hb.trans ?_
 rw [this];rfl
theorem q0di {T:Nat} {m n:Bool} {w:World} (h:P.underlying T=some .bool):(binOp .neq T (.bool m) (.bool n)).run P w= .ok (.bool (!(m==n))) w:=by
 show ((Op.equalIn (9999+1) T (.bool m) (.bool n)).bind fun b=>Sem.pure (Value.bool (!b))).run P w=_
 have:=run_equalIn_bool' w 9999 T m n h
 have hb:=Sem.run_bind P w (Op.equalIn (9999+1) T (.bool m) (.bool n)) (fun b=>Sem.pure (Value.bool (!b)))
 refine hb.trans ?_
 rw [this];rfl
theorem q0hb {T:Nat} {d:TypeDesc} {xs:Array Value} {off:Nat} {v:Value} {w:World} (hu:P.underlying T=some d) (hd:aggD d=false) (hv:xs[off]? =some v):(part T xs off).run P w= .ok v w:=by
 have hagg:(isAgg T).run P w= .ok false w:=by
  unfold isAgg
  rw [Sem.run_bind,run_underlying hu w]
  cases d<;>simp_all [aggD]
 simp [part,Sem.run_bind,hagg,hv]
def EqVs:Ty→List Value→List Value→Bool→Prop
 | .nil,[],[],c=>c=true
 | .cons .bool ts,x::xs,y::ys,c=>∃m n c',x= .bool m∧y= .bool n∧EqVs ts xs ys c'∧c=((m==n)&&c')
 | .cons (.int _) ts,x::xs,y::ys,c=>∃j m n c',x= .int j m∧y= .int j n∧EqVs ts xs ys c'∧c=((m==n)&&c')
 |_,_,_,_=>False
theorem q0o8:∀(t1 t2:Ty) (xs ys:List Value) (c:Bool),EqVs (catT t1 t2) xs ys c→∃x1 x2 y1 y2 c1 c2,xs=x1++x2∧ys=y1++y2∧x1.length=t1.size∧y1.length=t1.size∧EqVs t1 x1 y1 c1∧EqVs t2 x2 y2 c2∧c=(c1&&c2):=by
 intro t1
 induction t1 with
 |cons t ts _ ih=>
  intro t2 xs ys c h
  cases xs with
  |nil=>cases t<;>exact h.elim
  |cons x xs=>
   cases ys with
   |nil=>cases t<;>exact h.elim
   |cons y ys=>
    cases t with
    |bool=>
     obtain⟨m,n,c',e1,e2,h1,e3⟩:=h
     obtain⟨x1,x2,y1,y2,c1,c2,g1,g2,g3,g4,g5,g6,g7⟩:=ih t2 xs ys c' h1
     exact⟨x::x1,x2,y::y1,y2,(m==n)&&c1,c2,by rw [g1];rfl,by rw [g2];rfl,by simp [Ty.size,g3],by simp [Ty.size,g4],⟨m,n,c1,e1,e2,g5,rfl⟩,g6,by rw [e3,g7,Bool.and_assoc]⟩
    |int k=>
     obtain⟨j,m,n,c',e1,e2,h1,e3⟩:=h
     obtain⟨x1,x2,y1,y2,c1,c2,g1,g2,g3,g4,g5,g6,g7⟩:=ih t2 xs ys c' h1
     exact⟨x::x1,x2,y::y1,y2,(m==n)&&c1,c2,by rw [g1];rfl,by rw [g2];rfl,by simp [Ty.size,g3],by simp [Ty.size,g4],⟨j,m,n,c1,e1,e2,g5,rfl⟩,g6,by rw [e3,g7,Bool.and_assoc]⟩
    |_=>exact h.elim
 |nil=>intro t2 xs ys c h;exact⟨[],xs,[],ys,true,c,rfl,rfl,rfl,rfl,rfl,h,rfl⟩
 |_=>intro t2 xs ys c h;cases xs<;>cases ys<;>exact h.elim
theorem q0hc {T:Nat} {fs:Array Field} {I:TypeInfo} {xs x1 x2:List Value} {w:World} (hu:P.underlying T=some (.struct fs)) (hI:P.info? T=some I) (hs:I.size=x1.length):(part T (xs++(x1++x2)).toArray xs.length).run P w= .ok (.agg x1.toArray) w:=by
 have hagg:(isAgg T).run P w= .ok true w:=by
  unfold isAgg
  rw [Sem.run_bind,run_underlying hu w];rfl
 have hsz:(sizeOf T).run P w= .ok I.size w:=by simp [sizeOf,typeInfo,hI]
 simp [part,Sem.run_bind,hagg,hsz,hs]
theorem q0an:∀(k:Nat) (ts:Ty) (fs:List Field) (p q xs ys:List Value) (d:Nat) (c:Bool) (w':World),k≤d→eqF P k ts fs p.length→p.length=q.length→EqVs ts xs ys c→
  ∀r s,(Op.eqFields (d+1) (p++(xs++r)).toArray (q++(ys++s)).toArray fs).run P w'= .ok c w':=by
 intro k
 induction k with
 |zero=>
  intro ts fs p q xs ys d c w' hd he hp hc r s
  cases fs with
  |nil=>
   cases he
   cases xs<;>cases ys<;>first|exact hc.elim|skip
   cases hc
   simp [Op.eqFields]
  |cons f fs=>exact he.elim
 |succ k ih=>
  intro ts fs p q xs ys d c w' hd he hp hc r s
  cases fs with
  |nil=>
   cases he
   cases xs<;>cases ys<;>first|exact hc.elim|skip
   cases hc
   simp [Op.eqFields]
  |cons f fs=>
   obtain⟨n1,n2,⟨u,ts',e,hu,hrest⟩|⟨t1,t2,I,e,hu,hst,hI,hs,h1,h2⟩⟩:=he
   ·subst e
    have step:∀(c1 c2:Bool) (x y:Value) (xs' ys':List Value),xs=x::xs'→ys=y::ys'→EqVs ts' xs' ys' c2→c=(c1&&c2)→(∃d,P.underlying f.type=some d∧aggD d=false)→(Op.equalIn (d+1) f.type x y).run P w'= .ok c1 w'→
      (Op.eqFields (d+1) (p++(xs++r)).toArray (q++(ys++s)).toArray (f::fs)).run P w'= .ok c w':=by
     intro c1 c2 x y xs' ys' e1 e2 hc' e hdd hq
     subst e1;subst e2;subst e
     obtain⟨dd,hd1,hd2⟩:=hdd
     have px:=q0hb (w:=w') hd1 hd2 (xs:=(p++(x::xs'++r)).toArray) (off:=p.length) (v:=x) (by simp)
     have py:=q0hb (w:=w') hd1 hd2 (xs:=(q++(y::ys'++s)).toArray) (off:=p.length) (v:=y) (by rw [hp];simp)
     have hr:=ih ts' fs (p++[x]) (q++[y]) xs' ys' d c2 w' (by omega) (by simpa using hrest) (by simpa using hp) hc' r s
     simp only [List.append_assoc,List.singleton_append]at hr
     simp only [List.cons_append]at px py ⊢
     cases c1<;>simp [Op.eqFields,Sem.run_bind,n1,n2,px,py,hq,hr]
    cases xs with
    |nil=>rcases hu with⟨e,_⟩|⟨_,e,_⟩<;>(subst e;exact hc.elim)
    |cons x xs=>
     cases ys with
     |nil=>rcases hu with⟨e,_⟩|⟨_,e,_⟩<;>(subst e;exact hc.elim)
     |cons y ys=>
      rcases hu with⟨e,hu⟩|⟨k',e,hu⟩
      ·subst e
       obtain⟨m,n,c',e1,e2,h1,e3⟩:=hc
       refine step (m==n) c' x y xs ys rfl rfl h1 e3 ⟨_,hu,rfl⟩ ?_
       rw [e1,e2];exact run_equalIn_bool' w' d f.type m n hu
      ·subst e
       obtain⟨j,m,n,c',e1,e2,h1,e3⟩:=hc
       refine step (m==n) c' x y xs ys rfl rfl h1 e3 ⟨_,hu,rfl⟩ ?_
       rw [e1,e2];exact run_equalIn_int w' d f.type j k' m n hu
   ·subst e
    obtain⟨x1,x2,y1,y2,c1,c2,g1,g2,g3,g4,g5,g6,g7⟩:=q0o8 t1 t2 xs ys c hc
    subst g1;subst g2;subst g7
    obtain⟨d,rfl⟩:∃d',d=d'+1:=⟨d-1,by omega⟩
    have px:=q0hc (w:=w') hu hI (xs:=p) (x1:=x1) (x2:=x2++r) (by rw [hs,g3])
    have py:=q0hc (w:=w') hu hI (xs:=q) (x1:=y1) (x2:=y2++s) (by rw [hs,g4])
    have hq:(Op.equalIn (d+1+1) f.type (.agg x1.toArray) (.agg y1.toArray)).run P w'= .ok c1 w':=by
     rw [run_equalIn_agg w' (d+1) f.type _ _ hu hst]
     have:=ih t1 (P.fieldsOf f.type).toList [] [] x1 y1 d c1 w' (by omega) h1 rfl g5 [] []
     simpa using this
    have hr:=ih t2 fs (p++x1) (q++y1) x2 y2 (d+1) c2 w' (by omega) (by rw [List.length_append,g3];exact h2) (by simp [hp,g3,g4]) g6 r s
    simp only [List.append_assoc]at hr px py ⊢
    rw [←hp]at py
    cases c1<;>simp only [Op.eqFields,Sem.run_bind,n1,n2,ne_eq,not_false_eq_true,if_true,px,py,Result.andThen_ok,hq,hr,Bool.not_false,Bool.not_true,Bool.false_eq_true,if_false,Bool.true_and,Bool.false_and]<;>rfl
theorem q0qj {G:Gh} {Rs:List Root} {w:World}:∀(ts:Ty) (a b:AV) (xs ys:List Value) (c:Bool),eqCs ts a b=some c→(avR G Rs w a).2 xs→(avR G Rs w b).2 ys→EqVs ts xs ys c:=by
 intro ts
 induction ts with
 |nil=>
  intro a b xs ys c hc hx hy
  cases a<;>cases b<;>simp only [eqCs,reduceCtorEq,Option.some.injEq]at hc
  subst hc
  cases hx;cases hy;rfl
 |cons t ts _ ih=>
  intro a b xs ys c hc hx hy
  cases a with
  |cons u a'=>
   cases b with
   |cons v b'=>
    obtain⟨x,xs',e1,g1,h1⟩:=hx
    obtain⟨y,ys',e2,g2,h2⟩:=hy
    subst e1;subst e2
    cases t with
    |bool=>
     cases u with
     |val tu z=>
      cases v with
      |val tv z'=>
       cases tu with
       |bool=>
        cases tv with
        |bool=>
         simp only [eqCs]at hc
         split at hc
         ·rename_i c2 hc2
          cases hc
          exact⟨z,z',c2,g1,g2,ih _ _ _ _ _ hc2 h1 h2,rfl⟩
         ·cases hc
        |_=>simp [eqCs]at hc
       |_=>simp [eqCs]at hc
      |_=>simp [eqCs]at hc
     |_=>simp [eqCs]at hc
    |int kk=>
     cases u with
     |val tu z=>
      cases v with
      |val tv z'=>
       cases tu with
       |int j=>
        cases tv with
        |int k'=>
         simp only [eqCs]at hc
         split at hc
         ·rename_i c2 hjk hc2
          cases hc
          have hjk:j=k':=by simpa using hjk
          subst hjk
          exact⟨j,z,z',c2,g1,g2,ih _ _ _ _ _ hc2 h1 h2,rfl⟩
         ·cases hc
        |_=>simp [eqCs]at hc
       |_=>simp [eqCs]at hc
      |_=>simp [eqCs]at hc
     |_=>simp [eqCs]at hc
    |_=>cases u<;>cases v<;>simp [eqCs]at hc
   |_=>first|exact hy.elim|(cases t<;>simp [eqCs]at hc)
  |_=>first|exact hx.elim|(cases t<;>simp [eqCs]at hc)
 |_=>intro a b xs ys c hc;cases a<;>cases b<;>simp [eqCs]at hc
theorem q0he {op:BinOp} {T T':Nat} {x y:Operand} (ho:o.op= .binOp op T x y T') {j kk:IntKind} {m n:Int} (hx:a.eval x= .int j m) (hy:a.eval y= .int kk n) (h0:leI 0 n=true) (w':World):
  (op= .shl→(execOp a.eval o).run P w'= .ok (.value (.int j (shlI j m n))) w')∧(op= .shr→(execOp a.eval o).run P w'= .ok (.value (.int j (qo9 j m n))) w'):=by
 have h0:¬n<0:=by simp [leI]at h0;omega
 exact⟨fun e=>by subst e;simp [execOp,ho,hx,hy,eqGuard,binOp,Op.shift,h0,shlI],fun e=>by subst e;simp [execOp,ho,hx,hy,eqGuard,binOp,Op.shift,h0,qo9]⟩
theorem q0ni {op:BinOp} {T T':Nat} {x y:Operand} (hT:q7w P tab) (ho:o.op= .binOp op T x y T') (hR:Rel G σ a w) (h:(match q0om tab T op (σ.eval x) (σ.eval y)with|some (none,v)=>K v σ|some (some b,v)=>br b (K v σ) none|none=>none)=some r):Reads P G σ w o a K r:=by
 have hx:=hR.eval x
 have hy:=hR.eval y
 have h:∃c v,q0om tab T op (σ.eval x) (σ.eval y)=some (c,v)∧(∀b,c=some b→b=true)∧K v σ=some r:=by
  split at h
  ·rename_i v hb;exact⟨_,v,hb,fun b e=>(by cases e),h⟩
  ·rename_i b v hb
   rcases q44 h with⟨e,hK⟩|⟨_,hK⟩
   ·subst e;exact⟨_,v,hb,fun b e=>(by cases e;rfl),hK⟩
   ·cases hK
  ·cases h
 obtain⟨c,v,hb,hc,h⟩:=h
 generalize σ.eval x=ax at hb hx
 generalize σ.eval y=ay at hb hy
 unfold q0om at hb
 split at hb
 ·rename_i j m kk n
  have hx:a.eval x= .int j m:=hx
  have hy:a.eval y= .int kk n:=hy
  split at hb
  ·simp only [Option.some.injEq,Prod.mk.injEq]at hb
   obtain⟨h0,e⟩:=hb
   subst e
   subst h0
   exact Reads.mk' h (x:= .int j (shlI j m n)) (fun w' _=>(q0he ho hx hy (hc _ rfl) w').1 rfl) rfl
  ·simp only [Option.some.injEq,Prod.mk.injEq]at hb
   obtain⟨h0,e⟩:=hb
   subst e
   subst h0
   exact Reads.mk' h (x:= .int j (qo9 j m n)) (fun w' _=>(q0he ho hx hy (hc _ rfl) w').2 rfl) rfl
  ·split at hb
   ·rename_i hjk
    subst hjk
    obtain⟨z,e1,e2⟩:=q0px (G:=G) (σ:=σ) (P:=P) (w:=w) ho hx hy hb hc
    exact Reads.mk' h (fun w' _=>e1 w') e2
   ·cases hb
 ·rename_i m n
  split at hb
  ·rename_i hl
   have hu:=(hT T _ hl).bool rfl rfl
   have hx:a.eval x= .bool m:=hx
   have hy:a.eval y= .bool n:=hy
   cases op<;>simp only at hb<;>(try cases hb)
   ·refine Reads.mk' h (x:= .bool (eqB m n)) (fun w' _=> ?_) rfl
    have:=q0dj (m:=m) (n:=n) (w:=w') hu
    simp [execOp,ho,hx,hy,eqGuard,this,eqB]
   ·refine Reads.mk' h (x:= .bool (qm (eqB m n))) (fun w' _=> ?_) rfl
    have:=q0di (m:=m) (n:=n) (w:=w') hu
    simp [execOp,ho,hx,hy,eqGuard,this,eqB,qm]
  ·cases hb
 ·rename_i s t
  have hx:a.eval x= .string s:=hx
  have hy:a.eval y= .string t:=hy
  cases op<;>simp only at hb<;>(try cases hb)
  ·have h0:Nat.ble (s.size+t.size) 1048576=true:=hc _ rfl
   have h0:=Nat.le_of_ble_eq_true h0
   refine Reads.mk' h (x:= .string (catS s t)) (fun w' _=> ?_) rfl
   have h1:¬(((s.size+t.size:Nat):Int)>IntKind.i64.max):=by
    have:IntKind.i64.max=9223372036854775807:=by decide
    rw [this];omega
   simp only [execOp,ho,hx,hy,eqGuard,binOp,Op.stringOp]
   rw [if_neg h1]
   rfl
  ·exact Reads.mk' h (x:= .bool (eqS s t)) (fun w' _=>by simp [execOp,ho,hx,hy,eqGuard,binOp,Op.stringOp,eqS]) rfl
  ·exact Reads.mk' h (x:= .bool (qm (eqS s t))) (fun w' _=>by simp [execOp,ho,hx,hy,eqGuard,binOp,Op.stringOp,eqS,qm]) rfl
 ·rename_i ca cb
  split at hb
  ·rename_i ts _ _ _ hl
   obtain⟨f1,f2,f3,f4⟩:=(hT T _ hl).eq rfl rfl
   obtain⟨xs,ex,hxs⟩:=hx
   obtain⟨ys,ey,hys⟩:=hy
   have key:∀c w',eqCs ts ca cb=some c→(Op.equalIn 10000 T (.agg xs.toArray) (.agg ys.toArray)).run P w'= .ok c w':=by
    intro c w' hc
    rw [run_equalIn_agg w' 9999 T _ _ f1 f2]
    have:=q0an 64 ts (P.fieldsOf T).toList [] [] xs ys 9998 c w' (by omega) f4 rfl (q0qj ts ca cb xs ys c hc hxs hys) [] []
    simpa using this
   cases op<;>simp only at hb<;>(try cases hb)
   ·split at hb
    ·rename_i c' hc'
     cases hb
     refine Reads.mk' h (x:= .bool c') (fun w' _=> ?_) rfl
     simp [execOp,ho,ex,ey,run_eqGuard_agg w' _ T x y _ _ f3,run_eql_struct,key c' w' hc']
    ·cases hb
   ·split at hb
    ·rename_i c' hc'
     cases hb
     refine Reads.mk' h (x:= .bool (qm c')) (fun w' _=> ?_) rfl
     simp [execOp,ho,ex,ey,run_eqGuard_agg w' _ T x y _ _ f3,run_neq_struct,key c' w' hc',qm]
    ·cases hb
  ·cases hb
 ·cases hb
theorem q0dw {α β:Type} {l:List α} {x y:Option β} {r:β} (h:nilB l x y=some r):y=some r∧(l=[]→x=some r):=by
 cases l with
 |nil=>
  simp only [nilB,qqr]at h
  split at h
  ·rename_i e;exact⟨e▸h,fun _=>h⟩
  ·cases h
 |cons _ _=>exact⟨h,fun e=>by cases e⟩
theorem q0cx {Rs:List Root}:∀(cs:AV) (vs:List Value),(avR G Rs w cs).2 vs→vs.length=qgz cs:=by
 intro cs
 induction cs with
 |nil=>intro vs h;cases h;rfl
 |cons c cs _ ih=>rintro _ ⟨v,vs',rfl,_,h⟩;simp [qgz,ih vs' h]
 |_=>intro vs h;exact h.elim
theorem q047 {Rs:List Root}:∀(cs:AV) (vs:List Value),(avR G Rs w cs).2 vs→vs.length=cs.toList.length∧∀f,f<vs.length→(avR G Rs w (cs.toList.getD f .undef)).1 (vs.getD f undef):=by
 intro cs
 induction cs with
 |nil=>intro vs h;cases h;exact⟨rfl,fun f hf=>by simp at hf⟩
 |cons c cs _ ih=>
  rintro _ ⟨v,vs',rfl,h1,h2⟩
  obtain⟨k1,k2⟩:=ih vs' h2
  refine⟨by simp [AV.toList,k1],fun f hf=> ?_⟩
  cases f with
  |zero=>exact h1
  |succ f=>exact k2 f (by simpa using hf)
 |_=>intro vs h;exact h.elim
theorem q0ie {Rs:List Root}:∀(n:Nat) (cs:AV) (vs:List Value),(avR G Rs w cs).2 vs→n≤vs.length→(avR G Rs w (qi3 n cs)).2 (vs.drop n)
 |0,cs,vs,h,_=>by simpa [qi3]using h
 |n+1,.cons c cs,vs,⟨v,vs',e,_,h⟩,hn=>by subst e;exact q0ie n cs vs' h (by simpa using hn)
 |n+1,.nil,vs,h,hn=>by cases h;simp at hn
 |n+1,.undef,_,h,_=>h.elim
 |n+1,.val _ _,_,h,_=>h.elim
 |n+1,.nl _,_,h,_=>h.elim
 |n+1,.agg _,_,h,_=>h.elim
 |n+1,.tup _,_,h,_=>h.elim
 |n+1,.rp _ _ _,_,h,_=>h.elim
 |n+1,.bp _ _,_,h,_=>h.elim
 |n+1,.ep _ _ _ _,_,h,_=>h.elim
 |n+1,.sl _ _,_,h,_=>h.elim
 |n+1,.hd _ _ _,_,h,_=>h.elim
 |n+1,.tl _ _ _,_,h,_=>h.elim
 |n+1,.il _ _ _ _,_,h,_=>h.elim
 |n+1,.ip _ _ _ _ _ _,_,h,_=>h.elim
 |n+1,.pd _ _ _ _ _ _,_,h,_=>h.elim
 |n+1,.fn _ _,_,h,_=>h.elim
theorem q0id {Rs:List Root}:∀(n:Nat) (cs:AV) (vs:List Value),(avR G Rs w cs).2 vs→n≤vs.length→(avR G Rs w (qei n cs)).2 (vs.take n)
 |0,cs,vs,_,_=>by cases cs<;>exact rfl
 |n+1,.cons c cs,vs,⟨v,vs',e,g,h⟩,hn=>by subst e;exact⟨v,vs'.take n,rfl,g,q0id n cs vs' h (by simpa using hn)⟩
 |n+1,.nil,vs,h,hn=>by cases h;simp at hn
 |n+1,.undef,_,h,_=>h.elim
 |n+1,.val _ _,_,h,_=>h.elim
 |n+1,.nl _,_,h,_=>h.elim
 |n+1,.agg _,_,h,_=>h.elim
 |n+1,.tup _,_,h,_=>h.elim
 |n+1,.rp _ _ _,_,h,_=>h.elim
 |n+1,.bp _ _,_,h,_=>h.elim
 |n+1,.ep _ _ _ _,_,h,_=>h.elim
 |n+1,.sl _ _,_,h,_=>h.elim
 |n+1,.hd _ _ _,_,h,_=>h.elim
 |n+1,.tl _ _ _,_,h,_=>h.elim
 |n+1,.il _ _ _ _,_,h,_=>h.elim
 |n+1,.ip _ _ _ _ _ _,_,h,_=>h.elim
 |n+1,.pd _ _ _ _ _ _,_,h,_=>h.elim
 |n+1,.fn _ _,_,h,_=>h.elim
theorem q0re {u:Nat→Nat→Option Value} {t:Ty} {x:t.den} {v:Value} (h:(ro u t).1 x v):v.oneCell'=true:=by
 cases t with
 |bool=>cases h;rfl
 |int k=>cases h;rfl
 |str=>cases h;rfl
 |slice ts=>obtain⟨a,c,e,_⟩:=h;subst e;rfl
 |nil=>exact h.elim
 |cons t ts=>exact h.elim
theorem q3x (hT:q7w P tab) {T:Nat} {us:Bool×Ty} (h:qa3 tab T=some us):∃e j,P.underlying T=some (.slice e)∧qkt tab e=some j∧j.cells=us.2∧(us.1=true→us.2.hasSl=true):=by
 unfold qa3 at h
 split at h
 ·rename_i vs e ow _ offs hl
  split at h
  ·rename_i j hj
   cases h
   exact⟨e,j,(hT T _ hl).slice vs rfl rfl,hj,rfl,fun h=>(and2 h).2⟩
  ·cases h
 ·cases h
theorem q0j2 {S D:Nat} {x:Operand} (hT:q7w P tab) (ho:o.op= .convert S D x) (hR:Rel G σ a w) (h:qa1 tab soft Γ call k o σ K=some r):Reads P G σ w o a K r:=by
 have hx:=hR.eval x
 simp only [qa1,ho]at h
 split at h
 ·rename_i kk n d e1 e2 e3 e4 he hl
  rw [he]at hx
  have hx:a.eval x= .int kk n:=hx
  split at h
  ·rename_i ks f1 f2 f3 f4 hl'
   have u1:=(hT D _ hl).int d rfl rfl
   have u2:=(hT S _ hl').int ks rfl rfl
   refine Reads.mk' h (x:= .int d (qb0 d n)) (fun w' _=> ?_) rfl
   simp [execOp,ho,hx,convert,run_underlying u1,run_underlying u2,Conv.intToInt,qb0]
  ·cases h
 ·rename_i rr a0 f1 f2 f3 f4 he hl
  have hrr:q8u σ o=[rr]:=by simp only [q8u,ho,he]
  rw [he]at hx
  obtain⟨q,hq,hle,g⟩:=hx
  rw [hq]at h
  split at h
  ·rename_i y ver b0 us e g1 g2 g3 hqq hlS
   cases hqq
   split at h
   ·rename_i j1 j2 j3 j4 hlE
    obtain⟨hb,hK⟩:=qw h
    have hb:=qd hb
    have hv:=g hb.symm _ _ rfl
    have uD:=(hT D _ hl).str rfl rfl
    have uS:=(hT S _ hlS).slice _ rfl rfl
    have uE:=(hT _ _ hlE).int .u8 rfl rfl
    have hro:=hR.roots rr _ hq
    obtain⟨b,p,ea,hc0,hel⟩:=q4u (i:=0) (show q8n G w (qc4 G w rr false) (.of rr 0) (.cons (.int .u8) .nil) [y] (G.anch rr).1 (G.anch rr).2 from hro) (by simp)
    obtain⟨⟨v,hc,ev⟩,_⟩:=hel
    have ev:v= .int .u8 y.1:=ev
    subst ev
    have hown:=(hc0 0 (by simp [Ty.size])).1
    simp only [Nat.zero_mul,Nat.add_zero]at hc hown
    have run:∀w':World,at_ w' b p=some (.int .u8 y.1)→(execOp a.eval o).run P w'= .ok (.value (.string (q0qo y.1))) w':=fun w' hw=>by
     have hlc:(loadCells ⟨b,p,none⟩ 1).run P w'= .ok #[.int .u8 y.1] w':=run_loadCells_list (P:=P) w' ⟨b,p,none⟩ [.int .u8 y.1] (fun j v hv=>by
      cases j with
      |zero=>simp at hv;subst hv;rw [qlc,Nat.add_zero];exact hw
      |succ j=>simp at hv)
     rw [ea]at hv
     simp [execOp,ho,hv,convert,run_underlying uS,run_underlying uD,run_underlying uE,Conv.bytesToString,hlc,q0qo]
    refine⟨_,_,hK,⟨run w hc,fun G' R' w' hE hs=>run w' ?_⟩,rfl⟩
    rw [(q0ao hE hq (hs rr (by rw [hrr];exact List.mem_singleton.2 rfl)) 0 _ _ (q1z hc) hown).2.1]
    exact hc
   ·cases h
  ·cases h
 ·cases h
theorem q0k6 (hT:q7w P tab) {T:Nat} {i:TI} (h:qkt tab T=some i) (w:World):(sizeOf T).run P w= .ok i.cells.size w:=by
 obtain⟨I,e1,e2,_⟩:=(hT T i h).info
 simp [sizeOf,typeInfo,e1,e2]
theorem qpb {n m:Int} (h:inR n m=true):0≤n∧n<m:=by
 unfold inR at h;simpa using h
theorem qqv {n m:Int} (h:upR n m=true):0≤n∧n≤m:=by
 unfold upR at h;simpa using h
theorem q0ne {T:Nat} {x ix:Operand} (hT:q7w P tab) (ho:o.op= .indexAddr T x ix) (hR:Rel G σ a w) (h:qa1 tab soft Γ call k o σ K=some r):Reads P G σ w o a K r:=by
 have hx:=hR.eval x
 have hix:=hR.eval ix
 simp only [qa1,ho]at h
 cases he:qa3 tab T with
 |none=>rw [he]at h;cases h
 |some us=>
  rw [he]at h
  obtain⟨e,j,hu,hj,hjc,_⟩:=q3x hT he
  have hsz:=q0k6 hT hj
  rw [hjc]at hsz
  generalize σ.eval ix=aix at h hix
  cases aix with
  |val t n=>
   cases t with
   |int kk=>
    have hix:a.eval ix= .int kk n:=hix
    have fin:∀(n:Int) (b p m c:Nat),a.eval ix= .int kk n→0≤n→n<(m:Int)→a.eval x= .slice (some ⟨b,p,none⟩) m c→∀w',True→(execOp a.eval o).run P w'= .ok (.value (.pointer (some ⟨b,p+q6 n*us.2.size,none⟩))) w':=by
     intro n b p m c hix h0 h1 ex w' _
     simp [execOp,ho,Instr.indexAt,hix,asIntOf,run_underlying hu,ex,h0,h1,hsz,qlc,q6]
    have fro:∀(ts:Ty) (l:List ts.den) (v:Value),(ro (vw G w) (.slice ts)).1 l v→a.eval x=v→Nat.beq us.2.size ts.size=true→br (inR n (ln l)) (K (.rp ts (rd ts l (q6 n)) 0) σ) none=some r→Reads P G σ w o a K r:=by
     intro ts l v hro hv hsize h
     rcases q44 h with⟨hin,hK⟩|⟨_,hK⟩
     ·obtain⟨h0,h1⟩:=qpb hin
      obtain⟨a0,c,ev,_,g⟩:=hro
      have hlt:q6 n<List.length l:=by unfold q6;unfold ln at h1;omega
      obtain⟨b,p,ea,hro⟩:=g (q6 n) hlt
      subst ea
      have hs:=qd hsize
      exact Reads.mk' hK (fin n b p _ c hix h0 h1 (hv.trans ev)) ⟨b,p+q6 n*ts.size,by rw [hs];rfl,hro⟩
     ·cases hK
    generalize hax:σ.eval x=ax at h hx
    cases ax with
    |val t l=>
     cases t with
     |slice ts=>
      obtain⟨hsize,h⟩:=qw h
      exact fro ts l _ hx rfl hsize h
     |_=>cases h
    |nl ts=>
     obtain⟨_,h⟩:=qw h
     rcases q44 h with⟨hin,_⟩|⟨_,hK⟩
     ·obtain⟨h0,h1⟩:=qpb hin
      exact(Int.lt_irrefl 0 (Int.lt_of_le_of_lt h0 h1)).elim
     ·cases hK
    |sl r' a'=>
     obtain⟨q,hq,hle,g⟩:=hx
     simp only [hq]at h
     obtain⟨k',ver,anc⟩:=q
     have hro:=hR.roots r' _ hq
     cases k' with
     |row ow ts l=>
      obtain⟨hb,h⟩:=qw h
      obtain⟨hb1,hb2⟩:=and2 hb
      have hb1:=qd hb1
      have hb2:=qd hb2
      rcases q44 h with⟨hin,hK⟩|⟨_,hK⟩
      ·obtain⟨h0,h1⟩:=qpb hin
       have ev:=g hb1.symm ts (List.length l) rfl
       have hlt:q6 n<List.length l:=by unfold q6;unfold ln at h1;omega
       obtain⟨b,p,ea,_⟩:=q4u (show q8n G w (qc4 G w r' ow) (.of r' 0) ts l (G.anch r').1 (G.anch r').2 from hro) hlt
       rw [ea]at ev
       refine Reads.mk' hK (fin n b p _ _ hix h0 h1 ev) ⟨_,hq,hle,fun _ ts' n' hh=> ?_⟩
       cases hh
       exact⟨hlt,b,p,ea,by rw [hb2];rfl⟩
      ·cases hK
     |fro ts l=>
      obtain⟨hb,h⟩:=qw h
      obtain⟨hb1,hb2⟩:=and2 hb
      exact fro ts l _ hro (g (qd hb1).symm ts (List.length l) rfl) hb2 h
     |_=>cases h
    |hd r' a' m=>
     obtain⟨q,hq,hle,g⟩:=hx
     simp only [hq]at h
     obtain⟨k',ver,anc⟩:=q
     have hro:=hR.roots r' _ hq
     cases k' with
     |row ow ts l=>
      obtain⟨hb,h⟩:=qw h
      obtain⟨hb1,hb2⟩:=and2 hb
      have hb1:=qd hb1
      have hb2:=qd hb2
      rcases q44 h with⟨hin,hK⟩|⟨_,hK⟩
      ·obtain⟨h0,h1⟩:=qpb hin
       obtain⟨hm,ev⟩:=g hb1.symm ts (List.length l) rfl
       have hlt:q6 n<m:=by unfold q6;simp [ln,tk]at h1;omega
       obtain⟨b,p,ea,_⟩:=q4u (show q8n G w (qc4 G w r' ow) (.of r' 0) ts l (G.anch r').1 (G.anch r').2 from hro) (show q6 n<List.length l by omega)
       rw [ea]at ev
       refine Reads.mk' hK (fin n b p _ _ hix h0 (by unfold q6 at hlt;omega) ev) ⟨_,hq,hle,fun _ ts' n' hh=> ?_⟩
       cases hh
       exact⟨by omega,b,p,ea,by rw [hb2];rfl⟩
      ·cases hK
     |_=>cases h
    |tl r' a' m=>
     obtain⟨q,hq,hle,g⟩:=hx
     simp only [hq]at h
     obtain⟨k',ver,anc⟩:=q
     have hro:=hR.roots r' _ hq
     cases k' with
     |row ow ts l=>
      obtain⟨hb,h⟩:=qw h
      obtain⟨hb1,hb2⟩:=and2 hb
      have hb1:=qd hb1
      have hb2:=qd hb2
      rcases q44 h with⟨hin,hK⟩|⟨_,hK⟩
      ·obtain⟨h0,h1⟩:=qpb hin
       obtain⟨hm,ev⟩:=g hb1.symm ts (List.length l) rfl
       have hlt:q6 n<List.length l-m:=by unfold q6;simp [ln,dp]at h1;omega
       have hrow:=(show q8n G w (qc4 G w r' ow) (.of r' 0) ts l (G.anch r').1 (G.anch r').2 from hro)
       obtain⟨b,p,ea,_⟩:=q4u hrow (show q6 n<List.length l by omega)
       have hcap:=hrow.1
       rw [ea,if_neg (by omega)]at ev
       simp only [Option.map_some,qlc]at ev
       refine Reads.mk' hK (fin n b _ _ _ hix h0 (by unfold q6 at hlt;omega) ev) ⟨_,hq,hle,fun _ ts' n' hh=> ?_⟩
       cases hh
       refine⟨by omega,b,p,ea,?_⟩
       rw [hb2,Nat.add_mul];congr 3;omega
      ·cases hK
     |_=>cases h
    |il r' s' i f=>
     have hil:=hx
     obtain⟨q,hq,hle,g⟩:=hx
     simp only [hq]at h
     obtain⟨k',ver,anc⟩:=q
     cases k' with
     |row ow ts l=>
      cases ow with
      |false=>cases h
      |true=>
       cases hin:q2u ts (rd ts l i) f with
       |none=>simp only [hin]at h;cases h
       |some p=>
        obtain⟨vs,m⟩:=p
        simp only [hin]at h
        obtain⟨hb,h⟩:=qw h
        obtain⟨hb1,hb2⟩:=and2 hb
        have hb1:=qd hb1
        have hb2:=qd hb2
        rcases q44 h with⟨hin',hK⟩|⟨_,hK⟩
        ·obtain⟨h0,h1⟩:=qpb hin'
         have hlt:q6 n<List.length m:=by unfold q6;unfold ln at h1;omega
         obtain⟨i1,i2,a1,n1,e1,e2⟩:=qkj hR.roots hq hb1.symm hin hil
         obtain⟨b',p',ea,_⟩:=q4u e2 hlt
         subst ea
         refine Reads.mk' hK (fin n b' p' _ _ hix h0 h1 e1) ⟨_,hq,hle,fun he ow' ts' l' hk=> ?_⟩
         cases hk
         obtain⟨_,_,b,o,g1,g2,g3⟩:=g he true ts l rfl
         rw [e1]at g3
         exact⟨i1,i2,vs,m,hin,hlt,b,o,b',p',_,_,g1,g2,g3,by rw [hb2];rfl⟩
        ·cases hK
     |_=>cases h
    |_=>cases h
   |_=>cases h
  |_=>cases h
theorem q0so {Rs:List Root} (cs:AV) (vs:List Value) (h:(avR G Rs w cs).2 vs) {n:Nat} {c:AV} (hn:cs.toList[n]? =some c):∃x,vs[n]? =some x∧(avR G Rs w c).1 x:=by
 obtain⟨h1,h2⟩:=q047 cs vs h
 have hlt:n<cs.toList.length:=(List.getElem?_eq_some_iff.1 hn).1
 have:=h2 n (by omega)
 rw [List.getD_eq_getElem?_getD,hn]at this
 exact⟨vs[n]'(by omega),List.getElem?_eq_getElem (by omega),by simpa [List.getD_eq_getElem?_getD,show n<vs.length by omega]using this⟩
theorem q0j1 {x:Operand} {n:Nat} (ho:o.op= .extract x n) (hR:Rel G σ a w) (h:qa1 tab soft Γ call k o σ K=some r):Reads P G σ w o a K r:=by
 have hx:=hR.eval x
 simp only [qa1,ho]at h
 generalize σ.eval x=av at h hx
 cases av with
 |tup cs=>
  obtain⟨vs,e,hv⟩:=hx
  cases hc:cs.toList[n]? with
  |none=>simp only [hc]at h;cases h
  |some c=>
   simp only [hc]at h
   obtain⟨y,e1,e2⟩:=q0so cs vs hv hc
   exact Reads.mk' h (fun w' _=>by simp [execOp,ho,Instr.extract,e,e1]) e2
 |_=>cases h
theorem qvl (hR:Rel G σ a w):∀(xs:List Operand),(avR G σ.roots w (.ofList (xs.map σ.eval))).2 (xs.map a.eval)
 | []=>rfl
 |x::xs=>⟨_,_,rfl,hR.eval x,qvl hR xs⟩
theorem q0g4 {f:Nat} {fs cs:Array Operand} (ho:o.op= .makeFunc (.func f) fs cs) (hR:Rel G σ a w) (h:qa1 tab soft Γ call k o σ K=some r):Reads P G σ w o a K r:=by
 simp only [qa1,ho]at h
 split at h
 ·rename_i hf
  have hf:fs= #[]:=Array.ext' hf
  subst hf
  refine Reads.mk' h (x:= .func (.func f) #[] (cs.map a.eval)) (fun w' _=>by simp [execOp,ho,Instr.makeFunc]) ⟨cs.toList.map a.eval,?_,qvl hR _⟩
  congr 1
  apply Array.ext'
  simp
 ·cases h
theorem qrc {G:Gh} {w:World} {cv:Nat→(t:Ty)→t.den→Value→Prop} {L:Lab} {ts:Ty} {l:List ts.den} {a:Option Addr} {n:Nat} (h:q8n G w cv L ts l a n) (hn:l≠[]):a.isSome=true:=by
 have h0:=List.length_pos_iff.2 hn
 rcases h with⟨h1,h2|⟨b,o,e,_⟩⟩
 ·omega
 ·rw [e];rfl
theorem q0fx {u:Nat→Nat→Option Value} {ts:Ty} {l:List ts.den} {a:Option Addr} (h:∀i,i<List.length l→∃b o,a=some ⟨b,o,none⟩∧(ro u ts).2 (rd ts l i) b (o+i*ts.size)) (hn:l≠[]):a.isSome=true:=by
 obtain⟨b,o,e,_⟩:=h 0 (List.length_pos_iff.2 hn)
 rw [e];rfl
theorem q0r9 {α:Type} {l:List α} {n:Nat} (h:tk l n≠[]):l≠[]:=fun e=>h (by simp [tk,e])
theorem q0sa {α:Type} {l:List α} {n:Nat} (h:dp l n≠[]):l≠[]:=fun e=>h (by simp [dp,e])
theorem q0lq {a:Option Addr} {c:Prop} [Decidable c] {f:Addr→Addr} (h:a.isSome=true):(if c then a else a.map f).isSome=true:=by split<;>simp [h]
theorem ql0 {Rs:List Root} {tm:List AV} (hR:RelR G Rs w) {av:AV} {l:(ts:Ty)×List ts.den} {v:Value} (hs:q3u ⟨tm,Rs⟩ av=some l) (hv:(avR G Rs w av).1 v):∃a c,v= .slice a (List.length l.2) c∧List.length l.2≤c∧(l.2≠[]→a.isSome=true):=by
 cases av with
 |val t x=>
  cases t with
  |slice us=>cases hs;obtain⟨a,c,e,h,g⟩:=hv;exact⟨a,c,e,h,fun hn=>(by have:=List.length_pos_iff.2 hn;obtain⟨b,o,e,_⟩:=g 0 this;rw [e];rfl)⟩
  |_=>cases hs
 |nl us=>cases hs;obtain⟨a,e⟩:=hv;exact⟨a,0,e,Nat.le_refl _,fun h=>absurd rfl h⟩
 |sl r a=>
  obtain⟨q,hq,hle,g⟩:=hv
  simp only [q3u,hq]at hs
  obtain⟨k,ver,anc⟩:=q
  have hro:=hR r _ hq
  cases k with
  |row ow us m=>
   simp only at hs
   split at hs
   ·rename_i hab
    cases hs
    exact⟨_,_,g (qd hab).symm us (List.length m) rfl,(show q8n G w (qc4 G w r ow) (.of r 0) us m _ _ from hro).1,qrc hro⟩
   ·cases hs
  |fro us m=>
   simp only at hs
   split at hs
   ·rename_i hab
    cases hs
    obtain⟨a0,c0,e0,h0,hg⟩:=hro
    cases e0
    exact⟨_,_,g (qd hab).symm us (List.length m) rfl,h0,fun hn=>q0fx hg hn⟩
   ·cases hs
  |_=>cases hs
 |hd r a n=>
  obtain⟨q,hq,hle,g⟩:=hv
  simp only [q3u,hq]at hs
  obtain⟨k,ver,anc⟩:=q
  have hro:=hR r _ hq
  cases k with
  |row ow us m=>
   simp only at hs
   split at hs
   ·rename_i hab
    cases hs
    obtain⟨h1,h2⟩:=g (qd hab).symm us (List.length m) rfl
    have hc:=(show q8n G w (qc4 G w r ow) (.of r 0) us m _ _ from hro).1
    have hl:List.length (tk m n)=n:=by simp [tk];omega
    exact⟨_,_,by rw [hl];exact h2,by rw [hl];omega,fun hn=>qrc hro (q0r9 hn)⟩
   ·cases hs
  |fro us m=>
   simp only at hs
   split at hs
   ·rename_i hab
    cases hs
    obtain⟨h1,h2⟩:=g (qd hab).symm us (List.length m) rfl
    obtain⟨a0,c0,e0,h0,hg⟩:=hro
    cases e0
    have hl:List.length (tk m n)=n:=by simp [tk];omega
    exact⟨_,_,by rw [hl];exact h2,by rw [hl];omega,fun hn=>q0fx hg (q0r9 hn)⟩
   ·cases hs
  |_=>cases hs
 |tl r a n=>
  obtain⟨q,hq,hle,g⟩:=hv
  simp only [q3u,hq]at hs
  obtain⟨k,ver,anc⟩:=q
  have hro:=hR r _ hq
  cases k with
  |row ow us m=>
   simp only at hs
   split at hs
   ·rename_i hab
    cases hs
    obtain⟨h1,h2⟩:=g (qd hab).symm us (List.length m) rfl
    have hc:=(show q8n G w (qc4 G w r ow) (.of r 0) us m _ _ from hro).1
    have hl:List.length (dp m n)=List.length m-n:=by simp [dp]
    exact⟨_,_,by rw [hl];exact h2,by rw [hl];omega,fun hn=>q0lq (qrc hro (q0sa hn))⟩
   ·cases hs
  |fro us m=>
   simp only at hs
   split at hs
   ·rename_i hab
    cases hs
    obtain⟨h1,h2⟩:=g (qd hab).symm us (List.length m) rfl
    obtain⟨a0,c0,e0,h0,hg⟩:=hro
    cases e0
    have hl:List.length (dp m n)=List.length m-n:=by simp [dp]
    exact⟨_,_,by rw [hl];exact h2,by rw [hl];omega,fun hn=>q0lq (q0fx hg (q0sa hn))⟩
   ·cases hs
  |_=>cases hs
 |il r s i f=>
  have hil:=hv
  obtain⟨q,hq,hle,g⟩:=hv
  simp only [q3u,hq]at hs
  obtain⟨k,ver,anc⟩:=q
  cases k with
  |row ow us m=>
   cases ow with
   |false=>cases hs
   |true=>
    simp only at hs
    split at hs
    ·rename_i hab
     obtain⟨vs,n⟩:=l
     obtain⟨_,_,a1,n1,e1,e2⟩:=qkj hR hq (qd hab).symm hs hil
     exact⟨a1,n1,e1,e2.1,qrc e2⟩
    ·cases hs
  |_=>cases hs
 |pd r s i f us m=>
  obtain⟨q,hq,hle,g⟩:=hv
  simp only [q3u,hq]at hs
  obtain⟨k,ver,anc⟩:=q
  cases k with
  |row ow vs n=>
   cases ow with
   |false=>cases hs
   |true=>
    simp only at hs
    split at hs
    ·rename_i hab
     cases hs
     obtain⟨_,_,a1,n1,e1,e2⟩:=g (qd hab).symm true vs n rfl
     exact⟨a1,n1,e1,e2.1,qrc e2⟩
    ·cases hs
  |_=>cases hs
 |_=>cases hs
theorem q0kw {T T':Nat} {x:Operand} (hT:q7w P tab) (ho:o.op= .binOp .eql T x (.const (.slice none 0 0)) T') (hR:Rel G σ a w) (h:qa1 tab soft Γ call k o σ K=some r):Reads P G σ w o a K r:=by
 simp only [qa1,ho]at h
 split at h
 ·rename_i us l hus hl
  obtain⟨a0,c,ev,_,hs⟩:=ql0 (tm:=σ.tmps) hR.roots hl (hR.eval x)
  obtain⟨e,j,hu,_⟩:=q3x hT hus
  have h:=q0dw h
  have run:∀w',(execOp a.eval o).run P w'= .ok (.value (.bool a0.isNone)) w':=fun w'=>by
   have:=Go.Lib.run_eql_slice_nil (P:=P) w' T e a0 (List.length l.2) c 0 0 hu
   have hn:a.eval (.const (.slice none 0 0))= .slice none 0 0:=rfl
   simp [execOp,ho,ev,hn,eqGuard,this]
  cases a0 with
  |none=>
   have hn:l.2=[]:=Classical.byContradiction fun hn=>by simpa using hs hn
   exact Reads.mk' (h.2 hn) (x:= .bool true) (fun w' _=>run w') rfl
  |some b=>exact Reads.mk' h.1 (x:= .bool false) (fun w' _=>run w') rfl
 ·cases h
theorem q0kv {T T':Nat} {x:Operand} (hT:q7w P tab) (ho:o.op= .binOp .neq T x (.const (.slice none 0 0)) T') (hR:Rel G σ a w) (h:qa1 tab soft Γ call k o σ K=some r):Reads P G σ w o a K r:=by
 simp only [qa1,ho]at h
 split at h
 ·rename_i us l hus hl
  obtain⟨a0,c,ev,_,hs⟩:=ql0 (tm:=σ.tmps) hR.roots hl (hR.eval x)
  obtain⟨e,j,hu,_⟩:=q3x hT hus
  have h:=q0dw h
  have run:∀w',(execOp a.eval o).run P w'= .ok (.value (.bool (!a0.isNone))) w':=fun w'=>by
   have:=run_neq_slice_nil_any (P:=P) w' T e a0 (List.length l.2) c 0 0 hu
   have hn:a.eval (.const (.slice none 0 0))= .slice none 0 0:=rfl
   simp [execOp,ho,ev,hn,eqGuard,this]
  cases a0 with
  |none=>
   have hn:l.2=[]:=Classical.byContradiction fun hn=>by simpa using hs hn
   exact Reads.mk' (h.2 hn) (x:= .bool false) (fun w' _=>run w') rfl
  |some b=>exact Reads.mk' h.1 (x:= .bool true) (fun w' _=>run w') rfl
 ·cases h
theorem q0rt {x:Operand} {Ts:Array TypeId} (hT:q7w P tab) (ho:o.op= .call ⟨.builtin .len,#[x],Ts⟩) (hR:Rel G σ a w) (h:qa1 tab soft Γ call k o σ K=some r):Reads P G σ w o a K r:=by
 simp only [qa1,ho,List.map_cons,List.map_nil,q4r]at h
 split at h
 ·rename_i us l hus hl
  obtain⟨a0,c,ev,_,_⟩:=ql0 (tm:=σ.tmps) hR.roots hl (hR.eval x)
  have:∃T e,Ts[0]? =some T∧P.underlying T=some (.slice e):=by
   simp only [q0gs]at hus
   split at hus
   ·rename_i T hTs
    obtain⟨e,j,hu,_⟩:=q3x hT hus
    exact⟨T,e,by rw [show Ts[0]? =Ts.toList[0]? by simp,hTs];rfl,hu⟩
   ·cases hus
  obtain⟨T,e,hTs,hu⟩:=this
  refine Reads.mk' h (x:= .int .i64 (ln l.2)) (fun w' _=> ?_) rfl
  have:(Builtin.len_ Ts o.type #[a.eval x]).run P w'= .ok (goInt (List.length l.2)) w':=by
   simp [Builtin.len_,hTs,run_underlying hu,ev]
  simp [execOp,ho,resolve,invoke,builtin,this,goInt,ln]
 ·cases h
theorem q0rs {us:Option (Bool×Ty)} {x y:Operand} {Ts:Array TypeId} (ho:o.op= .call ⟨.builtin .max,#[x,y],Ts⟩) (hR:Rel G σ a w) (h:q4r .max us [σ.eval x,σ.eval y] σ K=some r):Reads P G σ w o a K r:=by
 have hx:=hR.eval x
 have hy:=hR.eval y
 generalize σ.eval x=ax at h hx
 generalize σ.eval y=ay at h hy
 cases ax with
 |val t m=>
  cases t with
  |int j=>
   cases ay with
   |val t' n=>
    cases t' with
    |int kk=>
     simp only [q4r]at h
     split at h
     ·rename_i hjk
      have hjk:=of_decide_eq_true hjk
      subst hjk
      have hx:a.eval x= .int j m:=hx
      have hy:a.eval y= .int j n:=hy
      refine Reads.mk' h (x:= .int j (maxI m n)) (fun w' _=> ?_) rfl
      simp [execOp,ho,resolve,invoke,builtin,Builtin.max_,Builtin.max2,hx,hy,maxI]
     ·cases h
    |_=>cases h
   |_=>cases h
  |_=>cases h
 |_=>cases h
theorem q0rr {us:Option (Bool×Ty)} {x y:Operand} {Ts:Array TypeId} (ho:o.op= .call ⟨.builtin .min,#[x,y],Ts⟩) (hR:Rel G σ a w) (h:q4r .min us [σ.eval x,σ.eval y] σ K=some r):Reads P G σ w o a K r:=by
 have hx:=hR.eval x
 have hy:=hR.eval y
 generalize σ.eval x=ax at h hx
 generalize σ.eval y=ay at h hy
 cases ax with
 |val t m=>
  cases t with
  |int j=>
   cases ay with
   |val t' n=>
    cases t' with
    |int kk=>
     simp only [q4r]at h
     split at h
     ·rename_i hjk
      have hjk:=of_decide_eq_true hjk
      subst hjk
      have hx:a.eval x= .int j m:=hx
      have hy:a.eval y= .int j n:=hy
      refine Reads.mk' h (x:= .int j (minI m n)) (fun w' _=> ?_) rfl
      simp [execOp,ho,resolve,invoke,builtin,Builtin.min_,Builtin.min2,hx,hy,minI]
     ·cases h
    |_=>cases h
   |_=>cases h
  |_=>cases h
 |_=>cases h
theorem q0aq {u:Nat→Nat→Option Value} {ts:Ty} {l:List ts.den} {n:Nat} (hn:n≤List.length l) {a0:Option Addr} {c:Nat} (hc:n≤c)
  (h:∀i,i<List.length l→∃b o,a0=some ⟨b,o,none⟩∧(ro u ts).2 (rd ts l i) b (o+i*ts.size)):(ro u (.slice ts)).1 (tk l n) (.slice a0 n c):=by
 have hl:List.length (tk l n)=n:=by simp [tk];omega
 refine⟨a0,c,by rw [hl],by rw [hl];exact hc,fun i hi=> ?_⟩
 rw [hl]at hi
 have:=h i (by omega)
 rwa [show rd ts (tk l n) i=rd ts l i by simp [rd,tk,List.getD_eq_getElem?_getD,hi]]
theorem q0n4 {T e:Nat} {I:TypeInfo} (hu:P.underlying T=some (.slice e)) (hi:P.info? e=some I) {a0:Option Addr} {len cap:Nat} {k:IntKind} {n:Int} (h0:0≤n) (h1:n≤cap) (w:World):
  (Instr.sliceAt T (.slice a0 len cap) none (some (.int k n)) none).run P w= .ok (.slice (if cap=0 then a0 else a0.map (·.add 0)) n.toNat cap) w:=by
 simp [Instr.sliceAt,Instr.slice,run_underlying hu,Instr.sliceBounds,run_sliceBound,sizeOf,typeInfo,hi, *]
theorem q0n3 {T e:Nat} {I:TypeInfo} (hu:P.underlying T=some (.slice e)) (hi:P.info? e=some I) {a0:Option Addr} {len cap:Nat} {k:IntKind} {n:Int} (h0:0≤n) (h1:n≤len) (w:World):
  (Instr.sliceAt T (.slice a0 len cap) (some (.int k n)) none none).run P w= .ok (.slice (if cap=n.toNat then a0 else a0.map (·.add (n.toNat*I.size))) (len-n.toNat) (cap-n.toNat)) w:=by
 simp [Instr.sliceAt,Instr.slice,run_underlying hu,Instr.sliceBounds,run_sliceBound,sizeOf,typeInfo,hi, *]
theorem q099 {a0:Option Addr} {cap:Nat} (h:cap=0∨∃b o,a0=some ⟨b,o,none⟩):(if cap=0 then a0 else a0.map (·.add 0))=a0:=by
 rcases h with h|⟨b,o,h⟩
 ·simp [h]
 ·subst h;simp [qlc]
theorem q0rj {ts:Ty} {l:List ts.den} {n i:Nat} (hi:i<n):rd ts (tk l n) i=rd ts l i:=by simp [rd,tk,List.getD_eq_getElem?_getD,hi]
theorem q0kk {ts:Ty} {l:List ts.den} {n i:Nat}:rd ts (dp l n) i=rd ts l (n+i):=by simp [rd,dp,List.getD_eq_getElem?_getD,List.getElem?_drop]
theorem qoj {α:Type} {l:List α} {n:Nat} (h:n≤l.length):(tk l n).length=n:=by simp [tk];omega
theorem qeh {α:Type} {l:List α} {n:Nat}:(dp l n).length=l.length-n:=by simp [dp]
theorem qj9 {cv:Nat→(t:Ty)→t.den→Value→Prop} {L:Lab} {ts:Ty} {l:List ts.den} {a0:Option Addr} {n m:Nat} (h:q8n G w cv L ts l a0 n) (hm:m≤List.length l):q8n G w cv L ts (tk l m) a0 n:=by
 obtain⟨h0,h⟩:=h
 refine⟨by rw [qoj hm];omega,h.imp id ?_⟩
 rintro ⟨b,o,ea,h1,h2⟩
 refine⟨b,o,ea,h1,fun i hi=> ?_⟩
 rw [qoj hm]at hi
 rw [q0rj hi];exact h2 i (by omega)
theorem q0j0 {T:Nat} {x y:Operand} (hT:q7w P tab) (ho:o.op= .slice T x none (some y) none) (hR:Rel G σ a w) (h:qa1 tab soft Γ call k o σ K=some r):Reads P G σ w o a K r:=by
 have hx:=hR.eval x
 have hyv:=hR.eval y
 simp only [qa1,ho,Option.map_none,Option.map_some]at h
 cases he:qa3 tab T with
 |none=>rw [he]at h;cases h
 |some us=>
  rw [he]at h
  obtain⟨e,j,hu,hj,hjc,_⟩:=q3x hT he
  obtain⟨⟨I,i1,i2,i3⟩,_⟩:=hT e j hj
  generalize σ.eval y=ay at h hyv
  have front:∀(a0:Option Addr) (len cap:Nat) (kk:IntKind) (n:Int) (v:AV),a.eval y= .int kk n→a.eval x= .slice a0 len cap→len≤cap→0≤n→n≤(len:Int)→
    (avR G σ.roots w v).1 (.slice (if cap=0 then a0 else a0.map (·.add 0)) n.toNat cap)→K v σ=some r→Reads P G σ w o a K r:=by
   intro a0 len cap kk n v hyv hxv hlc n0 n1 hv hK
   refine Reads.mk' hK (fun w' _=> ?_) hv
   have:=q0n4 hu i1 (a0:=a0) (len:=len) (cap:=cap) (k:=kk) n0 (by omega) w'
   simp [execOp,ho,hxv,hyv,this]
  have rof:∀(ts:Ty) (l:List ts.den) (v:Value) (kk:IntKind) (n:Int),(ro (vw G w) (.slice ts)).1 l v→a.eval x=v→a.eval y= .int kk n→br (upR n (ln l)) (K (.val (.slice ts) (tk l (q6 n))) σ) none=some r→Reads P G σ w o a K r:=by
   intro ts l v kk n hro hv hyv h
   obtain⟨a0,c,ev,hc,g⟩:=hro
   rcases q44 h with⟨hb,hK⟩|⟨_,hK⟩
   ·obtain⟨n0,n1⟩:=qqv hb
    unfold ln at n1
    refine front a0 _ c _ _ _ hyv (hv.trans ev) hc n0 n1 ?_ hK
    refine q0aq (n:=q6 n) (by simp [q6];omega) (by simp [q6];omega) (fun i hi=> ?_)
    obtain⟨b,p,ea,k'⟩:=g i hi
    exact⟨b,p,by subst ea;simp [qlc],k'⟩
   ·cases hK
  generalize hax:σ.eval x=ax at h hx
  cases ax with
  |val t l=>
   cases t with
   |slice ts=>
    obtain⟨hsz,h⟩:=qw h
    cases ay with
    |val t n=>
     cases t with
     |int kk=>exact rof ts l _ kk n hx rfl hyv h
     |_=>cases h
    |_=>cases h
   |_=>cases h
  |sl r' a'=>
   obtain⟨q,hq,hle,g⟩:=hx
   simp only [hq]at h
   obtain⟨k',ver,anc⟩:=q
   have hro:=hR.roots r' _ hq
   cases k' with
   |row ow ts l=>
    obtain⟨hb,h⟩:=qw h
    obtain⟨hb1,hb2⟩:=and2 hb
    have hb1:=qd hb1
    cases ay with
    |val t n=>
     cases t with
     |int kk=>
      have ev:=g hb1.symm ts (List.length l) rfl
      obtain⟨r1,r2⟩:=(show q8n G w (qc4 G w r' ow) (.of r' 0) ts l (G.anch r').1 (G.anch r').2 from hro)
      rcases q44 h with⟨hup,hK⟩|⟨_,hK⟩
      ·obtain⟨n0,n1⟩:=qqv hup
       unfold ln at n1
       have e0:=q099 (r2.imp id (fun ⟨b,o,e,_⟩=>⟨b,o,e⟩))
       refine front _ _ _ _ _ (.hd r' a' (q6 n)) hyv ev r1 n0 n1 ⟨_,hq,hle,fun _ ts' n' hh=> ?_⟩ hK
       cases hh
       exact⟨by simp [q6];omega,by rw [e0];rfl⟩
      ·cases hK
     |_=>cases h
    |_=>cases h
   |fro ts l=>
    obtain⟨hb,h⟩:=qw h
    obtain⟨hb1,hb2⟩:=and2 hb
    have hb1:=qd hb1
    cases ay with
    |val t n=>
     cases t with
     |int kk=>exact rof ts l _ kk n hro (g hb1.symm ts (List.length l) rfl) hyv h
     |_=>cases h
    |_=>cases h
   |_=>cases h
  |il r' s' i f=>
   have hil:=hx
   obtain⟨q,hq,hle,g⟩:=hx
   simp only [hq]at h
   obtain⟨k',ver,anc⟩:=q
   cases k' with
   |row ow ts l=>
    cases ow with
    |false=>cases h
    |true=>
     cases hin:q2u ts (rd ts l i) f with
     |none=>simp only [hin]at h;cases h
     |some p=>
      obtain⟨vs,m⟩:=p
      simp only [hin]at h
      obtain⟨hb,h⟩:=qw h
      obtain⟨hb1,hb2⟩:=and2 hb
      have hb1:=qd hb1
      obtain⟨j1,j2,a1,n1,e1,e2⟩:=qkj hR.roots hq hb1.symm hin hil
      cases ay with
      |val t n=>
       cases t with
       |int kk=>
        rcases q44 h with⟨hup,hK⟩|⟨_,hK⟩
        ·obtain⟨n0,nn⟩:=qqv hup
         unfold ln at nn
         have e0:=q099 (e2.2.imp id (fun ⟨b,o,e,_⟩=>⟨b,o,e⟩))
         refine front a1 _ n1 _ _ (.pd r' s' i f vs (tk m (q6 n))) hyv e1 e2.1 n0 nn ⟨_,hq,hle,fun he ow' ts' l' hk=> ?_⟩ hK
         cases hk
         have hl:q6 n≤List.length m:=by unfold q6;omega
         exact⟨j1,j2,a1,n1,by rw [e0,qoj hl];rfl,qj9 e2 hl⟩
        ·cases hK
       |_=>cases h
      |_=>cases h
   |_=>cases h
  |_=>cases h
theorem q0iz {T:Nat} {x y:Operand} (hT:q7w P tab) (ho:o.op= .slice T x (some y) none none) (hR:Rel G σ a w) (h:qa1 tab soft Γ call k o σ K=some r):Reads P G σ w o a K r:=by
 have hx:=hR.eval x
 have hyv:=hR.eval y
 simp only [qa1,ho,Option.map_none,Option.map_some]at h
 cases he:qa3 tab T with
 |none=>rw [he]at h;cases h
 |some us=>
  rw [he]at h
  obtain⟨e,j,hu,hj,hjc,_⟩:=q3x hT he
  obtain⟨⟨I,i1,i2,i3⟩,_⟩:=hT e j hj
  rw [hjc]at i2
  generalize σ.eval y=ay at h hyv
  have ending:∀(a0:Option Addr) (len cap:Nat) (kk:IntKind) (n:Int) (v:AV),a.eval y= .int kk n→a.eval x= .slice a0 len cap→0≤n→n≤(len:Int)→
    (avR G σ.roots w v).1 (.slice (if cap=n.toNat then a0 else a0.map (·.add (n.toNat*I.size))) (len-n.toNat) (cap-n.toNat))→K v σ=some r→Reads P G σ w o a K r:=by
   intro a0 len cap kk n v hyv hxv n0 n1 hv hK
   refine Reads.mk' hK (fun w' _=> ?_) hv
   have:=q0n3 hu i1 (a0:=a0) (len:=len) (cap:=cap) (k:=kk) n0 n1 w'
   simp [execOp,ho,hxv,hyv,this]
  have rof:∀(ts:Ty) (l:List ts.den) (v:Value) (kk:IntKind) (n:Int),(ro (vw G w) (.slice ts)).1 l v→a.eval x=v→a.eval y= .int kk n→us.2.size=ts.size→br (upR n (ln l)) (K (.val (.slice ts) (dp l (q6 n))) σ) none=some r→Reads P G σ w o a K r:=by
   intro ts l v kk n hro hv hyv hsz h
   obtain⟨a0,c,ev,hc,g⟩:=hro
   rcases q44 h with⟨hb,hK⟩|⟨_,hK⟩
   ·obtain⟨n0,n1⟩:=qqv hb
    unfold ln at n1
    refine ending a0 _ c _ _ _ hyv (hv.trans ev) n0 n1 ?_ hK
    refine⟨_,c-n.toNat,by rw [qeh];rfl,by rw [qeh];simp only [q6];omega,fun i hi=> ?_⟩
    rw [qeh]at hi
    simp only [q6]at hi
    obtain⟨b,p,ea,k'⟩:=g (n.toNat+i) (by omega)
    refine⟨b,p+n.toNat*I.size,?_,?_⟩
    ·rw [if_neg (by omega),ea]
     simp [qlc]
    ·rw [q0kk,i2,hsz,show p+n.toNat*ts.size+i*ts.size=p+(n.toNat+i)*ts.size by rw [Nat.add_mul];omega]
     exact k'
   ·cases hK
  generalize hax:σ.eval x=ax at h hx
  cases ax with
  |val t l=>
   cases t with
   |slice ts=>
    obtain⟨hsz,h⟩:=qw h
    cases ay with
    |val t n=>
     cases t with
     |int kk=>exact rof ts l _ kk n hx rfl hyv (qd hsz) h
     |_=>cases h
    |_=>cases h
   |_=>cases h
  |sl r' a'=>
   obtain⟨q,hq,hle,g⟩:=hx
   simp only [hq]at h
   obtain⟨k',ver,anc⟩:=q
   have hro:=hR.roots r' _ hq
   cases k' with
   |row ow ts l=>
    obtain⟨hb,h⟩:=qw h
    obtain⟨hb1,hb2⟩:=and2 hb
    have hb1:=qd hb1
    have hb2:=qd hb2
    cases ay with
    |val t n=>
     cases t with
     |int kk=>
      have ev:=g hb1.symm ts (List.length l) rfl
      rcases q44 h with⟨hup,hK⟩|⟨_,hK⟩
      ·obtain⟨n0,n1⟩:=qqv hup
       unfold ln at n1
       refine ending _ _ _ _ _ (.tl r' a' (q6 n)) hyv ev n0 n1 ⟨_,hq,hle,fun _ ts' n' hh=> ?_⟩ hK
       cases hh
       exact⟨by simp [q6];omega,by rw [i2,hb2];rfl⟩
      ·cases hK
     |_=>cases h
    |_=>cases h
   |fro ts l=>
    obtain⟨hb,h⟩:=qw h
    obtain⟨hb1,hb2⟩:=and2 hb
    have hb1:=qd hb1
    cases ay with
    |val t n=>
     cases t with
     |int kk=>exact rof ts l _ kk n hro (g hb1.symm ts (List.length l) rfl) hyv (qd hb2) h
     |_=>cases h
    |_=>cases h
   |_=>cases h
  |il r' s' i f=>
   obtain⟨q,hq,hle,g⟩:=hx
   simp only [hq]at h
   obtain⟨k',ver,anc⟩:=q
   cases k' with
   |row ow ts l=>
    cases ow with
    |false=>cases h
    |true=>
     cases hin:q2u ts (rd ts l i) f with
     |none=>simp only [hin]at h;cases h
     |some p=>
      simp only [hin]at h
      obtain⟨_,h⟩:=qw h
      cases h
   |_=>cases h
  |_=>cases h
theorem q0dr {T:Nat} {x:Operand} {k1 k2:IntKind} (hT:q7w P tab) (ho:o.op= .slice T x none (some (.const (.int k1 0))) (some (.const (.int k2 0)))) (hR:Rel G σ a w) (h:qa1 tab soft Γ call k o σ K=some r):Reads P G σ w o a K r:=by
 simp only [qa1,ho]at h
 split at h
 ·rename_i us l he hs
  obtain⟨e,j,hu,hj,hjc,_⟩:=q3x hT he
  obtain⟨⟨I,i1,i2,i3⟩,_⟩:=hT e j hj
  obtain⟨a0,c,ev,hc⟩:=ql0 (tm:=σ.tmps) hR.roots hs (hR.eval x)
  refine Reads.mk' h (x:= .slice a0 0 0) (fun w' _=> ?_) ⟨a0,rfl⟩
  have:(Instr.sliceAt T (.slice a0 (List.length l.2) c) none (some (.int k1 0)) (some (.int k2 0))).run P w'= .ok (.slice a0 0 0) w':=by
   simp [Instr.sliceAt,Instr.slice,run_underlying hu,Instr.sliceBounds,run_sliceBound,sizeOf,typeInfo,i1]
  have hc:∀v,a.eval (.const v)=v:=fun _=>rfl
  simp [execOp,ho,ev,hc,this]
 ·cases h
theorem q0jj {off n:Nat} {cs:AV} {vs:List Value} {Rs:List Root} (h:(avR G Rs w cs).2 vs) (hn:off+n≤qgz cs):(avR G Rs w (qei n (qi3 off cs))).2 ((vs.drop off).take n):=by
 have hl:=q0cx cs vs h
 exact q0id n _ _ (q0ie off cs vs h (by omega)) (by simp;omega)
theorem q0q0 {R':List Root} {g:Bool} {n:Nat} {cs:AV} {vs:List Value} (hl:vs.length=n) (h1:g=false→n=1) (h:(avR G R' w cs).2 vs):(avR G R' w (oneB g cs)).1 (if g then .agg vs.toArray else vs.getD 0 undef):=by
 unfold oneB
 cases g with
 |true=>exact⟨vs,rfl,h⟩
 |false=>
  have:=h1 rfl
  cases cs with
  |cons v as=>obtain⟨x,xs,e,g,_⟩:=h;subst e;exact g
  |_=>exact trivial
theorem q0nf {T f:Nat} {x:Operand} (hT:q7w P tab) (ho:o.op= .field T x f) (hR:Rel G σ a w) (h:qa1 tab soft Γ call k o σ K=some r):Reads P G σ w o a K r:=by
 have hx:=hR.eval x
 simp only [qa1,ho]at h
 split at h
 ·rename_i i hi
  split at h
  ·rename_i off cs hoff hcs
   obtain⟨hb,hK⟩:=qw h
   have hb2:=qab hb
   rw [hcs]at hx
   obtain⟨vs,ev,hv⟩:=hx
   obtain⟨fs,hu,fl,e1,e2,⟨I,e3,e4,e5⟩,h1,d,e6,e7⟩:=(hT T i hi).offs f off hoff
   have hl:=q0cx cs vs hv
   refine Reads.mk' hK (x:=if off.2.2 then .agg ((vs.drop off.1).take off.2.1).toArray else((vs.drop off.1).take off.2.1).getD 0 undef) (fun w' _=> ?_) (q0q0 (by simp;omega) h1 (q0jj hv hb2))
   have hagg:(isAgg fl.type).run P w'= .ok off.2.2 w':=by
    unfold isAgg
    rw [Sem.run_bind,run_underlying e6 w']
    cases d<;>simp_all [aggD]
   have hpart:(part fl.type vs.toArray fl.offset).run P w'= .ok (if off.2.2 then .agg ((vs.drop off.1).take off.2.1).toArray else((vs.drop off.1).take off.2.1).getD 0 undef) w':=by
    cases hg:off.2.2 with
    |true=>
     rw [hg]at hagg
     simp [part,Sem.run_bind,hagg,sizeOf,typeInfo,e3,e4,List.take_drop]
     rw [e2]
    |false=>
     rw [hg]at hagg
     have hn:=h1 hg
     have hlt:off.1<vs.length:=by omega
     have:((vs.drop off.1).take off.2.1).getD 0 undef=vs[off.1]:=by
      rw [hn,List.getD_eq_getElem?_getD,List.getElem?_take_of_lt (by omega),List.getElem?_drop]
      simp [hlt]
     rw [e2,this]
     simp [part,Sem.run_bind,hagg,hlt]
   simp [execOp,ho,Instr.field,run_underlying hu,e1,ev,asAgg,hpart]
  ·cases h
 ·cases h
theorem q0eu (off:Nat):∀(vs:List Value) (k:Nat) (cs:Array Value),
  ((vs.zipIdx k).foldl (fun cs (x:Value×Nat)=>cs.setIfInBounds (off+x.2) x.1) cs).size=cs.size∧
  ∀j:Nat,((vs.zipIdx k).foldl (fun cs (x:Value×Nat)=>cs.setIfInBounds (off+x.2) x.1) cs)[j]? =if off+k≤j∧j<off+k+vs.length∧j<cs.size then vs[j-off-k]? else cs[j]?
 | [],k,cs=>⟨rfl,fun j=>by rw [if_neg (by simp;omega)];rfl⟩
 |v::vs,k,cs=>by
  obtain⟨h1,h2⟩:=q0eu off vs (k+1) (cs.setIfInBounds (off+k) v)
  refine⟨by simpa using h1,fun j=> ?_⟩
  simp only [List.zipIdx_cons,List.foldl_cons,List.length_cons]
  rw [h2 j]
  simp only [Array.size_setIfInBounds]
  by_cases e:j=off+k
  ·subst e
   rw [if_neg (by omega)]
   by_cases hlt:off+k<cs.size
   ·rw [if_pos (by omega)]
    simp [hlt,show off+k-off-k=0 by omega]
   ·rw [if_neg (by omega)]
    simp [hlt]
  ·rw [Array.getElem?_setIfInBounds_ne (Ne.symm e)]
   by_cases hin:off+(k+1)≤j∧j<off+(k+1)+vs.length∧j<cs.size
   ·rw [if_pos hin,if_pos (by omega),show j-off-k=(j-off-(k+1))+1 by omega,List.getElem?_cons_succ]
   ·rw [if_neg hin,if_neg (by omega)]
def over (cs:List Value) (off:Nat) (vs:List Value):List Value:=cs.take off++vs++cs.drop (off+vs.length)
theorem q0nr {cs vs:List Value} {off:Nat} (h:off+vs.length≤cs.length):(over cs off vs).length=cs.length:=by simp [over];omega
theorem q0ch {cs vs:List Value} {off:Nat} (h:off+vs.length≤cs.length) (j:Nat):(over cs off vs)[j]? =if off≤j∧j<off+vs.length then vs[j-off]? else cs[j]? :=by
 have ht:(cs.take off).length=off:=by simp;omega
 unfold over
 by_cases h1:j<off
 ·rw [List.append_assoc,List.getElem?_append_left (by omega),if_neg (by omega),List.getElem?_take_of_lt h1]
 ·rw [List.append_assoc,List.getElem?_append_right (by omega),ht]
  by_cases h2:j<off+vs.length
  ·rw [List.getElem?_append_left (by omega),if_pos (by omega)]
  ·rw [List.getElem?_append_right (by omega),List.getElem?_drop,if_neg (by omega)]
   congr 1;omega
theorem q0ey {cs vs:List Value} {off:Nat} (h:off+vs.length≤cs.length):vs.toArray.zipIdx.foldl (fun cs (c,j)=>cs.setIfInBounds (off+j) c) cs.toArray=(over cs off vs).toArray:=by
 obtain⟨h1,h2⟩:=q0eu off vs 0 cs.toArray
 have e:vs.toArray.zipIdx.foldl (fun cs (c,j)=>cs.setIfInBounds (off+j) c) cs.toArray=(vs.zipIdx 0).foldl (fun cs (x:Value×Nat)=>cs.setIfInBounds (off+x.2) x.1) cs.toArray:=by
  rw [←Array.foldl_toList];simp
 rw [e]
 apply Array.ext_getElem?
 intro j
 rw [h2 j]
 simp only [List.size_toArray,List.getElem?_toArray,Nat.add_zero,Nat.sub_zero]
 rw [q0ch h]
 by_cases hin:off≤j∧j<off+vs.length
 ·rw [if_pos hin,if_pos ⟨hin.1,hin.2,by omega⟩]
 ·rw [if_neg hin,if_neg (by omega)]
theorem q0cw {Rs:List Root}:∀(off:Nat) (a:AV) (cs:AV) (vs ws:List Value),(avR G Rs w a).2 vs→(avR G Rs w cs).2 ws→off+vs.length≤ws.length→(avR G Rs w (q0dp off a cs)).2 (over ws off vs)
 |0,.cons v a,.cons c cs,vs,ws,⟨x,xs,e1,g1,h1⟩,⟨y,ys,e2,g2,h2⟩,hl=>by
  subst e1;subst e2
  have:=q0cw 0 a cs xs ys h1 h2 (by simpa using hl)
  refine⟨x,over ys 0 xs,?_,g1,this⟩
  simp [over]
 |0,.nil,cs,vs,ws,h1,h2,hl=>by cases h1;cases cs<;>simpa [over,q0dp]using h2
 |n+1,a,.cons c cs,vs,ws,h1,⟨y,ys,e2,g2,h2⟩,hl=>by
  subst e2
  have:=q0cw n a cs vs ys h1 h2 (by simp at hl;omega)
  refine⟨y,over ys n vs,?_,g2,by cases a<;>exact this⟩
  simp [over,show n+1+vs.length=n+vs.length+1 by omega]
 |n+1,a,.nil,vs,ws,h1,h2,hl=>by cases h2;simp at hl
 |0,.cons v a,.nil,vs,ws,⟨x,xs,e1,g1,h1⟩,h2,hl=>by cases h2;subst e1;simp at hl
 |_,.undef,_,_,_,h,_,_=>h.elim
 |_,.val _ _,_,_,_,h,_,_=>h.elim
 |_,.nl _,_,_,_,h,_,_=>h.elim
 |_,.agg _,_,_,_,h,_,_=>h.elim
 |_,.tup _,_,_,_,h,_,_=>h.elim
 |_,.rp _ _ _,_,_,_,h,_,_=>h.elim
 |_,.bp _ _,_,_,_,h,_,_=>h.elim
 |_,.ep _ _ _ _,_,_,_,h,_,_=>h.elim
 |_,.sl _ _,_,_,_,h,_,_=>h.elim
 |_,.hd _ _ _,_,_,_,h,_,_=>h.elim
 |_,.tl _ _ _,_,_,_,h,_,_=>h.elim
 |_,.il _ _ _ _,_,_,_,h,_,_=>h.elim
 |_,.ip _ _ _ _ _ _,_,_,_,h,_,_=>h.elim
 |_,.pd _ _ _ _ _ _,_,_,_,h,_,_=>h.elim
 |_,.fn _ _,_,_,_,h,_,_=>h.elim
 |_,_,.undef,_,_,_,h,_=>h.elim
 |_,_,.val _ _,_,_,_,h,_=>h.elim
 |_,_,.nl _,_,_,_,h,_=>h.elim
 |_,_,.agg _,_,_,_,h,_=>h.elim
 |_,_,.tup _,_,_,_,h,_=>h.elim
 |_,_,.rp _ _ _,_,_,_,h,_=>h.elim
 |_,_,.bp _ _,_,_,_,h,_=>h.elim
 |_,_,.ep _ _ _ _,_,_,_,h,_=>h.elim
 |_,_,.sl _ _,_,_,_,h,_=>h.elim
 |_,_,.hd _ _ _,_,_,_,h,_=>h.elim
 |_,_,.tl _ _ _,_,_,_,h,_=>h.elim
 |_,_,.il _ _ _ _,_,_,_,h,_=>h.elim
 |_,_,.ip _ _ _ _ _ _,_,_,_,h,_=>h.elim
 |_,_,.pd _ _ _ _ _ _,_,_,_,h,_=>h.elim
 |_,_,.fn _ _,_,_,_,h,_=>h.elim
theorem q00y {Rs:List Root} {tm:List AV} {av:AV} {v:Value} (hR:RelR G Rs w) (h:qog ⟨tm,Rs⟩ av=true) (hv:(avR G Rs w av).1 v):v.oneCell'=true∧v.cells= #[v]:=by
 cases av with
 |val t x=>
  cases t with
  |bool=>cases hv;exact⟨rfl,rfl⟩
  |int k=>cases hv;exact⟨rfl,rfl⟩
  |str=>cases hv;exact⟨rfl,rfl⟩
  |slice ts=>obtain⟨a,c,e,_⟩:=hv;subst e;exact⟨rfl,rfl⟩
  |_=>cases h
 |nl ts=>obtain⟨a,e⟩:=hv;subst e;exact⟨rfl,rfl⟩
 |sl r a=>
  obtain⟨q,hq,hle,g⟩:=hv
  simp only [qog,hq]at h
  obtain⟨k,ver,anc⟩:=q
  cases k with
  |row ow ts l=>have e:=g (qd h).symm ts (List.length l) rfl;subst e;exact⟨rfl,rfl⟩
  |fro ts l=>have e:=g (qd h).symm ts (List.length l) rfl;subst e;exact⟨rfl,rfl⟩
  |_=>cases h
 |hd r a m=>
  obtain⟨q,hq,hle,g⟩:=hv
  simp only [qog,hq]at h
  obtain⟨k,ver,anc⟩:=q
  cases k with
  |row ow ts l=>obtain⟨_,e⟩:=g (qd h).symm ts (List.length l) rfl;subst e;exact⟨rfl,rfl⟩
  |fro ts l=>obtain⟨_,e⟩:=g (qd h).symm ts (List.length l) rfl;subst e;exact⟨rfl,rfl⟩
  |_=>cases h
 |tl r a m=>
  obtain⟨q,hq,hle,g⟩:=hv
  simp only [qog,hq]at h
  obtain⟨k,ver,anc⟩:=q
  cases k with
  |row ow ts l=>obtain⟨_,e⟩:=g (qd h).symm ts (List.length l) rfl;subst e;exact⟨rfl,rfl⟩
  |fro ts l=>obtain⟨_,e⟩:=g (qd h).symm ts (List.length l) rfl;subst e;exact⟨rfl,rfl⟩
  |_=>cases h
 |bp r f=>
  obtain⟨q,hq,g⟩:=hv
  simp only [qog,hq]at h
  obtain⟨k,ver,anc⟩:=q
  cases k with
  |box cs ss=>obtain⟨b,p,_,e⟩:=g cs.length .nil rfl;subst e;exact⟨rfl,rfl⟩
  |_=>cases h
 |il r s i f=>
  obtain⟨q,hq,hle,g⟩:=hv
  simp only [qog,hq]at h
  obtain⟨k,ver,anc⟩:=q
  cases k with
  |row ow ts l=>
   cases ow with
   |false=>cases h
   |true=>
    obtain⟨h1,h2,b,o,h3,h4,h5⟩:=g (qd h).symm true ts l rfl
    obtain⟨b',o',ea,_,hel⟩:=q4u (show q8n G w (qim G w r) (.of r 0) ts l (G.anch r).1 (G.anch r).2 from hR r _ hq) h1
    rw [h3]at ea;cases ea
    have one:∀(ts:Ty) (x:ts.den) (o k f:Nat),elG (at_ w) (qim G w r) ts x b o k→f<ts.size→∃u,at_ w b (o+f)=some u∧u.oneCell'=true∧u.cells= #[u]:=by
     intro ts
     induction ts with
     |cons t ts _ ih=>
      intro x o k f ⟨⟨u,e1,e2⟩,e3⟩ hf
      cases f with
      |zero=>
       refine⟨u,e1,?_⟩
       cases t with
       |slice us=>obtain⟨a,n,e,_⟩:=e2;subst e;exact⟨rfl,rfl⟩
       |bool=>cases e2;exact⟨rfl,rfl⟩
       |int k=>cases e2;exact⟨rfl,rfl⟩
       |str=>cases e2;exact⟨rfl,rfl⟩
       |nil=>exact e2.elim
       |cons _ _=>exact e2.elim
      |succ f=>rw [show o+(f+1)=o+1+f by omega];exact ih x.2 (o+1) (k+1) f e3 (by simpa [Ty.size]using hf)
     |_=>intro x o k f _ hf;simp [Ty.size]at hf
    obtain⟨u,e1,e2⟩:=one ts _ _ _ f hel h2
    rw [h5]at e1;cases e1;exact e2
  |_=>cases h
 |pd r s i f us l=>
  obtain⟨q,hq,hle,g⟩:=hv
  simp only [qog,hq]at h
  obtain⟨k,ver,anc⟩:=q
  cases k with
  |row ow ts m=>
   cases ow with
   |false=>cases h
   |true=>obtain⟨_,_,a,n,e,_⟩:=g (qd h).symm true ts m rfl;subst e;exact⟨rfl,rfl⟩
  |_=>cases h
 |fn f cs=>obtain⟨vs,e,_⟩:=hv;subst e;exact⟨rfl,rfl⟩
 |_=>cases h
theorem q0du {Rs:List Root} {tm:List AV} (hR:RelR G Rs w):∀(cs:AV) (vs:List Value),q00x ⟨tm,Rs⟩ cs=true→(avR G Rs w cs).2 vs→∀x∈vs,x.oneCell'=true:=by
 intro cs
 induction cs with
 |nil=>intro vs _ h;cases h;simp
 |cons c cs _ ih=>
  rintro _ h ⟨v,vs',rfl,h1,h2⟩
  simp only [q00x,Bool.and_eq_true]at h
  intro x hx
  rcases List.mem_cons.1 hx with rfl|hx
  ·exact(q00y hR h.1 h1).1
  ·exact ih vs' h.2 h2 x hx
 |_=>intro vs h;cases h
theorem qc5 {Rs:List Root} {tm:List AV} {av:AV} {v:Value} (hR:RelR G Rs w) (hl:qgz (cellsOf ⟨tm,Rs⟩ av)≠0) (hv:(avR G Rs w av).1 v):
  ∃vs:List Value,v.cells=vs.toArray∧vs.length=qgz (cellsOf ⟨tm,Rs⟩ av)∧(avR G Rs w (cellsOf ⟨tm,Rs⟩ av)).2 vs∧∀x∈vs,x.oneCell'=true:=by
 have single:∀av,cellsOf ⟨tm,Rs⟩ av=(match qog ⟨tm,Rs⟩ av with|true=> .cons av .nil|false=> .nil)→qgz (cellsOf ⟨tm,Rs⟩ av)≠0→(avR G Rs w av).1 v→
   ∃vs:List Value,v.cells=vs.toArray∧vs.length=qgz (cellsOf ⟨tm,Rs⟩ av)∧(avR G Rs w (cellsOf ⟨tm,Rs⟩ av)).2 vs∧∀x∈vs,x.oneCell'=true:=by
  intro av e hl hv
  rw [e]at hl ⊢
  cases hk:qog ⟨tm,Rs⟩ av with
  |false=>rw [hk]at hl;exact absurd rfl hl
  |true=>
   obtain⟨h1,h2⟩:=q00y hR hk hv
   exact⟨[v],h2,rfl,⟨v,[],rfl,hv,rfl⟩,by simpa using h1⟩
 cases av with
 |agg cs=>
  obtain⟨vs,e,h⟩:=hv
  simp only [cellsOf]at hl ⊢
  cases hk:q00x ⟨tm,Rs⟩ cs with
  |false=>rw [hk]at hl;exact absurd rfl hl
  |true=>exact⟨vs,by subst e;rfl,q0cx cs vs h,h,q0du hR cs vs hk h⟩
 |undef=>exact single _ rfl hl hv
 |val t x=>exact single _ rfl hl hv
 |nl ts=>exact single _ rfl hl hv
 |tup vs=>exact single _ rfl hl hv
 |rp ts x f=>exact single _ rfl hl hv
 |bp r f=>exact single _ rfl hl hv
 |ep r a i f=>exact single _ rfl hl hv
 |sl r a=>exact single _ rfl hl hv
 |hd r a n=>exact single _ rfl hl hv
 |tl r a lo=>exact single _ rfl hl hv
 |il r s i f=>exact single _ rfl hl hv
 |ip r s i f j g=>exact single _ rfl hl hv
 |pd r s i f us l=>exact single _ rfl hl hv
 |fn f cs=>exact single _ rfl hl hv
 |nil=>exact single _ rfl hl hv
 |cons c cs=>exact single _ rfl hl hv
theorem qyj:∀(ts:Ty),(q17 ts).length=ts.size:=by
 intro ts
 induction ts with
 |cons t ts _ ih=>cases t<;>simp [q17,Ty.size,ih]
 |_=>rfl
theorem q0gx {Rs:List Root}:∀(ts:Ty),ts.flat=true→(avR G Rs w (q0d2 ts)).2 (q17 ts):=by
 intro ts
 induction ts with
 |nil=>intro _;rfl
 |cons t ts _ ih=>
  intro h
  cases t with
  |bool=>exact⟨_,_,rfl,rfl,ih h⟩
  |int k=>exact⟨_,_,rfl,rfl,ih h⟩
  |str=>exact⟨_,_,rfl,rfl,ih h⟩
  |slice us=>exact⟨_,_,rfl,⟨none,rfl⟩,ih h⟩
  |_=>cases h
 |_=>intro h;cases h
theorem q0nh {T:Nat} {ps:Array (Nat×Operand)} (hT:q7w P tab) (ho:o.op= .build T ps) (hR:Rel G σ a w) (h:qa1 tab soft Γ call k o σ K=some r):Reads P G σ w o a K r:=by
 simp only [qa1,ho]at h
 split at h
 ·rename_i i hi
  split at h
  ·rename_i cs hcs
   obtain⟨hagg,h⟩:=qw h
   obtain⟨fs,hu,hpl⟩:=(hT T i hi).places hagg
   obtain⟨I,z,z1,z2,z3⟩:=(hT T i hi).zero
   have hfl:=(hT T i hi).flat
   have key:∀(ps:List (Nat×Operand)) (c0:AV) (ws:List Value) (cs:AV),q0as σ i.offs ps c0=some cs→(avR G σ.roots w c0).2 ws→
     ∃ws',Instr.fill (fun j=>(i.offs.map fun o=>(o.1,o.2.1))[j]?) ws.toArray (ps.map fun (j,x)=>(j,a.eval x))=some ws'.toArray∧(avR G σ.roots w cs).2 ws':=by
    intro ps
    induction ps with
    |nil=>intro c0 ws cs h hw;cases h;exact⟨ws,rfl,hw⟩
    |cons p ps ih=>
     obtain⟨j,x⟩:=p
     intro c0 ws cs h hw
     simp only [q0as]at h
     split at h
     ·rename_i off hoff
      obtain⟨hb,h⟩:=qw h
      obtain⟨hb1,hb2⟩:=and2 hb
      have hb1:=qd hb1
      have hb2:=qab hb2
      have hlw:=q0cx c0 ws hw
      rcases Nat.eq_zero_or_pos off.2.1 with h0|h0
      ·exfalso
       obtain⟨_,_,_,_,_,⟨_,_,_,h5⟩,_⟩:=(hT T i hi).offs j off hoff
       omega
      ·obtain⟨vs,e1,e2,e3,_⟩:=qc5 (tm:=σ.tmps) hR.roots (by rw [hb1];omega) (hR.eval x)
       have hvl:vs.length=off.2.1:=e2.trans hb1
       obtain⟨ws',f1,f2⟩:=ih _ _ _ h (q0cw off.1 _ _ vs ws e3 hw (by omega))
       refine⟨ws',?_,f2⟩
       have hplace:(i.offs.map fun o=>(o.1,o.2.1))[j]? =some (off.1,off.2.1):=by simp [hoff]
       simp only [List.map_cons,Instr.fill,hplace]
       rw [if_neg (by simp [e1,hvl];omega),e1,q0ey (by omega)]
       exact f1
     ·cases h
   obtain⟨ws',f1,f2⟩:=key ps.toList _ _ _ hcs (q0gx i.cells hfl)
   refine Reads.mk' h (x:= .agg ws'.toArray) (fun w' _=> ?_) ⟨ws',rfl,f2⟩
   have hb:P.built T (ps.map fun (j,x)=>(j,a.eval x)).toList=some ws'.toArray:=by
    unfold Program.built
    simp only [z1,hu,z2,hpl,z3]
    simpa using f1
   have:=run_build (P:=P) w' T _ _ hb
   simp [execOp,ho,this]
  ·cases h
 ·cases h
end
end
end Go.Proofs.YtpmjopbgccajgaaGreat.Eng
