/- The evaluator: a Go function's code over abstract values. Its pure words come first. No condition. -/
import Derived.OrdersHeld
namespace Go.Proofs.YtpihkhknehadbaaGreat.Eng
set_option linter.unusedVariables false
noncomputable section
/-! ### Kinds of cells -/
/-- What a cell holds; 'nil' and 'cons' make rows of cells. -/
inductive Ty where
  | bool | int (k : IntKind) | str | slice (ts : Ty) | nil | cons (t ts : Ty)
def Ty.den : Ty → Type
  | .bool => Bool | .int _ => Int | .str => ByteArray | .slice ts => List ts.den | .nil => Unit | .cons t ts => t.den × ts.den
def Ty.eq? : (a b : Ty) → Option (PLift (a = b))
  | .bool, .bool => some ⟨rfl⟩
  | .str, .str => some ⟨rfl⟩
  | .nil, .nil => some ⟨rfl⟩
  | .int j, .int k => if h : j = k then some ⟨h ▸ rfl⟩ else none
  | .slice a, .slice b => match a.eq? b with | some ⟨h⟩ => some ⟨h ▸ rfl⟩ | none => none
  | .cons a b, .cons c d => match a.eq? c, b.eq? d with | some ⟨h⟩, some ⟨g⟩ => some ⟨h ▸ g ▸ rfl⟩ | _, _ => none
  | _, _ => none
def Ty.cast (a b : Ty) (x : a.den) : Option b.den := match a.eq? b with | some ⟨h⟩ => some (h ▸ x) | none => none
def Ty.dflt : (t : Ty) → t.den
  | .bool => false | .int _ => (0 : Int) | .str => ByteArray.empty | .slice _ => [] | .nil => () | .cons t ts => (t.dflt, ts.dflt)
def Ty.size : Ty → Nat
  | .cons _ ts => ts.size + 1 | _ => 0
def Ty.isSl : Ty → Bool | .slice _ => true | _ => false
/-- does a row of cells hold a slice -/
def Ty.hasSl : Ty → Bool | .cons t ts => t.isSl || ts.hasSl | _ => false
/-! ### The pure words -/
def addI (k : IntKind) (x y : Int) : Int := k.wrap (x + y)
def subI (k : IntKind) (x y : Int) : Int := k.wrap (x - y)
def mulI (k : IntKind) (x y : Int) : Int := k.wrap (x * y)
def quoI (k : IntKind) (x y : Int) : Int := k.wrap (x.tdiv y)
def remI (x y : Int) : Int := x.tmod y
def andI (k : IntKind) (x y : Int) : Int := k.wrap (BitVec.ofInt k.bits x &&& BitVec.ofInt k.bits y).toNat
def orI (k : IntKind) (x y : Int) : Int := k.wrap (BitVec.ofInt k.bits x ||| BitVec.ofInt k.bits y).toNat
def xorI (k : IntKind) (x y : Int) : Int := k.wrap (BitVec.ofInt k.bits x ^^^ BitVec.ofInt k.bits y).toNat
def shlI (k : IntKind) (x y : Int) : Int := k.wrap (x * 2 ^ min y.toNat k.bits)
def shrI (k : IntKind) (x y : Int) : Int := x.fdiv (2 ^ min y.toNat k.bits)
def cvtI (k : IntKind) (x : Int) : Int := k.wrap x
def maxI (x y : Int) : Int := if y > x then y else x
def minI (x y : Int) : Int := if y < x then y else x
def eqI (x y : Int) : Bool := decide (x = y)
def ltI (x y : Int) : Bool := decide (x < y)
def leI (x y : Int) : Bool := decide (x ≤ y)
def eqN (i j : Nat) : Bool := decide (i = j)
def notB (x : Bool) : Bool := !x
def eqB (x y : Bool) : Bool := x == y
def andB (x y : Bool) : Bool := x && y
def inR (i n : Int) : Bool := decide (0 ≤ i) && decide (i < n)
def upR (i n : Int) : Bool := decide (0 ≤ i) && decide (i ≤ n)
def natI (i : Int) : Nat := i.toNat
def ln {α : Type} (l : List α) : Int := (l.length : Int)
def rd (ts : Ty) (l : List ts.den) (i : Nat) : ts.den := l.getD i ts.dflt
def upd {α : Type} (l : List α) (i : Nat) (y : α) : List α := l.set i y
def app {α : Type} (l m : List α) : List α := l ++ m
def tk {α : Type} (l : List α) (i : Nat) : List α := l.take i
def dp {α : Type} (l : List α) (i : Nat) : List α := l.drop i
def repl {α : Type} (n : Nat) (x : α) : List α := List.replicate n x
def fitL {α : Type} (l m : List α) : Bool := !Nat.ble 68719476736 (l.length + m.length)
def fitN (n : Int) : Bool := decide (0 ≤ n) && !Nat.ble 68719476736 n.toNat
def br {α : Type} (c : Bool) (a b : Option α) : Option α := if c then a else b
/-- two ways that must come to the same -/
def both {α : Type} (x y : Option α) : Option α := @ite _ (x = y) (Classical.propDecidable _) x none
/-- is a slice nil: an empty one may be -/
def nilB {α β : Type} (l : List α) (a b : Option β) : Option β := match l with | [] => both a b | _ :: _ => b
def bnd {α β : Type} (x : Option α) (f : α → Option β) : Option β := x.bind f
def chk {α : Type} (b : Bool) (x : Option α) : Option α := match b with | true => x | false => none
def lett {α β : Type} (x : α) (f : α → Option β) : Option β := f x
def loopN {R : Type} {α : Type} (F : (α → Option R) → α → Option R) : Nat → α → Option R
  | 0, _ => none
  | k + 1, c => F (loopN F k) c
/-! ### Abstract values and states -/
/-- What a temporary or a box's cell holds. 'nil' and 'cons' make rows of such.
rp: an address in read cells; bp: in a box; ep: in an own row's element i; sl: an own row; hd, tl: its front, its end; il: the own row in cell f of an own row's element i; ip: an address in it;
pd: what an append onto it, or a cut of it, gave. -/
inductive AV where
  | undef
  | val (t : Ty) (x : t.den)
  | nl (ts : Ty)
  | agg (cs : AV)
  | tup (vs : AV)
  | rp (ts : Ty) (x : ts.den) (f : Nat)
  | bp (r f : Nat)
  | ep (r a i f : Nat)
  | sl (r a : Nat)
  | hd (r a n : Nat)
  | tl (r a lo : Nat)
  | il (r v i f : Nat)
  | ip (r v i f j g : Nat)
  | pd (r v i f : Nat) (us : Ty) (l : List us.den)
  | fn (f : Nat) (caps : AV)
  | nil
  | cons (a as : AV)
def AV.toList : AV → List AV | .cons a as => a :: as.toList | _ => []
def AV.ofList : List AV → AV | [] => .nil | a :: as => .cons a (AV.ofList as)
/-- own: the slices in the row's cells are the call's own as well. -/
inductive RK where
  | box (cs : List AV) (st : List Nat)
  | row (own : Bool) (ts : Ty) (l : List ts.den)
  | fro (ts : Ty) (l : List ts.den)
  | dead
structure Root where
  k : RK
  ver : Nat
  anc : Nat
structure St where
  tmps : List AV
  roots : List Root
/-- What the evaluator is told of a type: is it a struct, its cells, a slice's element, whether the slices in such a slice's elements are own, whether its cells are compared one by one, a struct's fields: offset, cells, is it a struct. -/
structure TI where
  agg : Bool
  cells : Ty
  elem : Nat
  own : Bool
  eq : Bool
  offs : List (Nat × Nat × Bool)
/-- How a parameter or a result is handed: behind a pointer; its slices read (0), own rows of read slices (1), own all through (2). -/
structure Md where
  ptr : Bool
  sm : Nat
/-- n results, and behind them the new contents of the parameters that are lent. -/
structure Sig where
  params : Ty
  pm : List Md
  res : Ty
  rm : List Md
  n : Nat
  f : Nat → params.den → Option res.den
inductive Place where
  | slot (s : Nat) | cell (r f : Nat) | root (r : Nat)
/-- what a meeting or a loop hands on: where it stands, how, its kind -/
structure It where
  p : Place
  m : Md
  t : Ty
/-- drops: rows that end there -/
structure Hint where
  id : Nat
  drops : List Nat
  items : List It
inductive Ent where
  | sig (s : Sig)
  | inl (fn : Func) (H : List Hint)
def sameSt : List Nat → List Nat → Bool
  | [], [] => true
  | s :: ss, t :: ts => Nat.beq s t && sameSt ss ts
  | _, _ => false
/-- a root whose content stands as it stood -/
def sameR (R R' : List Root) (r : Nat) : Bool := match R[r]?, R'[r]? with
  | some p, some q => match p.k, q.k with
    | .box _ ss, .box _ ts => sameSt ss ts
    | .row _ _ _, .row _ _ _ => Nat.beq p.ver q.ver
    | _, _ => false
  | _, _ => false
def look {α : Type} : List (Nat × α) → Nat → Option α
  | [], _ => none
  | (k, x) :: l, n => match Nat.beq k n with | true => some x | false => look l n
def St.get (σ : St) (t : Nat) : AV := σ.tmps.getD t .undef
def St.put (σ : St) (d : Option Nat) (v : AV) : St := match d with | some d => ⟨σ.tmps.set d v, σ.roots⟩ | none => σ
def addRoots (σ : St) (qs : List Root) : St := ⟨σ.tmps, σ.roots ++ qs⟩
def newRoot (σ : St) (k : RK) : St := addRoots σ [⟨k, 0, 0⟩]
def setRoot (σ : St) (r : Nat) (q : Root) : St := ⟨σ.tmps, σ.roots.set r q⟩
def memN (n : Nat) : List Nat → Bool
  | [] => false
  | m :: ms => Nat.beq n m || memN n ms
def nodupN : List Nat → Bool
  | [] => true
  | m :: ms => !memN m ms && nodupN ms
def apartN (l : List Nat) : List Nat → Bool
  | [] => true
  | m :: ms => !memN m l && apartN l ms
/-! ### Rows within rows -/
def innerOf : (ts : Ty) → ts.den → Nat → Option ((us : Ty) × List us.den)
  | .cons (.slice us) _, x, 0 => some ⟨us, x.1⟩
  | .cons _ ts, x, f + 1 => innerOf ts x.2 f
  | _, _, _ => none
def setInner : (ts : Ty) → ts.den → Nat → (us : Ty) → List us.den → Option ts.den
  | .cons (.slice vs) _, x, 0, us, l => match (Ty.slice us).cast (.slice vs) l with | some y => some (y, x.2) | none => none
  | .cons _ ts, x, f + 1, us, l => match setInner ts x.2 f us l with | some y => some (x.1, y) | none => none
  | _, _, _, _, _ => none
/-- what a slice holds: its elements' row and the list -/
def sliceOf (σ : St) : AV → Option ((ts : Ty) × List ts.den)
  | .val (.slice ts) l => some ⟨ts, l⟩
  | .nl ts => some ⟨ts, []⟩
  | .sl r a => match σ.roots[r]? with
    | some ⟨.row _ ts l, _, b⟩ => match Nat.beq a b with | true => some ⟨ts, l⟩ | false => none
    | some ⟨.fro ts l, _, b⟩ => match Nat.beq a b with | true => some ⟨ts, l⟩ | false => none
    | _ => none
  | .hd r a n => match σ.roots[r]? with
    | some ⟨.row _ ts l, _, b⟩ => match Nat.beq a b with | true => some ⟨ts, tk l n⟩ | false => none
    | some ⟨.fro ts l, _, b⟩ => match Nat.beq a b with | true => some ⟨ts, tk l n⟩ | false => none
    | _ => none
  | .tl r a n => match σ.roots[r]? with
    | some ⟨.row _ ts l, _, b⟩ => match Nat.beq a b with | true => some ⟨ts, dp l n⟩ | false => none
    | some ⟨.fro ts l, _, b⟩ => match Nat.beq a b with | true => some ⟨ts, dp l n⟩ | false => none
    | _ => none
  | .il r v i f => match σ.roots[r]? with
    | some ⟨.row true ts l, w, _⟩ => match Nat.beq v w with | true => innerOf ts (rd ts l i) f | false => none
    | _ => none
  | .pd r v i f us l => match σ.roots[r]? with
    | some ⟨.row true _ _, w, _⟩ => match Nat.beq v w with | true => some ⟨us, l⟩ | false => none
    | _ => none
  | _ => none
/-- cells of an element as abstract values: k is the first cell's number in the element -/
def takeEl (own : Bool) (r v i : Nat) : (ts : Ty) → ts.den → (f n k : Nat) → AV
  | .cons t ts, x, 0, n + 1, k => .cons (match own && t.isSl with | true => .il r v i k | false => .val t x.1) (takeEl own r v i ts x.2 0 n (k + 1))
  | .cons _ ts, x, f + 1, n, k => takeEl own r v i ts x.2 f n (k + 1)
  | _, _, _, _, _ => .nil
def takeAV (ts : Ty) (x : ts.den) (f n : Nat) : AV := takeEl false 0 0 0 ts x f n 0
/-- is a row's flag the one that is asked for -/
def okOwn (sm : Nat) (own : Bool) (ts : Ty) : Bool := own == (Nat.beq sm 2 && ts.hasSl)
/-- an abstract value as the contents of one cell that is stored; own: a slice must be an own row -/
def cellOf (σ : St) (own : Bool) (t : Ty) : AV → Option t.den
  | .val u x => match own && t.isSl with | true => none | false => u.cast t x
  | .nl ts => (Ty.slice ts).cast t []
  | .sl r a => match σ.roots[r]? with
    | some ⟨.row o ts l, _, b⟩ => match Nat.beq a b && (!own || !o) with | true => (Ty.slice ts).cast t l | false => none
    | some ⟨.fro ts l, _, b⟩ => match Nat.beq a b && !own with | true => (Ty.slice ts).cast t l | false => none
    | _ => none
  | .hd r a n => match σ.roots[r]? with
    | some ⟨.row o ts l, _, b⟩ => match Nat.beq a b && (!own || !o) with | true => (Ty.slice ts).cast t (tk l n) | false => none
    | some ⟨.fro ts l, _, b⟩ => match Nat.beq a b && !own with | true => (Ty.slice ts).cast t (tk l n) | false => none
    | _ => none
  | .tl r a n => match σ.roots[r]? with
    | some ⟨.row o ts l, _, b⟩ => match Nat.beq a b && !o with | true => (Ty.slice ts).cast t (dp l n) | false => none
    | some ⟨.fro ts l, _, b⟩ => match Nat.beq a b && !own with | true => (Ty.slice ts).cast t (dp l n) | false => none
    | _ => none
  | _ => none
/-- the own row that a cell holds -/
def rowIn (σ : St) (r : Nat) : Bool := match σ.roots[r]? with | some ⟨.row _ _ _, _, _⟩ => true | _ => false
def rowOf (σ : St) : AV → List Nat
  | .sl r _ => (match rowIn σ r with | true => [r] | false => [])
  | .hd r _ _ => (match rowIn σ r with | true => [r] | false => [])
  | .tl r _ _ => (match rowIn σ r with | true => [r] | false => [])
  | _ => []
/-- the own rows that cells hold -/
def rowsIn (σ : St) : AV → List Nat
  | .cons v as => rowOf σ v ++ rowsIn σ as
  | _ => []
def putEl (σ : St) (own : Bool) : (ts : Ty) → ts.den → Nat → AV → Option ts.den
  | .cons _ ts, x, f + 1, a => match putEl σ own ts x.2 f a with | some y => some (x.1, y) | none => none
  | .cons t ts, x, 0, .cons v a => match cellOf σ own t v, putEl σ own ts x.2 0 a with | some v, some y => some (v, y) | _, _ => none
  | _, x, _, .nil => some x
  | _, _, _, _ => none
/-- rows that are absorbed (own) or read only from now on -/
def eatOne (own : Bool) (q : Root) : Root := match own, q.k with
  | true, .row _ _ _ => ⟨.dead, q.ver + 1, q.anc + 1⟩
  | false, .row _ ts l => ⟨.fro ts l, q.ver + 1, q.anc⟩
  | _, _ => q
def eatAt (own : Bool) (σ : St) (r : Nat) : St := match σ.roots[r]? with | some q => setRoot σ r (eatOne own q) | none => σ
def eat (own : Bool) (σ : St) : List Nat → St
  | [] => σ
  | r :: rs => eat own (eatAt own σ r) rs
/-- may these rows be eaten: an absorbed one stands there once -/
def eatOk (own : Bool) (rs : List Nat) : Bool := !own || nodupN rs
/-- a value of one cell that is known -/
def okCell (σ : St) : AV → Bool
  | .val .nil _ => false
  | .val (.cons _ _) _ => false
  | .val _ _ => true
  | .nl _ => true
  | .sl r a => match σ.roots[r]? with
    | some ⟨.row _ _ _, _, b⟩ => Nat.beq a b
    | some ⟨.fro _ _, _, b⟩ => Nat.beq a b
    | _ => false
  | .hd r a _ => match σ.roots[r]? with
    | some ⟨.row _ _ _, _, b⟩ => Nat.beq a b
    | some ⟨.fro _ _, _, b⟩ => Nat.beq a b
    | _ => false
  | .tl r a _ => match σ.roots[r]? with
    | some ⟨.row _ _ _, _, b⟩ => Nat.beq a b
    | some ⟨.fro _ _, _, b⟩ => Nat.beq a b
    | _ => false
  | .il r v i f => match σ.roots[r]? with
    | some ⟨.row true ts l, w, _⟩ => Nat.beq v w
    | _ => false
  | .pd r v _ _ _ _ => match σ.roots[r]? with
    | some ⟨.row true _ _, w, _⟩ => Nat.beq v w
    | _ => false
  | .bp r _ => match σ.roots[r]? with | some ⟨.box _ _, _, _⟩ => true | _ => false
  | .fn _ _ => true
  | _ => false
def okCells (σ : St) : AV → Bool
  | .nil => true
  | .cons a as => okCell σ a && okCells σ as
  | _ => false
/-- a value's cells; none where they are not known -/
def cellsOf (σ : St) : AV → AV
  | .agg cs => match okCells σ cs with | true => cs | false => .nil
  | v => match okCell σ v with | true => .cons v .nil | false => .nil
/-- A front or an end of an own row that is kept becomes the row. -/
def cutTl (σ : St) : AV → AV × St
  | .hd r a n => match σ.roots[r]? with
    | some ⟨.row o ts l, v, b⟩ => match Nat.beq a b with
      | true => (.sl r (a + 1), setRoot σ r ⟨.row o ts (tk l n), v + 1, a + 1⟩)
      | false => (.undef, σ)
    | some ⟨.fro ts l, v, b⟩ => match Nat.beq a b with
      | true => (.val (.slice ts) (tk l n), σ)
      | false => (.undef, σ)
    | _ => (.undef, σ)
  | .tl r a n => match σ.roots[r]? with
    | some ⟨.row false ts l, v, b⟩ => match Nat.beq a b with
      | true => (.sl r (a + 1), setRoot σ r ⟨.row false ts (dp l n), v + 1, a + 1⟩)
      | false => (.undef, σ)
    | some ⟨.fro ts l, v, b⟩ => match Nat.beq a b with
      | true => (.val (.slice ts) (dp l n), σ)
      | false => (.undef, σ)
    | _ => (.undef, σ)
  | v => (v, σ)
def ofVal : Value → AV
  | .bool b => .val .bool b
  | .int k n => .val (.int k) n
  | .string s => .val .str s
  | _ => .undef
def ofVals : List Value → AV | [] => .nil | v :: vs => .cons (ofVal v) (ofVals vs)
def St.eval (σ : St) : Operand → AV
  | .tmp t => σ.get t
  | .const (.agg cs) => .agg (ofVals cs.toList)
  | .const v => ofVal v
  | .func f => .fn f .nil
  | .global _ => .undef
def binI (op : BinOp) (k : IntKind) (x y : Int) : Option (Option Bool × AV) := match op with
  | .add => some (none, .val (.int k) (addI k x y))
  | .sub => some (none, .val (.int k) (subI k x y))
  | .mul => some (none, .val (.int k) (mulI k x y))
  | .quo => some (some (notB (eqI y 0)), .val (.int k) (quoI k x y))
  | .rem => some (some (notB (eqI y 0)), .val (.int k) (remI x y))
  | .and => some (none, .val (.int k) (andI k x y))
  | .or => some (none, .val (.int k) (orI k x y))
  | .xor => some (none, .val (.int k) (xorI k x y))
  | .eql => some (none, .val .bool (eqI x y))
  | .neq => some (none, .val .bool (notB (eqI x y)))
  | .lss => some (none, .val .bool (ltI x y))
  | .leq => some (none, .val .bool (leI x y))
  | .gtr => some (none, .val .bool (ltI y x))
  | .geq => some (none, .val .bool (leI y x))
  | _ => none
/-- two rows of cells with numbers and bools alike -/
def eqCs : Ty → AV → AV → Option Bool
  | .nil, .nil, .nil => some true
  | .cons (.int _) ts, .cons (.val (.int j) x) a, .cons (.val (.int k) y) b => match decide (j = k), eqCs ts a b with | true, some c => some (andB (eqI x y) c) | _, _ => none
  | .cons .bool ts, .cons (.val .bool x) a, .cons (.val .bool y) b => match eqCs ts a b with | some c => some (andB (eqB x y) c) | none => none
  | _, _, _ => none
/-- T: the operands' type, asked where bools or structs are compared; the Bool: what must hold -/
def binop (tab : List (Nat × TI)) (T : Nat) (op : BinOp) (x y : AV) : Option (Option Bool × AV) := match x, y with
  | .val (.int j) x, .val (.int k) y => match op with
    | .shl => some (some (leI 0 y), .val (.int j) (shlI j x y))
    | .shr => some (some (leI 0 y), .val (.int j) (shrI j x y))
    | op => if j = k then binI op j x y else none
  | .val .bool x, .val .bool y => match look tab T with
    | some ⟨false, .cons .bool .nil, _, _, _, _⟩ => (match op with
      | .eql => some (none, .val .bool (eqB x y)) | .neq => some (none, .val .bool (notB (eqB x y))) | _ => none)
    | _ => none
  | .agg a, .agg b => match look tab T with
    | some ⟨true, ts, _, _, true, _⟩ => (match op with
      | .eql => match eqCs ts a b with | some c => some (none, .val .bool c) | none => none
      | .neq => match eqCs ts a b with | some c => some (none, .val .bool (notB c)) | none => none
      | _ => none)
    | _ => none
  | _, _ => none
section
variable (tab : List (Nat × TI)) (soft : Bool) (Γ : List (Nat × Ent)) {R : Type}
/-- an address whose place is known -/
def ptrOk (σ : St) : AV → Bool
  | .rp _ _ _ => true
  | .bp r _ => match σ.roots[r]? with | some ⟨.box _ _, _, _⟩ => true | _ => false
  | .ep r a _ _ => match σ.roots[r]? with | some ⟨.row _ _ _, _, b⟩ => Nat.beq a b | _ => false
  | .ip r v _ _ _ _ => match σ.roots[r]? with | some ⟨.row true _ _, w, _⟩ => Nat.beq v w | _ => false
  | _ => false
/-- a slice type's elements: are the slices in their cells own, their row of cells -/
def elemTs (T : Nat) : Option (Bool × Ty) := match look tab T with
  | some ⟨false, .cons (.slice _) .nil, e, o, _, _⟩ => match look tab e with | some j => some (o && j.cells.hasSl, j.cells) | none => none
  | _ => none
def oneB (g : Bool) (a : AV) : AV := match g with | true => .agg a | false => match a with | .cons v _ => v | _ => .undef
def one (i : TI) (a : AV) : AV := oneB i.agg a
def dropAV : Nat → AV → AV
  | 0, a => a
  | n + 1, .cons _ a => dropAV n a
  | _, _ => .nil
def headAV : Nat → AV → AV
  | n + 1, .cons v a => .cons v (headAV n a)
  | _, _ => .nil
def setCells : List AV → List Nat → Nat → AV → List AV × List Nat
  | c :: cs, s :: ss, f + 1, a => let q := setCells cs ss f a; (c :: q.1, s :: q.2)
  | _ :: cs, s :: ss, 0, .cons v a => let q := setCells cs ss 0 a; (v :: q.1, (s + 1) :: q.2)
  | cs, ss, _, _ => (cs, ss)
def lenAV : AV → Nat | .cons _ a => lenAV a + 1 | _ => 0
/-- zero cells of a box: slices as nil -/
def zeroAV : (ts : Ty) → AV
  | .cons (.slice us) ts => .cons (.nl us) (zeroAV ts)
  | .cons t ts => .cons (.val t t.dflt) (zeroAV ts)
  | _ => .nil
def overAV : Nat → AV → AV → AV
  | 0, .cons v a, .cons _ cs => .cons v (overAV 0 a cs)
  | 0, _, cs => cs
  | n + 1, a, .cons c cs => .cons c (overAV n a cs)
  | _, _, cs => cs
def partsAV (σ : St) (offs : List (Nat × Nat × Bool)) : List (Nat × Operand) → AV → Option AV
  | [], cs => some cs
  | (i, x) :: ps, cs => match offs[i]? with
    | some o => chk (Nat.beq (lenAV (cellsOf σ (σ.eval x))) o.2.1 && Nat.ble (o.1 + o.2.1) (lenAV cs)) (partsAV σ offs ps (overAV o.1 (cellsOf σ (σ.eval x)) cs))
    | none => none
def elemsOf (σ : St) (own : Bool) (ts : Ty) : List (Nat × Operand) → List ts.den → Option (List ts.den)
  | [], l => some l
  | (i, x) :: ps, l => match putEl σ own ts ts.dflt 0 (cellsOf σ (σ.eval x)) with
    | some y => chk (Nat.beq (lenAV (cellsOf σ (σ.eval x))) ts.size && Nat.blt i l.length) (elemsOf σ own ts ps (l.set i y))
    | none => none
def partRows (σ : St) : List (Nat × Operand) → List Nat
  | [] => []
  | (_, x) :: ps => rowsIn σ (cellsOf σ (σ.eval x)) ++ partRows σ ps
/-! ### What is handed to a call, and back -/
/-- where an own part of an argument stands -/
inductive Sr where
  | nul | row (r : Nat) | inn (r i f : Nat) | box (r f n : Nat)
def Sr.id : Sr → List Nat
  | .nul => [] | .row r => [r] | .inn r _ _ => [r] | .box r _ _ => [r]
def srcIds : List Sr → List Nat
  | [] => []
  | s :: ss => s.id ++ srcIds ss
def isOwn (sm : Nat) (t : Ty) : Bool := !Nat.beq sm 0 && t.isSl
/-- one cell, or a value that is no struct -/
def outCell (σ : St) (sm : Nat) (t : Ty) (v : AV) : Option t.den :=
  match isOwn sm t with
  | false => match t, v with
    | .slice us, v => match sliceOf σ v with | some l => (Ty.slice l.1).cast (.slice us) l.2 | none => none
    | t, .val u x => u.cast t x
    | _, _ => none
  | true => match v with
    | .nl ts => (Ty.slice ts).cast t []
    | .sl r a => match σ.roots[r]? with
      | some ⟨.row o ts l, _, b⟩ => match Nat.beq a b && okOwn sm o ts with | true => (Ty.slice ts).cast t l | false => none
      | _ => none
    | .hd r a n => match σ.roots[r]? with
      | some ⟨.row o ts l, _, b⟩ => match Nat.beq a b && okOwn sm o ts with | true => (Ty.slice ts).cast t (tk l n) | false => none
      | _ => none
    | .tl r a n => match σ.roots[r]? with
      | some ⟨.row o ts l, _, b⟩ => match Nat.beq a b && okOwn sm o ts && !o with | true => (Ty.slice ts).cast t (dp l n) | false => none
      | _ => none
    | .il r v i f => match σ.roots[r]? with
      | some ⟨.row true ts l, w, _⟩ => match innerOf ts (rd ts l i) f with
        | some ⟨us, m⟩ => match Nat.beq v w && okOwn sm false us with | true => (Ty.slice us).cast t m | false => none
        | none => none
      | _ => none
    | _ => none
def srcCell (sm : Nat) (t : Ty) (v : AV) : List Sr := match isOwn sm t with
  | false => []
  | true => match v with
    | .sl r _ => [.row r]
    | .hd r _ _ => [.row r]
    | .tl r _ _ => [.row r]
    | .il r _ i f => [.inn r i f]
    | _ => [.nul]
/-- the own rows that a part which is only read stands in -/
def roCell (σ : St) (sm : Nat) (t : Ty) (v : AV) : List Nat := match isOwn sm t with
  | true => []
  | false => match v with
    | .sl r _ => (match σ.roots[r]? with | some ⟨.row _ _ _, _, _⟩ => [r] | _ => [])
    | .hd r _ _ => (match σ.roots[r]? with | some ⟨.row _ _ _, _, _⟩ => [r] | _ => [])
    | .tl r _ _ => (match σ.roots[r]? with | some ⟨.row _ _ _, _, _⟩ => [r] | _ => [])
    | .il r _ _ _ => (match σ.roots[r]? with | some ⟨.row _ _ _, _, _⟩ => [r] | _ => [])
    | .pd r _ _ _ _ _ => (match σ.roots[r]? with | some ⟨.row _ _ _, _, _⟩ => [r] | _ => [])
    | _ => []
def outCells (σ : St) (sm : Nat) : (ts : Ty) → AV → Option ts.den
  | .nil, .nil => some ()
  | .cons t ts, .cons v a => match outCell σ sm t v, outCells σ sm ts a with | some x, some y => some (x, y) | _, _ => none
  | _, _ => none
def srcCells (sm : Nat) : Ty → AV → List Sr
  | .cons t ts, .cons v a => srcCell sm t v ++ srcCells sm ts a
  | _, _ => []
def roCells (σ : St) (sm : Nat) : Ty → AV → List Nat
  | .cons t ts, .cons v a => roCell σ sm t v ++ roCells σ sm ts a
  | _, _ => []
/-- the cells behind a pointer into a box -/
def boxCells (σ : St) (r f n : Nat) : AV := match σ.roots[r]? with
  | some ⟨.box cs _, _, _⟩ => headAV n (dropAV f (.ofList cs))
  | _ => .nil
def isBoxAt (R : List Root) (r : Nat) : Bool := match R[r]? with | some ⟨.box _ _, _, _⟩ => true | _ => false
def isCons : Ty → Bool | .cons _ _ => true | .nil => true | _ => false
def outOne (σ : St) (m : Md) (t : Ty) (v : AV) : Option t.den := match m.ptr with
  | true => match v with
    | .bp r f => match isBoxAt σ.roots r with | true => outCells σ m.sm t (boxCells σ r f t.size) | false => none
    | _ => none
  | false => match isCons t with
    | true => match v with
      | .agg cs => outCells σ m.sm t cs
      | _ => none
    | false => outCell σ m.sm t v
def srcOne (σ : St) (m : Md) (t : Ty) (v : AV) : List Sr := match m.ptr with
  | true => match v with
    | .bp r f => .box r f t.size :: srcCells m.sm t (boxCells σ r f t.size)
    | _ => []
  | false => match isCons t with
    | true => match v with
      | .agg cs => srcCells m.sm t cs
      | _ => []
    | false => srcCell m.sm t v
def roOne (σ : St) (m : Md) (t : Ty) (v : AV) : List Nat := match m.ptr with
  | true => match v with
    | .bp r f => roCells σ m.sm t (boxCells σ r f t.size)
    | _ => []
  | false => match isCons t with
    | true => match v with
      | .agg cs => roCells σ m.sm t cs
      | _ => []
    | false => roCell σ m.sm t v
def outAll (σ : St) : (ts : Ty) → List Md → List AV → Option ts.den
  | .nil, [], [] => some ()
  | .cons t ts, m :: ms, v :: vs => match outOne σ m t v, outAll σ ts ms vs with | some x, some y => some (x, y) | _, _ => none
  | _, _, _ => none
def srcAll (σ : St) : Ty → List Md → List AV → List Sr
  | .cons t ts, m :: ms, v :: vs => srcOne σ m t v ++ srcAll σ ts ms vs
  | _, _, _ => []
def roAll (σ : St) : Ty → List Md → List AV → List Nat
  | .cons t ts, m :: ms, v :: vs => roOne σ m t v ++ roAll σ ts ms vs
  | _, _, _ => []
/-- own parts that come in: new roots, numbered from n on -/
def inCell (sm : Nat) (t : Ty) (x : t.den) (n : Nat) : AV := match isOwn sm t with | true => .sl n 0 | false => .val t x
def rowCell (sm : Nat) (t : Ty) (x : t.den) : List Root := match isOwn sm t with
  | true => match t, x with
    | .slice us, x => [⟨.row (Nat.beq sm 2 && us.hasSl) us x, 0, 0⟩]
    | _, _ => []
  | false => []
def idsCell (sm : Nat) (t : Ty) : Nat := match isOwn sm t with | true => 1 | false => 0
def inCells (sm : Nat) : (ts : Ty) → ts.den → Nat → AV
  | .cons t ts, x, n => .cons (inCell sm t x.1 n) (inCells sm ts x.2 (n + idsCell sm t))
  | _, _, _ => .nil
def rowCells (sm : Nat) : (ts : Ty) → ts.den → List Root
  | .cons t ts, x => rowCell sm t x.1 ++ rowCells sm ts x.2
  | _, _ => []
def idsCells (sm : Nat) : Ty → Nat
  | .cons t ts => idsCell sm t + idsCells sm ts
  | _ => 0
def inOne (m : Md) (t : Ty) (x : t.den) (n : Nat) : AV := match m.ptr with
  | true => .bp n 0
  | false => match isCons t with | true => .agg (inCells m.sm t x n) | false => inCell m.sm t x n
def rowOne (m : Md) (t : Ty) (x : t.den) (n : Nat) : List Root := match m.ptr with
  | true => let cs := (inCells m.sm t x (n + 1)).toList; ⟨.box cs (cs.map fun _ => 0), 0, 0⟩ :: rowCells m.sm t x
  | false => match isCons t with | true => rowCells m.sm t x | false => rowCell m.sm t x
def idsOne (m : Md) (t : Ty) : Nat := match m.ptr with
  | true => 1 + idsCells m.sm t
  | false => match isCons t with | true => idsCells m.sm t | false => idsCell m.sm t
def inAll : (ts : Ty) → ts.den → List Md → Nat → List AV
  | .cons t ts, x, m :: ms, n => inOne m t x.1 n :: inAll ts x.2 ms (n + idsOne m t)
  | _, _, _, _ => []
def rowAll : (ts : Ty) → ts.den → List Md → Nat → List Root
  | .cons t ts, x, m :: ms, n => rowOne m t x.1 n ++ rowAll ts x.2 ms (n + idsOne m t)
  | _, _, _, _ => []
/-- what is put back: a root as it stands from now on; a box's cell -/
inductive Put where
  | root (r : Nat) (q : Root) | cell (r f : Nat) (v : AV)
def setCell (q : Root) (f : Nat) (v : AV) : Root := match q.k with | .box cs ss => ⟨.box (cs.set f v) (ss.set f (ss.getD f 0 + 1)), q.ver, q.anc⟩ | _ => q
def putAt (r : Nat) : List Put → Root → Root
  | [], q => q
  | .root r' q' :: ps, q => putAt r ps (match Nat.beq r' r with | true => q' | false => q)
  | .cell r' f v :: ps, q => putAt r ps (match Nat.beq r' r with | true => setCell q f v | false => q)
def putAll (ps : List Put) : Nat → List Root → List Root
  | _, [] => []
  | r, q :: qs => putAt r ps q :: putAll ps (r + 1) qs
def puts (ps : List Put) (R : List Root) : List Root := match ps with | [] => R | _ => putAll ps 0 R
/-- the new contents of a lent own row -/
def backCell (σ : St) (sm : Nat) (t : Ty) (y : t.den) (v : AV) : Option (List Put) := match isOwn sm t with
  | false => some []
  | true => match t, y, v with
    | .slice _, _, .nl _ => some []
    | .slice us, y, .sl r a => match σ.roots[r]? with
      | some ⟨.row o ts l, v, b⟩ => match Nat.beq a b && okOwn sm o ts, (Ty.slice us).cast (.slice ts) y with
        | true, some y => some [.root r ⟨.row o ts y, v + 1, a⟩]
        | _, _ => none
      | _ => none
    | .slice us, y, .il r v i f => match σ.roots[r]? with
      | some ⟨.row true ts l, w, a⟩ => match Nat.beq v w && okOwn sm false us, setInner ts (rd ts l i) f us y with
        | true, some z => some [.root r ⟨.row true ts (upd l i z), w + 1, a⟩]
        | _, _ => none
      | _ => none
    | _, _, _ => none
def backCells (σ : St) (sm : Nat) : (ts : Ty) → ts.den → AV → Option (List Put)
  | .nil, _, .nil => some []
  | .cons t ts, y, .cons v a => match backCell σ sm t y.1 v, backCells σ sm ts y.2 a with | some p, some ps => some (p ++ ps) | _, _ => none
  | _, _, _ => none
def killOne (q : Root) : Root := match q.k with | .box _ _ => q | .dead => q | _ => ⟨.dead, q.ver + 1, q.anc + 1⟩
def killAt (σ : St) (r : Nat) : St := match σ.roots[r]? with | some q => setRoot σ r (killOne q) | none => σ
def kill (σ : St) : List Nat → St
  | [] => σ
  | r :: rs => kill (killAt σ r) rs
def rowIds : List Sr → List Nat
  | [] => []
  | .row r :: ss => r :: rowIds ss
  | .inn r _ _ :: ss => r :: rowIds ss
  | _ :: ss => rowIds ss
def killPuts (σ : St) : List Nat → List Put
  | [] => []
  | r :: rs => match σ.roots[r]? with | some q => .root r (killOne q) :: killPuts σ rs | none => killPuts σ rs
def cellPuts (r : Nat) : Nat → AV → List Put
  | f, .cons v a => .cell r f v :: cellPuts r (f + 1) a
  | _, _ => []
/-- n: the next new root -/
def backOne (σ : St) (m : Md) (t : Ty) (y : t.den) (v : AV) (n : Nat) : Option (List Put × List Root) := match m.ptr with
  | true => match v with
    | .bp r f => match isBoxAt σ.roots r with
      | true => some (killPuts σ (rowIds (srcCells m.sm t (boxCells σ r f t.size))) ++ cellPuts r f (inCells m.sm t y n), rowCells m.sm t y)
      | false => none
    | _ => none
  | false => match isCons t with
    | true => match v with
      | .agg cs => match backCells σ m.sm t y cs with | some ps => some (ps, []) | none => none
      | _ => none
    | false => match backCell σ m.sm t y v with | some ps => some (ps, []) | none => none
def isLent (m : Md) : Bool := m.ptr || !Nat.beq m.sm 0
/-- what a call's lent arguments hold behind it -/
def backAll (σ : St) : List (Md × Ty × AV) → (ts : Ty) → ts.den → List Md → Nat → Option (List Put × List Root)
  | [], .nil, _, [], _ => some ([], [])
  | (p, T, v) :: vs, ts, y, ms, n => match isLent p with
    | false => backAll σ vs ts y ms n
    | true => match ts, y, ms with
      | .cons t ts, y, m :: ms => match (m.ptr == p.ptr) && Nat.beq m.sm p.sm && (T.eq? t).isSome, backOne σ m t y.1 v n with
        | true, some (ps, rs) => (match backAll σ vs ts y.2 ms (n + rs.length) with | some (ps', rs') => some (ps ++ ps', rs ++ rs') | none => none)
        | _, _ => none
      | _, _, _ => none
  | _, _, _, _, _ => none
def withTys : Ty → List Md → List AV → List (Md × Ty × AV)
  | .cons t ts, m :: ms, v :: vs => (m, t, v) :: withTys ts ms vs
  | _, _, _ => []
def tupAV : List AV → AV
  | [v] => v
  | vs => .tup (.ofList vs)
/-- soft: own rows within rows come in as read only -/
def intake (soft : Bool) (m : Md) : Md := match soft with | true => ⟨m.ptr, match m.sm with | 2 => 1 | n => n⟩ | false => m
def backEnd (vs : List (Md × Ty × AV)) (K : AV → St → Option R) (σ : St) (ts : Ty) (y : ts.den) (ms : List Md) (acc : List AV) (N : List Root) : Option R :=
  match backAll σ vs ts y ms (σ.roots.length + N.length) with
  | some (ps, N') => K (tupAV acc) ⟨σ.tmps, puts ps σ.roots ++ (N ++ N')⟩
  | none => none
/-- a call's results, and behind them what its lent arguments hold -/
def callBack (soft : Bool) (vs : List (Md × Ty × AV)) (K : AV → St → Option R) (σ : St) : (n : Nat) → (ts : Ty) → ts.den → List Md → List AV → List Root → Option R
  | 0, ts, y, ms, acc, N => backEnd vs K σ ts y ms acc N
  | n + 1, .cons t ts, y, m :: ms, acc, N => callBack soft vs K σ n ts y.2 ms (acc ++ [inOne (intake soft m) t y.1 (σ.roots.length + N.length)]) (N ++ rowOne (intake soft m) t y.1 (σ.roots.length + N.length))
  | _, _, _, _, _, _ => none
def Ty.deep : Ty → Bool | .cons (.slice vs) ts => vs.hasSl || ts.deep | .cons _ ts => ts.deep | _ => false
/-- may a part that is handed back be read in what others own -/
def hasRoC (sm : Nat) : Ty → Bool
  | .slice us => match sm with | 0 => true | 1 => us.hasSl | 2 => us.deep | _ => true
  | _ => false
def hasRoCs (sm : Nat) : Ty → Bool
  | .cons t ts => hasRoC sm t || hasRoCs sm ts
  | t => hasRoC sm t
def hasRo : Ty → List Md → Bool
  | .cons t ts, m :: ms => hasRoCs m.sm t || hasRo ts ms
  | _, _ => false
def callSig (soft : Bool) (k : Nat) (g : Sig) (as : List AV) (σ : St) (K : AV → St → Option R) : Option R :=
  match outAll σ g.params g.pm as with
  | some x => chk (nodupN (srcIds (srcAll σ g.params g.pm as)) && apartN (srcIds (srcAll σ g.params g.pm as)) (roAll σ g.params g.pm as))
      (bnd (g.f k x) fun y => callBack soft (withTys g.params g.pm as) K (match hasRo g.res g.rm with | true => eat false σ (roAll σ g.params g.pm as) | false => σ) g.n g.res y g.rm [] [])
  | none => none
/-! ### Operations -/
/-- what an append takes, and the own rows that go into it -/
def srcOf (σ : St) (own : Bool) (ts : Ty) (v : AV) : Option (List ts.den × List Nat) :=
  match ts.hasSl with
  | false => match sliceOf σ v with
    | some l => (match (Ty.slice l.1).cast (.slice ts) l.2 with | some m => some (m, []) | none => none)
    | none => none
  | true => match v with
    | .nl us => match (Ty.slice us).cast (.slice ts) [] with | some m => some (m, []) | none => none
    | .val (.slice us) m => match own with | true => none | false => match (Ty.slice us).cast (.slice ts) m with | some m => some (m, []) | none => none
    | .sl r a => match σ.roots[r]? with
      | some ⟨.row o us m, _, b⟩ => match Nat.beq a b && (o || !own), (Ty.slice us).cast (.slice ts) m with
        | true, some m => some (m, [r])
        | _, _ => none
      | some ⟨.fro us m, _, b⟩ => match Nat.beq a b && !own, (Ty.slice us).cast (.slice ts) m with
        | true, some m => some (m, [])
        | _, _ => none
      | _ => none
    | _ => none
/-- the elements of a builtin's first argument's type -/
def argTs (b : Builtin) (Ts : List Nat) : Option (Bool × Ty) := match b with
  | .append => match Ts with
    | [T, T'] => match elemTs tab T' with | some _ => elemTs tab T | none => none
    | _ => none
  | _ => match Ts with
    | [T] => elemTs tab T
    | _ => none
/-- A builtin's call; us: the elements of the first argument's type. -/
def evBuiltin (b : Builtin) (us : Option (Bool × Ty)) (as : List AV) (σ : St) (K : AV → St → Option R) : Option R :=
  match b, as with
  | .len, [v] => match us, sliceOf σ v with
    | some _, some l => K (.val (.int .i64) (ln l.2)) σ
    | _, _ => none
  | .max, [.val (.int j) x, .val (.int k) y] => match decide (j = k) with | true => K (.val (.int j) (maxI x y)) σ | false => none
  | .min, [.val (.int j) x, .val (.int k) y] => match decide (j = k) with | true => K (.val (.int j) (minI x y)) σ | false => none
  | .append, [s, x] => match us with
    | some us => match s with
      | .nl ts => chk (Nat.beq us.2.size ts.size && (us.1 == (us.1 && ts.hasSl))) (match srcOf σ us.1 ts x with
        | some (m, rs) => br (fitL ([] : List ts.den) m) (K (.sl σ.roots.length 0) (newRoot (eat us.1 σ rs) (.row us.1 ts m))) none
        | none => none)
      | .sl r a => match σ.roots[r]? with
        | some ⟨.row o ts l, v, b⟩ => chk (Nat.beq a b && Nat.beq us.2.size ts.size) (match srcOf σ o ts x with
            | some (m, rs) => chk (!memN r rs) (br (fitL l m) (lett (app l m) fun l' => K (.sl r (b + 1)) (setRoot (eat o σ rs) r ⟨.row o ts l', v + 1, b + 1⟩)) none)
            | none => none)
        | _ => none
      | .hd r a n => match σ.roots[r]? with
        | some ⟨.row o ts l, v, b⟩ => chk (Nat.beq a b && Nat.beq us.2.size ts.size) (match srcOf σ o ts x with
            | some (m, rs) => chk (!memN r rs) (br (fitL (tk l n) m) (lett (app (tk l n) m) fun l' => K (.sl r (b + 1)) (setRoot (eat o σ rs) r ⟨.row o ts l', v + 1, b + 1⟩)) none)
            | none => none)
        | _ => none
      | .il r v i f => match σ.roots[r]? with
        | some ⟨.row true ts l, w, b⟩ => match innerOf ts (rd ts l i) f with
          | some ⟨vs, n⟩ => chk (Nat.beq v w && Nat.beq us.2.size vs.size && !vs.hasSl) (match srcOf σ false vs x with
            | some (m, _) => br (fitL n m) (lett (app n m) fun l' => K (.pd r (w + 1) i f vs l') (setRoot σ r ⟨.row true ts l, w + 1, b⟩)) none
            | none => none)
          | none => none
        | _ => none
      | _ => none
    | none => none
  | .clear, [.tl r a lo] => match us, σ.roots[r]? with
    | some us, some ⟨.row false ts l, v, b⟩ => chk (Nat.beq a b) (match us.2.cast ts us.2.dflt with
      | some y => K (.tup .nil) (setRoot σ r ⟨.row false ts (app (tk l lo) (repl (dp l lo).length y)), v + 1, b⟩)
      | none => none)
    | _, _ => none
  | _, _ => none
/-- One operation's value. 'call' handles calls of functions that are entered. -/
def evOp (call : Nat → List AV → St → (AV → St → Option R) → Option R) (k : Nat) (o : Oper) (σ : St) (K : AV → St → Option R) : Option R :=
  match o.op with
  | .move (.const (.slice none 0 0)) => match elemTs tab o.type with
    | some ts => K (.nl ts.2) σ
    | none => none
  | .assign (.const (.slice none 0 0)) => match elemTs tab o.type with
    | some ts => K (.nl ts.2) σ
    | none => none
  | .move x => K (σ.eval x) σ
  | .assign x => K (σ.eval x) σ
  | .pick c a b => match σ.eval c with
    | .val .bool c => br c (K (σ.eval a) σ) (K (σ.eval b) σ)
    | _ => none
  | .alloc T => match look tab T with
    | some i => let cs := (zeroAV i.cells).toList; K (.bp σ.roots.length 0) (newRoot σ (.box cs (cs.map fun _ => 0)))
    | none => none
  | .box T x => match look tab T with
    | some i => let cs := (cellsOf σ (σ.eval x)).toList
      chk (Nat.beq cs.length i.cells.size) (K (.bp σ.roots.length 0) (newRoot σ (.box cs (cs.map fun _ => 0))))
    | none => none
  | .load T x => match look tab T with
    | some i => match σ.eval x with
      | .rp ts x f => chk (Nat.ble (f + i.cells.size) ts.size) (K (one i (takeAV ts x f i.cells.size)) σ)
      | .bp r f => match σ.roots[r]? with
        | some ⟨.box cs _, _, _⟩ => chk (Nat.ble (f + i.cells.size) cs.length) (K (one i (headAV i.cells.size (dropAV f (.ofList cs)))) σ)
        | _ => none
      | .ep r a j f => match σ.roots[r]? with
        | some ⟨.row o ts l, v, b⟩ => chk (Nat.beq a b && Nat.ble (f + i.cells.size) ts.size) (lett (rd ts l j) fun e => K (one i (takeEl o r v j ts e f i.cells.size 0)) σ)
        | _ => none
      | .ip r v j f m g => match σ.roots[r]? with
        | some ⟨.row true ts l, w, _⟩ => match innerOf ts (rd ts l j) f with
          | some ⟨us, n⟩ => chk (Nat.beq v w && Nat.ble (g + i.cells.size) us.size) (lett (rd us n m) fun e => K (one i (takeAV us e g i.cells.size)) σ)
          | none => none
        | _ => none
      | _ => none
    | none => none
  | .store T x v => match look tab T with
    | some i => match σ.eval x with
      | .bp r f => chk (Nat.beq (lenAV (cellsOf σ (σ.eval v))) i.cells.size) (match σ.roots[r]? with
        | some ⟨.box cs ss, w, b⟩ => chk (Nat.ble (f + i.cells.size) cs.length) (K (.tup .nil) (setRoot σ r ⟨.box (setCells cs ss f (cellsOf σ (σ.eval v))).1 (setCells cs ss f (cellsOf σ (σ.eval v))).2, w, b⟩))
        | _ => none)
      | .ep r a j f => chk (Nat.beq (lenAV (cellsOf σ (σ.eval v))) i.cells.size) (match σ.roots[r]? with
        | some ⟨.row o ts l, w, b⟩ => chk (Nat.beq a b && Nat.ble (f + i.cells.size) ts.size) (match σ.eval v with
          | .pd r' v' i' f' us m => chk (o && Nat.beq r' r && Nat.beq v' w && Nat.beq f' f) (lett (rd ts l j) fun e => br (eqN i' j) (match setInner ts e f us m with
            | some y => lett (upd l j y) fun l' => K (.tup .nil) (setRoot σ r ⟨.row o ts l', w + 1, b⟩)
            | none => none) none)
          | _ => lett (rd ts l j) fun e => match putEl σ o ts e f (cellsOf σ (σ.eval v)) with
            | some y => chk (eatOk o (rowsIn σ (cellsOf σ (σ.eval v))) && !memN r (rowsIn σ (cellsOf σ (σ.eval v))))
                (lett (upd l j y) fun l' => K (.tup .nil) (setRoot (eat o σ (rowsIn σ (cellsOf σ (σ.eval v)))) r ⟨.row o ts l', w + 1, b⟩))
            | none => none)
        | _ => none)
      | .ip r v' j f m g => chk (Nat.beq (lenAV (cellsOf σ (σ.eval v))) i.cells.size) (match σ.roots[r]? with
        | some ⟨.row true ts l, w, b⟩ => lett (rd ts l j) fun e => match innerOf ts e f with
          | some ⟨us, n⟩ => chk (Nat.beq v' w && Nat.ble (g + i.cells.size) us.size && !us.hasSl) (match putEl σ false us (rd us n m) g (cellsOf σ (σ.eval v)) with
            | some y => match setInner ts e f us (upd n m y) with
              | some z => lett (upd l j z) fun l' => K (.tup .nil) (setRoot σ r ⟨.row true ts l', w + 1, b⟩)
              | none => none
            | none => none)
          | none => none
        | _ => none)
      | _ => none
    | none => none
  | .nilCheck x => chk (ptrOk σ (σ.eval x)) (K (σ.eval x) σ)
  | .binOp .eql T x (.const (.slice none 0 0)) _ => match elemTs tab T, sliceOf σ (σ.eval x) with
    | some _, some l => nilB l.2 (K (.val .bool true) σ) (K (.val .bool false) σ)
    | _, _ => none
  | .binOp .neq T x (.const (.slice none 0 0)) _ => match elemTs tab T, sliceOf σ (σ.eval x) with
    | some _, some l => nilB l.2 (K (.val .bool false) σ) (K (.val .bool true) σ)
    | _, _ => none
  | .binOp op T x y _ => match binop tab T op (σ.eval x) (σ.eval y) with | some (none, v) => K v σ | some (some b, v) => br b (K v σ) none | none => none
  | .unOp .not _ x => match σ.eval x with | .val .bool b => K (.val .bool (notB b)) σ | _ => none
  | .unOp .neg _ x => match σ.eval x with | .val (.int k) n => K (.val (.int k) (subI k 0 n)) σ | _ => none
  | .convert S D x => match σ.eval x, look tab D with
    | .val (.int _) n, some ⟨false, .cons (.int d) .nil, _, _, _, _⟩ => match look tab S with
      | some ⟨false, .cons (.int _) .nil, _, _, _, _⟩ => K (.val (.int d) (cvtI d n)) σ
      | _ => none
    | _, _ => none
  | .fieldAddr s x f => match look tab s with
    | some i => match i.offs[f]? with
      | some off => chk (ptrOk σ (σ.eval x)) <| match σ.eval x with
        | .rp ts x g => K (.rp ts x (g + off.1)) σ
        | .bp r g => K (.bp r (g + off.1)) σ
        | .ep r a j g => K (.ep r a j (g + off.1)) σ
        | .ip r v j f m g => K (.ip r v j f m (g + off.1)) σ
        | _ => none
      | none => none
    | none => none
  | .field s x f => match look tab s with
    | some i => match i.offs[f]?, σ.eval x with
      | some off, .agg cs => chk (Nat.ble (off.1 + off.2.1) (lenAV cs)) (K (oneB off.2.2 (headAV off.2.1 (dropAV off.1 cs))) σ)
      | _, _ => none
    | none => none
  | .indexAddr T x ix => match elemTs tab T, σ.eval ix with
    | some us, .val (.int _) n => match σ.eval x with
      | .val (.slice ts) l => chk (Nat.beq us.2.size ts.size) (br (inR n (ln l)) (lett (rd ts l (natI n)) fun e => K (.rp ts e 0) σ) none)
      | .sl r a => match σ.roots[r]? with
        | some ⟨.row _ ts l, _, b⟩ => chk (Nat.beq a b && Nat.beq us.2.size ts.size) (br (inR n (ln l)) (K (.ep r a (natI n) 0) σ) none)
        | some ⟨.fro ts l, _, b⟩ => chk (Nat.beq a b && Nat.beq us.2.size ts.size) (br (inR n (ln l)) (lett (rd ts l (natI n)) fun e => K (.rp ts e 0) σ) none)
        | _ => none
      | .hd r a m => match σ.roots[r]? with
        | some ⟨.row _ ts l, _, b⟩ => chk (Nat.beq a b && Nat.beq us.2.size ts.size) (br (inR n (ln (tk l m))) (K (.ep r a (natI n) 0) σ) none)
        | _ => none
      | .tl r a m => match σ.roots[r]? with
        | some ⟨.row _ ts l, _, b⟩ => chk (Nat.beq a b && Nat.beq us.2.size ts.size) (br (inR n (ln (dp l m))) (K (.ep r a (m + natI n) 0) σ) none)
        | _ => none
      | .il r v i f => match σ.roots[r]? with
        | some ⟨.row true ts l, w, _⟩ => match innerOf ts (rd ts l i) f with
          | some ⟨vs, m⟩ => chk (Nat.beq v w && Nat.beq us.2.size vs.size) (br (inR n (ln m)) (K (.ip r v i f (natI n) 0) σ) none)
          | none => none
        | _ => none
      | _ => none
    | _, _ => none
  | .extract x n => match σ.eval x with
    | .tup vs => match vs.toList[n]? with
      | some v => K v σ
      | none => none
    | _ => none
  | .build T ps => match look tab T with
    | some i => match partsAV σ i.offs ps.toList (zeroAV i.cells) with
      | some cs => chk i.agg (K (.agg cs) σ)
      | none => none
    | none => none
  | .buildSlice T n ps => match elemTs tab T with
    | some ts => match elemsOf σ ts.1 ts.2 ps.toList (List.replicate n ts.2.dflt) with
      | some l => chk (eatOk ts.1 (partRows σ ps.toList) && Nat.ble (n * ts.2.size) 16777216) (K (.sl σ.roots.length 0) (newRoot (eat ts.1 σ (partRows σ ps.toList)) (.row ts.1 ts.2 l)))
      | none => none
    | none => none
  | .makeSlice T l c => match elemTs tab T with
    | some ts => match σ.eval l, σ.eval c with
      | .val (.int .i64) n, .val (.int .i64) m => br (fitN n) (br (eqI n m) (K (.sl σ.roots.length 0) (newRoot σ (.row ts.1 ts.2 (repl (natI n) ts.2.dflt)))) none) none
      | _, _ => none
    | none => none
  | .slice T x lo hi none => match elemTs tab T with
    | some us => match σ.eval x with
      | .val (.slice ts) l => chk (Nat.beq us.2.size ts.size) (match lo.map σ.eval, hi.map σ.eval with
        | none, some (.val (.int _) h) => br (upR h (ln l)) (K (.val (.slice ts) (tk l (natI h))) σ) none
        | some (.val (.int _) g), none => br (upR g (ln l)) (K (.val (.slice ts) (dp l (natI g))) σ) none
        | _, _ => none)
      | .sl r a => match σ.roots[r]? with
        | some ⟨.row _ ts l, w, b⟩ => chk (Nat.beq a b && Nat.beq us.2.size ts.size) (match lo.map σ.eval, hi.map σ.eval with
          | none, some (.val (.int _) h) => br (upR h (ln l)) (K (.hd r a (natI h)) σ) none
          | some (.val (.int _) g), none => br (upR g (ln l)) (K (.tl r a (natI g)) σ) none
          | _, _ => none)
        | some ⟨.fro ts l, w, b⟩ => chk (Nat.beq a b && Nat.beq us.2.size ts.size) (match lo.map σ.eval, hi.map σ.eval with
          | none, some (.val (.int _) h) => br (upR h (ln l)) (K (.val (.slice ts) (tk l (natI h))) σ) none
          | some (.val (.int _) g), none => br (upR g (ln l)) (K (.val (.slice ts) (dp l (natI g))) σ) none
          | _, _ => none)
        | _ => none
      | .il r v i f => match σ.roots[r]? with
        | some ⟨.row true ts l, w, _⟩ => match innerOf ts (rd ts l i) f with
          | some ⟨vs, m⟩ => chk (Nat.beq v w && Nat.beq us.2.size vs.size) (match lo.map σ.eval, hi.map σ.eval with
            | none, some (.val (.int _) h) => br (upR h (ln m)) (K (.pd r v i f vs (tk m (natI h))) σ) none
            | _, _ => none)
          | none => none
        | _ => none
      | _ => none
    | none => none
  | .slice T x none (some (.const (.int _ 0))) (some (.const (.int _ 0))) => match elemTs tab T, sliceOf σ (σ.eval x) with
    | some us, some l => K (.nl l.1) σ
    | _, _ => none
  | .makeFunc (.func f) fs cs => match fs.toList with
    | [] => K (.fn f (.ofList (cs.toList.map σ.eval))) σ
    | _ => none
  | .call c => match c.callee with
    | .builtin b => evBuiltin b (argTs tab b c.argTypes.toList) (c.args.toList.map σ.eval) σ K
    | .value f => match σ.eval f with
      | .fn f caps => match look Γ f with
        | some (.sig g) => callSig soft k g (c.args.toList.map σ.eval ++ caps.toList) σ K
        | _ => call f (c.args.toList.map σ.eval ++ caps.toList) σ K
      | _ => none
    | _ => none
  | _ => none
inductive Ex where
  | normal | exit (id : Nat) | ret
def guardOf (all : List Oper) (σ : St) (j : Nat) : Option (Nat × Option Bool) := match all[j]? with
  | some o => match o.dst with
    | some d => match σ.get d with
      | .val .bool b => some (d, some b)
      | .tup .nil => some (d, none)
      | _ => none
    | none => none
  | none => none
/-- one operation, if it is wanted -/
def evOne (call : Nat → List AV → St → (AV → St → Option R) → Option R) (k : Nat) (all : List Oper) (o : Oper) (σ : St) (K : St → Option R) : Option R := match o.guard with
  | none => evOp tab soft Γ call k o σ fun v σ => K (σ.put o.dst v)
  | some (j, want) => match guardOf all σ j with
    | some (d, none) => K (σ.put o.dst (.tup .nil))
    | some (d, some b) => br b
        (let σ := σ.put (some d) (.val .bool true)
         match want with | true => evOp tab soft Γ call k o σ fun v σ => K (σ.put o.dst v) | false => K (σ.put o.dst (.tup .nil)))
        (let σ := σ.put (some d) (.val .bool false)
         match want with | true => K (σ.put o.dst (.tup .nil)) | false => evOp tab soft Γ call k o σ fun v σ => K (σ.put o.dst v))
    | none => none
def evOps (call : Nat → List AV → St → (AV → St → Option R) → Option R) (k : Nat) (all : List Oper) : List Oper → St → (St → Option R) → Option R
  | [], σ, K => K σ
  | o :: os, σ, K => evOne tab soft Γ call k all o σ fun σ => evOps call k all os σ K
/-! ### Regions whose order is drawn: what reads may come first; else each order is taken -/
/-- 0: looks at temporaries alone; 1: reads; 2: leaves what stands there as it is; 3: writes into rows alone; 4: any -/
def opKind (o : Oper) : Nat := match o.op with
  | .load _ _ => 1
  | .move _ | .pick _ _ _ | .binOp _ _ _ _ _ | .unOp _ _ _ | .convert _ _ _ | .fieldAddr _ _ _ | .field _ _ _ | .indexAddr _ _ _ | .extract _ _ | .nilCheck _ | .build _ _ | .makeFunc _ _ _ | .slice _ _ _ _ _ => 0
  | .alloc _ | .box _ _ | .buildSlice _ _ _ | .makeSlice _ _ _ => 2
  | .call c => match c.callee with
    | .builtin .len => 0
    | .builtin .max => 0
    | .builtin .min => 0
    | .builtin .append => 3
    | .value (.func f) => match look Γ f with
      | some (.sig g) => (match g.pm.any isLent with | true => 4 | false => 2)
      | _ => 4
    | _ => 4
  | _ => 4
def hitArgs : List Md → List AV → Nat → Bool
  | m :: ms, v :: vs, r => (m.ptr && (match v with | .bp r' _ => Nat.beq r' r | _ => true)) || hitArgs ms vs r
  | _, _, _ => false
/-- may an operation write into box r -/
def hitBox (σ : St) (o : Oper) (r : Nat) : Bool := match Nat.ble (opKind Γ o) 3 with
  | true => false
  | false => match o.op with
    | .store _ x _ => match σ.eval x with
      | .bp r' _ => Nat.beq r' r
      | .ep _ _ _ _ => false
      | .ip _ _ _ _ _ _ => false
      | _ => true
    | .call c => match c.callee with
      | .value (.func f) => match look Γ f with
        | some (.sig g) => hitArgs g.pm (c.args.toList.map σ.eval) r
        | _ => true
      | _ => true
    | _ => true
/-- does what oi reads stand behind oj; sw: the state without what is still to be set -/
def clear (σ sw : St) (oi oj : Oper) : Bool := match oi.op with
  | .load _ x => match σ.eval x with
    | .rp _ _ _ => true
    | .bp r _ => !hitBox Γ sw oj r
    | _ => Nat.ble (opKind Γ oj) 2
  | _ => true
def readyL (listed : List Bool) : List Oper → Nat → List Nat
  | [], _ => []
  | o :: os, i => match !listed.getD i true && o.after.toList.all (fun e => !Region.binds .any e || listed.getD e.on false) with
    | true => i :: readyL listed os (i + 1)
    | false => readyL listed os (i + 1)
/-- does operation j wait for i, at most n steps on -/
def waits (all : List Oper) (i : Nat) : Nat → Nat → Bool
  | 0, _ => false
  | n + 1, j => match all[j]? with
    | some o => o.after.toList.any fun e => Region.binds .any e && (Nat.beq e.on i || waits all i n e.on)
    | none => false
/-- what is still to be set, gone -/
def unset : List Oper → List Bool → St → St
  | o :: os, b :: bs, σ => unset os bs (match b with | true => σ | false => σ.put o.dst .undef)
  | _, _, σ => σ
def isSel : Op → Bool | .select _ _ => true | _ => false
def noSel : List Oper → Bool
  | [] => true
  | o :: os => !isSel o.op && noSel os
/-- may operation i be taken first -/
def firstOk (σ : St) (all : List Oper) (listed : List Bool) (i : Nat) : Bool := match all[i]? with
  | some oi => Nat.ble (opKind Γ oi) 1 && noSel all && (List.range all.length).all fun j => Nat.beq j i || listed.getD j true || waits all i all.length j || (match all[j]? with
      | some oj => oi.apart all.toArray oj && clear Γ σ (unset all listed σ) oi oj
      | none => true)
  | none => false
def firstOf (p : Nat → Bool) : List Nat → Option Nat
  | [] => none
  | i :: is => match p i with | true => some i | false => firstOf p is
def allO (f : Nat → Option R) : List Nat → Option R
  | [] => none
  | [i] => f i
  | i :: is => both (f i) (allO f is)
/-- the roots that an operation reads -/
def readRoots (σ : St) (o : Oper) : List Nat := match o.op with
  | .load _ x => match σ.eval x with
    | .bp r _ => [r]
    | .ep r _ _ _ => [r]
    | .ip r _ _ _ _ _ => [r]
    | _ => []
  | _ => []
/-- what was read ahead of its turn stands as it stood, unless operation k waits for it -/
def pendOk (all : List Oper) (k : Nat) (R R' : List Root) : List (Nat × Nat) → Bool
  | [] => true
  | (i, r) :: ps => (waits all i all.length k || sameR R R' r) && pendOk all k R R' ps
def pendOf (σ : St) (all : List Oper) (i : Nat) : List (Nat × Nat) := match all[i]? with | some o => (readRoots σ o).map fun r => (i, r) | none => []
def evStep (call : Nat → List AV → St → (AV → St → Option R) → Option R) (k : Nat) (all : List Oper) (i : Nat) (σ : St) (K : St → Option R) : Option R :=
  match all[i]? with | some o => evOne tab soft Γ call k all o σ K | none => none
/-- pend: what was read ahead of its turn -/
def evDraw (call : Nat → List AV → St → (AV → St → Option R) → Option R) (k : Nat) (all : List Oper) : Nat → List Bool → List (Nat × Nat) → St → (St → Option R) → Option R
  | 0, listed, _, σ, K => match readyL listed all 0 with
    | [] => K σ
    | _ => none
  | n + 1, listed, pend, σ, K => match readyL listed all 0 with
    | [] => K σ
    | [i] => evStep tab soft Γ call k all i σ fun σ' => chk (pendOk all i σ.roots σ'.roots pend) (evDraw call k all n (listed.set i true) pend σ' K)
    | rs => match firstOf (firstOk Γ σ all listed) rs with
      | some i => evStep tab soft Γ call k all i σ fun σ' => evDraw call k all n (listed.set i true) (pendOf σ all i ++ pend) σ' K
      | none => allO (fun i => evStep tab soft Γ call k all i σ fun σ' => chk (pendOk all i σ.roots σ'.roots pend) (evDraw call k all n (listed.set i true) pend σ' K)) rs
/-! ### Meetings and loops -/
def dsts : Code → List Nat
  | .region _ ops _ => ops.toList.filterMap (·.dst)
  | .seq a b => dsts a ++ dsts b
  | .cond _ a b => dsts a ++ dsts b
  | .block _ b => dsts b
  | .loop b => dsts b
  | _ => []
def place (σ : St) : Place → AV
  | .slot s => σ.get s
  | .cell r f => match σ.roots[r]? with | some ⟨.box cs _, _, _⟩ => cs.getD f .undef | _ => .undef
  | .root r => match σ.roots[r]? with | some ⟨_, _, a⟩ => .sl r a | none => .undef
def places (σ : St) : List It → List AV
  | [] => []
  | i :: is => place σ i.p :: places σ is
def itTys : List It → Ty
  | [] => .nil
  | i :: is => .cons i.t (itTys is)
def itMds : List It → List Md
  | [] => []
  | i :: is => i.m :: itMds is
def isRootIt : It → Bool | ⟨.root _, _, _⟩ => true | _ => false
def rootIts : List It → List Nat
  | [] => []
  | ⟨.root r, _, _⟩ :: is => r :: rootIts is
  | _ :: is => rootIts is
/-- the roots that end at a meeting: rows that are handed on -/
def deadAt (σ : St) (is : List It) : List Nat :=
  srcIds (srcAll σ (itTys is) (itMds is) (places σ is)) ++ roAll σ (itTys is) (itMds is) (places σ is)
def deadOf (σ : St) (h : Hint) : List Nat := deadAt σ (h.items.filter fun i => !isRootIt i) ++ h.drops
def wipe (σ : St) : List Nat → St
  | [] => σ
  | s :: ss => wipe (σ.put (some s) .undef) ss
/-- what is kept while a piece of code runs -/
def baseOf (σ : St) (h : Hint) (ds : List Nat) : St := wipe (kill σ (deadOf σ h)) ds
/-- a row that is handed on in its own place -/
def rootPut (σ : St) (r : Nat) (t : Ty) (x : t.den) : List Put := match σ.roots[r]?, t, x with
  | some ⟨.row o _ _, v, a⟩, .slice us, y => [.root r ⟨.row o us y, v + 1, a⟩]
  | _, _, _ => []
/-- the new roots of what is handed on, numbered from n on -/
def decRows : List It → (t : Ty) → t.den → Nat → List Root
  | i :: is, .cons t ts, x, n => match isRootIt i with
    | true => decRows is ts x.2 n
    | false => rowOne i.m t x.1 n ++ decRows is ts x.2 (n + idsOne i.m t)
  | _, _, _, _ => []
def decPuts (σ : St) : List It → (t : Ty) → t.den → Nat → List Put
  | i :: is, .cons t ts, x, n => match i.p with
    | .root r => rootPut σ r t x.1 ++ decPuts σ is ts x.2 n
    | .cell r f => .cell r f (inOne i.m t x.1 n) :: decPuts σ is ts x.2 (n + idsOne i.m t)
    | .slot _ => decPuts σ is ts x.2 (n + idsOne i.m t)
  | _, _, _, _ => []
def decTmps : List It → (t : Ty) → t.den → Nat → List AV → List AV
  | i :: is, .cons t ts, x, n, l => match i.p with
    | .root _ => decTmps is ts x.2 n l
    | .cell _ _ => decTmps is ts x.2 (n + idsOne i.m t) l
    | .slot s => decTmps is ts x.2 (n + idsOne i.m t) (l.set s (inOne i.m t x.1 n))
  | _, _, _, _, l => l
def dec (σ : St) (is : List It) (t : Ty) (x : t.den) : St := ⟨decTmps is t x σ.roots.length σ.tmps, puts (decPuts σ is t x σ.roots.length) σ.roots ++ decRows is t x σ.roots.length⟩
def isItem (is : List It) (r f : Nat) : Bool := is.any fun | ⟨.cell s g, _, _⟩ => Nat.beq s r && Nat.beq g f | _ => false
def keptSt (is : List It) (r : Nat) : Nat → List Nat → List Nat → Bool
  | f, s :: ss, t :: ts => (Nat.beq s t || isItem is r f) && keptSt is r (f + 1) ss ts
  | _, [], [] => true
  | _, _, _ => false
def keptOne (is : List It) (dead : List Nat) (r : Nat) (p q : Root) : Bool := match p.k, q.k with
  | .box _ ss, .box _ ts => keptSt is r 0 ss ts
  | .box _ _, _ => false
  | _, _ => memN r dead || (memN r (rootIts is) && Nat.beq p.anc q.anc) || Nat.beq p.ver q.ver
def keptRoots (is : List It) (dead : List Nat) : Nat → List Root → List Root → Bool
  | _, [], _ => true
  | r, p :: ps, q :: qs => keptOne is dead r p q && keptRoots is dead (r + 1) ps qs
  | _, _ :: _, [] => false
/-- are these roots new, or rows such as end here, or the item's own -/
def freshIds (R : List Root) (ok : List Nat) : List Nat → Bool
  | [] => true
  | r :: rs => (Nat.ble R.length r || (memN r ok && !isBoxAt R r)) && freshIds R ok rs
/-- items in their own place are own rows -/
def rootItsOk (R : List Root) : List It → Bool
  | [] => true
  | ⟨.root r, m, t⟩ :: is => (match R[r]?, t with
    | some ⟨.row o ts _, _, _⟩, .slice us => !m.ptr && !Nat.beq m.sm 0 && okOwn m.sm o us && (ts.eq? us).isSome
    | _, _ => false) && rootItsOk R is
  | _ :: is => rootItsOk R is
def enc (base σ : St) (dead : List Nat) (is : List It) (t : Ty) : Option t.den :=
  let ss := srcIds (srcAll σ t (itMds is) (places σ is))
  let ro := roAll σ t (itMds is) (places σ is)
  match nodupN ss && apartN ss ro && freshIds base.roots (dead ++ rootIts is) ss && freshIds base.roots dead ro && apartN dead (rootIts is) && rootItsOk base.roots is && rootItsOk σ.roots is && keptRoots is dead 0 base.roots σ.roots with
  | true => outAll σ t (itMds is) (places σ is)
  | false => none
def firstId : Code → Nat
  | .region id _ _ => id
  | .seq a _ => firstId a
  | .block _ b => firstId b
  | .loop b => firstId b
  | .cond _ a b => match firstId a with | 0 => firstId b | n + 1 => n + 1
  | _ => 0
def hintOf : List Hint → Nat → Option Hint
  | [], _ => none
  | h :: hs, n => match Nat.beq h.id n with | true => some h | false => hintOf hs n
def andThen (f : St → Option R) (K : Ex → St → Option R) : Ex → St → Option R
  | .normal, σ => f σ
  | .exit j, σ => K (.exit j) σ
  | .ret, σ => K .ret σ
def inBlk (id : Nat) (K : Ex → St → Option R) : Ex → St → Option R
  | .normal, σ => K .normal σ
  | .exit j, σ => match Nat.beq j id with | true => K .normal σ | false => K (.exit j) σ
  | .ret, σ => K .ret σ
def ev (call : Nat → List AV → St → (AV → St → Option R) → Option R) (H : List Hint) (k : Nat) : Code → St → (Ex → St → Option R) → Option R
  | .skip, σ, K => K .normal σ
  | .region _ ops false, σ, K => evOps tab soft Γ call k ops.toList ops.toList σ (K .normal)
  | .region _ ops true, σ, K => evDraw tab soft Γ call k ops.toList ops.toList.length (ops.toList.map fun _ => false) [] σ (K .normal)
  | .seq a b, σ, K => match hintOf H (2 * firstId b) with
    | none => ev call H k a σ (andThen (fun σ => ev call H k b σ K) K)
    | some h => lett (fun c : (itTys h.items).den => ev call H k b (dec (baseOf σ h (dsts a)) h.items (itTys h.items) c) K) fun j =>
        ev call H k a σ (andThen (fun σ' => bnd (enc (baseOf σ h (dsts a)) σ' (deadOf σ h) h.items (itTys h.items)) j) K)
  | .cond c a b, σ, K => match σ.eval c with
    | .val .bool t => br t (ev call H k a σ K) (ev call H k b σ K)
    | _ => none
  | .block id b, σ, K => ev call H k b σ (inBlk id K)
  | .loop b, σ, K => match hintOf H (2 * firstId b + 1) with
    | some h => bnd (enc (baseOf σ h (dsts b)) σ (deadOf σ h) h.items (itTys h.items)) fun c0 =>
        loopN (fun rec c => ev call H k b (dec (baseOf σ h (dsts b)) h.items (itTys h.items) c) (andThen (fun σ' => bnd (enc (baseOf σ h (dsts b)) σ' (deadOf σ h) h.items (itTys h.items)) rec) K)) k c0
    | none => none
  | .exit j, σ, K => K (.exit j) σ
  | .ret, σ, K => K .ret σ
  | _, _, _ => none
/-! ### Functions -/
def resVar (σ : St) : ResultVar → AV
  | .tmp t => σ.get t
  | .cell a T => match look tab T with
    | some i => match σ.get a with
      | .bp r f => match σ.roots[r]? with
        | some ⟨.box cs _, _, _⟩ => match Nat.ble (f + i.cells.size) cs.length with | true => one i (headAV i.cells.size (dropAV f (.ofList cs))) | false => .undef
        | _ => .undef
      | _ => .undef
    | none => .undef
/-- is a result known -/
def resOk (σ : St) : ResultVar → Bool
  | .tmp _ => true
  | .cell a T => match look tab T, σ.get a with
    | some i, .bp r f => match σ.roots[r]? with
      | some ⟨.box cs _, _, _⟩ => Nat.ble (f + i.cells.size) cs.length
      | _ => false
    | _, _ => false
def resOks (σ : St) : List ResultVar → Bool
  | [] => true
  | r :: rs => resOk tab σ r && resOks (cutTl σ (resVar tab σ r)).2 rs
/-- a function's results; fronts and ends of rows become the rows -/
def cutRes (σ : St) : List ResultVar → List AV × St
  | [] => ([], σ)
  | r :: rs => let p := cutTl σ (resVar tab σ r); let q := cutRes p.2 rs; (p.1 :: q.1, q.2)
def atEnd (f : St → Option R) : Ex → St → Option R
  | .normal, σ => f σ
  | .ret, σ => f σ
  | .exit _, _ => none
/-- entering a function in place, n levels deep -/
def callN (k : Nat) : Nat → Nat → List AV → St → (AV → St → Option R) → Option R
  | 0, _, _, _, _ => none
  | n + 1, f, as, σ, K => match look Γ f with
    | some (.inl fn H) => match fn.body with
      | some c => ev tab soft Γ (callN k n) H k c ⟨as ++ List.replicate (fn.ntmps - as.length) .undef, σ.roots⟩ (atEnd fun σ' => chk (resOks tab σ' fn.results.toList) (K (tupAV (cutRes tab σ' fn.results.toList).1) ⟨σ.tmps, (cutRes tab σ' fn.results.toList).2.roots⟩))
      | none => none
    | _ => none
def lentAVs : List (Md × Ty × AV) → List AV
  | [] => []
  | (m, _, v) :: vs => match isLent m with | true => v :: lentAVs vs | false => lentAVs vs
/-- a function's results, and what its lent parameters hold -/
def outFn (g : Sig) (as : List AV) (rs : List ResultVar) (σ : St) : Option g.res.den :=
  let vs := rs.map (resVar tab σ) ++ lentAVs (withTys g.params g.pm as)
  let ss := srcIds (srcAll σ g.res g.rm vs)
  chk (rs.all (resOk tab σ) && nodupN ss && apartN ss (roAll σ g.res g.rm vs) && Nat.beq rs.length g.n) (outAll σ g.res g.rm vs)
def evFn (H : List Hint) (fn : Func) (g : Sig) (k : Nat) (x : g.params.den) : Option g.res.den :=
  match fn.body with
  | some c =>
    let as := inAll g.params x g.pm 0
    ev tab soft Γ (callN tab soft Γ k 4) H k c ⟨as ++ List.replicate (fn.ntmps - as.length) .undef, rowAll g.params x g.pm 0⟩ (atEnd fun σ => outFn tab g as fn.results.toList σ)
  | none => none
end
end
end Go.Proofs.YtpihkhknehadbaaGreat.Eng
