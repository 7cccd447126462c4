/- How an abstract state and a world agree; what a later state keeps. No condition. -/
import Derived.Test.YtpihkhknehadbaaGreatEngEv
import Derived.Below
namespace Go.Proofs.YtpihkhknehadbaaGreat.Eng
open Go.RowKit
set_option linter.unusedVariables false
/-! ### Read-only data -/
/-- Who may write a cell: nobody of this call; somebody further out; root r (0: its own cells, k + 1: the row in its cell k). -/
inductive Lab where
  | free | hid | of (r s : Nat)
/-- Labels of cells; where a root stands: its first cell, its capacity. -/
structure Gh where
  own : Nat → Nat → Lab
  anch : Nat → Option Addr × Nat
def at_ (w : World) (b o : Nat) : Option Value := w.cell? ⟨b, o, none⟩
def vw (G : Gh) (w : World) (b o : Nat) : Option Value := match G.own b o with | .free => at_ w b o | _ => none
/-- a value of one cell; a row of cells from a place on; both read in what nobody writes -/
def ro (u : Nat → Nat → Option Value) : (t : Ty) → (t.den → Value → Prop) × (t.den → Nat → Nat → Prop)
  | .bool => (fun x v => v = .bool x, fun _ _ _ => True)
  | .int k => (fun x v => v = .int k x, fun _ _ _ => True)
  | .str => (fun x v => v = .string x, fun _ _ _ => True)
  | .slice ts => (fun l v => ∃ (a : Option Addr) (c : Nat), v = .slice a (List.length l) c ∧ List.length l ≤ c ∧
      ∀ i, i < List.length l → ∃ b o, a = some ⟨b, o, none⟩ ∧ (ro u ts).2 (rd ts l i) b (o + i * ts.size), fun _ _ _ => True)
  | .nil => (fun _ _ => False, fun _ _ _ => True)
  | .cons t ts => (fun _ _ => False, fun x b o => (∃ v, u b o = some v ∧ (ro u t).1 x.1 v) ∧ (ro u ts).2 x.2 b (o + 1))
theorem ro_mono {u u' : Nat → Nat → Option Value} (h : ∀ b o v, u b o = some v → u' b o = some v) :
    ∀ (t : Ty), (∀ x v, (ro u t).1 x v → (ro u' t).1 x v) ∧ (∀ x b o, (ro u t).2 x b o → (ro u' t).2 x b o)
  | .bool => ⟨fun _ _ h => h, fun _ _ _ h => h⟩
  | .int _ => ⟨fun _ _ h => h, fun _ _ _ h => h⟩
  | .str => ⟨fun _ _ h => h, fun _ _ _ h => h⟩
  | .nil => ⟨fun _ _ h => h, fun _ _ _ h => h⟩
  | .slice ts => ⟨fun l v ⟨a, c, e, d, g⟩ => ⟨a, c, e, d, fun i hi => let ⟨b, o, ea, k⟩ := g i hi; ⟨b, o, ea, (ro_mono h ts).2 _ _ _ k⟩⟩, fun _ _ _ h => h⟩
  | .cons t ts => ⟨fun _ _ h => h, fun x b o ⟨⟨v, e, g⟩, k⟩ => ⟨⟨v, h _ _ _ e, (ro_mono h t).1 _ _ g⟩, (ro_mono h ts).2 _ _ _ k⟩⟩
/-- a row of cells: cell by cell, each with its number -/
def elG (c : Nat → Nat → Option Value) (cv : Nat → (t : Ty) → t.den → Value → Prop) : (t : Ty) → t.den → (b o k : Nat) → Prop
  | .cons t ts, x, b, o, k => (∃ v, c b o = some v ∧ cv k t x.1 v) ∧ elG c cv ts x.2 b (o + 1) (k + 1)
  | _, _, _, _, _ => True
/-- a cell whose slice is read only -/
def flatV (u : Nat → Nat → Option Value) : Nat → (t : Ty) → t.den → Value → Prop := fun _ t x v => (ro u t).1 x v
theorem elG_ro {u : Nat → Nat → Option Value} : ∀ (t : Ty) (x : t.den) (b o k : Nat), (ro u t).2 x b o ↔ elG u (flatV u) t x b o k
  | .bool, _, _, _, _ => Iff.rfl
  | .int _, _, _, _, _ => Iff.rfl
  | .str, _, _, _, _ => Iff.rfl
  | .nil, _, _, _, _ => Iff.rfl
  | .slice _, _, _, _, _ => Iff.rfl
  | .cons t ts, x, b, o, k => and_congr Iff.rfl (elG_ro ts x.2 b (o + 1) (k + 1))
/-- the cells of a row elsewhere, or later, each told by another word -/
theorem elG_move {c c' : Nat → Nat → Option Value} {cv cv' : Nat → (t : Ty) → t.den → Value → Prop} : ∀ (t : Ty) (x : t.den) (b o k b' o' k' : Nat),
    (∀ j v, j < t.size → c b (o + j) = some v → c' b' (o' + j) = some v) → (∀ j, j < t.size → ∀ t x v, cv (k + j) t x v → cv' (k' + j) t x v) → elG c cv t x b o k → elG c' cv' t x b' o' k'
  | .bool, _, _, _, _, _, _, _, _, _, _ => trivial
  | .int _, _, _, _, _, _, _, _, _, _, _ => trivial
  | .str, _, _, _, _, _, _, _, _, _, _ => trivial
  | .nil, _, _, _, _, _, _, _, _, _, _ => trivial
  | .slice _, _, _, _, _, _, _, _, _, _, _ => trivial
  | .cons t ts, x, b, o, k, b', o', k', hc, hv, ⟨⟨v, e, g⟩, h⟩ => ⟨⟨v, by simpa using hc 0 v (by simp [Ty.size]) (by simpa using e), by simpa using hv 0 (by simp [Ty.size]) _ _ _ (by simpa using g)⟩,
      elG_move ts x.2 b (o + 1) (k + 1) b' (o' + 1) (k' + 1) (fun j v hj e => by
          have := hc (j + 1) v (by simp only [Ty.size]; omega) (by rw [show o + (j + 1) = o + 1 + j by omega]; exact e)
          rwa [show o' + (j + 1) = o' + 1 + j by omega] at this)
        (fun j hj t x v h => by
          have := hv (j + 1) (by simp only [Ty.size]; omega) t x v (by rw [show k + (j + 1) = k + 1 + j by omega]; exact h)
          rwa [show k' + (j + 1) = k' + 1 + j by omega] at this) h⟩
theorem elG_mono {c c' : Nat → Nat → Option Value} {cv cv' : Nat → (t : Ty) → t.den → Value → Prop} (t : Ty) (x : t.den) (b o k : Nat)
    (hc : ∀ j v, j < t.size → c b (o + j) = some v → c' b (o + j) = some v) (hv : ∀ k t x v, cv k t x v → cv' k t x v) (h : elG c cv t x b o k) : elG c' cv' t x b o k :=
  elG_move t x b o k b o k hc (fun j _ => hv (k + j)) h
/-- a block without what its cells hold -/
def shpO : Obj → Obj
  | .cells c t f => .cells (Array.replicate c.size undef) t f
  | o => o
def shp (w : World) (b : Nat) : Option Obj := (w.heap[b]?).map shpO
/-- is a cell frozen; its block's shape -/
def fz (w : World) (b o : Nat) : Bool × Option Obj := (w.frozen? ⟨b, o, none⟩, shp w b)
theorem fz_fr {w w' : World} {b o : Nat} (h : fz w' b o = fz w b o) : w'.frozen? ⟨b, o, none⟩ = w.frozen? ⟨b, o, none⟩ := congrArg Prod.fst h
theorem shpO_same {x y : Obj} (h : shpO x = shpO y) (hc : ∀ c t f c' t' f', x = .cells c t f → y = .cells c' t' f' → c = c') : x = y := by
  cases x with
  | cells c t f =>
    cases y with
    | cells c' t' f' =>
      simp only [shpO, Obj.cells.injEq] at h
      rw [hc _ _ _ _ _ _ rfl rfl, h.2.1, h.2.2]
    | _ => cases h
  | _ => cases y <;> first | exact h | cases h
/-- a block with the same shape and the same cells is the same -/
theorem blk_same {w w' : World} {b : Nat} (hs : shp w' b = shp w b) (hc : ∀ o, at_ w' b o = at_ w b o) : w'.heap[b]? = w.heap[b]? := by
  unfold shp at hs
  have cell : ∀ (w : World) c t f, w.heap[b]? = some (.cells c t f) → ∀ o, at_ w b o = c[o]? := fun w c t f h o => by unfold at_ World.cell?; simp [h]
  cases h : w.heap[b]? with
  | none =>
    rw [h] at hs
    cases h' : w'.heap[b]? with
    | none => rfl
    | some x => rw [h'] at hs; cases hs
  | some y =>
    cases h' : w'.heap[b]? with
    | none => rw [h, h'] at hs; cases hs
    | some x =>
      rw [h, h'] at hs
      rw [shpO_same (Option.some.inj hs) (fun c t f c' t' f' e e' => by
        subst e; subst e'
        apply Array.ext_getElem?
        intro o
        rw [← cell w' c t f h' o, hc o, cell w c' t' f' h o])]
/-- cells of a label keep their label (as L'), and what they hold -/
def Lk (G : Gh) (w : World) (G' : Gh) (w' : World) (L L' : Lab) : Prop :=
  ∀ b o, b < w.heap.size → G.own b o = L → G'.own b o = L' ∧ at_ w' b o = at_ w b o ∧ fz w' b o = fz w b o
theorem Lk.refl (G : Gh) (w : World) (L : Lab) : Lk G w G w L L := fun _ _ _ h => ⟨h, rfl, rfl⟩
theorem Lk.trans {G G' G'' : Gh} {w w' w'' : World} {L L' L'' : Lab} (hs : w.heap.size ≤ w'.heap.size) (h : Lk G w G' w' L L') (k : Lk G' w' G'' w'' L' L'') : Lk G w G'' w'' L L'' :=
  fun b o hb e => let ⟨h1, h2, h3⟩ := h b o hb e; let ⟨k1, k2, k3⟩ := k b o (Nat.lt_of_lt_of_le hb hs) h1; ⟨k1, k2.trans h2, k3.trans h3⟩
theorem lt_of_at {w : World} {b o : Nat} {v : Value} (h : at_ w b o = some v) : b < w.heap.size := World.block_lt_of_cell? w _ h
theorem lt_of_some {w : World} {b o : Nat} (h : (at_ w b o).isSome = true) : b < w.heap.size := by
  cases e : at_ w b o with
  | none => rw [e] at h; cases h
  | some v => exact lt_of_at e
/-- an own row: n is its capacity, a its place -/
def rowG (G : Gh) (w : World) (cv : Nat → (t : Ty) → t.den → Value → Prop) (L : Lab) (ts : Ty) (l : List ts.den) (a : Option Addr) (n : Nat) : Prop :=
  List.length l ≤ n ∧ (n = 0 ∨ ∃ b o, a = some ⟨b, o, none⟩ ∧
    (∀ j, j < n * ts.size → G.own b (o + j) = L ∧ w.frozen? ⟨b, o + j, none⟩ = false ∧ (at_ w b (o + j)).isSome = true) ∧
    ∀ i, i < List.length l → elG (at_ w) cv ts (rd ts l i) b (o + i * ts.size) (i * ts.size))
theorem lt_row {i n c s j : Nat} (hi : i < n) (hn : n ≤ c) (hj : j < s) : i * s + j < c * s := by
  have : (i + 1) * s ≤ c * s := Nat.mul_le_mul_right _ (by omega)
  rw [Nat.add_mul, Nat.one_mul] at this; omega
theorem rowG_keep {G G' : Gh} {w w' : World} {cv cv' : Nat → (t : Ty) → t.den → Value → Prop} {L L' : Lab} {ts : Ty} {l : List ts.den} {a : Option Addr} {n : Nat} (hv : ∀ k t x v, cv k t x v → cv' k t x v) (hc : Lk G w G' w' L L')
    (h : rowG G w cv L ts l a n) : rowG G' w' cv' L' ts l a n := by
  obtain ⟨h0, h⟩ := h
  refine ⟨h0, h.imp id ?_⟩
  rintro ⟨b, o, ea, h1, h2⟩
  refine ⟨b, o, ea, fun j hj => ?_, fun i hi => ?_⟩
  · obtain ⟨k1, k2, k3⟩ := h1 j hj
    obtain ⟨c1, c2, c3⟩ := hc _ _ (lt_of_some k3) k1
    exact ⟨c1, (fz_fr c3).trans k2, by rw [c2]; exact k3⟩
  · refine elG_mono ts _ b _ _ (fun j v hj e => ?_) hv (h2 i hi)
    have hlt := lt_row hi h0 hj
    obtain ⟨k1, _, _⟩ := h1 _ hlt
    rw [show o + i * ts.size + j = o + (i * ts.size + j) by omega] at e ⊢
    rw [(hc _ _ (lt_of_at e) k1).2.1]; exact e
/-- a cell of an own row whose slices are own -/
def deepV (G : Gh) (w : World) (r : Nat) : Nat → (t : Ty) → t.den → Value → Prop
  | k, .slice us, x, v => ∃ a n, v = .slice a (List.length x) n ∧ rowG G w (flatV (vw G w)) (.of r (k + 1)) us x a n
  | _, t, x, v => (ro (vw G w) t).1 x v
def cvOf (G : Gh) (w : World) (r : Nat) : Bool → Nat → (t : Ty) → t.den → Value → Prop
  | true => deepV G w r
  | false => flatV (vw G w)
theorem flatV_keep {u u' : Nat → Nat → Option Value} (h : ∀ b o v, u b o = some v → u' b o = some v) (k k' : Nat) (t : Ty) (x : t.den) (v : Value) (g : flatV u k t x v) : flatV u' k' t x v := (ro_mono h t).1 _ _ g
theorem deepV_keep {G G' : Gh} {w w' : World} {r r' k k' : Nat} (hu : ∀ b o v, vw G w b o = some v → vw G' w' b o = some v) (hc : Lk G w G' w' (.of r (k + 1)) (.of r' (k' + 1))) :
    ∀ (t : Ty) (x : t.den) (v : Value), deepV G w r k t x v → deepV G' w' r' k' t x v
  | .slice us, x, v, ⟨a, n, e, h⟩ => ⟨a, n, e, rowG_keep (fun k t x v g => flatV_keep hu k k t x v g) hc h⟩
  | .bool, x, v, h => h
  | .int _, x, v, h => h
  | .str, x, v, h => h
  | .nil, x, v, h => h
  | .cons _ _, x, v, h => h
theorem cvOf_keep {G G' : Gh} {w w' : World} {r r' k k' : Nat} (own : Bool) (hu : ∀ b o v, vw G w b o = some v → vw G' w' b o = some v) (hc : own = true → Lk G w G' w' (.of r (k + 1)) (.of r' (k' + 1))) (t : Ty) (x : t.den) (v : Value)
    (h : cvOf G w r own k t x v) : cvOf G' w' r' own k' t x v := by
  cases own with
  | true => exact deepV_keep hu (hc rfl) t x v h
  | false => exact flatV_keep hu k k' t x v h
/-! ### Abstract values -/
/-- what is told of a root's head: is it a box, its elements' row, how many -/
def RK.hd : RK → Option (Bool × Ty × Nat)
  | .box cs _ => some (true, .nil, cs.length)
  | .row _ ts l => some (false, ts, List.length l)
  | .fro ts l => some (false, ts, List.length l)
  | .dead => none
/-- a value stands for an abstract one; a list of values for a row of abstract ones -/
def avR (G : Gh) (R : List Root) (w : World) : AV → (Value → Prop) × (List Value → Prop)
  | .undef => (fun _ => True, fun _ => False)
  | .val t x => (fun v => (ro (vw G w) t).1 x v, fun _ => False)
  | .nl _ => (fun v => ∃ a, v = .slice a 0 0, fun _ => False)
  | .agg cs => (fun v => ∃ vs : List Value, v = .agg vs.toArray ∧ (avR G R w cs).2 vs, fun _ => False)
  | .tup cs => (fun v => ∃ vs : List Value, v = .tuple vs.toArray ∧ (avR G R w cs).2 vs, fun _ => False)
  | .rp ts x f => (fun v => ∃ b o, v = .pointer (some ⟨b, o + f, none⟩) ∧ (ro (vw G w) ts).2 x b o, fun _ => False)
  | .bp r f => (fun v => ∃ q, R[r]? = some q ∧ ∀ n t, q.k.hd = some (true, t, n) → ∃ b o, (G.anch r).1 = some ⟨b, o, none⟩ ∧ v = .pointer (some ⟨b, o + f, none⟩), fun _ => False)
  | .ep r a i f => (fun v => ∃ q, R[r]? = some q ∧ a ≤ q.anc ∧ (q.anc = a → ∀ ts n, q.k.hd = some (false, ts, n) → i < n ∧ ∃ b o, (G.anch r).1 = some ⟨b, o, none⟩ ∧ v = .pointer (some ⟨b, o + i * ts.size + f, none⟩)), fun _ => False)
  | .sl r a => (fun v => ∃ q, R[r]? = some q ∧ a ≤ q.anc ∧ (q.anc = a → ∀ ts n, q.k.hd = some (false, ts, n) → v = .slice (G.anch r).1 n (G.anch r).2), fun _ => False)
  | .hd r a m => (fun v => ∃ q, R[r]? = some q ∧ a ≤ q.anc ∧ (q.anc = a → ∀ ts n, q.k.hd = some (false, ts, n) → m ≤ n ∧ v = .slice (G.anch r).1 m (G.anch r).2), fun _ => False)
  | .tl r a lo => (fun v => ∃ q, R[r]? = some q ∧ a ≤ q.anc ∧ (q.anc = a → ∀ ts n, q.k.hd = some (false, ts, n) → lo ≤ n ∧
      v = .slice (if (G.anch r).2 = lo then (G.anch r).1 else ((G.anch r).1).map (·.add (lo * ts.size))) (n - lo) ((G.anch r).2 - lo)), fun _ => False)
  | .il r s i f => (fun v => ∃ q, R[r]? = some q ∧ s ≤ q.ver ∧ (q.ver = s → ∀ own ts l, q.k = .row own ts l → i < List.length l ∧ f < ts.size ∧ ∃ b o, (G.anch r).1 = some ⟨b, o, none⟩ ∧
      G.own b (o + i * ts.size + f) = .of r 0 ∧ at_ w b (o + i * ts.size + f) = some v), fun _ => False)
  | .ip r s i f j g => (fun v => ∃ q, R[r]? = some q ∧ s ≤ q.ver ∧ (q.ver = s → ∀ own ts l, q.k = .row own ts l → i < List.length l ∧ f < ts.size ∧ ∃ us m, innerOf ts (rd ts l i) f = some ⟨us, m⟩ ∧ j < List.length m ∧ ∃ b o b' o' n c, (G.anch r).1 = some ⟨b, o, none⟩ ∧
      G.own b (o + i * ts.size + f) = .of r 0 ∧ at_ w b (o + i * ts.size + f) = some (.slice (some ⟨b', o', none⟩) n c) ∧ v = .pointer (some ⟨b', o' + j * us.size + g, none⟩)), fun _ => False)
  | .pd r s i f us l => (fun v => ∃ q, R[r]? = some q ∧ s ≤ q.ver ∧ (q.ver = s → ∀ own ts m, q.k = .row own ts m → i < List.length m ∧ f < ts.size ∧
      ∃ a n, v = .slice a (List.length l) n ∧ rowG G w (flatV (vw G w)) (.of r (i * ts.size + f + 1)) us l a n), fun _ => False)
  | .fn f cs => (fun v => ∃ vs : List Value, v = .func (.func f) #[] vs.toArray ∧ (avR G R w cs).2 vs, fun _ => False)
  | .nil => (fun _ => False, fun vs => vs = [])
  | .cons a as => (fun _ => False, fun vs => ∃ v vs', vs = v :: vs' ∧ (avR G R w a).1 v ∧ (avR G R w as).2 vs')
/-! ### Roots and states -/
def rootOk (G : Gh) (R : List Root) (w : World) (r : Nat) (q : Root) : Prop :=
  match q.k with
  | .box cs ss => ss.length = cs.length ∧ ∃ b o, (G.anch r).1 = some ⟨b, o, none⟩ ∧ ∀ f, f < cs.length → G.own b (o + f) = .of r 0 ∧ w.frozen? ⟨b, o + f, none⟩ = false ∧
      ∃ v, at_ w b (o + f) = some v ∧ (avR G R w (cs.getD f .undef)).1 v
  | .row own ts l => rowG G w (cvOf G w r own) (.of r 0) ts l (G.anch r).1 (G.anch r).2
  | .fro ts l => (ro (vw G w) (.slice ts)).1 l (.slice (G.anch r).1 (List.length l) (G.anch r).2)
  | .dead => True
def RelR (G : Gh) (R : List Root) (w : World) : Prop := ∀ r q, R[r]? = some q → rootOk G R w r q
structure Rel (G : Gh) (σ : St) (a : Act) (w : World) : Prop where
  roots : RelR G σ.roots w
  defers : a.defers = []
  size : σ.tmps.length ≤ a.tmps.size
  tmps : ∀ t, (avR G σ.roots w (σ.get t)).1 (a.tmps.getD t undef)
/-- what stamps tell of a root: the same stamp, the same content -/
def Root.le (q q' : Root) : Prop :=
  match q.k with
  | .box cs ss => ∃ cs' ss', q'.k = .box cs' ss' ∧ cs'.length = cs.length ∧ ∀ f, ss.getD f 0 ≤ ss'.getD f 0 ∧ (ss'.getD f 0 = ss.getD f 0 → cs'.getD f .undef = cs.getD f .undef)
  | _ => (∀ cs' ss', q'.k ≠ .box cs' ss') ∧ q.ver ≤ q'.ver ∧ (q'.ver = q.ver → q' = q)
theorem Root.le_refl (q : Root) : q.le q := by
  unfold Root.le
  cases hk : q.k with
  | box cs ss => exact ⟨cs, ss, rfl, rfl, fun f => ⟨Nat.le_refl _, fun _ => rfl⟩⟩
  | _ => exact ⟨fun _ _ h => (by simp at h), Nat.le_refl _, fun _ => rfl⟩
theorem Root.le_trans {q q' q'' : Root} (h : q.le q') (k : q'.le q'') : q.le q'' := by
  unfold Root.le at h k ⊢
  cases hk : q.k with
  | box cs ss =>
    rw [hk] at h
    obtain ⟨cs', ss', e, l, g⟩ := h
    rw [e] at k
    obtain ⟨cs'', ss'', e', l', g'⟩ := k
    refine ⟨cs'', ss'', e', l'.trans l, fun f => ⟨Nat.le_trans (g f).1 (g' f).1, fun he => ?_⟩⟩
    have h1 := (g f).1
    have h2 := (g' f).1
    rw [(g' f).2 (by omega), (g f).2 (by omega)]
  | _ =>
    rw [hk] at h
    obtain ⟨h1, h2, h3⟩ := h
    cases hk' : q'.k with
    | box cs ss => exact absurd hk' (h1 cs ss)
    | _ =>
      rw [hk'] at k
      obtain ⟨k1, k2, k3⟩ := k
      refine ⟨k1, Nat.le_trans h2 k2, fun he => ?_⟩
      have e1 : q''.ver = q'.ver := by omega
      have e2 : q'.ver = q.ver := by omega
      exact (k3 e1).trans (h3 e2)
/-- a root, earlier and later -/
structure RLe (G : Gh) (w : World) (G' : Gh) (w' : World) (r : Nat) (q q' : Root) : Prop where
  anc : q.anc ≤ q'.anc
  ver : q.ver ≤ q'.ver
  hd : q'.anc = q.anc → q'.k.hd = none ∨ (q'.k.hd = q.k.hd ∧ G'.anch r = G.anch r)
  box : ∀ t n, q'.k.hd = some (true, t, n) → q.k.hd = some (true, t, n) ∧ G'.anch r = G.anch r
  le : q.le q'
  same : ∀ own ts l, q.k = .row own ts l → q'.ver = q.ver → ∀ s, Lk G w G' w' (.of r s) (.of r s)
  cell : ∀ cs ss cs' ss', q.k = .box cs ss → q'.k = .box cs' ss' → ∀ f, ss'.getD f 0 = ss.getD f 0 → ∀ b o, (G.anch r).1 = some ⟨b, o, none⟩ → G.own b (o + f) = .of r 0 → b < w.heap.size → G'.own b (o + f) = .of r 0 ∧ at_ w' b (o + f) = at_ w b (o + f)
theorem RLe.refl (G : Gh) (w : World) (r : Nat) (q : Root) : RLe G w G w r q q := ⟨Nat.le_refl _, Nat.le_refl _, fun _ => .inr ⟨rfl, rfl⟩, fun _ _ e => ⟨e, rfl⟩, q.le_refl, fun _ _ _ _ _ s => Lk.refl _ _ _, fun _ _ _ _ _ _ _ _ _ _ _ h _ => ⟨h, rfl⟩⟩
theorem RLe.trans {G G' G'' : Gh} {w w' w'' : World} {r : Nat} {q q' q'' : Root} (hs : w.heap.size ≤ w'.heap.size) (h : RLe G w G' w' r q q') (k : RLe G' w' G'' w'' r q' q'') : RLe G w G'' w'' r q q'' where
  anc := Nat.le_trans h.anc k.anc
  ver := Nat.le_trans h.ver k.ver
  hd := fun ha => by
    have := h.anc
    have := k.anc
    rcases k.hd (by omega) with d | ⟨d, g⟩
    · exact .inl d
    · rcases h.hd (by omega) with c | ⟨c, f⟩
      · exact .inl (d.trans c)
      · exact .inr ⟨d.trans c, g.trans f⟩
  box := fun t n e => let ⟨h1, h2⟩ := k.box t n e; let ⟨h3, h4⟩ := h.box t n h1; ⟨h3, h2.trans h4⟩
  le := Root.le_trans h.le k.le
  same := fun own ts l e hv s => by
    have l1 := h.le
    have l2 := k.le
    unfold Root.le at l1 l2
    rw [e] at l1
    obtain ⟨n1, v1, c1⟩ := l1
    cases e' : q'.k with
    | box cs ss => exact absurd e' (n1 cs ss)
    | _ =>
      rw [e'] at l2
      obtain ⟨n2, v2, c2⟩ := l2
      have eq1 := c1 (by omega)
      exact (h.same own ts l e (by omega) s).trans hs (k.same own ts l (by rw [eq1]; exact e) (by omega) s)
  cell := fun cs ss cs'' ss'' e e'' f hf b o ha ho hb => by
    have l1 := h.le
    have l2 := k.le
    unfold Root.le at l1 l2
    rw [e] at l1
    obtain ⟨cs', ss', e', _, g1⟩ := l1
    rw [e'] at l2
    obtain ⟨cs2, ss2, e2, _, g2⟩ := l2
    rw [e''] at e2; cases e2
    have h1 := (g1 f).1
    have h2 := (g2 f).1
    obtain ⟨o1, v1⟩ := h.cell cs ss cs' ss' e e' f (by omega) b o ha ho hb
    have ha' : (G'.anch r).1 = some ⟨b, o, none⟩ := by rw [(h.box .nil cs'.length (by rw [e']; rfl)).2]; exact ha
    obtain ⟨o2, v2⟩ := k.cell cs' ss' cs'' ss'' e' e'' f (by omega) b o ha' o1 (Nat.lt_of_lt_of_le hb hs)
    exact ⟨o2, v2.trans v1⟩
/-- What a later state keeps of an earlier one. -/
structure Evo (G : Gh) (R : List Root) (w : World) (G' : Gh) (R' : List Root) (w' : World) : Prop where
  os : w'.os = w.os
  tape : w'.tape = w.tape
  output : w'.output = w.output
  size : w.heap.size ≤ w'.heap.size
  free : Lk G w G' w' .free .free
  hid : Lk G w G' w' .hid .hid
  root : ∀ r q, R[r]? = some q → ∃ q', R'[r]? = some q' ∧ RLe G w G' w' r q q'
theorem Evo.refl (G : Gh) (R : List Root) (w : World) : Evo G R w G R w := ⟨rfl, rfl, rfl, Nat.le_refl _, Lk.refl _ _ _, Lk.refl _ _ _, fun r q h => ⟨q, h, RLe.refl _ _ _ _⟩⟩
theorem Evo.trans {G G' G'' : Gh} {R R' R'' : List Root} {w w' w'' : World} (h : Evo G R w G' R' w') (k : Evo G' R' w' G'' R'' w'') : Evo G R w G'' R'' w'' where
  os := k.os.trans h.os
  tape := k.tape.trans h.tape
  output := k.output.trans h.output
  size := Nat.le_trans h.size k.size
  free := h.free.trans h.size k.free
  hid := h.hid.trans h.size k.hid
  root := fun r q hq => by
    obtain ⟨q', hq', l⟩ := h.root r q hq
    obtain ⟨q'', hq'', l'⟩ := k.root r q' hq'
    exact ⟨q'', hq'', l.trans h.size l'⟩
theorem vw_some {G : Gh} {w : World} {b o : Nat} {v : Value} : vw G w b o = some v ↔ G.own b o = .free ∧ at_ w b o = some v := by
  unfold vw
  cases h : G.own b o <;> simp
theorem vw_free {G G' : Gh} {w w' : World} (h : Lk G w G' w' .free .free) (b o : Nat) (v : Value) (e : vw G w b o = some v) : vw G' w' b o = some v := by
  obtain ⟨e1, e2⟩ := vw_some.1 e
  obtain ⟨h1, h2, _⟩ := h b o (lt_of_at e2) e1
  exact vw_some.2 ⟨h1, h2.trans e2⟩
theorem vw_evo {G G' : Gh} {R R' : List Root} {w w' : World} (h : Evo G R w G' R' w') (b o : Nat) (v : Value) (e : vw G w b o = some v) : vw G' w' b o = some v := vw_free h.free b o v e
/-- a row whose stamp is as it was -/
theorem RLe.row {G G' : Gh} {w w' : World} {r : Nat} {q q' : Root} (h : RLe G w G' w' r q q') {s : Nat} (hs : s ≤ q.ver) (e : q'.ver = s) {own : Bool} {ts : Ty} {l : List ts.den} (k : q'.k = .row own ts l) :
    q.ver = s ∧ q.k = .row own ts l ∧ G'.anch r = G.anch r ∧ ∀ s, Lk G w G' w' (.of r s) (.of r s) := by
  have l1 := h.le
  unfold Root.le at l1
  cases hk : q.k with
  | box cs ss => rw [hk] at l1; obtain ⟨cs', ss', e', _⟩ := l1; rw [e'] at k; cases k
  | row o us m =>
    rw [hk] at l1
    obtain ⟨_, v1, c1⟩ := l1
    have hv : q'.ver = q.ver := by omega
    have e1 := c1 hv
    have hk' : q.k = .row own ts l := by rw [← e1]; exact k
    rw [← hk]
    refine ⟨by omega, hk', ?_, h.same o us m hk hv⟩
    rcases h.hd (by rw [e1]) with d | ⟨_, d⟩
    · rw [k] at d; cases d
    · exact d
  | _ =>
    rw [hk] at l1
    obtain ⟨_, v1, c1⟩ := l1
    have e1 := c1 (by omega)
    rw [e1, hk] at k; cases k
theorem avR_evo {G G' : Gh} {R R' : List Root} {w w' : World} (h : Evo G R w G' R' w') :
    ∀ (a : AV), (∀ v, (avR G R w a).1 v → (avR G' R' w' a).1 v) ∧ (∀ vs, (avR G R w a).2 vs → (avR G' R' w' a).2 vs)
  | .undef => ⟨fun _ h => h, fun _ h => h⟩
  | .val t x => ⟨fun v k => (ro_mono (vw_evo h) t).1 _ _ k, fun _ h => h⟩
  | .nl _ => ⟨fun _ h => h, fun _ h => h⟩
  | .agg cs => ⟨fun v ⟨vs, e, k⟩ => ⟨vs, e, (avR_evo h cs).2 _ k⟩, fun _ h => h⟩
  | .tup cs => ⟨fun v ⟨vs, e, k⟩ => ⟨vs, e, (avR_evo h cs).2 _ k⟩, fun _ h => h⟩
  | .fn _ cs => ⟨fun v ⟨vs, e, k⟩ => ⟨vs, e, (avR_evo h cs).2 _ k⟩, fun _ h => h⟩
  | .rp ts x f => ⟨fun v ⟨b, o, e, k⟩ => ⟨b, o, e, (ro_mono (vw_evo h) ts).2 _ _ _ k⟩, fun _ h => h⟩
  | .bp r f => ⟨fun v ⟨q, hq, k⟩ => by
      obtain ⟨q', hq', l⟩ := h.root r q hq
      refine ⟨q', hq', fun n t hh => ?_⟩
      obtain ⟨h1, h2⟩ := l.box t n hh
      rw [h2]; exact k n t h1, fun _ h => h⟩
  | .ep r a i f => ⟨fun v ⟨q, hq, ha, k⟩ => by
      obtain ⟨q', hq', l⟩ := h.root r q hq
      have := l.anc
      refine ⟨q', hq', by omega, fun ea ts n hh => ?_⟩
      rcases l.hd (by omega) with d | ⟨d, g⟩
      · rw [d] at hh; cases hh
      · rw [g]; exact k (by omega) ts n (d ▸ hh), fun _ h => h⟩
  | .sl r a => ⟨fun v ⟨q, hq, ha, k⟩ => by
      obtain ⟨q', hq', l⟩ := h.root r q hq
      have := l.anc
      refine ⟨q', hq', by omega, fun ea ts n hh => ?_⟩
      rcases l.hd (by omega) with d | ⟨d, g⟩
      · rw [d] at hh; cases hh
      · rw [g]; exact k (by omega) ts n (d ▸ hh), fun _ h => h⟩
  | .hd r a m => ⟨fun v ⟨q, hq, ha, k⟩ => by
      obtain ⟨q', hq', l⟩ := h.root r q hq
      have := l.anc
      refine ⟨q', hq', by omega, fun ea ts n hh => ?_⟩
      rcases l.hd (by omega) with d | ⟨d, g⟩
      · rw [d] at hh; cases hh
      · rw [g]; exact k (by omega) ts n (d ▸ hh), fun _ h => h⟩
  | .tl r a lo => ⟨fun v ⟨q, hq, ha, k⟩ => by
      obtain ⟨q', hq', l⟩ := h.root r q hq
      have := l.anc
      refine ⟨q', hq', by omega, fun ea ts n hh => ?_⟩
      rcases l.hd (by omega) with d | ⟨d, g⟩
      · rw [d] at hh; cases hh
      · rw [g]; exact k (by omega) ts n (d ▸ hh), fun _ h => h⟩
  | .il r s i f => ⟨fun v ⟨q, hq, ha, k⟩ => by
      obtain ⟨q', hq', l⟩ := h.root r q hq
      refine ⟨q', hq', Nat.le_trans ha l.ver, fun ea own ts m hk => ?_⟩
      obtain ⟨e1, e2, e3, e4⟩ := l.row ha ea hk
      obtain ⟨h1, h2, b, o, h3, h4, h5⟩ := k e1 own ts m e2
      obtain ⟨c1, c2, _⟩ := e4 0 _ _ (lt_of_at h5) h4
      exact ⟨h1, h2, b, o, by rw [e3]; exact h3, c1, c2.trans h5⟩, fun _ h => h⟩
  | .ip r s i f j g => ⟨fun v ⟨q, hq, ha, k⟩ => by
      obtain ⟨q', hq', l⟩ := h.root r q hq
      refine ⟨q', hq', Nat.le_trans ha l.ver, fun ea own ts m hk => ?_⟩
      obtain ⟨e1, e2, e3, e4⟩ := l.row ha ea hk
      obtain ⟨h1, h2, us, m', h6, h7, b, o, b', o', n, c, h3, h4, h5, h8⟩ := k e1 own ts m e2
      obtain ⟨c1, c2, _⟩ := e4 0 _ _ (lt_of_at h5) h4
      exact ⟨h1, h2, us, m', h6, h7, b, o, b', o', n, c, by rw [e3]; exact h3, c1, c2.trans h5, h8⟩, fun _ h => h⟩
  | .pd r s i f us m => ⟨fun v ⟨q, hq, ha, k⟩ => by
      obtain ⟨q', hq', l⟩ := h.root r q hq
      refine ⟨q', hq', Nat.le_trans ha l.ver, fun ea own ts m' hk => ?_⟩
      obtain ⟨e1, e2, e3, e4⟩ := l.row ha ea hk
      obtain ⟨h1, h2, a, n, h3, h4⟩ := k e1 own ts m' e2
      exact ⟨h1, h2, a, n, h3, rowG_keep (fun k t x v g => flatV_keep (vw_evo h) k k t x v g) (e4 _) h4⟩, fun _ h => h⟩
  | .nil => ⟨fun _ h => h, fun _ h => h⟩
  | .cons a as => ⟨fun _ h => h, fun vs ⟨v, vs', e, k1, k2⟩ => ⟨v, vs', e, (avR_evo h a).1 _ k1, (avR_evo h as).2 _ k2⟩⟩
/-! ### Simple steps -/
theorem Rel.put {G : Gh} {σ : St} {a : Act} {w : World} (h : Rel G σ a w) {v : AV} {x : Value} (hv : (avR G σ.roots w v).1 x) (d : Option Nat) : Rel G (σ.put d v) (a.put d x) w := by
  cases d with
  | none => exact h
  | some d =>
    refine { roots := h.roots, defers := h.defers, size := by simp [St.put, Act.put]; exact h.size, tmps := fun t => ?_ }
    show (avR G σ.roots w ((σ.tmps.set d v).getD t .undef)).1 ((a.tmps.setIfInBounds d x).getD t undef)
    by_cases hd : d < σ.tmps.length
    · have hd' : d < a.tmps.size := Nat.lt_of_lt_of_le hd h.size
      by_cases e : t = d
      · subst e
        rw [List.getD_eq_getElem?_getD, List.getElem?_set_self hd]
        simp [hd']; exact hv
      · have := h.tmps t
        rw [List.getD_eq_getElem?_getD, List.getElem?_set_ne (Ne.symm e)]
        simpa [St.get, List.getD_eq_getElem?_getD, Array.getElem?_setIfInBounds_ne (Ne.symm e)] using this
    · rw [List.set_eq_of_length_le (by omega)]
      by_cases e : t = d
      · subst e
        rw [List.getD_eq_getElem?_getD, List.getElem?_eq_none (by omega)]; exact trivial
      · have := h.tmps t
        simpa [St.get, List.getD_eq_getElem?_getD, Array.getElem?_setIfInBounds_ne (Ne.symm e)] using this
/-- what the frame's other temporaries tell, in a later state -/
theorem Rel.evo {G G' : Gh} {σ : St} {R' : List Root} {a : Act} {w w' : World} (h : Rel G σ a w) (k : RelR G' R' w') (e : Evo G σ.roots w G' R' w') : Rel G' ⟨σ.tmps, R'⟩ a w' :=
  { roots := k, defers := h.defers, size := h.size, tmps := fun t => (avR_evo e _).1 _ (h.tmps t) }
theorem Evo.drew (G : Gh) (R : List Root) (w : World) : Evo G R w G R w.drew := ⟨rfl, rfl, rfl, Nat.le_refl _, fun _ _ _ h => ⟨h, rfl, rfl⟩, fun _ _ _ h => ⟨h, rfl, rfl⟩, fun r q h => ⟨q, h, Nat.le_refl _, Nat.le_refl _, fun _ => .inr ⟨rfl, rfl⟩, fun _ _ e => ⟨e, rfl⟩, q.le_refl, fun _ _ _ _ _ s _ _ _ h => ⟨h, rfl, rfl⟩, fun _ _ _ _ _ _ _ _ _ _ _ h _ => ⟨h, rfl⟩⟩⟩
/-- A root that nobody touched, under another number perhaps. -/
theorem rootOk_move {G G' : Gh} {R R' : List Root} {w w' : World} (hf : Lk G w G' w' .free .free) (hav : ∀ c v, (avR G R w c).1 v → (avR G' R' w' c).1 v) {r r' : Nat} {q : Root} (ha : G'.anch r' = G.anch r)
    (hc : ∀ s, Lk G w G' w' (.of r s) (.of r' s)) (h : rootOk G R w r q) : rootOk G' R' w' r' q := by
  unfold rootOk at h ⊢
  rw [ha]
  have hu := vw_free hf
  cases hk : q.k with
  | dead => trivial
  | fro ts l => rw [hk] at h; exact (ro_mono hu (.slice ts)).1 _ _ h
  | box cs ss =>
    rw [hk] at h
    obtain ⟨h0, b, o, h1, h2⟩ := h
    refine ⟨h0, b, o, h1, fun f hf => ?_⟩
    obtain ⟨k1, k2, v, k3, k4⟩ := h2 f hf
    obtain ⟨c1, c2, c3⟩ := hc 0 _ _ (lt_of_at k3) k1
    exact ⟨c1, (fz_fr c3).trans k2, v, c2.trans k3, hav _ _ k4⟩
  | row own ts l =>
    rw [hk] at h
    exact rowG_keep (fun k t x v g => cvOf_keep own hu (fun _ => hc (k + 1)) t x v g) (hc 0) h
theorem rootOk_keep {G G' : Gh} {R R' : List Root} {w w' : World} (e : Evo G R w G' R' w') {r : Nat} {q : Root} (ha : G'.anch r = G.anch r) (hc : ∀ s, Lk G w G' w' (.of r s) (.of r s)) (h : rootOk G R w r q) : rootOk G' R' w' r q :=
  rootOk_move e.free (fun c v => (avR_evo e c).1 v) ha hc h
theorem RelR.drew {G : Gh} {R : List Root} {w : World} (h : RelR G R w) : RelR G R w.drew :=
  fun r q hq => rootOk_keep (Evo.drew G R w) rfl (fun s _ _ _ h => ⟨h, rfl, rfl⟩) (h r q hq)
theorem eval_av {G : Gh} {R : List Root} {w : World} {σ : St} {a : Act} (h : ∀ t, (avR G R w (σ.get t)).1 (a.tmps.getD t undef)) : ∀ (x : Operand), (avR G R w (σ.eval x)).1 (a.eval x)
  | .tmp t => h t
  | .func f => ⟨[], rfl, rfl⟩
  | .global _ => trivial
  | .const v => by
    have one : ∀ v : Value, (avR G R w (ofVal v)).1 v := by
      intro v
      cases v with
      | bool b => exact rfl
      | int k n => exact rfl
      | string s => exact rfl
      | _ => exact trivial
    have many : ∀ l : List Value, (avR G R w (ofVals l)).2 l := by
      intro l
      induction l with
      | nil => exact rfl
      | cons v vs ih => exact ⟨v, vs, rfl, one v, ih⟩
    have h1 := one v
    cases v with
    | agg cs => exact ⟨cs.toList, by simp [Act.eval], many _⟩
    | _ => exact h1
theorem Rel.eval {G : Gh} {σ : St} {a : Act} {w : World} (h : Rel G σ a w) (x : Operand) : (avR G σ.roots w (σ.eval x)).1 (a.eval x) := eval_av h.tmps x
end Go.Proofs.YtpihkhknehadbaaGreat.Eng
