/- Operations that write: boxes, stores, cuts. No condition. -/
import Derived.Test.YtpihkhknehadbaaGreatEngOps
import Derived.Laws.AppendOwn
import Derived.Laws.Slices
import Derived.Laws.MakeOwn
namespace Go.Proofs.YtpihkhknehadbaaGreat.Eng
open Go.RowKit
set_option linter.unusedVariables false
/-! ### Frames: all but some roots stand as they stood -/
structure Fr (G : Gh) (w : World) (G' : Gh) (w' : World) (ex : Nat → Prop) : Prop where
  os : w'.os = w.os
  tape : w'.tape = w.tape
  output : w'.output = w.output
  size : w.heap.size ≤ w'.heap.size
  free : Lk G w G' w' .free .free
  hid : Lk G w G' w' .hid .hid
  root : ∀ r, ¬ ex r → G'.anch r = G.anch r ∧ ∀ s, Lk G w G' w' (.of r s) (.of r s)
theorem Fr.refl (G : Gh) (w : World) (ex : Nat → Prop) : Fr G w G w ex := ⟨rfl, rfl, rfl, Nat.le_refl _, Lk.refl _ _ _, Lk.refl _ _ _, fun r _ => ⟨rfl, fun s => Lk.refl _ _ _⟩⟩
theorem Fr.trans {G G' G'' : Gh} {w w' w'' : World} {ex ex' : Nat → Prop} (h : Fr G w G' w' ex) (k : Fr G' w' G'' w'' ex') : Fr G w G'' w'' (fun r => ex r ∨ ex' r) where
  os := k.os.trans h.os
  tape := k.tape.trans h.tape
  output := k.output.trans h.output
  size := Nat.le_trans h.size k.size
  free := h.free.trans h.size k.free
  hid := h.hid.trans h.size k.hid
  root := fun r hr => by
    obtain ⟨h1, h2⟩ := h.root r (fun e => hr (.inl e))
    obtain ⟨k1, k2⟩ := k.root r (fun e => hr (.inr e))
    exact ⟨k1.trans h1, fun s => (h2 s).trans h.size (k2 s)⟩
theorem Fr.drew (G : Gh) (w : World) (ex : Nat → Prop) : Fr G w G w.drew ex := ⟨rfl, rfl, rfl, Nat.le_refl _, fun _ _ _ h => ⟨h, rfl, rfl⟩, fun _ _ _ h => ⟨h, rfl, rfl⟩, fun r _ => ⟨rfl, fun s _ _ _ h => ⟨h, rfl, rfl⟩⟩⟩
theorem RLe.of_same {G G' : Gh} {w w' : World} {r : Nat} {q : Root} (ha : G'.anch r = G.anch r) (hc : ∀ s, Lk G w G' w' (.of r s) (.of r s)) : RLe G w G' w' r q q :=
  ⟨Nat.le_refl _, Nat.le_refl _, fun _ => .inr ⟨rfl, ha⟩, fun _ _ e => ⟨e, ha⟩, q.le_refl, fun _ _ _ _ _ s => hc s, fun _ _ _ _ _ _ f _ b o _ ho hb => let ⟨h1, h2, _⟩ := hc 0 b (o + f) hb ho; ⟨h1, h2⟩⟩
/-- some roots are changed -/
theorem evo_upd {G G' : Gh} {R R' : List Root} {w w' : World} {ex : Nat → Prop} (hF : Fr G w G' w' ex) (hl : R.length ≤ R'.length) (hsame : ∀ r q, R[r]? = some q → ¬ ex r → R'[r]? = some q)
    (hex : ∀ r q, R[r]? = some q → ex r → ∃ q', R'[r]? = some q' ∧ RLe G w G' w' r q q') : Evo G R w G' R' w' :=
  { os := hF.os, tape := hF.tape, output := hF.output, size := hF.size, free := hF.free, hid := hF.hid,
    root := fun r q hq => by
      by_cases e : ex r
      · exact hex r q hq e
      · obtain ⟨h1, h2⟩ := hF.root r e
        exact ⟨q, hsame r q hq e, RLe.of_same h1 h2⟩ }
/-- one root is changed -/
theorem upd_root {G G' : Gh} {R : List Root} {w w' : World} {r : Nat} {q q' : Root} (hR : RelR G R w) (hq : R[r]? = some q) (hF : Fr G w G' w' (· = r)) (hle : RLe G w G' w' r q q')
    (hk : Evo G R w G' (R.set r q') w' → rootOk G' (R.set r q') w' r q') : RelR G' (R.set r q') w' ∧ Evo G R w G' (R.set r q') w' := by
  have hr : r < R.length := (List.getElem?_eq_some_iff.1 hq).1
  have hE : Evo G R w G' (R.set r q') w' := evo_upd hF (by simp) (fun s p hs e => by rw [List.getElem?_set_ne (fun e' => e e'.symm)]; exact hs) (fun s p hs e => by
    subst e
    rw [hq] at hs; cases hs
    exact ⟨q', List.getElem?_set_self hr, hle⟩)
  refine ⟨fun s p hs => ?_, hE⟩
  by_cases e : s = r
  · subst e
    rw [List.getElem?_set_self hr] at hs; cases hs; exact hk hE
  · rw [List.getElem?_set_ne (Ne.symm e)] at hs
    obtain ⟨h1, h2⟩ := hF.root s e
    exact rootOk_keep hE h1 h2 (hR s p hs)
/-- new roots -/
theorem add_roots {G G' : Gh} {R N : List Root} {w w' : World} (hR : RelR G R w) (hF : Fr G w G' w' (fun r => R.length ≤ r))
    (hk : Evo G R w G' (R ++ N) w' → ∀ j q, N[j]? = some q → rootOk G' (R ++ N) w' (R.length + j) q) : RelR G' (R ++ N) w' ∧ Evo G R w G' (R ++ N) w' := by
  have lt : ∀ r q, R[r]? = some q → r < R.length := fun r q h => (List.getElem?_eq_some_iff.1 h).1
  have hE : Evo G R w G' (R ++ N) w' := evo_upd hF (by simp) (fun s p hs e => by rw [List.getElem?_append_left (lt s p hs)]; exact hs) (fun s p hs e => absurd (lt s p hs) (by omega))
  refine ⟨fun s p hs => ?_, hE⟩
  rcases Nat.lt_or_ge s R.length with h | h
  · rw [List.getElem?_append_left h] at hs
    obtain ⟨h1, h2⟩ := hF.root s (by omega)
    exact rootOk_keep hE h1 h2 (hR s p hs)
  · rw [List.getElem?_append_right h] at hs
    have := hk hE _ _ hs
    rwa [show R.length + (s - R.length) = s by omega] at this
/-! ### Worlds that change -/
theorem size_setCells (b : Nat) : ∀ (vs : List Value) (p : Nat) (w : World), (w.setCells b p vs).heap.size = w.heap.size
  | [], _, _ => rfl
  | v :: r, p, w => by rw [World.setCells, size_setCells b r]; simp
theorem world_setCells (b : Nat) : ∀ (vs : List Value) (p : Nat) (w : World), (w.setCells b p vs).os = w.os ∧ (w.setCells b p vs).tape = w.tape ∧ (w.setCells b p vs).output = w.output
  | [], _, _ => ⟨rfl, rfl, rfl⟩
  | v :: r, p, w => world_setCells b r (p + 1) _
theorem at_set_out {w : World} {b p : Nat} {vs : List Value} {b' p' : Nat} (h : ¬ (b' = b ∧ p ≤ p' ∧ p' < p + vs.length)) : at_ (w.setCells b p vs) b' p' = at_ w b' p' :=
  World.cell?_setCells_out b vs p w ⟨b', p', none⟩ (fun e _ => by have e : b' = b := e; show p' < p ∨ p + vs.length ≤ p'; omega)
theorem at_set_in {w : World} {b p : Nat} {vs : List Value} (h : ∀ j, j < vs.length → (at_ w b (p + j)).isSome = true) (j : Nat) (hj : j < vs.length) : at_ (w.setCells b p vs) b (p + j) = some (vs.getD j undef) := by
  have := World.cell?_setCells_in b vs p w h j hj
  rw [List.getD_eq_getElem?_getD, List.getElem?_eq_getElem hj]; exact this
theorem shp_setCell (w : World) (a : Addr) (v : Value) (b : Nat) : shp (w.setCell a v) b = shp w b := by
  unfold shp World.setCell
  simp only [Array.getElem?_modify]
  by_cases e : a.block = b
  · rw [if_pos e]
    cases h : w.heap[b]? with
    | none => rfl
    | some x => cases x <;> simp [shpO] <;> (split <;> simp)
  · rw [if_neg e]
theorem shp_setCells (b : Nat) : ∀ (vs : List Value) (p : Nat) (w : World) (b' : Nat), shp (w.setCells b p vs) b' = shp w b'
  | [], _, _, _ => rfl
  | v :: vs, p, w, b' => (shp_setCells b vs (p + 1) _ b').trans (shp_setCell _ _ _ _)
theorem fz_setCells (b : Nat) (vs : List Value) (p : Nat) (w : World) (b' o : Nat) : fz (w.setCells b p vs) b' o = fz w b' o := by
  unfold fz; rw [World.frozen?_setCells, shp_setCells]
theorem fz_alloc_old {w : World} {ob : Obj} {b o : Nat} (h : b < w.heap.size) : fz (w.alloc ob) b o = fz w b o := by
  unfold fz
  have e : shp (w.alloc ob) b = shp w b := by
    unfold shp
    have : (w.alloc ob).heap[b]? = w.heap[b]? := by
      show (w.heap.push ob)[b]? = _
      rw [Array.getElem?_push, if_neg (by omega)]
    rw [this]
  rw [e, World.frozen?_alloc_old _ _ _ (by simp; omega)]
/-- cells of one root are written -/
theorem fr_set {G : Gh} {w : World} {r : Nat} {b p : Nat} {vs : List Value} (ho : ∀ j, j < vs.length → ∃ s, G.own b (p + j) = .of r s) : Fr G w G (w.setCells b p vs) (· = r) := by
  obtain ⟨h1, h2, h3⟩ := world_setCells b vs p w
  have key : ∀ L : Lab, (∀ s, L ≠ .of r s) → Lk G w G (w.setCells b p vs) L L := by
    intro L hL b' o' _ h
    refine ⟨h, at_set_out (fun ⟨e1, e2, e3⟩ => ?_), fz_setCells b vs p w _ _⟩
    obtain ⟨s, hs⟩ := ho (o' - p) (by omega)
    rw [show p + (o' - p) = o' by omega, ← e1, h] at hs
    exact hL s hs
  exact ⟨h1, h2, h3, by rw [size_setCells]; exact Nat.le_refl _, key _ (fun s e => by cases e), key _ (fun s e => by cases e), fun s hs => ⟨rfl, fun t => key _ (fun u e => by cases e; exact hs rfl)⟩⟩
theorem at_alloc_old {w : World} {o : Obj} {b p : Nat} (h : b < w.heap.size) : at_ (w.alloc o) b p = at_ w b p := World.cell?_alloc_lt _ _ _ h
theorem at_new {w1 : World} {vs : List Value} {e j : Nat} (hj : j < vs.length) : at_ (w1.alloc (.cells vs.toArray e)) w1.heap.size j = some (vs.getD j undef) := by simp [at_, hj]
theorem fr_new {w1 : World} {vs : List Value} {e j : Nat} : (w1.alloc (.cells vs.toArray e)).frozen? ⟨w1.heap.size, j, none⟩ = false := by simp
theorem Ext.alloc (w : World) (o : Obj) : Ext w (w.alloc o) := ⟨by simp, fun b o hb => at_alloc_old hb⟩
/-- the ghost where root n takes a new block -/
def allocG (G : Gh) (n : Nat) (w : World) (cap : Nat) : Gh :=
  ⟨fun b o => if b = w.heap.size then .of n 0 else G.own b o, fun r => if r = n then (some ⟨w.heap.size, 0, none⟩, cap) else G.anch r⟩
theorem fr_alloc {G : Gh} {w : World} (n cap : Nat) (obj : Obj) {ex : Nat → Prop} (hn : ex n) : Fr G w (allocG G n w cap) (w.alloc obj) ex := by
  have key : ∀ L : Lab, Lk G w (allocG G n w cap) (w.alloc obj) L L := by
    intro L b o hb h
    exact ⟨by simp [allocG, Nat.ne_of_lt hb, h], at_alloc_old hb, fz_alloc_old hb⟩
  exact ⟨rfl, rfl, rfl, by simp, key _, key _, fun r hr => ⟨by simp only [allocG]; rw [if_neg (fun e => by subst e; exact hr hn)], fun s => key _⟩⟩
/-- the labels of all cells of this block -/
theorem lk_alloc {G : Gh} {w : World} (n cap : Nat) (obj : Obj) (L : Lab) : Lk G w (allocG G n w cap) (w.alloc obj) L L :=
  fun b o hb h => ⟨by simp [allocG, Nat.ne_of_lt hb, h], at_alloc_old hb, fz_alloc_old hb⟩
/-- the ghost where root n stands at a place -/
def anchG (G : Gh) (n : Nat) (a : Option Addr) (cap : Nat) : Gh := ⟨G.own, fun r => if r = n then (a, cap) else G.anch r⟩
theorem fr_anch {G : Gh} {w : World} (n : Nat) (a : Option Addr) (cap : Nat) {ex : Nat → Prop} (hn : ex n) : Fr G w (anchG G n a cap) w ex :=
  ⟨rfl, rfl, rfl, Nat.le_refl _, fun _ _ _ h => ⟨h, rfl, rfl⟩, fun _ _ _ h => ⟨h, rfl, rfl⟩, fun r hr => ⟨by simp only [anchG]; rw [if_neg (fun e => by subst e; exact hr hn)], fun s _ _ _ h => ⟨h, rfl, rfl⟩⟩⟩
/-- the ghost where labels are turned -/
def relab (G : Gh) (τ : Nat → Nat → Lab) : Gh := ⟨fun b o => match G.own b o with | .of r s => τ r s | x => x, G.anch⟩
theorem lk_relab {G : Gh} {w : World} (τ : Nat → Nat → Lab) (r s : Nat) : Lk G w (relab G τ) w (.of r s) (τ r s) := fun b o _ h => ⟨by simp [relab, h], rfl, rfl⟩
theorem fr_relab {G : Gh} {w : World} {τ : Nat → Nat → Lab} {ex : Nat → Prop} (hτ : ∀ r, ¬ ex r → ∀ s, τ r s = .of r s) : Fr G w (relab G τ) w ex :=
  ⟨rfl, rfl, rfl, Nat.le_refl _, fun _ _ _ h => ⟨by simp [relab, h], rfl, rfl⟩, fun _ _ _ h => ⟨by simp [relab, h], rfl, rfl⟩, fun r hr => ⟨rfl, fun s => by have := lk_relab (G := G) (w := w) τ r s; rwa [hτ r hr s] at this⟩⟩
/-! ### Rows that are absorbed, or read only from now on -/
theorem mem_memN {n : Nat} : ∀ {l : List Nat}, memN n l = true ↔ n ∈ l
  | [] => by simp [memN]
  | m :: ms => by
    simp only [memN, Bool.or_eq_true, List.mem_cons, mem_memN (l := ms)]
    exact or_congr ⟨fun h => beq_nat h, fun h => by subst h; exact Nat.beq_refl n⟩ Iff.rfl
theorem nodup_nodupN : ∀ {l : List Nat}, nodupN l = true ↔ l.Nodup
  | [] => by simp [nodupN]
  | m :: ms => by
    simp only [nodupN, Bool.and_eq_true, Bool.not_eq_true', List.nodup_cons, nodup_nodupN (l := ms)]
    refine and_congr ⟨fun h hm => ?_, fun h => ?_⟩ Iff.rfl
    · rw [mem_memN.2 hm] at h; cases h
    · cases e : memN m ms with
      | false => rfl
      | true => exact absurd (mem_memN.1 e) h
theorem apart_apartN {l : List Nat} : ∀ {ms : List Nat}, apartN l ms = true ↔ ∀ m ∈ ms, m ∉ l
  | [] => by simp [apartN]
  | m :: ms => by
    simp only [apartN, Bool.and_eq_true, Bool.not_eq_true', List.mem_cons, forall_eq_or_imp, apart_apartN (ms := ms)]
    refine and_congr ⟨fun h hm => ?_, fun h => ?_⟩ Iff.rfl
    · rw [mem_memN.2 hm] at h; cases h
    · cases e : memN m l with
      | false => rfl
      | true => exact absurd (mem_memN.1 e) h
theorem eatOne_eatOne (own : Bool) (q : Root) : eatOne own (eatOne own q) = eatOne own q := by
  obtain ⟨k, v, a⟩ := q
  cases own <;> cases k <;> rfl
theorem eat_tmps (own : Bool) : ∀ (rs : List Nat) (σ : St), (eat own σ rs).tmps = σ.tmps
  | [], _ => rfl
  | r :: rs, σ => by
    rw [eat, eat_tmps own rs]
    unfold eatAt
    cases σ.roots[r]? <;> rfl
theorem eat_get (own : Bool) : ∀ (rs : List Nat) (σ : St) (r : Nat), (eat own σ rs).roots[r]? = if r ∈ rs then (σ.roots[r]?).map (eatOne own) else σ.roots[r]?
  | [], σ, r => by simp [eat]
  | m :: rs, σ, r => by
    rw [eat, eat_get own rs]
    have h1 : ∀ x, (eatAt own σ m).roots[x]? = if x = m then (σ.roots[x]?).map (eatOne own) else σ.roots[x]? := by
      intro x
      unfold eatAt
      cases hm : σ.roots[m]? with
      | none =>
        by_cases e : x = m
        · subst e; simp [hm]
        · simp [e]
      | some q =>
        have hlt : m < σ.roots.length := (List.getElem?_eq_some_iff.1 hm).1
        by_cases e : x = m
        · subst e; simp only [setRoot, List.getElem?_set_self hlt, hm, if_true, Option.map_some]
        · simp [setRoot, e, List.getElem?_set_ne (Ne.symm e)]
    rw [h1 r]
    by_cases e : r = m
    · subst e
      by_cases hr : r ∈ rs
      · simp only [hr, if_true, List.mem_cons, or_true]
        cases σ.roots[r]? with
        | none => rfl
        | some q => simp [eatOne_eatOne]
      · simp [hr]
    · simp [e]
theorem eat_len (own : Bool) : ∀ (rs : List Nat) (σ : St), (eat own σ rs).roots.length = σ.roots.length
  | [], _ => rfl
  | r :: rs, σ => by
    rw [eat, eat_len own rs]
    unfold eatAt
    cases σ.roots[r]? <;> simp [setRoot]
/-- a row whose cells nobody writes any more is read -/
theorem ro_of_row {G G' : Gh} {w : World} {r : Nat} {own : Bool} {ts : Ty} {l : List ts.den} {a : Option Addr} {n : Nat} (hu : Lk G w G' w .free .free) (hf : ∀ s, Lk G w G' w (.of r s) .free) (h : rowG G w (cvOf G w r own) (.of r 0) ts l a n) :
    (ro (vw G' w) (.slice ts)).1 l (.slice a (List.length l) n) := by
  have flat : ∀ (s : Nat) (us : Ty) (m : List us.den) (a : Option Addr) (n : Nat) (cv : Nat → (t : Ty) → t.den → Value → Prop), (∀ k t x v, cv k t x v → (ro (vw G' w) t).1 x v) → rowG G w cv (.of r s) us m a n → (ro (vw G' w) (.slice us)).1 m (.slice a (List.length m) n) := by
    intro s us m a n cv hcv h
    refine ⟨a, n, rfl, h.1, fun i hi => ?_⟩
    obtain ⟨b, p, ea, h1, h2⟩ := row_elem h hi
    refine ⟨b, p, ea, (elG_ro us _ b _ (i * us.size)).2 (elG_mono us _ b _ _ (fun j v hj e => ?_) hcv h2)⟩
    exact vw_some.2 ⟨(hf s _ _ (lt_of_at e) (h1 j hj).1).1, e⟩
  refine flat 0 ts l a n _ (fun k t x v g => ?_) h
  cases own with
  | false => exact (ro_mono (vw_free hu) t).1 _ _ g
  | true =>
    cases t with
    | slice us =>
      obtain ⟨a1, n1, e, g⟩ := g
      subst e
      exact flat (k + 1) us x a1 n1 _ (fun k t x v g => (ro_mono (vw_free hu) t).1 _ _ g) g
    | bool => exact g
    | int _ => exact g
    | str => exact g
    | nil => exact g
    | cons _ _ => exact g
def isRowK : RK → Bool | .row _ _ _ => true | _ => false
/-- rows are eaten: the labels of theirs are turned -/
theorem eat_spec {G : Gh} {σ : St} {w : World} {own : Bool} {rs : List Nat} {τ : Nat → Nat → Lab} (hR : RelR G σ.roots w) (hrow : ∀ r ∈ rs, ∀ q, σ.roots[r]? = some q → isRowK q.k = true)
    (hτ : ∀ r, r ∉ rs → ∀ s, τ r s = .of r s) (hfree : own = false → ∀ r ∈ rs, ∀ s, τ r s = .free) :
    RelR (relab G τ) (eat own σ rs).roots w ∧ Evo G σ.roots w (relab G τ) (eat own σ rs).roots w := by
  have hF : Fr G w (relab G τ) w (· ∈ rs) := fr_relab (fun r hr s => hτ r hr s)
  have hE : Evo G σ.roots w (relab G τ) (eat own σ rs).roots w := by
    refine evo_upd hF (by rw [eat_len]; exact Nat.le_refl _) (fun r q hq hr => by rw [eat_get, if_neg hr]; exact hq) (fun r q hq hr => ?_)
    have hk := hrow r hr q hq
    obtain ⟨kk, ver, anc⟩ := q
    refine ⟨eatOne own ⟨kk, ver, anc⟩, by rw [eat_get, if_pos hr, hq]; rfl, ?_⟩
    cases kk with
    | row o ts l =>
      cases own with
      | true => exact ⟨Nat.le_succ _, Nat.le_succ _, fun e => .inl rfl, fun t n e => (by cases e), ⟨fun _ _ h => (by cases h), Nat.le_succ _, fun e => absurd e (by simp [eatOne])⟩, fun _ _ _ _ e => absurd e (by simp [eatOne]), fun _ _ _ _ e => by cases e⟩
      | false => exact ⟨Nat.le_refl _, Nat.le_succ _, fun e => .inr ⟨rfl, rfl⟩, fun t n e => (by cases e), ⟨fun _ _ h => (by cases h), Nat.le_succ _, fun e => absurd e (by simp [eatOne])⟩, fun _ _ _ _ e => absurd e (by simp [eatOne]), fun _ _ _ _ e => by cases e⟩
    | _ => cases hk
  refine ⟨fun r q hq => ?_, hE⟩
  rw [eat_get] at hq
  by_cases hr : r ∈ rs
  · rw [if_pos hr] at hq
    cases h0 : σ.roots[r]? with
    | none => rw [h0] at hq; cases hq
    | some q0 =>
      rw [h0] at hq
      cases hq
      have hk := hrow r hr q0 h0
      have hro := hR r q0 h0
      obtain ⟨kk, ver, anc⟩ := q0
      cases kk with
      | row o ts l =>
        cases own with
        | true => exact trivial
        | false =>
          exact ro_of_row hF.free (fun s => by have := lk_relab (G := G) (w := w) τ r s; rwa [hfree rfl r hr s] at this) hro
      | _ => cases hk
  · rw [if_neg hr] at hq
    obtain ⟨h1, h2⟩ := hF.root r hr
    exact rootOk_keep hE h1 h2 (hR r q hq)
theorem hd_box {k : RK} {t : Ty} {n : Nat} (h : k.hd = some (true, t, n)) : ∃ cs ss, k = .box cs ss := by
  cases k with
  | box cs ss => exact ⟨cs, ss, rfl⟩
  | _ => cases h
/-- a root that is no box, changed -/
theorem RLe.row' {G G' : Gh} {w w' : World} {r : Nat} {q q' : Root} (hnb : ∀ cs ss, q.k ≠ .box cs ss) (hnb' : ∀ cs ss, q'.k ≠ .box cs ss) (hv : q.ver < q'.ver) (ha : q.anc ≤ q'.anc)
    (hh : q'.anc = q.anc → q'.k.hd = none ∨ (q'.k.hd = q.k.hd ∧ G'.anch r = G.anch r)) : RLe G w G' w' r q q' where
  anc := ha
  ver := Nat.le_of_lt hv
  hd := hh
  box := fun t n h => by obtain ⟨cs, ss, e⟩ := hd_box h; exact absurd e (hnb' cs ss)
  le := by
    unfold Root.le
    cases hk : q.k with
    | box cs ss => exact absurd hk (hnb cs ss)
    | _ => exact ⟨hnb', Nat.le_of_lt hv, fun e => by omega⟩
  same := fun _ _ _ _ e => by omega
  cell := fun cs ss _ _ e => absurd e (hnb cs ss)
/-- a box, changed -/
theorem RLe.box' {G G' : Gh} {w w' : World} {r : Nat} {cs cs' : List AV} {ss ss' : List Nat} {ver anc : Nat} (ha : G'.anch r = G.anch r) (hl : cs'.length = cs.length)
    (h : ∀ f, ss.getD f 0 ≤ ss'.getD f 0 ∧ (ss'.getD f 0 = ss.getD f 0 → cs'.getD f .undef = cs.getD f .undef))
    (hc : ∀ f, ss'.getD f 0 = ss.getD f 0 → ∀ b o, (G.anch r).1 = some ⟨b, o, none⟩ → G.own b (o + f) = .of r 0 → b < w.heap.size → G'.own b (o + f) = .of r 0 ∧ at_ w' b (o + f) = at_ w b (o + f)) : RLe G w G' w' r ⟨.box cs ss, ver, anc⟩ ⟨.box cs' ss', ver, anc⟩ where
  anc := Nat.le_refl _
  ver := Nat.le_refl _
  hd := fun _ => .inr ⟨by simp [RK.hd, hl], ha⟩
  box := fun t n e => ⟨by simp only [RK.hd, hl] at e ⊢; exact e, ha⟩
  le := ⟨cs', ss', rfl, hl, h⟩
  same := fun _ _ _ e => by cases e
  cell := fun _ _ _ _ e e' f hf b o => by cases e; cases e'; exact hc f hf b o
theorem rowG_drop {G : Gh} {w : World} {u : Nat → Nat → Option Value} {L : Lab} {ts : Ty} {l : List ts.den} {a : Option Addr} {c lo : Nat} (h : rowG G w (flatV u) L ts l a c) (hlo : lo ≤ List.length l) :
    rowG G w (flatV u) L ts (dp l lo) (if c = lo then a else a.map (·.add (lo * ts.size))) (c - lo) := by
  obtain ⟨h0, h⟩ := h
  refine ⟨by rw [len_dp]; omega, ?_⟩
  by_cases e : c = lo
  · exact .inl (by omega)
  · rcases h with h | ⟨b, o, ea, h1, h2⟩
    · omega
    · right
      refine ⟨b, o + lo * ts.size, by rw [if_neg e, ea]; simp [add_at], fun j hj => ?_, fun i hi => ?_⟩
      · have hm : lo * ts.size + j < c * ts.size := by
          have : lo * ts.size + (c - lo) * ts.size = c * ts.size := by rw [← Nat.add_mul]; congr 1; omega
          omega
        have := h1 _ hm
        rwa [show o + lo * ts.size + j = o + (lo * ts.size + j) by omega]
      · rw [len_dp] at hi
        rw [rd_dp]
        have := h2 (lo + i) (by omega)
        rw [Nat.add_mul] at this
        rw [show o + lo * ts.size + i * ts.size = o + (lo * ts.size + i * ts.size) by omega]
        exact elG_move ts _ b _ (lo * ts.size + i * ts.size) b _ (i * ts.size) (fun j v _ e => e) (fun j _ t x v g => g) this
theorem ro_drop {u : Nat → Nat → Option Value} {ts : Ty} {l : List ts.den} {n : Nat} (hn : n ≤ List.length l) {a0 : Option Addr} {c : Nat} (hc : List.length l ≤ c)
    (h : ∀ i, i < List.length l → ∃ b o, a0 = some ⟨b, o, none⟩ ∧ (ro u ts).2 (rd ts l i) b (o + i * ts.size)) : (ro u (.slice ts)).1 (dp l n) (.slice (if c = n then a0 else a0.map (·.add (n * ts.size))) (List.length l - n) (c - n)) := by
  refine ⟨_, c - n, by rw [len_dp], by rw [len_dp]; omega, fun i hi => ?_⟩
  rw [len_dp] at hi
  obtain ⟨b, p, ea, k'⟩ := h (n + i) (by omega)
  refine ⟨b, p + n * ts.size, ?_, ?_⟩
  · rw [if_neg (by omega), ea]; simp [add_at]
  · rw [rd_dp, show p + n * ts.size + i * ts.size = p + (n + i) * ts.size by rw [Nat.add_mul]; omega]; exact k'
theorem cutTl_spec {G : Gh} {σ : St} {w : World} {av : AV} {v : Value} (hR : RelR G σ.roots w) (hv : (avR G σ.roots w av).1 v) :
    (cutTl σ av).2.tmps = σ.tmps ∧ ∃ G', RelR G' (cutTl σ av).2.roots w ∧ Evo G σ.roots w G' (cutTl σ av).2.roots w ∧ (avR G' (cutTl σ av).2.roots w (cutTl σ av).1).1 v := by
  have same : ∀ av', (avR G σ.roots w av').1 v → (cutTl σ av) = (av', σ) → (cutTl σ av).2.tmps = σ.tmps ∧ ∃ G', RelR G' (cutTl σ av).2.roots w ∧ Evo G σ.roots w G' (cutTl σ av).2.roots w ∧ (avR G' (cutTl σ av).2.roots w (cutTl σ av).1).1 v := by
    intro av' h e
    rw [e]
    exact ⟨rfl, G, hR, Evo.refl _ _ _, h⟩
  cases av with
  | hd r a n =>
    obtain ⟨q, hq, hle, g⟩ := hv
    have hro := hR r q hq
    obtain ⟨kk, ver, anc⟩ := q
    cases kk with
    | row o ts l =>
      cases hab : Nat.beq a anc with
      | false => exact same .undef trivial (by simp [cutTl, hq, hab])
      | true =>
        have e := beq_nat hab
        subst e
        obtain ⟨hn, ev⟩ := g rfl ts (List.length l) rfl
        have hcut : cutTl σ (.hd r a n) = (.sl r (a + 1), setRoot σ r ⟨.row o ts (tk l n), ver + 1, a + 1⟩) := by simp [cutTl, hq, hab]
        rw [hcut]
        have hro' : rowG G w (cvOf G w r o) (.of r 0) ts l (G.anch r).1 (G.anch r).2 := hro
        obtain ⟨h1, h2⟩ := upd_root (G' := G) (w' := w) (q' := ⟨.row o ts (tk l n), ver + 1, a + 1⟩) hR hq (Fr.refl _ _ _) (RLe.row' (fun _ _ e => by cases e) (fun _ _ e => by cases e) (Nat.lt_succ_self _) (Nat.le_succ _) (fun e => absurd e (by simp))) (fun _ => rowG_take hro' hn)
        refine ⟨rfl, G, h1, h2, _, List.getElem?_set_self (List.getElem?_eq_some_iff.1 hq).1, Nat.le_refl _, fun _ ts' m hh => ?_⟩
        cases hh
        rw [len_tk hn]; exact ev
    | fro ts l =>
      cases hab : Nat.beq a anc with
      | false => exact same .undef trivial (by simp [cutTl, hq, hab])
      | true =>
        have e := beq_nat hab
        subst e
        obtain ⟨hn, ev⟩ := g rfl ts (List.length l) rfl
        refine same (.val (.slice ts) (tk l n)) ?_ (by simp [cutTl, hq, hab])
        obtain ⟨a0, c, e0, hc, hh⟩ := hro
        cases e0
        rw [ev]
        exact ro_take hn (by omega) hh
    | box _ _ => exact same .undef trivial (by simp [cutTl, hq])
    | dead => exact same .undef trivial (by simp [cutTl, hq])
  | tl r a n =>
    obtain ⟨q, hq, hle, g⟩ := hv
    have hro := hR r q hq
    obtain ⟨kk, ver, anc⟩ := q
    cases kk with
    | row o ts l =>
      cases o with
      | true => exact same .undef trivial (by simp [cutTl, hq])
      | false =>
        cases hab : Nat.beq a anc with
        | false => exact same .undef trivial (by simp [cutTl, hq, hab])
        | true =>
          have e := beq_nat hab
          subst e
          obtain ⟨hn, ev⟩ := g rfl ts (List.length l) rfl
          have hcut : cutTl σ (.tl r a n) = (.sl r (a + 1), setRoot σ r ⟨.row false ts (dp l n), ver + 1, a + 1⟩) := by simp [cutTl, hq, hab]
          rw [hcut]
          have hro' : rowG G w (flatV (vw G w)) (.of r 0) ts l (G.anch r).1 (G.anch r).2 := hro
          have hd := rowG_drop hro' hn
          obtain ⟨h1, h2⟩ := upd_root (G' := anchG G r (if (G.anch r).2 = n then (G.anch r).1 else ((G.anch r).1).map (·.add (n * ts.size))) ((G.anch r).2 - n)) (w' := w) (q' := ⟨.row false ts (dp l n), ver + 1, a + 1⟩) hR hq (fr_anch r _ _ rfl)
            (RLe.row' (fun _ _ e => by cases e) (fun _ _ e => by cases e) (Nat.lt_succ_self _) (Nat.le_succ _) (fun e => absurd e (by simp))) (fun _ => by
              simp only [rootOk, anchG, if_true]
              exact rowG_keep (fun k t x v g => g) (fun _ _ _ h => ⟨h, rfl, rfl⟩) hd)
          refine ⟨rfl, _, h1, h2, _, List.getElem?_set_self (List.getElem?_eq_some_iff.1 hq).1, Nat.le_refl _, fun _ ts' m hh => ?_⟩
          cases hh
          simp only [anchG, if_true]
          rw [len_dp]; exact ev
    | fro ts l =>
      cases hab : Nat.beq a anc with
      | false => exact same .undef trivial (by simp [cutTl, hq, hab])
      | true =>
        have e := beq_nat hab
        subst e
        obtain ⟨hn, ev⟩ := g rfl ts (List.length l) rfl
        refine same (.val (.slice ts) (dp l n)) ?_ (by simp [cutTl, hq, hab])
        obtain ⟨a0, c, e0, hc, hh⟩ := hro
        cases e0
        rw [ev]
        refine ⟨_, (G.anch r).2 - n, by rw [len_dp], by rw [len_dp]; omega, fun i hi => ?_⟩
        rw [len_dp] at hi
        obtain ⟨b, p, ea, k'⟩ := hh (n + i) (by omega)
        refine ⟨b, p + n * ts.size, ?_, ?_⟩
        · rw [if_neg (by omega), ea]; simp [add_at]
        · rw [rd_dp, show p + n * ts.size + i * ts.size = p + (n + i) * ts.size by rw [Nat.add_mul]; omega]; exact k'
    | box _ _ => exact same .undef trivial (by simp [cutTl, hq])
    | dead => exact same .undef trivial (by simp [cutTl, hq])
  | undef => exact same _ hv rfl
  | val t x => exact same _ hv rfl
  | nl ts => exact same _ hv rfl
  | agg cs => exact same _ hv rfl
  | tup vs => exact same _ hv rfl
  | rp ts x f => exact same _ hv rfl
  | bp r f => exact same _ hv rfl
  | ep r a i f => exact same _ hv rfl
  | sl r a => exact same _ hv rfl
  | il r s i f => exact same _ hv rfl
  | ip r s i f j g => exact same _ hv rfl
  | pd r s i f us l => exact same _ hv rfl
  | fn f cs => exact same _ hv rfl
  | nil => exact same _ hv rfl
  | cons c cs => exact same _ hv rfl
section
variable {P : Program}
section
variable {R : Type} {G : Gh} {σ : St} {a : Act} {w : World} {K : AV → St → Option R} {r : R} {next : Act → World → Prop} {Q : Exit → Act → World → Prop} {o : Oper} {tab : List (Nat × TI)}
variable {soft : Bool} {Γ : List (Nat × Ent)} {call : Nat → List AV → St → (AV → St → Option R) → Option R} {k : Nat} {qt : Bool}
theorem st_eta {σ' : St} (h : σ'.tmps = σ.tmps) : σ' = ⟨σ.tmps, σ'.roots⟩ := by cases σ'; cases h; rfl
/-- a new box -/
theorem new_box {T : Nat} {cs : AV} {vs : List Value} (hR : RelR G σ.roots w) (hv : (avR G σ.roots w cs).2 vs) :
    ∃ G', RelR G' (newRoot σ (.box cs.toList (cs.toList.map fun _ => 0))).roots (w.alloc (.cells vs.toArray T)) ∧ Evo G σ.roots w G' (newRoot σ (.box cs.toList (cs.toList.map fun _ => 0))).roots (w.alloc (.cells vs.toArray T)) ∧
      (avR G' (newRoot σ (.box cs.toList (cs.toList.map fun _ => 0))).roots (w.alloc (.cells vs.toArray T)) (.bp σ.roots.length 0)).1 (.pointer (some ⟨w.heap.size, 0, none⟩)) := by
  obtain ⟨k1, k2⟩ := avs_get cs vs hv
  obtain ⟨h1, h2⟩ := add_roots (G' := allocG G σ.roots.length w 0) (w' := w.alloc (.cells vs.toArray T)) (N := [⟨.box cs.toList (cs.toList.map fun _ => 0), 0, 0⟩]) hR (fr_alloc σ.roots.length 0 _ (Nat.le_refl _)) (fun hE j q hj => by
    have e : j = 0 := by have := (List.getElem?_eq_some_iff.1 hj).1; simpa using this
    subst e
    simp at hj; subst hj
    refine ⟨by simp, w.heap.size, 0, by simp [allocG], fun f hf => ⟨by simp [allocG], fr_new, vs.getD f undef, ?_, (avR_evo hE _).1 _ (k2 f (by omega))⟩⟩
    have hf' : f < vs.length := by omega
    rw [Nat.zero_add]; exact at_new hf')
  refine ⟨_, h1, h2, ⟨.box cs.toList (cs.toList.map fun _ => 0), 0, 0⟩, by simp [newRoot, addRoots], fun n t hh => ⟨w.heap.size, 0, by simp [allocG], by simp⟩⟩
theorem op_alloc {T : Nat} (hT : TabOk P tab) (ho : o.op = .alloc T) (hR : Rel G σ a w) (hn : Nxt qt G σ w a o.dst K r next) (h : evOp tab soft Γ call k o σ K = some r) : o.wp P a w next Q := by
  simp only [evOp, ho] at h
  split at h
  · rename_i i hi
    obtain ⟨I, z, e1, e2, e3⟩ := (hT T i hi).zero
    obtain ⟨G', h1, h2, h3⟩ := new_box (T := T) hR.roots (zero_avs i.cells (hT T i hi).flat)
    refine wp_of_value (x := .pointer (some ⟨w.heap.size, 0, none⟩)) (w' := w.alloc (.cells (zeroVals i.cells).toArray T)) ?_ (hn _ _ G' _ _ h h1 h3 h2 (fun _ => Ext.alloc _ _))
    simp [execOp, ho, Instr.alloc, zeroValue, typeInfo, e1, e2, newVar, newRow, e3]
  · cases h
theorem toList_len {G : Gh} {Rs : List Root} {w : World} : ∀ (c : AV) (vs : List Value), (avR G Rs w c).2 vs → c.toList.length = lenAV c := by
  intro c
  induction c with
  | nil => intro _ _; rfl
  | cons a as _ ih => rintro _ ⟨v, vs', rfl, _, h⟩; simp [AV.toList, lenAV, ih vs' h]
  | _ => intro _ h; exact h.elim
theorem op_box {T : Nat} {x : Operand} (hT : TabOk P tab) (ho : o.op = .box T x) (hR : Rel G σ a w) (hn : Nxt qt G σ w a o.dst K r next) (h : evOp tab soft Γ call k o σ K = some r) : o.wp P a w next Q := by
  simp only [evOp, ho] at h
  split at h
  · rename_i i hi
    obtain ⟨hl, h⟩ := chk_some h
    have hl := beq_nat hl
    have hne : lenAV (cellsOf σ (σ.eval x)) ≠ 0 := by
      intro e0
      have : (cellsOf σ (σ.eval x)).toList.length = 0 := by
        generalize cellsOf σ (σ.eval x) = c at e0
        cases c <;> simp_all [lenAV, AV.toList]
      rw [this] at hl
      exact (hT T i hi).pos hl.symm
    obtain ⟨vs, e1, e2, e3, e4⟩ := cellsOf_spec (tm := σ.tmps) hR.roots hne (hR.eval x)
    obtain ⟨G', h1, h2, h3⟩ := new_box (σ := σ) (T := T) hR.roots e3
    refine wp_of_value (x := .pointer (some ⟨w.heap.size, 0, none⟩)) (w' := w.alloc (.cells vs.toArray T)) ?_ (hn _ _ G' _ _ h h1 h3 h2 (fun _ => Ext.alloc _ _))
    simp [execOp, ho, Instr.box, newVar, newRow, e1]
  · cases h
/-! ### Stores -/
/-- where a cell's own row goes: label of the rows that cells hold, the first cell's number being k -/
def tgtIn (Rs : List Root) : AV → Nat → List (Nat × Nat)
  | .cons v as, k => (rowOf ⟨[], Rs⟩ v).map (fun r => (r, k)) ++ tgtIn Rs as (k + 1)
  | _, _ => []
theorem tgtIn_rows {tm : List AV} {Rs : List Root} : ∀ (cs : AV) (k : Nat), (tgtIn Rs cs k).map Prod.fst = rowsIn ⟨tm, Rs⟩ cs := by
  intro cs
  induction cs with
  | cons c cs _ ih =>
    intro k
    have e : rowOf ⟨[], Rs⟩ c = rowOf ⟨tm, Rs⟩ c := by cases c <;> rfl
    simp only [tgtIn, rowsIn, List.map_append, ih, e]
    simp [Function.comp_def]
  | _ => intro k; rfl
theorem rowIn_row {tm : List AV} {Rs : List Root} {r r' : Nat} (h : r' ∈ (match rowIn ⟨tm, Rs⟩ r with | true => [r] | false => [])) : r' = r ∧ ∀ q, Rs[r]? = some q → isRowK q.k = true := by
  cases e : rowIn ⟨tm, Rs⟩ r with
  | false => rw [e] at h; cases h
  | true =>
    rw [e] at h
    refine ⟨by simpa using h, fun q hq => ?_⟩
    obtain ⟨kk, v, b⟩ := q
    simp only [rowIn, hq] at e
    cases kk <;> first | rfl | cases e
theorem rowOf_row {tm : List AV} {Rs : List Root} {c : AV} {r : Nat} (h : r ∈ rowOf ⟨tm, Rs⟩ c) : ∀ q, Rs[r]? = some q → isRowK q.k = true := by
  cases c with
  | sl r' a => obtain ⟨e, g⟩ := rowIn_row h; subst e; exact g
  | hd r' a n => obtain ⟨e, g⟩ := rowIn_row h; subst e; exact g
  | tl r' a n => obtain ⟨e, g⟩ := rowIn_row h; subst e; exact g
  | _ => cases h
theorem rowsIn_row {tm : List AV} {Rs : List Root} : ∀ (cs : AV) (r : Nat), r ∈ rowsIn ⟨tm, Rs⟩ cs → ∀ q, Rs[r]? = some q → isRowK q.k = true := by
  intro cs
  induction cs with
  | cons c cs _ ih =>
    intro r hr q hq
    simp only [rowsIn, List.mem_append] at hr
    rcases hr with hr | hr
    · exact rowOf_row hr q hq
    · exact ih r hr q hq
  | _ => intro r hr; cases hr
theorem rowIn_mem {tm : List AV} {Rs : List Root} {r v b : Nat} {o : Bool} {ts : Ty} {l : List ts.den} (h : Rs[r]? = some ⟨.row o ts l, v, b⟩) : r ∈ (match rowIn ⟨tm, Rs⟩ r with | true => [r] | false => []) := by
  simp [rowIn, h]
/-- the turn of labels -/
def tauOf (own : Bool) (r0 : Nat) (L : List (Nat × Nat)) : Nat → Nat → Lab := fun r s => match L.lookup r with
  | some k => (match own with | true => .of r0 (k + 1) | false => .free)
  | none => .of r s
theorem lookup_none {L : List (Nat × Nat)} {r : Nat} (h : r ∉ L.map Prod.fst) : L.lookup r = none := by
  induction L with
  | nil => rfl
  | cons p L ih =>
    simp only [List.map_cons, List.mem_cons, not_or] at h
    rw [List.lookup_cons]
    have : (r == p.1) = false := by simpa using h.1
    rw [this]; exact ih h.2
theorem lookup_mem {L : List (Nat × Nat)} {r k : Nat} (hn : (L.map Prod.fst).Nodup) (h : (r, k) ∈ L) : L.lookup r = some k := by
  induction L with
  | nil => cases h
  | cons p L ih =>
    simp only [List.map_cons, List.nodup_cons] at hn
    rw [List.lookup_cons]
    rcases List.mem_cons.1 h with e | h
    · subst e; simp
    · have : (r == p.1) = false := by
        simp only [beq_eq_false_iff_ne, ne_eq]
        intro e
        exact hn.1 (e ▸ List.mem_map_of_mem (f := Prod.fst) h)
      rw [this]; exact ih hn.2 h
theorem lookup_some {L : List (Nat × Nat)} {r : Nat} (h : r ∈ L.map Prod.fst) : ∃ k, L.lookup r = some k := by
  induction L with
  | nil => cases h
  | cons p L ih =>
    rw [List.lookup_cons]
    by_cases e : r = p.1
    · exact ⟨p.2, by simp [e]⟩
    · have : (r == p.1) = false := by simpa using e
      rw [this]
      simp only [List.map_cons, List.mem_cons] at h
      exact ih (h.resolve_left e)
/-- what the turn must be at the rows that cells hold -/
def TauOk (Rs : List Root) (own : Bool) (r0 : Nat) (τ : Nat → Nat → Lab) : AV → Nat → Prop
  | .cons v as, k => (∀ r ∈ rowOf ⟨[], Rs⟩ v, ∀ s, τ r s = if own then .of r0 (k + 1) else .free) ∧ TauOk Rs own r0 τ as (k + 1)
  | _, _ => True
theorem tauOk {Rs : List Root} {own : Bool} {r0 : Nat} {L : List (Nat × Nat)} (hn : own = true → (L.map Prod.fst).Nodup) : ∀ (cs : AV) (k : Nat), (∀ p ∈ tgtIn Rs cs k, p ∈ L) → TauOk Rs own r0 (tauOf own r0 L) cs k := by
  intro cs
  induction cs with
  | cons c cs _ ih =>
    intro k h
    simp only [tgtIn, List.mem_append, List.mem_map] at h
    refine ⟨fun r hr s => ?_, ih (k + 1) (fun p hp => h p (.inr hp))⟩
    have hm := h (r, k) (.inl ⟨r, hr, rfl⟩)
    cases own with
    | true => simp [tauOf, lookup_mem (hn rfl) hm]
    | false =>
      obtain ⟨k', hk'⟩ := lookup_some (List.mem_map_of_mem (f := Prod.fst) hm)
      simp [tauOf, hk']
  | _ => intro k _; exact trivial
theorem cast_spec {s t : Ty} {x : s.den} {y : t.den} (h : s.cast t x = some y) : ∃ e : s = t, e ▸ x = y := by
  unfold Ty.cast at h
  cases he : s.eq? t with
  | none => rw [he] at h; cases h
  | some p => rw [he] at h; exact ⟨p.down, Option.some.inj h⟩
theorem cast_sl {us : Ty} {t : Ty} {x : (Ty.slice us).den} {y : t.den} (h : (Ty.slice us).cast t x = some y) : ∃ e : t = .slice us, e ▸ y = x := by
  obtain ⟨e, g⟩ := cast_spec h
  subst e; exact ⟨rfl, g.symm⟩
/-- the contents of one cell that is stored, told where labels have been turned -/
theorem cellOf_spec {Rs : List Root} {tm : List AV} {own : Bool} {r0 kk : Nat} {τ : Nat → Nat → Lab} (hR : RelR G Rs w) {t : Ty} {av : AV} {x : t.den} {v : Value} (h : cellOf ⟨tm, Rs⟩ own t av = some x) (hv : (avR G Rs w av).1 v)
    (ht : TauOk Rs own r0 τ (.cons av .nil) kk) : cvOf (relab G τ) w r0 own kk t x v := by
  have hu : ∀ b o v, vw G w b o = some v → vw (relab G τ) w b o = some v := vw_free (fr_relab (ex := fun _ => True) (G := G) (w := w) (τ := τ) (fun r hr => absurd trivial hr)).free
  have flat : ∀ (t : Ty) (x : t.den), (own && t.isSl) = false → (ro (vw G w) t).1 x v → cvOf (relab G τ) w r0 own kk t x v := by
    intro t x hs hro
    have := (ro_mono hu t).1 _ _ hro
    cases own with
    | false => exact this
    | true => cases t <;> first | exact this | cases hs
  have fromRow : ∀ (r : Nat) (o : Bool) (us : Ty) (x : List us.den) (a0 : Option Addr) (c : Nat), (∀ s, τ r s = if own then .of r0 (kk + 1) else .free) → (!own || !o) = true → v = .slice a0 (List.length x) c → rowG G w (cvOf G w r o) (.of r 0) us x a0 c →
      cvOf (relab G τ) w r0 own kk (.slice us) x v := by
    intro r o us x a0 c hτ ho ev hro
    cases own with
    | true =>
      have ho : o = false := by simpa using ho
      subst ho
      refine ⟨_, _, ev, rowG_keep (fun k t x v g => flatV_keep hu k k t x v g) ?_ hro⟩
      have := lk_relab (G := G) (w := w) τ r 0
      rwa [hτ 0] at this
    | false =>
      rw [ev]
      refine ro_of_row (fr_relab (ex := fun _ => True) (fun r hr => absurd trivial hr)).free (fun s => ?_) hro
      have := lk_relab (G := G) (w := w) τ r s
      rwa [hτ s] at this
  cases av with
  | val u y =>
    simp only [cellOf] at h
    split at h
    · cases h
    · rename_i hs
      obtain ⟨e, g⟩ := cast_spec h
      subst e; subst g
      exact flat _ _ hs hv
  | nl us =>
    obtain ⟨a, ev⟩ := hv
    obtain ⟨e, g⟩ := cast_sl h
    subst e
    have g : x = [] := g
    subst g
    cases own with
    | true => exact ⟨a, 0, ev, Nat.zero_le _, .inl rfl⟩
    | false => exact ⟨a, 0, ev, Nat.le_refl _, fun i hi => absurd hi (by simp)⟩
  | sl r a =>
    obtain ⟨q, hq, hle, g⟩ := hv
    simp only [cellOf, hq] at h
    obtain ⟨k', ver, anc⟩ := q
    have hro := hR r _ hq
    cases k' with
    | row o us m =>
      have hτ := ht.1 r (rowIn_mem hq)
      simp only at h
      split at h
      · rename_i hb
        obtain ⟨hb1, hb2⟩ := and2 hb
        have ev := g (beq_nat hb1).symm us (List.length m) rfl
        obtain ⟨e, g'⟩ := cast_sl h
        subst e
        have g' : x = m := g'
        subst g'
        exact fromRow r o us x _ _ hτ hb2 ev hro
      · cases h
    | fro us m =>
      simp only at h
      split at h
      · rename_i hb
        obtain ⟨hb1, hb2⟩ := and2 hb
        have ev := g (beq_nat hb1).symm us (List.length m) rfl
        obtain ⟨e, g'⟩ := cast_sl h
        subst e
        have g' : x = m := g'
        subst g'
        refine flat _ _ (by simp only [Bool.not_eq_true'] at hb2; rw [hb2]; rfl) ?_
        rw [ev]; exact hro
      · cases h
    | _ => cases h
  | hd r a n =>
    obtain ⟨q, hq, hle, g⟩ := hv
    simp only [cellOf, hq] at h
    obtain ⟨k', ver, anc⟩ := q
    have hro := hR r _ hq
    cases k' with
    | row o us m =>
      have hτ := ht.1 r (rowIn_mem hq)
      simp only at h
      split at h
      · rename_i hb
        obtain ⟨hb1, hb2⟩ := and2 hb
        obtain ⟨hn, ev⟩ := g (beq_nat hb1).symm us (List.length m) rfl
        obtain ⟨e, g'⟩ := cast_sl h
        subst e
        have g' : x = tk m n := g'
        subst g'
        exact fromRow r o us _ _ _ hτ hb2 (by rw [len_tk hn]; exact ev) (rowG_take hro hn)
      · cases h
    | fro us m =>
      simp only at h
      split at h
      · rename_i hb
        obtain ⟨hb1, hb2⟩ := and2 hb
        obtain ⟨hn, ev⟩ := g (beq_nat hb1).symm us (List.length m) rfl
        obtain ⟨e, g'⟩ := cast_sl h
        subst e
        have g' : x = tk m n := g'
        subst g'
        refine flat _ _ (by simp only [Bool.not_eq_true'] at hb2; rw [hb2]; rfl) ?_
        rw [ev]
        obtain ⟨a0, c, e0, hc, hh⟩ := hro
        cases e0
        exact ro_take hn (by omega) hh
      · cases h
    | _ => cases h
  | tl r a n =>
    obtain ⟨q, hq, hle, g⟩ := hv
    simp only [cellOf, hq] at h
    obtain ⟨k', ver, anc⟩ := q
    have hro := hR r _ hq
    cases k' with
    | row o us m =>
      have hτ := ht.1 r (rowIn_mem hq)
      simp only at h
      split at h
      · rename_i hb
        obtain ⟨hb1, hb2⟩ := and2 hb
        obtain ⟨hn, ev⟩ := g (beq_nat hb1).symm us (List.length m) rfl
        have ho : o = false := by simpa using hb2
        subst ho
        obtain ⟨e, g'⟩ := cast_sl h
        subst e
        have g' : x = dp m n := g'
        subst g'
        exact fromRow r false us _ _ _ hτ (by simp) (by rw [len_dp]; exact ev) (rowG_drop hro hn)
      · cases h
    | fro us m =>
      simp only at h
      split at h
      · rename_i hb
        obtain ⟨hb1, hb2⟩ := and2 hb
        obtain ⟨hn, ev⟩ := g (beq_nat hb1).symm us (List.length m) rfl
        obtain ⟨e, g'⟩ := cast_sl h
        subst e
        have g' : x = dp m n := g'
        subst g'
        refine flat _ _ (by simp only [Bool.not_eq_true'] at hb2; rw [hb2]; rfl) ?_
        rw [ev]
        obtain ⟨a0, c, e0, hc, hh⟩ := hro
        cases e0
        exact ro_drop hn hc hh
      · cases h
    | _ => cases h
  | _ => cases h
theorem rowOf_cell {Rs : List Root} {tm : List AV} {own : Bool} {t : Ty} {c : AV} {z : t.den} {r : Nat} (h : r ∈ rowOf ⟨[], Rs⟩ c) (hz : cellOf ⟨tm, Rs⟩ own t c = some z) : ∃ (us : Ty) (l : List us.den), (Ty.slice us).cast t l = some z := by
  cases c with
  | sl r' a =>
    simp only [cellOf] at hz
    split at hz
    · split at hz
      · exact ⟨_, _, hz⟩
      · cases hz
    · split at hz
      · exact ⟨_, _, hz⟩
      · cases hz
    · cases hz
  | hd r' a n =>
    simp only [cellOf] at hz
    split at hz
    · split at hz
      · exact ⟨_, _, hz⟩
      · cases hz
    · split at hz
      · exact ⟨_, _, hz⟩
      · cases hz
    · cases hz
  | tl r' a n =>
    simp only [cellOf] at hz
    split at hz
    · split at hz
      · exact ⟨_, _, hz⟩
      · cases hz
    · split at hz
      · exact ⟨_, _, hz⟩
      · cases hz
    · cases hz
  | _ => cases h
theorem putEl_spec {Rs : List Root} {tm : List AV} {own : Bool} {r0 : Nat} {τ : Nat → Nat → Lab} (hR : RelR G Rs w) {c c' : Nat → Nat → Option Value} {b : Nat} : ∀ (ts : Ty) (x y : ts.den) (f p k : Nat) (av : AV) (vs : List Value),
    putEl ⟨tm, Rs⟩ own ts x f av = some y → (avR G Rs w av).2 vs → TauOk Rs own r0 τ av (k + f) → elG c (cvOf (relab G τ) w r0 own) ts x b p k →
    (∀ j, j < ts.size → c' b (p + j) = if f ≤ j ∧ j < f + vs.length then some (vs.getD (j - f) undef) else c b (p + j)) → elG c' (cvOf (relab G τ) w r0 own) ts y b p k
  | .cons t ts, x, y, f + 1, p, k, av, vs, h, hv, ht, ⟨⟨v, e, g⟩, hk⟩, hc => by
    simp only [putEl] at h
    split at h
    · rename_i z hz
      cases h
      refine ⟨⟨v, ?_, g⟩, putEl_spec hR ts x.2 z f (p + 1) (k + 1) av vs hz hv (by rw [show k + 1 + f = k + (f + 1) by omega]; exact ht) hk (fun j hj => ?_)⟩
      · have := hc 0 (by simp [Ty.size])
        rw [if_neg (by omega)] at this
        simpa using this.trans (by simpa using e)
      · have := hc (j + 1) (by simp only [Ty.size]; omega)
        rw [show p + (j + 1) = p + 1 + j by omega] at this
        rw [this]
        by_cases hlt : f ≤ j ∧ j < f + vs.length
        · rw [if_pos hlt, if_pos (by omega), show j + 1 - (f + 1) = j - f by omega]
        · rw [if_neg hlt, if_neg (by omega)]
    · cases h
  | .cons t ts, x, y, 0, p, k, .cons av as, vs, h, hv, ht, ⟨⟨v, e, g⟩, hk⟩, hc => by
    simp only [putEl] at h
    obtain ⟨v0, vs0, ev, h1, h2⟩ := hv
    subst ev
    have ht1 : TauOk Rs own r0 τ (.cons av .nil) k ∧ TauOk Rs own r0 τ as (k + 1) := ⟨⟨ht.1, trivial⟩, ht.2⟩
    split at h
    · rename_i z0 z hz0 hz
      cases h
      refine ⟨⟨v0, ?_, cellOf_spec hR hz0 h1 ht1.1⟩, putEl_spec hR ts x.2 z 0 (p + 1) (k + 1) as vs0 hz h2 ht1.2 hk (fun j hj => ?_)⟩
      · have := hc 0 (by simp [Ty.size])
        rw [if_pos (by simp)] at this
        simpa using this
      · have := hc (j + 1) (by simp only [Ty.size]; omega)
        rw [show p + (j + 1) = p + 1 + j by omega] at this
        rw [this]
        by_cases hlt : j < vs0.length
        · rw [if_pos (show 0 ≤ j + 1 ∧ j + 1 < 0 + (v0 :: vs0).length from ⟨Nat.zero_le _, by simp; omega⟩), if_pos (show 0 ≤ j ∧ j < 0 + vs0.length by omega)]; simp
        · rw [if_neg (by simp; omega), if_neg (by omega)]
    · cases h
  | .cons t ts, x, y, 0, p, k, .nil, vs, h, hv, _, hk, hc => by
    have hv : vs = [] := hv
    subst hv
    simp only [putEl] at h
    cases h
    refine elG_mono _ _ _ _ _ (fun j v hj e => ?_) (fun _ _ _ _ g => g) hk
    have := hc j hj
    rw [if_neg (fun h => by have := h.2; simp at this)] at this
    rw [this]; exact e
  | .bool, _, _, _, _, _, _, _, _, _, _, _, _ => trivial
  | .int _, _, _, _, _, _, _, _, _, _, _, _, _ => trivial
  | .str, _, _, _, _, _, _, _, _, _, _, _, _ => trivial
  | .nil, _, _, _, _, _, _, _, _, _, _, _, _ => trivial
  | .slice _, _, _, _, _, _, _, _, _, _, _, _, _ => trivial
  | .cons t ts, x, y, 0, p, k, .undef, vs, h, hv, _, hk, hc => hv.elim
  | .cons t ts, x, y, 0, p, k, .val _ _, vs, h, hv, _, hk, hc => hv.elim
  | .cons t ts, x, y, 0, p, k, .nl _, vs, h, hv, _, hk, hc => hv.elim
  | .cons t ts, x, y, 0, p, k, .agg _, vs, h, hv, _, hk, hc => hv.elim
  | .cons t ts, x, y, 0, p, k, .tup _, vs, h, hv, _, hk, hc => hv.elim
  | .cons t ts, x, y, 0, p, k, .rp _ _ _, vs, h, hv, _, hk, hc => hv.elim
  | .cons t ts, x, y, 0, p, k, .bp _ _, vs, h, hv, _, hk, hc => hv.elim
  | .cons t ts, x, y, 0, p, k, .ep _ _ _ _, vs, h, hv, _, hk, hc => hv.elim
  | .cons t ts, x, y, 0, p, k, .sl _ _, vs, h, hv, _, hk, hc => hv.elim
  | .cons t ts, x, y, 0, p, k, .hd _ _ _, vs, h, hv, _, hk, hc => hv.elim
  | .cons t ts, x, y, 0, p, k, .tl _ _ _, vs, h, hv, _, hk, hc => hv.elim
  | .cons t ts, x, y, 0, p, k, .il _ _ _ _, vs, h, hv, _, hk, hc => hv.elim
  | .cons t ts, x, y, 0, p, k, .ip _ _ _ _ _ _, vs, h, hv, _, hk, hc => hv.elim
  | .cons t ts, x, y, 0, p, k, .pd _ _ _ _ _ _, vs, h, hv, _, hk, hc => hv.elim
  | .cons t ts, x, y, 0, p, k, .fn _ _, vs, h, hv, _, hk, hc => hv.elim
theorem setInner_spec {c c' : Nat → Nat → Option Value} {cv cv' : Nat → (t : Ty) → t.den → Value → Prop} {b : Nat} {us : Ty} {m : List us.den} {v : Value} : ∀ (ts : Ty) (x y : ts.den) (f p k : Nat), setInner ts x f us m = some y → elG c cv ts x b p k →
    (∀ j u, j < ts.size → j ≠ f → c b (p + j) = some u → c' b (p + j) = some u) → (∀ j, j < ts.size → j ≠ f → ∀ t x v, cv (k + j) t x v → cv' (k + j) t x v) → c' b (p + f) = some v → cv' (k + f) (.slice us) m v → elG c' cv' ts y b p k
  | .cons (.slice vs) ts, x, y, 0, p, k, h, ⟨_, hk⟩, hc, hcv, hf, hv => by
    simp only [setInner] at h
    split at h
    · rename_i z hz
      cases h
      obtain ⟨e, g⟩ := cast_sl hz
      cases e
      have g : z = m := g
      subst g
      refine ⟨⟨v, by simpa using hf, hv⟩, elG_move _ _ _ _ _ _ _ _ (fun j u hj e => ?_) (fun j hj t x v g => ?_) hk⟩
      · have := hc (j + 1) u (by simp only [Ty.size]; omega) (by omega)
        rw [show p + (j + 1) = p + 1 + j by omega] at this
        exact this e
      · have := hcv (j + 1) (by simp only [Ty.size]; omega) (by omega) t x v
        rw [show k + (j + 1) = k + 1 + j by omega] at this
        exact this g
    · cases h
  | .cons t ts, x, y, f + 1, p, k, h, ⟨⟨u, e, g⟩, hk⟩, hc, hcv, hf, hv => by
    have h : (match setInner ts x.2 f us m with | some y => some (x.1, y) | none => none) = some y := by cases t <;> exact h
    split at h
    · rename_i z hz
      cases h
      refine ⟨⟨u, ?_, ?_⟩, setInner_spec ts x.2 z f (p + 1) (k + 1) hz hk (fun j u hj hne e => ?_) (fun j hj hne t x v g => ?_) (by rw [show p + 1 + f = p + (f + 1) by omega]; exact hf) (by rw [show k + 1 + f = k + (f + 1) by omega]; exact hv)⟩
      · have := hc 0 u (by simp [Ty.size]) (by omega)
        simpa using this (by simpa using e)
      · have := hcv 0 (by simp [Ty.size]) (by omega) t x.1 u
        simpa using this (by simpa using g)
      · have := hc (j + 1) u (by simp only [Ty.size]; omega) (by omega)
        rw [show p + (j + 1) = p + 1 + j by omega] at this
        exact this e
      · have := hcv (j + 1) (by simp only [Ty.size]; omega) (by omega) t x v
        rw [show k + (j + 1) = k + 1 + j by omega] at this
        exact this g
    · cases h
  | .cons .bool ts, x, y, 0, p, k, h, _, _, _, _, _ => by cases h
  | .cons (.int _) ts, x, y, 0, p, k, h, _, _, _, _, _ => by cases h
  | .cons .str ts, x, y, 0, p, k, h, _, _, _, _, _ => by cases h
  | .cons .nil ts, x, y, 0, p, k, h, _, _, _, _, _ => by cases h
  | .cons (.cons _ _) ts, x, y, 0, p, k, h, _, _, _, _, _ => by cases h
  | .bool, _, _, _, _, _, h, _, _, _, _, _ => by cases h
  | .int _, _, _, _, _, _, h, _, _, _, _, _ => by cases h
  | .str, _, _, _, _, _, h, _, _, _, _, _ => by cases h
  | .slice _, _, _, _, _, _, h, _, _, _, _, _ => by cases h
  | .nil, _, _, _, _, _, h, _, _, _, _, _ => by cases h
/-- labels other than the written cells' -/
theorem lk_set {L0 : Lab} {b p : Nat} {vs : List Value} (ho : ∀ j, j < vs.length → G.own b (p + j) = L0) (L : Lab) (hL : L ≠ L0) : Lk G w G (w.setCells b p vs) L L := by
  intro b' o' _ h
  refine ⟨h, at_set_out (fun ⟨e1, e2, e3⟩ => ?_), fz_setCells b vs p w _ _⟩
  have := ho (o' - p) (by omega)
  rw [show p + (o' - p) = o' by omega, ← e1, h] at this
  exact hL this
theorem run_storeAt (hT : TabOk P tab) {T : Nat} {i : TI} (hi : look tab T = some i) {v : Value} {vs : List Value} (hv : v.cells = vs.toArray) (hl : vs.length = i.cells.size) (h1 : ∀ x ∈ vs, x.oneCell' = true) {b p : Nat}
    (hc : ∀ j, j < vs.length → (at_ w b (p + j)).isSome = true) (hf : ∀ j, j < vs.length → w.frozen? ⟨b, p + j, none⟩ = false) :
    (storeVar T ⟨b, p, none⟩ v).run P w = .ok () (w.setCells b p vs) := by
  have := run_storeCells_cells (P := P) b p vs 0 w (fun j hj => by simpa [at_] using hc j hj) (fun j hj => by simpa using hf j hj) h1
  have hs := size_of hT hi w
  simp only [Nat.add_zero] at this
  simp [storeVar, Sem.run_bind, hs, hv, hl, this]
/-- cells of a box that are set -/
theorem setCells_get {Rs : List Root} {w : World} : ∀ (cs : List AV) (ss : List Nat) (f : Nat) (av : AV) (vs : List Value), ss.length = cs.length → (avR G Rs w av).2 vs → f + vs.length ≤ cs.length →
    (setCells cs ss f av).1.length = cs.length ∧ (setCells cs ss f av).2.length = cs.length ∧
    ∀ j, j < cs.length → if f ≤ j ∧ j < f + vs.length then (avR G Rs w ((setCells cs ss f av).1.getD j .undef)).1 (vs.getD (j - f) undef) else (setCells cs ss f av).1.getD j .undef = cs.getD j .undef
  | c :: cs, s :: ss, f + 1, av, vs, hs, hv, hl => by
    obtain ⟨h1, h2, h3⟩ := setCells_get cs ss f av vs (by simpa using hs) hv (by simp at hl; omega)
    refine ⟨by simp [setCells, h1], by simp [setCells, h2], fun j hj => ?_⟩
    cases j with
    | zero => rw [if_neg (by omega)]; rfl
    | succ j =>
      have := h3 j (by simpa using hj)
      by_cases hlt : f ≤ j ∧ j < f + vs.length
      · rw [if_pos hlt] at this; rw [if_pos (by omega), show j + 1 - (f + 1) = j - f by omega]; exact this
      · rw [if_neg hlt] at this; rw [if_neg (by omega)]; exact this
  | c :: cs, s :: ss, 0, .cons v a, vs, hs, hv, hl => by
    obtain ⟨x, xs, e, g1, g2⟩ := hv
    subst e
    obtain ⟨h1, h2, h3⟩ := setCells_get cs ss 0 a xs (by simpa using hs) g2 (by simp at hl; omega)
    refine ⟨by simp [setCells, h1], by simp [setCells, h2], fun j hj => ?_⟩
    cases j with
    | zero => rw [if_pos (by simp)]; exact g1
    | succ j =>
      have := h3 j (by simpa using hj)
      by_cases hlt : j < xs.length
      · rw [if_pos (by omega)] at this; rw [if_pos ⟨by omega, by simp; omega⟩]; simpa [setCells] using this
      · rw [if_neg (by omega)] at this; rw [if_neg (by simp; omega)]; exact this
  | cs, ss, 0, .nil, vs, hs, hv, hl => by
    cases hv
    refine ⟨by cases cs <;> cases ss <;> rfl, by cases cs <;> cases ss <;> simp_all [setCells], fun j hj => ?_⟩
    rw [if_neg (by simp)]
    cases cs <;> cases ss <;> rfl
  | [], [], f, .cons v a, vs, hs, hv, hl => by
    obtain ⟨x, xs, e, _, _⟩ := hv
    subst e; simp at hl
  | _, _, _, .undef, _, _, hv, _ => hv.elim
  | _, _, _, .val _ _, _, _, hv, _ => hv.elim
  | _, _, _, .nl _, _, _, hv, _ => hv.elim
  | _, _, _, .agg _, _, _, hv, _ => hv.elim
  | _, _, _, .tup _, _, _, hv, _ => hv.elim
  | _, _, _, .rp _ _ _, _, _, hv, _ => hv.elim
  | _, _, _, .bp _ _, _, _, hv, _ => hv.elim
  | _, _, _, .ep _ _ _ _, _, _, hv, _ => hv.elim
  | _, _, _, .sl _ _, _, _, hv, _ => hv.elim
  | _, _, _, .hd _ _ _, _, _, hv, _ => hv.elim
  | _, _, _, .tl _ _ _, _, _, hv, _ => hv.elim
  | _, _, _, .il _ _ _ _, _, _, hv, _ => hv.elim
  | _, _, _, .ip _ _ _ _ _ _, _, _, hv, _ => hv.elim
  | _, _, _, .pd _ _ _ _ _ _, _, _, hv, _ => hv.elim
  | _, _, _, .fn _ _, _, _, hv, _ => hv.elim
  | [], [], f + 1, .nil, vs, hs, hv, hl => by simp at hl
theorem setCells_stamps : ∀ (cs : List AV) (ss : List Nat) (f : Nat) (av : AV) (g : Nat), ss.getD g 0 ≤ (setCells cs ss f av).2.getD g 0 ∧ ((setCells cs ss f av).2.getD g 0 = ss.getD g 0 → (setCells cs ss f av).1.getD g .undef = cs.getD g .undef) := by
  intro cs
  induction cs with
  | nil => intro ss f av g; cases ss <;> cases f <;> cases av <;> exact ⟨Nat.le_refl _, fun _ => rfl⟩
  | cons c cs ih =>
    intro ss f av g
    cases ss with
    | nil => cases f <;> cases av <;> exact ⟨Nat.le_refl _, fun _ => rfl⟩
    | cons s ss =>
      cases f with
      | succ f =>
        cases g with
        | zero => exact ⟨Nat.le_refl _, fun _ => rfl⟩
        | succ g => exact ih ss f av g
      | zero =>
        cases av with
        | cons v a =>
          cases g with
          | zero => exact ⟨Nat.le_succ _, fun h => absurd h (by simp [setCells])⟩
          | succ g => exact ih ss 0 a g
        | _ => exact ⟨Nat.le_refl _, fun _ => rfl⟩
theorem setCells_bump {Rs : List Root} {w : World} : ∀ (cs : List AV) (ss : List Nat) (f : Nat) (av : AV) (vs : List Value), ss.length = cs.length → (avR G Rs w av).2 vs → f + vs.length ≤ cs.length →
    ∀ j, f ≤ j ∧ j < f + vs.length → (setCells cs ss f av).2.getD j 0 = ss.getD j 0 + 1 := by
  intro cs
  induction cs with
  | nil =>
    intro ss f av vs hs hv hl j hj
    have : f + vs.length ≤ 0 := hl
    omega
  | cons c cs ih =>
    intro ss f av vs hs hv hl j hj
    cases ss with
    | nil => simp at hs
    | cons s ss =>
      cases f with
      | succ f =>
        cases j with
        | zero => omega
        | succ j => exact ih ss f av vs (by simpa using hs) hv (by simp at hl; omega) j (by omega)
      | zero =>
        cases av with
        | cons v a =>
          obtain ⟨x, xs, e, _, g2⟩ := hv
          subst e
          cases j with
          | zero => rfl
          | succ j => exact ih ss 0 a xs (by simpa using hs) g2 (by simp at hl; omega) j (by simp at hj; omega)
        | nil => cases hv; simp at hj
        | _ => exact hv.elim
/-- cells of a box are written -/
theorem box_write {Rs : List Root} {rr ver anc : Nat} {cs : List AV} {ss : List Nat} {f : Nat} {av : AV} {vs : List Value} (hR : RelR G Rs w) (hq : Rs[rr]? = some ⟨.box cs ss, ver, anc⟩) (hv : (avR G Rs w av).2 vs) (hl : f + vs.length ≤ cs.length) :
    ∃ b p, (G.anch rr).1 = some ⟨b, p, none⟩ ∧ (∀ j, j < vs.length → (at_ w b (p + f + j)).isSome = true ∧ w.frozen? ⟨b, p + f + j, none⟩ = false) ∧
      RelR G (Rs.set rr ⟨.box (setCells cs ss f av).1 (setCells cs ss f av).2, ver, anc⟩) (w.setCells b (p + f) vs) ∧ Evo G Rs w G (Rs.set rr ⟨.box (setCells cs ss f av).1 (setCells cs ss f av).2, ver, anc⟩) (w.setCells b (p + f) vs) := by
  obtain ⟨hss, b, p, ea, hcs⟩ := hR rr _ hq
  obtain ⟨k1, k2, k3⟩ := setCells_get (G := G) (Rs := Rs) (w := w) cs ss f _ vs hss hv hl
  have hc : ∀ j, j < vs.length → G.own b (p + f + j) = .of rr 0 ∧ w.frozen? ⟨b, p + f + j, none⟩ = false ∧ (at_ w b (p + f + j)).isSome = true := by
    intro j hj
    obtain ⟨c1, c2, u, c3, _⟩ := hcs (f + j) (by omega)
    rw [show p + f + j = p + (f + j) by omega]
    exact ⟨c1, c2, by rw [c3]; rfl⟩
  refine ⟨b, p, ea, fun j hj => ⟨(hc j hj).2.2, (hc j hj).2.1⟩, ?_⟩
  refine upd_root hR hq (fr_set (fun j hj => ⟨0, (hc j hj).1⟩)) (RLe.box' rfl k1 (setCells_stamps cs ss f av) (fun j hj b' p' ea' _ _ => by
    rw [ea] at ea'; cases ea'
    refine ⟨‹_›, at_set_out (fun ⟨_, e2, e3⟩ => ?_)⟩
    have := setCells_bump (G := G) (Rs := Rs) (w := w) cs ss f av vs hss hv hl j (by omega)
    omega)) (fun hE => ?_)
  refine ⟨by rw [k1, k2], b, p, ea, fun g' hg' => ?_⟩
  rw [k1] at hg'
  obtain ⟨c1, c2, u, c3, c4⟩ := hcs g' hg'
  have := k3 g' hg'
  by_cases hlt : f ≤ g' ∧ g' < f + vs.length
  · rw [if_pos hlt] at this
    refine ⟨c1, by rw [World.frozen?_setCells]; exact c2, _, ?_, (avR_evo hE _).1 _ this⟩
    have := at_set_in (w := w) (b := b) (p := p + f) (vs := vs) (fun j hj => (hc j hj).2.2) (g' - f) (by omega)
    rwa [show p + f + (g' - f) = p + g' by omega] at this
  · rw [if_neg hlt] at this
    refine ⟨c1, by rw [World.frozen?_setCells]; exact c2, u, ?_, ?_⟩
    · rw [at_set_out (by omega)]; exact c3
    · rw [this]; exact (avR_evo hE _).1 _ c4
theorem rd_upd_eq {ts : Ty} {l : List ts.den} {j : Nat} {y : ts.den} (h : j < List.length l) : rd ts (upd l j y) j = y := by simp [rd, upd, List.getD_eq_getElem?_getD, h]
theorem rd_upd_ne {ts : Ty} {l : List ts.den} {i j : Nat} {y : ts.den} (h : i ≠ j) : rd ts (upd l j y) i = rd ts l i := by simp [rd, upd, List.getD_eq_getElem?_getD, List.getElem?_set_ne (Ne.symm h)]
theorem len_upd {α : Type} {l : List α} {j : Nat} {y : α} : (upd l j y).length = l.length := by simp [upd]
/-- two elements' cells lie apart -/
theorem el_apart {i j s m f n : Nat} (h : i ≠ j) (hm : m < s) (hf : f + n ≤ s) : ¬ (j * s + f ≤ i * s + m ∧ i * s + m < j * s + f + n) := by
  rcases Nat.lt_or_gt_of_ne h with hlt | hgt
  · have : (i + 1) * s ≤ j * s := Nat.mul_le_mul_right _ (by omega)
    rw [Nat.add_mul, Nat.one_mul] at this; omega
  · have : (j + 1) * s ≤ i * s := Nat.mul_le_mul_right _ (by omega)
    rw [Nat.add_mul, Nat.one_mul] at this; omega
/-- an element of an own row is written -/
theorem row_write {cv cv' : Nat → (t : Ty) → t.den → Value → Prop} {L : Lab} {ts : Ty} {l : List ts.den} {a0 : Option Addr} {n j f : Nat} {y : ts.den} {vs : List Value} {b p : Nat} (hrow : rowG G w cv L ts l a0 n) (hj : j < List.length l) (hl : f + vs.length ≤ ts.size) (ha : a0 = some ⟨b, p, none⟩)
    (hcv : ∀ k t x v, cv k t x v → cv' k t x v)
    (hy : (∀ m, m < ts.size → at_ (w.setCells b (p + j * ts.size + f) vs) b (p + j * ts.size + m) = if f ≤ m ∧ m < f + vs.length then some (vs.getD (m - f) undef) else at_ w b (p + j * ts.size + m)) → elG (at_ (w.setCells b (p + j * ts.size + f) vs)) cv' ts y b (p + j * ts.size) (j * ts.size)) :
    rowG G (w.setCells b (p + j * ts.size + f) vs) cv' L ts (upd l j y) a0 n := by
  obtain ⟨b', p', ea, hcell, _⟩ := row_elem hrow hj
  rw [ha] at ea; cases ea
  have hc : ∀ m, m < vs.length → (at_ w b (p + j * ts.size + f + m)).isSome = true := by
    intro m hm
    have := (hcell (f + m) (by omega)).2.2
    rwa [show p + j * ts.size + (f + m) = p + j * ts.size + f + m by omega] at this
  obtain ⟨r1, r2⟩ := hrow
  refine ⟨by rw [len_upd]; exact r1, r2.imp id ?_⟩
  rintro ⟨b', p', ea, h1, h2⟩
  rw [ha] at ea; cases ea
  refine ⟨b, p, ha, fun m hm => ?_, fun i hi => ?_⟩
  · obtain ⟨c1, c2, c3⟩ := h1 m hm
    refine ⟨c1, by rw [World.frozen?_setCells]; exact c2, ?_⟩
    by_cases hlt : j * ts.size + f ≤ m ∧ m < j * ts.size + f + vs.length
    · have := at_set_in (w := w) (b := b) (p := p + j * ts.size + f) (vs := vs) hc (m - (j * ts.size + f)) (by omega)
      rw [show p + j * ts.size + f + (m - (j * ts.size + f)) = p + m by omega] at this
      rw [this]; rfl
    · rw [at_set_out (by omega)]; exact c3
  · rw [len_upd] at hi
    by_cases e : i = j
    · subst e
      rw [rd_upd_eq hi]
      refine hy (fun m hm => ?_)
      by_cases hlt : f ≤ m ∧ m < f + vs.length
      · rw [if_pos hlt]
        have := at_set_in (w := w) (b := b) (p := p + i * ts.size + f) (vs := vs) hc (m - f) (by omega)
        rwa [show p + i * ts.size + f + (m - f) = p + i * ts.size + m by omega] at this
      · rw [if_neg hlt, at_set_out (by omega)]
    · rw [rd_upd_ne e]
      refine elG_mono ts _ b _ _ (fun m v hm e' => ?_) hcv (h2 i hi)
      have := el_apart (f := f) (n := vs.length) e hm hl
      rw [at_set_out (by omega)]; exact e'
theorem fr_ex {G G' : Gh} {w w' : World} {ex ex' : Nat → Prop} (h : Fr G w G' w' ex) (hx : ∀ r, ex r → ex' r) : Fr G w G' w' ex' := { h with root := fun r hr => h.root r (fun e => hr (hx r e)) }
theorem op_store {T : Nat} {x v : Operand} (hT : TabOk P tab) (ho : o.op = .store T x v) (hR : Rel G σ a w) (hn : Nxt false G σ w a o.dst K r next) (h : evOp tab soft Γ call k o σ K = some r) : o.wp P a w next Q := by
  simp only [evOp, ho] at h
  split at h
  · rename_i i hi
    have hpos := (hT T i hi).pos
    have hx := hR.eval x
    have hv := hR.eval v
    -- the run
    have run : ∀ (b p : Nat) (vs : List Value), a.eval x = .pointer (some ⟨b, p, none⟩) → (a.eval v).cells = vs.toArray → vs.length = i.cells.size → (∀ x ∈ vs, x.oneCell' = true) → (∀ j, j < vs.length → (at_ w b (p + j)).isSome = true ∧ w.frozen? ⟨b, p + j, none⟩ = false) →
        (execOp a.eval o).run P w = .ok .skip (w.setCells b p vs) := by
      intro b p vs ex hvc hvl hv1 hc
      have hrun := run_storeAt hT hi hvc hvl hv1 (w := w) (b := b) (p := p) (fun j hj => (hc j hj).1) (fun j hj => (hc j hj).2)
      simp [execOp, ho, Instr.storeAt, ex, Instr.sureAddr, hrun]
    have fin : ∀ (R' : List Root) (G' : Gh) (w' : World), (execOp a.eval o).run P w = .ok .skip w' → RelR G' R' w' → Evo G σ.roots w G' R' w' → K (.tup .nil) ⟨σ.tmps, R'⟩ = some r → o.wp P a w next Q := by
      intro R' G' w' hrun h1 h2 hK
      exact wp_of_skip hrun (hn (.tup .nil) R' G' undef w' hK h1 ⟨[], rfl, rfl⟩ h2 (fun e => by cases e))
    generalize hax : σ.eval x = ax at h hx
    cases ax with
    | bp r' f =>
      obtain ⟨hlen, h⟩ := chk_some h
      have hlen := beq_nat hlen
      obtain ⟨q, hq, g⟩ := hx
      simp only [hq] at h
      obtain ⟨kk, ver, anc⟩ := q
      cases kk with
      | box cs ss =>
        obtain ⟨hb, hK⟩ := chk_some h
        obtain ⟨vs, hvc, hvl, hva, hv1⟩ := cellsOf_spec (tm := σ.tmps) hR.roots (by rw [hlen]; exact hpos) hv
        have hvl' : vs.length = i.cells.size := hvl.trans hlen
        obtain ⟨b, p, ea, ex⟩ := g cs.length .nil rfl
        obtain ⟨b', p', ea', hc, h1, h2⟩ := box_write hR.roots hq hva (by rw [hvl']; exact ble_nat hb)
        rw [ea] at ea'; cases ea'
        exact fin _ G _ (run b (p + f) vs ex hvc hvl' hv1 hc) h1 h2 hK
      | _ => cases h
    | ep r' a' j f =>
      obtain ⟨hlen, h⟩ := chk_some h
      have hlen := beq_nat hlen
      obtain ⟨vs, hvc, hvl, hva, hv1⟩ := cellsOf_spec (tm := σ.tmps) hR.roots (by rw [hlen]; exact hpos) hv
      have hvl' : vs.length = i.cells.size := hvl.trans hlen
      obtain ⟨q, hq, hle, g⟩ := hx
      simp only [hq] at h
      obtain ⟨kk, ver, anc⟩ := q
      cases kk with
      | row ow ts l =>
        obtain ⟨hb, h⟩ := chk_some h
        obtain ⟨hb1, hb2⟩ := and2 hb
        have hb1 := beq_nat hb1
        have hb2 := ble_nat hb2
        obtain ⟨hj, b, p, ea, ex⟩ := g hb1.symm ts (List.length l) rfl
        -- the general case
        have gen : (match putEl σ ow ts (rd ts l j) f (cellsOf σ (σ.eval v)) with
            | some y => chk (eatOk ow (rowsIn σ (cellsOf σ (σ.eval v))) && !memN r' (rowsIn σ (cellsOf σ (σ.eval v))))
                (K (.tup .nil) (setRoot (eat ow σ (rowsIn σ (cellsOf σ (σ.eval v)))) r' ⟨.row ow ts (upd l j y), ver + 1, anc⟩))
            | none => none) = some r → o.wp P a w next Q := by
          intro h
          split at h
          · rename_i y hy
            obtain ⟨hok, hK⟩ := chk_some h
            obtain ⟨hok1, hok2⟩ := and2 hok
            have hnm : r' ∉ rowsIn σ (cellsOf σ (σ.eval v)) := fun hm => by rw [mem_memN.2 hm] at hok2; cases hok2
            generalize hcs : cellsOf σ (σ.eval v) = cs at hva hy hK hok1 hnm
            have htr := tgtIn_rows (tm := σ.tmps) (Rs := σ.roots) cs (j * ts.size + f)
            generalize hL : tgtIn σ.roots cs (j * ts.size + f) = L at htr
            have htr : L.map Prod.fst = rowsIn σ cs := htr
            have hnd : ow = true → (L.map Prod.fst).Nodup := by
              intro e
              subst e
              rw [htr]
              exact nodup_nodupN.1 (by simpa [eatOk] using hok1)
            have hT1 : TauOk σ.roots ow r' (tauOf ow r' L) cs (j * ts.size + f) := tauOk hnd cs _ (fun q hq => hL ▸ hq)
            have hτ : ∀ s, s ∉ rowsIn σ cs → ∀ m, tauOf ow r' L s m = .of s m := by
              intro s hs m
              simp [tauOf, lookup_none (htr ▸ hs)]
            obtain ⟨g1, g2⟩ := eat_spec (own := ow) (rs := rowsIn σ cs) (τ := tauOf ow r' L) hR.roots (fun s hs q hq => rowsIn_row (tm := σ.tmps) cs s hs q hq) hτ (fun e s hs m => by
              subst e
              obtain ⟨k', hk'⟩ := lookup_some (htr ▸ hs)
              simp [tauOf, hk'])
            have hq1 : (eat ow σ (rowsIn σ cs)).roots[r']? = some ⟨.row ow ts l, ver, anc⟩ := by rw [eat_get, if_neg hnm]; exact hq
            have hrow : rowG (relab G (tauOf ow r' L)) w (cvOf (relab G (tauOf ow r' L)) w r' ow) (.of r' 0) ts l (G.anch r').1 (G.anch r').2 := g1 r' _ hq1
            obtain ⟨b', p', ea', hcell, hel⟩ := row_elem hrow hj
            rw [ea] at ea'; cases ea'
            have hlab : ∀ m, m < vs.length → (relab G (tauOf ow r' L)).own b (p + j * ts.size + f + m) = .of r' 0 := fun m hm => by
              have := (hcell (f + m) (by omega)).1
              rwa [show p + j * ts.size + (f + m) = p + j * ts.size + f + m by omega] at this
            have hcc : ∀ m, m < vs.length → (at_ w b (p + j * ts.size + f + m)).isSome = true ∧ w.frozen? ⟨b, p + j * ts.size + f + m, none⟩ = false := fun m hm => by
              have := (hcell (f + m) (by omega)).2
              rw [show p + j * ts.size + (f + m) = p + j * ts.size + f + m by omega] at this
              exact ⟨this.2, this.1⟩
            have hlk := lk_set (w := w) hlab
            obtain ⟨h1, h2⟩ := upd_root (G' := relab G (tauOf ow r' L)) (w' := w.setCells b (p + j * ts.size + f) vs) (q' := ⟨.row ow ts (upd l j y), ver + 1, anc⟩) g1 hq1 (fr_set (fun m hm => ⟨0, hlab m hm⟩))
              (RLe.row' (fun _ _ e => by cases e) (fun _ _ e => by cases e) (Nat.lt_succ_self _) (Nat.le_refl _) (fun _ => .inr ⟨by simp [RK.hd, len_upd], rfl⟩)) (fun hE => by
                have hcv : ∀ k t x v, cvOf (relab G (tauOf ow r' L)) w r' ow k t x v → cvOf (relab G (tauOf ow r' L)) (w.setCells b (p + j * ts.size + f) vs) r' ow k t x v :=
                  fun k t x v g => cvOf_keep ow (vw_evo hE) (fun _ => hlk _ (fun e => by cases e)) t x v g
                refine row_write hrow hj (by omega) ea hcv (fun hc => ?_)
                exact elG_mono ts y b _ _ (fun _ _ _ e => e) hcv (putEl_spec (tm := σ.tmps) hR.roots ts (rd ts l j) y f (p + j * ts.size) (j * ts.size) cs vs hy hva hT1 hel hc))
            refine fin _ _ _ (run b (p + j * ts.size + f) vs ex hvc hvl' hv1 hcc) h1 (g2.trans h2) ?_
            have : setRoot (eat ow σ (rowsIn σ cs)) r' ⟨.row ow ts (upd l j y), ver + 1, anc⟩ = ⟨σ.tmps, (eat ow σ (rowsIn σ cs)).roots.set r' ⟨.row ow ts (upd l j y), ver + 1, anc⟩⟩ := by
              simp [setRoot, eat_tmps]
            rw [← this]; exact hK
          · cases h
        generalize hav : σ.eval v = av at h hv gen hva hvc
        cases av with
        | pd r2 v2 i2 f2 us m =>
          obtain ⟨hc, h⟩ := chk_some h
          obtain ⟨hc, c4⟩ := and2 hc
          obtain ⟨hc, c3⟩ := and2 hc
          obtain ⟨c1, c2⟩ := and2 hc
          have c2 := beq_nat c2
          have c3 := beq_nat c3
          have c4 := beq_nat c4
          subst c1; subst c2; subst c3; subst c4
          have h : br (eqN i2 j) (match setInner ts (rd ts l j) f2 us m with
            | some y => K (.tup .nil) (setRoot σ r2 ⟨.row true ts (upd l j y), v2 + 1, anc⟩)
            | none => none) none = some r := h
          rcases br_some h with ⟨hij, h⟩ | ⟨_, h⟩
          · split at h
            · rename_i y hy
              have hK := h
              have hij : i2 = j := of_decide_eq_true hij
              subst hij
              obtain ⟨q, hq', _, gp⟩ := hv
              rw [hq] at hq'; cases hq'
              obtain ⟨_, hf, a1, n1, ev, hinn⟩ := gp rfl true ts l rfl
              have hrow : rowG G w (deepV G w r2) (.of r2 0) ts l (G.anch r2).1 (G.anch r2).2 := hR.roots r2 _ hq
              obtain ⟨b', p', ea', hcell, hel⟩ := row_elem hrow hj
              rw [ea] at ea'; cases ea'
              have hvs : vs = [a.eval v] := by
                have hk : okCell σ (.pd r2 v2 i2 f2 us m) = true := by simp [okCell, hq]
                have he : (cellsOf σ (.pd r2 v2 i2 f2 us m)) = .cons (.pd r2 v2 i2 f2 us m) .nil := by simp [cellsOf, hk]
                have h1 : vs.length = 1 := by rw [hvl, hav, he]; rfl
                rw [ev] at hvc ⊢
                have : vs.toArray = #[Value.slice a1 (List.length m) n1] := hvc.symm
                have := congrArg Array.toList this
                simpa using this
              have hlab : ∀ m', m' < vs.length → G.own b (p + i2 * ts.size + f2 + m') = .of r2 0 := fun m' hm => by
                have := (hcell (f2 + m') (by rw [hvs] at hm; simp at hm; omega)).1
                rwa [show p + i2 * ts.size + (f2 + m') = p + i2 * ts.size + f2 + m' by omega] at this
              have hcc : ∀ m', m' < vs.length → (at_ w b (p + i2 * ts.size + f2 + m')).isSome = true ∧ w.frozen? ⟨b, p + i2 * ts.size + f2 + m', none⟩ = false := fun m' hm => by
                have := (hcell (f2 + m') (by rw [hvs] at hm; simp at hm; omega)).2
                rw [show p + i2 * ts.size + (f2 + m') = p + i2 * ts.size + f2 + m' by omega] at this
                exact ⟨this.2, this.1⟩
              have hlk := lk_set (w := w) hlab
              obtain ⟨h1, h2⟩ := upd_root (G' := G) (w' := w.setCells b (p + i2 * ts.size + f2) vs) (q' := ⟨.row true ts (upd l i2 y), v2 + 1, anc⟩) hR.roots hq (fr_set (fun m hm => ⟨0, hlab m hm⟩))
                (RLe.row' (fun _ _ e => by cases e) (fun _ _ e => by cases e) (Nat.lt_succ_self _) (Nat.le_refl _) (fun _ => .inr ⟨by simp [RK.hd, len_upd], rfl⟩)) (fun hE => by
                  have hcv : ∀ k t x v, deepV G w r2 k t x v → deepV G (w.setCells b (p + i2 * ts.size + f2) vs) r2 k t x v :=
                    fun k t x v g => deepV_keep (vw_evo hE) (hlk _ (fun e => by cases e)) t x v g
                  refine row_write hrow hj (by rw [hvs]; simp; omega) ea hcv (fun hc => ?_)
                  refine setInner_spec (v := a.eval v) ts (rd ts l i2) y f2 _ _ hy hel (fun m' u hm' hne e => ?_) (fun m' _ _ t x v g => hcv _ t x v g) ?_ (hcv _ (.slice us) m _ ⟨a1, n1, ev, hinn⟩)
                  · rw [hc m' hm', if_neg (by rw [hvs]; simp; omega)]; exact e
                  · rw [hc f2 hf, hvs]; simp)
              exact fin _ _ _ (run b (p + i2 * ts.size + f2) vs ex hvc hvl' hv1 hcc) h1 h2 hK
            · cases h
          · cases h
        | _ => exact gen h
      | _ => cases h
    | ip r' s' j f m g =>
      obtain ⟨hlen, h⟩ := chk_some h
      have hlen := beq_nat hlen
      obtain ⟨vs, hvc, hvl, hva, hv1⟩ := cellsOf_spec (tm := σ.tmps) hR.roots (by rw [hlen]; exact hpos) hv
      have hvl' : vs.length = i.cells.size := hvl.trans hlen
      obtain ⟨q, hq, hle, gg⟩ := hx
      simp only [hq] at h
      obtain ⟨kk, ver, anc⟩ := q
      cases kk with
      | row ow ts l =>
        cases ow with
        | false => cases h
        | true =>
          have h : (match innerOf ts (rd ts l j) f with
            | some ⟨us, n⟩ => chk (Nat.beq s' ver && Nat.ble (g + i.cells.size) us.size && !us.hasSl) (match putEl σ false us (rd us n m) g (cellsOf σ (σ.eval v)) with
              | some y => match setInner ts (rd ts l j) f us (upd n m y) with
                | some z => K (.tup .nil) (setRoot σ r' ⟨.row true ts (upd l j z), ver + 1, anc⟩)
                | none => none
              | none => none)
            | none => none) = some r := h
          cases hin : innerOf ts (rd ts l j) f with
          | none => simp only [hin] at h; cases h
          | some pr =>
            obtain ⟨us, n⟩ := pr
            simp only [hin] at h
            obtain ⟨hb, h⟩ := chk_some h
            obtain ⟨hb, hb3⟩ := and2 hb
            obtain ⟨hb1, hb2⟩ := and2 hb
            have hb1 := beq_nat hb1
            have hb2 := ble_nat hb2
            have hb3 : us.hasSl = false := by simpa using hb3
            subst hb1
            obtain ⟨i1, i2, us', m', i3, i4, b, p, b', p', n', c', i5, i6, i7, ex⟩ := gg rfl true ts l rfl
            rw [hin] at i3; cases i3
            have hil : (avR G σ.roots w (.il r' s' j f)).1 (.slice (some ⟨b', p', none⟩) n' c') := ⟨_, hq, Nat.le_refl _, fun he ow' ts' l' hk => by
              cases hk; exact ⟨i1, i2, b, p, i5, i6, i7⟩⟩
            obtain ⟨_, _, a1, n1, e1, e2⟩ := il_spec hR.roots hq rfl hin hil
            have hnn : n' = List.length n := by cases e1; rfl
            cases e1
            split at h
            · rename_i y hy
              split at h
              · rename_i z hz
                obtain ⟨b2, p2, ea, hcell, hel⟩ := row_elem e2 i4
                cases ea
                have hrow : rowG G w (deepV G w r') (.of r' 0) ts l (G.anch r').1 (G.anch r').2 := hR.roots r' _ hq
                obtain ⟨b3, p3, ea3, hcell3, hel3⟩ := row_elem hrow i1
                rw [i5] at ea3; cases ea3
                have hlab : ∀ m', m' < vs.length → G.own b' (p' + m * us.size + g + m') = .of r' (j * ts.size + f + 1) := fun m' hm => by
                  have := (hcell (g + m') (by omega)).1
                  rwa [show p' + m * us.size + (g + m') = p' + m * us.size + g + m' by omega] at this
                have hcc : ∀ m', m' < vs.length → (at_ w b' (p' + m * us.size + g + m')).isSome = true ∧ w.frozen? ⟨b', p' + m * us.size + g + m', none⟩ = false := fun m' hm => by
                  have := (hcell (g + m') (by omega)).2
                  rw [show p' + m * us.size + (g + m') = p' + m * us.size + g + m' by omega] at this
                  exact ⟨this.2, this.1⟩
                have hlk := lk_set (w := w) hlab
                have hu : ∀ b o v, vw G w b o = some v → vw G (w.setCells b' (p' + m * us.size + g) vs) b o = some v := vw_free (hlk _ (fun e => by cases e))
                have hin' : rowG G (w.setCells b' (p' + m * us.size + g) vs) (flatV (vw G (w.setCells b' (p' + m * us.size + g) vs))) (.of r' (j * ts.size + f + 1)) us (upd n m y) (some ⟨b', p', none⟩) c' := by
                  refine row_write e2 i4 (by omega) rfl (fun k t x v g => flatV_keep hu k k t x v g) (fun hc => ?_)
                  have hT0 : TauOk σ.roots false r' (fun r s => Lab.of r s) (cellsOf σ (σ.eval v)) (m * us.size + g) → elG (at_ (w.setCells b' (p' + m * us.size + g) vs)) (flatV (vw G (w.setCells b' (p' + m * us.size + g) vs))) us y b' (p' + m * us.size) (m * us.size) := by
                    intro hT0
                    have hG : relab G (fun r s => Lab.of r s) = G := by
                      have : (relab G (fun r s => Lab.of r s)).own = G.own := by
                        funext b o
                        simp only [relab]
                        cases G.own b o <;> rfl
                      cases G; simp only [relab] at this ⊢; rw [this]
                    have := putEl_spec (tm := σ.tmps) (own := false) (r0 := r') (τ := fun r s => Lab.of r s) hR.roots us (rd us n m) y g (p' + m * us.size) (m * us.size) _ vs hy hva hT0 (by rw [hG]; exact hel) hc
                    rw [hG] at this
                    exact elG_mono us y b' _ _ (fun _ _ _ e => e) (fun k t x v gg => flatV_keep hu k k t x v gg) this
                  refine hT0 ?_
                  -- no slices in these cells
                  have key : ∀ (ts : Ty) (x : ts.den) (g : Nat) (cs : AV) (y : ts.den), ts.hasSl = false → putEl σ false ts x g cs = some y → ∀ k, TauOk σ.roots false r' (fun r s => Lab.of r s) cs k := by
                    intro ts
                    induction ts with
                    | cons t ts _ ih =>
                      intro x g cs y hs hp k
                      simp only [Ty.hasSl, Bool.or_eq_false_iff] at hs
                      cases g with
                      | succ g =>
                        simp only [putEl] at hp
                        split at hp
                        · rename_i z hz; exact ih _ _ _ _ hs.2 hz k
                        · cases hp
                      | zero =>
                        cases cs with
                        | cons c cs =>
                          simp only [putEl] at hp
                          split at hp
                          · rename_i z0 z hz0 hz
                            refine ⟨fun r1 hr1 => ?_, ih _ _ _ _ hs.2 hz (k + 1)⟩
                            exfalso
                            have no : ∀ (us : Ty) (l : List us.den), (Ty.slice us).cast t l = some z0 → False := fun us l hc => by
                              obtain ⟨e, _⟩ := cast_sl hc; subst e; cases hs.1
                            have hz1 := rowOf_cell hr1 hz0
                            obtain ⟨us, l, hc⟩ := hz1
                            exact no us l hc
                          · cases hp
                        | nil => exact trivial
                        | _ => cases hp
                    | nil =>
                      intro x g cs y hs hp k
                      cases cs with
                      | nil => exact trivial
                      | _ => cases g <;> cases hp
                    | _ =>
                      intro x g cs y hs hp k
                      cases cs with
                      | nil => exact trivial
                      | _ => cases g <;> cases hp
                  exact key us _ _ _ _ hb3 hy _
                obtain ⟨h1, h2⟩ := upd_root (G' := G) (w' := w.setCells b' (p' + m * us.size + g) vs) (q' := ⟨.row true ts (upd l j z), s' + 1, anc⟩) hR.roots hq (fr_set (fun m hm => ⟨_, hlab m hm⟩))
                  (RLe.row' (fun _ _ e => by cases e) (fun _ _ e => by cases e) (Nat.lt_succ_self _) (Nat.le_refl _) (fun _ => .inr ⟨by simp [RK.hd, len_upd], rfl⟩)) (fun hE => by
                    -- the row's own cells stand as they stood
                    have hrow' : rowG G (w.setCells b' (p' + m * us.size + g) vs) (deepV G w r') (.of r' 0) ts l (G.anch r').1 (G.anch r').2 := rowG_keep (fun _ _ _ _ g => g) (hlk _ (fun e => by cases e)) hrow
                    obtain ⟨q1, q2⟩ := hrow'
                    refine ⟨by rw [len_upd]; exact q1, q2.imp id ?_⟩
                    rintro ⟨b4, p4, ea4, d1, d2⟩
                    rw [i5] at ea4; cases ea4
                    refine ⟨b, p, i5, d1, fun i' hi' => ?_⟩
                    rw [len_upd] at hi'
                    -- rows in cells other than the written one
                    have hkeep : ∀ k, k ≠ j * ts.size + f → ∀ t x v, deepV G w r' k t x v → deepV G (w.setCells b' (p' + m * us.size + g) vs) r' k t x v := fun k hk t x v g => deepV_keep hu (hlk _ (fun e => by cases e; omega)) t x v g
                    by_cases e : i' = j
                    · subst e
                      rw [rd_upd_eq hi']
                      have hdd := d2 i' hi'
                      have hcell' : at_ (w.setCells b' (p' + m * us.size + g) vs) b (p + i' * ts.size + f) = some (.slice (some ⟨b', p', none⟩) (List.length n) c') := by
                        rw [((hlk (.of r' 0) (fun e => by cases e)) _ _ (lt_of_at i7) i6).2.1]; exact i7
                      have hn' : List.length n = List.length (upd n m y) := by rw [len_upd]
                      exact setInner_spec ts _ z f _ _ hz hdd (fun _ _ _ _ e => e) (fun j hj hne t x v g => hkeep _ (by omega) t x v g) hcell' ⟨_, c', by rw [hn'], hin'⟩
                    · rw [rd_upd_ne e]
                      refine elG_move ts _ b _ _ b _ _ (fun _ _ _ e => e) (fun k hk t x v g => hkeep _ (fun e' => ?_) t x v g) (d2 i' hi')
                      have := el_apart (f := f) (n := 1) e hk (by omega)
                      omega)
                exact fin _ _ _ (run b' (p' + m * us.size + g) vs ex hvc hvl' hv1 hcc) h1 h2 h
              · cases h
            · cases h
      | _ => cases h
    | _ => cases h
  · cases h
end
end
end Go.Proofs.YtpihkhknehadbaaGreat.Eng
